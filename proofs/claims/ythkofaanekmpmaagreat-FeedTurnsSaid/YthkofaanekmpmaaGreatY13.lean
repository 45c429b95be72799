/- Texts of ours, one behind the other: a walk that the kernel reckons, and contracts of functions. No condition. -/
import Derived.Test.YthkofaanekmpmaaGreatY12
open Sx.AObj renaming cells→aa,fro→ab,own→ac
open List renaming map→ae,replicate→af,length→ag
open Go.IntKind renaming i64→aj
open Go.Value renaming string→ak
open Bool renaming true→am,false→ao
namespace Sx
set_option linter.unusedVariables false
set_option maxRecDepth 100000
open Go Cv Go.Proofs
def zFp (a:LkI) (b:VsI):Prop:=zF a.s=zF a.s∧aa [V.d (D.v (ak (sb b.p.code))),V.own 0,V.d (dI b.p.tick),V.d (dI b.p.low),V.d (dI b.p.high),V.d (dI b.p.wide),V.d (dI b.p.rule),V.d (dI b.p.top),V.d (dI b.p.least),V.d (dI b.p.part),V.own ((0:Nat)+(1:Nat))] 25=aa [V.d (D.v (ak (sb b.p.code))),V.own 0,V.d (dI b.p.tick),V.d (dI b.p.low),V.d (dI b.p.high),V.d (dI b.p.wide),V.d (dI b.p.rule),V.d (dI b.p.top),V.d (dI b.p.least),V.d (dI b.p.part),V.own ((0:Nat)+(1:Nat))] 25∧ab 1 (iE b.p.settle)=ab 1 (iE b.p.settle)∧ab 1 (iE b.p.months)=ab 1 (iE b.p.months)
def zHh (a:Bool→Prop) (b:Bool) (c:VsJ) (d:LkI) (e:VsI):Prop:=a b∧fS c.m=fS c.m∧ac tE 1 (ae vwE c.V)=ac tE 1 (ae vwE c.V)∧zFp d e
def zBk (a:VsI):Prop:=sb a.p.code=sb a.p.code∧True∧a.p.tick=a.p.tick∧a.p.low=a.p.low∧a.p.high=a.p.high∧a.p.wide=a.p.wide∧a.p.rule=a.p.rule∧a.p.top=a.p.top∧a.p.least=a.p.least∧a.p.part=a.p.part∧True∧True
def yGi (i:VsI):Prop:=
 ∃(a:Prd),sb a.code=sb i.p.code∧iE a.months=iE i.p.months∧a.tick=i.p.tick∧a.low=i.p.low∧a.high=i.p.high∧a.wide=i.p.wide∧a.rule=i.p.rule∧a.top=i.p.top∧a.least=i.p.least∧a.part=i.p.part∧iE a.settle=iE i.p.settle∧(zY a)∧(∀(b:Unit),a.check=0→∃(c:Mkt),fS c=fS (Mkt.mk a (mF a) [])∧(jB c)∧∀(d:Unit),True→(zBk i)∧∃(e:LkI),sb e.p.code=sb i.p.code∧iE e.p.months=iE i.p.months∧e.p.tick=i.p.tick∧e.p.low=i.p.low∧e.p.high=i.p.high∧e.p.wide=i.p.wide∧e.p.rule=i.p.rule∧e.p.top=i.p.top∧e.p.least=i.p.least∧e.p.part=i.p.part∧iE e.p.settle=iE i.p.settle∧zF e.s=zF c.s∧(e.s.Rep e.p e.B∧BOk e.p e.B)∧∀(f:Unit),True→∃(g:VsJ),(↑g.k:Int)=0∧fS g.m=fS c∧ae vwE g.V=[[D.ro 10 (ae zB (qT e.p e.B))]]∧∃(h:VsJ→Prop),∃(j:VsJ→Nat),h g∧∀(k:VsJ),h k→∃(l:Bool),∃(m:Bool→Prop),cnd (decide ((↑k.k:Int)<(↑(ae cmdE i.l).length:Int))) (∃(n:Bool),n=decide ((↑k.k:Int)<30)∧zHh m n k e i) (∃(n:Bool),n=ao∧zHh m n k e i)∧∀(n:Bool),m n→cnd n ((0≤(↑k.k:Int)∧(↑k.k:Int)<(↑(ae cmdE i.l).length:Int))∧∃(p:Int),∃(q:Int),∃(r:Int),∃(s:Int),∃(t:Int),∃(u:Int),∃(v:Int),∃(w:Int),∃(x:ByteArray),zE (ae cmdE i.l) (↑k.k:Int).toNat 0 9=some [dI p,dI q,dI r,dI s,dI t,dI u,dI v,dI w,D.v (ak x)]∧∃(y:TmI),sb y.p.code=sb i.p.code∧iE y.p.months=iE i.p.months∧y.p.tick=i.p.tick∧y.p.low=i.p.low∧y.p.high=i.p.high∧y.p.wide=i.p.wide∧y.p.rule=i.p.rule∧y.p.top=i.p.top∧y.p.least=i.p.least∧y.p.part=i.p.part∧iE y.p.settle=iE i.p.settle∧y.c.kind=p∧y.c.id=q∧y.c.inst=r∧y.c.side=s∧y.c.price=t∧y.c.qty=u∧y.c.least=v∧y.c.time=w∧sb y.c.label=x∧y.i=(↑k.k:Int)∧(y.p.check=0∧(y.p.code.length≤1099511627776∧y.p.months.length≤1099511627776∧y.p.settle.length≤1099511627776)∧(((-9223372036854775808)≤y.c.kind∧y.c.kind≤9223372036854775807)∧((-9223372036854775808)≤y.c.id∧y.c.id≤9223372036854775807)∧((-9223372036854775808)≤y.c.inst∧y.c.inst≤9223372036854775807)∧((-9223372036854775808)≤y.c.side∧y.c.side≤9223372036854775807)∧((-9223372036854775808)≤y.c.price∧y.c.price≤9223372036854775807)∧((-9223372036854775808)≤y.c.qty∧y.c.qty≤9223372036854775807)∧((-9223372036854775808)≤y.c.least∧y.c.least≤9223372036854775807)∧(-9223372036854775808)≤y.c.time∧y.c.time≤9223372036854775807)∧0≤y.i∧y.i≤1000000)∧∀(z:Unit),True→∃(a_1:EnI),a_1.c.kind=(qP y).kind∧a_1.c.id=(qP y).id∧a_1.c.inst=(qP y).inst∧a_1.c.side=(qP y).side∧a_1.c.price=(qP y).price∧a_1.c.qty=(qP y).qty∧a_1.c.least=(qP y).least∧a_1.c.time=(qP y).time∧sb a_1.c.label=sb (qP y).label∧fS a_1.m=fS k.m∧(cY a_1)∧∀(a_2:Mkt),a_2.Rep a_1.p a_1.X.B a_1.X.U→∃(a_3:Mkt),fS a_3=fS a_2∧(jB a_3)∧∀(a_4:Unit),True→(zBk i)∧∃(a_5:LkI),sb a_5.p.code=sb i.p.code∧iE a_5.p.months=iE i.p.months∧a_5.p.tick=i.p.tick∧a_5.p.low=i.p.low∧a_5.p.high=i.p.high∧a_5.p.wide=i.p.wide∧a_5.p.rule=i.p.rule∧a_5.p.top=i.p.top∧a_5.p.least=i.p.least∧a_5.p.part=i.p.part∧iE a_5.p.settle=iE i.p.settle∧zF a_5.s=zF a_3.s∧(a_5.s.Rep a_5.p a_5.B∧BOk a_5.p a_5.B)∧∀(a_6:Unit),True→((ae vwE k.V).length+1)*(24:Nat)≤(140737488355328:Nat)∧∃(a_7:VsJ),(↑a_7.k:Int)=aj.wrap ((↑k.k:Int)+1)∧fS a_7.m=fS a_3∧ae vwE a_7.V=ae vwE k.V++[[D.ro 10 (ae zB (qT a_5.p a_5.B))]]∧h a_7∧j a_7<j k∧zFp e i) (∃(p:List Vw),ae vwE p=ae vwE k.V∧p≠[]∧p.length≤31∧∀(q:Vw),q∈p→VwG i.p q))∧∀(b:Unit),a.check≠0→∃(c:List Vw),ae vwE c=[]∧c≠[]∧c.length≤31∧∀(d:Vw),d∈c→VwG i.p d
def zSx:=((0:Nat)+(1:Nat)+(1:Nat)+(1:Nat)+((0:Nat)-(0:Nat))+(1:Nat)+(1:Nat)+1+((1:Nat)-(0:Nat))+((0:Nat)-(0:Nat))+(1:Nat)+(1:Nat)+((0:Nat)-(0:Nat))+(1:Nat)+(1:Nat)+((1:Nat)-(0:Nat))+((0:Nat)-(0:Nat))+(1:Nat)+(1:Nat)+0+((0:Nat)-(0:Nat))+((0:Nat)-(0:Nat))+1+((0:Nat)-(0:Nat))+1)
def z1m (a:DvI) (b:List (List D)) (c:List (List D)) (d:List Vw) (e:Prd) (f:FtI):Prop:=ac zWj 7 (kB a)=ac zWj 7 (kB a)∧ab 10 b=ab 10 b∧aa [V.own ((0:Nat)+(1:Nat)+(1:Nat)+(1:Nat)+((0:Nat)-(0:Nat))+(1:Nat)+(1:Nat)+1+((1:Nat)-(0:Nat))+((0:Nat)-(0:Nat))+(1:Nat)+(1:Nat)+((0:Nat)-(0:Nat))+1)] 34=aa [V.own ((0:Nat)+(1:Nat)+(1:Nat)+(1:Nat)+((0:Nat)-(0:Nat))+(1:Nat)+(1:Nat)+1+((1:Nat)-(0:Nat))+((0:Nat)-(0:Nat))+(1:Nat)+(1:Nat)+((0:Nat)-(0:Nat))+1)] 34∧ab 10 c=ab 10 c∧aa [V.own ((0:Nat)+(1:Nat)+(1:Nat)+(1:Nat)+((0:Nat)-(0:Nat))+(1:Nat)+(1:Nat)+1+((1:Nat)-(0:Nat))+((0:Nat)-(0:Nat))+1)] 34=aa [V.own ((0:Nat)+(1:Nat)+(1:Nat)+(1:Nat)+((0:Nat)-(0:Nat))+(1:Nat)+(1:Nat)+1+((1:Nat)-(0:Nat))+((0:Nat)-(0:Nat))+1)] 34∧ac tE 1 (ae vwE d)=ac tE 1 (ae vwE d)∧ab 1 (iE (qF (yE e) (kN e).toNat))=ab 1 (iE (qF (yE e) (kN e).toNat))∧ab 1 (iE (qX (kN e).toNat))=ab 1 (iE (qX (kN e).toNat))∧aa [V.d (D.v (ak (sb [(206:UInt8),(169:UInt8)]))),V.own ((0:Nat)+(1:Nat)+(1:Nat)+(1:Nat)+((0:Nat)-(0:Nat))+1),V.d (dI (yE e)),V.d (dI ((-20)*yE e)),V.d (dI (100*yE e)),V.d (dI (yE e*(jN e))),V.d (dI (1+zI e.rule 0 2)),V.d (dI (zI e.top 0 9)),V.d (dI (1+zI e.least 0 4)),V.d (dI (zI e.part 0 100)),V.own ((0:Nat)+(1:Nat)+(1:Nat)+(1:Nat)+((0:Nat)-(0:Nat))+(1:Nat)+(1:Nat))] 25=aa [V.d (D.v (ak (sb [(206:UInt8),(169:UInt8)]))),V.own ((0:Nat)+(1:Nat)+(1:Nat)+(1:Nat)+((0:Nat)-(0:Nat))+1),V.d (dI (yE e)),V.d (dI ((-20)*yE e)),V.d (dI (100*yE e)),V.d (dI (yE e*(jN e))),V.d (dI (1+zI e.rule 0 2)),V.d (dI (zI e.top 0 9)),V.d (dI (1+zI e.least 0 4)),V.d (dI (zI e.part 0 100)),V.own ((0:Nat)+(1:Nat)+(1:Nat)+(1:Nat)+((0:Nat)-(0:Nat))+(1:Nat)+(1:Nat))] 25∧aa [V.d (D.v (ak (sb f.x.code))),V.own 0,V.d (dI f.x.tick),V.d (dI f.x.low),V.d (dI f.x.high),V.d (dI f.x.wide),V.d (dI f.x.rule),V.d (dI f.x.top),V.d (dI f.x.least),V.d (dI f.x.part),V.own ((0:Nat)+(1:Nat))] 25=aa [V.d (D.v (ak (sb f.x.code))),V.own 0,V.d (dI f.x.tick),V.d (dI f.x.low),V.d (dI f.x.high),V.d (dI f.x.wide),V.d (dI f.x.rule),V.d (dI f.x.top),V.d (dI f.x.least),V.d (dI f.x.part),V.own ((0:Nat)+(1:Nat))] 25∧ab 1 (iE f.x.settle)=ab 1 (iE f.x.settle)∧ab 1 (iE f.x.months)=ab 1 (iE f.x.months)
def zTt:=((0:Nat)+(1:Nat)+(1:Nat)+(1:Nat)+((0:Nat)-(0:Nat))+(1:Nat)+(1:Nat)+1+((1:Nat)-(0:Nat))+((0:Nat)-(0:Nat))+(1:Nat)+(1:Nat)+((0:Nat)-(0:Nat))+(1:Nat)+(1:Nat)+((1:Nat)-(0:Nat))+((0:Nat)-(0:Nat))+1)
def yGr (a:VkJ) (b:VkJ) (c:DvI) (d:List (List D)) (e:List (List D)) (f:List Vw) (g:Prd) (h:FtI):Prop:=aa (vI (fJ zTt [((0:Nat),(0:Nat)+(1:Nat)+(1:Nat)+(1:Nat)+((0:Nat)-(0:Nat))+(1:Nat)+(1:Nat)+1+((1:Nat)-(0:Nat))+((0:Nat)-(0:Nat))+(1:Nat)+(1:Nat)+((0:Nat)-(0:Nat))+(1:Nat)+(1:Nat)+((1:Nat)-(0:Nat))+((0:Nat)-(0:Nat)))] 0 [aa [roV 10 (ae zB a.v)] tE]) [roV 10 (ae zB b.v)]) tE=aa (vI (fJ zTt [((0:Nat),(0:Nat)+(1:Nat)+(1:Nat)+(1:Nat)+((0:Nat)-(0:Nat))+(1:Nat)+(1:Nat)+1+((1:Nat)-(0:Nat))+((0:Nat)-(0:Nat))+(1:Nat)+(1:Nat)+((0:Nat)-(0:Nat))+(1:Nat)+(1:Nat)+((1:Nat)-(0:Nat))+((0:Nat)-(0:Nat)))] 0 [aa [roV 10 (ae zB a.v)] tE]) [roV 10 (ae zB b.v)]) tE∧z1m c d e f g h
def yDu (a:Bool→Prop) (b:Bool) (c:ApI) (d:List UInt8) (e:VkJ) (f:VkJ) (g:DvI) (h:List (List D)) (j:List (List D)) (k:List Vw) (l:Prd) (m:FtI):Prop:=a b∧ab 10 (ae zB (apV c.v c.m))=ab 10 (ae zB (apV c.v c.m))∧aa [V.own zSx] 34=aa [V.own zSx] 34∧aa [V.d (dI ((qQ d).fst.seq)),V.d (dI ((qQ d).fst.inst)),V.d (dI ((qQ d).fst.side)),V.d (dI ((qQ d).fst.price)),V.d (dI ((qQ d).fst.qty)),V.d (dI ((qQ d).fst.count)),V.d (D.v (.bool (qQ d).fst.implied))] 28=aa [V.d (dI ((qQ d).fst.seq)),V.d (dI ((qQ d).fst.inst)),V.d (dI ((qQ d).fst.side)),V.d (dI ((qQ d).fst.price)),V.d (dI ((qQ d).fst.qty)),V.d (dI ((qQ d).fst.count)),V.d (D.v (.bool (qQ d).fst.implied))] 28∧yGr e f g h j k l m
def yFl (a:Bool) (b:Bool→Prop) (c:ApI) (d:List UInt8) (e:VkJ) (f:VkJ) (g:DvI) (h:List (List D)) (j:List (List D)) (k:List Vw) (l:Prd) (m:FtI):Prop:=a=am∧yDu b a c d e f g h j k l m
def yDh (a:Int→Prop) (b:Int) (c:VkJ) (d:VkJ) (e:DvI) (f:List (List D)) (g:List (List D)) (h:List Vw) (j:Prd) (k:FtI):Prop:=a b∧yGr c d e f g h j k
def zJg (a:Int) (b:DvI):Prop:=0≤a∧a<(qY b)
def lA (a:List Vw):=(↑(ae vwE a).length:Int)
def Vft (i:FtI):Prop:=
 ∃(a:Prd),sb a.code=sb i.x.code∧iE a.months=iE i.x.months∧a.tick=i.x.tick∧a.low=i.x.low∧a.high=i.x.high∧a.wide=i.x.wide∧a.rule=i.x.rule∧a.top=i.x.top∧a.least=i.x.least∧a.part=i.x.part∧iE a.settle=iE i.x.settle∧(((-9223372036854775808)≤a.tick∧a.tick≤9223372036854775807)∧((-9223372036854775808)≤a.wide∧a.wide≤9223372036854775807)∧((-9223372036854775808)≤a.rule∧a.rule≤9223372036854775807)∧((-9223372036854775808)≤a.top∧a.top≤9223372036854775807)∧((-9223372036854775808)≤a.least∧a.least≤9223372036854775807)∧((-9223372036854775808)≤a.part∧a.part≤9223372036854775807)∧a.months.length≤9223372036854775807)∧∀(b:Unit),True→∃(c:VsI),sb c.p.code=sb [(206:UInt8),(169:UInt8)]∧iE c.p.months=iE (qX (kN a).toNat)∧c.p.tick=yE a∧c.p.low=(-20)*yE a∧c.p.high=100*yE a∧c.p.wide=yE a*(jN a)∧c.p.rule=1+zI a.rule 0 2∧c.p.top=zI a.top 0 9∧c.p.least=1+zI a.least 0 4∧c.p.part=zI a.part 0 100∧iE c.p.settle=iE (qF (yE a) (kN a).toNat)∧ae cmdE c.l=ae cmdE i.l∧(c.p.check=0∧(c.p.code.length≤1099511627776∧c.p.months.length≤1099511627776∧c.p.settle.length≤1099511627776)∧(∀(d:Cmd),d∈c.l→((-9223372036854775808)≤d.kind∧d.kind≤9223372036854775807)∧((-9223372036854775808)≤d.id∧d.id≤9223372036854775807)∧((-9223372036854775808)≤d.inst∧d.inst≤9223372036854775807)∧((-9223372036854775808)≤d.side∧d.side≤9223372036854775807)∧((-9223372036854775808)≤d.price∧d.price≤9223372036854775807)∧((-9223372036854775808)≤d.qty∧d.qty≤9223372036854775807)∧((-9223372036854775808)≤d.least∧d.least≤9223372036854775807)∧(-9223372036854775808)≤d.time∧d.time≤9223372036854775807)∧c.l.length≤9223372036854775807)∧∀(d:List Vw),(d≠[]∧d.length≤31∧∀(e:Vw),e∈d→VwG c.p e)→cnd ((lA d)==0) (∃(e:Unit),am=ao∧True) (∃(e:WiI),e.n=i.a∧e.lo=0∧e.hi=aj.wrap ((lA d)-1)∧(yU e)∧∀(f:Unit),True→(0≤zI e.n e.lo e.hi∧zI e.n e.lo e.hi<(lA d))∧∃(g:List (List D)),zE (ae vwE d) (zI e.n e.lo e.hi).toNat 0 1=some [D.ro 10 g]∧∃(h:WiI),h.n=i.b∧h.lo=0∧h.hi=aj.wrap ((lA d)-1)∧(yU h)∧∀(j:Unit),True→(0≤zI h.n h.lo h.hi∧zI h.n h.lo h.hi<(lA d))∧∃(k:List (List D)),zE (ae vwE d) (zI h.n h.lo h.hi).toNat 0 1=some [D.ro 10 k]∧aj=aj∧(1099511627776:Int)≠(0:Int)∧∃(l:DvI),ae zB l.v=g∧ae zB l.w=k∧l.seq=i.seq.tmod 1099511627776∧(fD l)∧∀(m:Unit),True→∃(n:zMe),ae zB n.v=g∧ae zB n.w=k∧(hU n)∧∀(p:Unit),True→cnd (!lW n.v n.w==((qY l)==0)) (∃(q:Unit),am=ao∧True) (∃(q:VkJ),(↑q.k:Int)=0∧ae zB q.v=g∧∃(r:VkJ→Prop),∃(s:VkJ→Nat),r q∧∀(t:VkJ),r t→cnd (decide ((↑t.k:Int)<(qY l))) (∃(u:Int),∃(v:Int→Prop),cnd i.back (∃(w:Int),w=aj.wrap (aj.wrap ((qY l)-1)-(↑t.k:Int))∧yDh v w q t l k g d a i) (∃(w:Int),w=(↑t.k:Int)∧yDh v w q t l k g d a i)∧∀(w:Int),v w→(zJg w l)∧∃(x:Int),zE (kB l) w.toNat ((0:Nat)+(0:Nat)) 1=some [dI x]∧cnd (x !=aj.wrap (aj.wrap (i.seq.tmod 1099511627776+w)+1)) (∃(y:Unit),am=ao∧True) ((zJg w l)∧∃(y:Int),∃(z:Int),∃(a_1:Int),∃(a_2:Int),∃(a_3:Int),∃(a_4:Int),∃(a_5:Bool),zE (kB l) w.toNat 0 7=some [dI y,dI z,dI a_1,dI a_2,dI a_3,dI a_4,D.v (.bool a_5)]∧∃(a_6:MsgM),a_6.seq=y∧a_6.inst=z∧a_6.side=a_1∧a_6.price=a_2∧a_6.qty=a_3∧a_6.count=a_4∧a_6.implied=a_5∧True∧∀(a_7:Unit),True→∃(a_8:List UInt8),bE a_8=bE a_6.enc∧a_8.length≤1099511627776∧∀(a_9:Unit),True→∃(a_10:ApI),ae zB a_10.v=ae zB t.v∧a_10.m.seq=(qQ a_8).fst.seq∧a_10.m.inst=(qQ a_8).fst.inst∧a_10.m.side=(qQ a_8).fst.side∧a_10.m.price=(qQ a_8).fst.price∧a_10.m.qty=(qQ a_8).fst.qty∧a_10.m.count=(qQ a_8).fst.count∧a_10.m.implied=(qQ a_8).fst.implied∧(MsgM.fine (↑(ag a_10.v):Int) a_10.m=0∧ag a_10.v≤1000000∧ag a_10.v≤1099511627776∧∀(a_11:Sd×Sd),a_11∈a_10.v→wN a_11)∧∀(a_11:Unit),True→∃(a_12:Bool),∃(a_13:Bool→Prop),cnd (a_6.form !=0) (∃(a_14:Bool),yFl a_14 a_13 a_10 a_8 q t l k g d a i) (cnd ((qQ a_8).snd !=0) (∃(a_14:Bool),yFl a_14 a_13 a_10 a_8 q t l k g d a i) ((zJg w l)∧∃(a_14:Int),∃(a_15:Int),∃(a_16:Int),∃(a_17:Int),∃(a_18:Int),∃(a_19:Int),∃(a_20:Bool),zE (kB l) w.toNat 0 7=some [dI a_14,dI a_15,dI a_16,dI a_17,dI a_18,dI a_19,D.v (.bool a_20)]∧∃(a_21:Bool),a_21=!((qQ a_8).fst.seq==a_14 && ((qQ a_8).fst.inst==a_15 && ((qQ a_8).fst.side==a_16 && ((qQ a_8).fst.price==a_17 && ((qQ a_8).fst.qty==a_18 && ((qQ a_8).fst.count==a_19 && ((qQ a_8).fst.implied==a_20 && am)))))))∧yDu a_13 a_21 a_10 a_8 q t l k g d a i))∧∀(a_14:Bool),a_13 a_14→cnd a_14 (∃(a_15:Unit),am=ao∧True) (∃(a_15:VkJ),(↑a_15.k:Int)=aj.wrap ((↑t.k:Int)+1)∧ae zB a_15.v=ae zB (apV a_10.v a_10.m)∧r a_15∧s a_15<s t∧z1m l k g d a i))) (∃(u:zMe),ae zB u.v=ae zB t.v∧ae zB u.w=k∧(hU u)∧∀(v:Unit),True→cnd (lW u.v u.w) (∃(w:Unit),True∧∀(x:Unit),True→∃(y:Unit),am=am∧True) (∃(w:Unit),am=ao∧True))))
theorem eqft (i:FtI):Vft i=walk Tryz.prog ([(12,kprodC),(13,viewsC),(14,withinC),(18,diffC),(19,fsameC),(25,mencC),(26,mdecC),(15,applyC),(17,known19C)]) 0 (ftJ) (ftA) [] Tryz.f6 (Tryz.f6.body.getD .skip) (ftC.pat i) (ftC.pre i) (ftC.alts i):=by kernel_rfl
set_option linter.unusedSimpArgs false
open Go Cv Go.Proofs
theorem yIs {n lo hi:Int} (h:lo≤hi):lo≤zI n lo hi∧zI n lo hi≤hi:=by
 have h1:=y6d n (show hi-lo+1≠0 by omega)
 have h2:=y6e n (show 0<hi-lo+1 by omega)
 rw[zI]
 constructor<;>omega
theorem yOi {V:List Vw} {k:Nat} {v:Vw} (h:V[k]? =some v):zE (V.map vwE) k 0 1=some [D.ro 10 (v.map zB)]:=by
 rw[zE,y0z,h];rfl
theorem yGo {els:List (List D)} {k:Nat} {m:MsgM} (h:els[k]? =some (qJ m)):zE els k 0 7=some [D.v (.int .i64 m.seq),D.v (.int .i64 m.inst),D.v (.int .i64 m.side),D.v (.int .i64 m.price),D.v (.int .i64 m.qty),D.v (.int .i64 m.count),D.v (.bool m.implied)]:=by
 rw[zE,h];rfl
theorem yLp {els:List (List D)} {k:Nat} {m:MsgM} (h:els[k]? =some (qJ m)):zE els k (0+0) 1=some [D.v (.int .i64 m.seq)]:=by
 rw[zE,h];rfl
open Classical in
theorem z9j (v:Vw):lW v v=am:=by
 unfold lW
 exact y0n rfl
open Classical in
theorem z4c {V:List Vw} {p:Prd} {n:Int} (hne:V≠[]) (hV:∀v∈V,VwG p v) (hl:V.length≤31):(0≤zI n 0 ((V.length:Int)-1)∧zI n 0 ((V.length:Int)-1)<(V.length:Int))∧∃v,V[(zI n 0 ((V.length:Int)-1)).toNat]? =some v∧VwG p v:=by
 have h0:0<V.length:=List.length_pos_iff.2 hne
 have hb:=yIs (n:=n) (lo:=0) (hi:=(V.length:Int)-1) (by omega)
 refine⟨by omega,?_⟩
 obtain⟨v,hv⟩:=z8 (l:=V) (i:=(zI n 0 ((V.length:Int)-1)).toNat) (by omega)
 exact⟨v,hv,hV v (y0g hv)⟩
theorem yQd (i:VsI) (h:viewsC.cnd i):yGi i:=by
 obtain⟨hc,hs,hok,hlen⟩:i.p.check=0∧i.p.small∧(∀c∈i.l,c.raw)∧i.l.length≤9223372036854775807:=h
 have hml:(ae cmdE i.l).length=i.l.length:=y0a _
 have hB0:BOk i.p (af i.p.count []):=BOk.new hc hs
 have hM0:=z4u i.p
 unfold yGi zHh zFp zBk cY jB wO zY dI
 rw[hml]
 refine⟨i.p,rfl,rfl,rfl,rfl,rfl,rfl,rfl,rfl,rfl,rfl,rfl,hs,fun _ _=> ?_,fun _ hne=>absurd hc hne⟩
 refine⟨mk0 i.p,rfl,hM0.s.small hB0,fun _ _=>⟨⟨rfl,trivial,rfl,rfl,rfl,rfl,rfl,rfl,rfl,rfl,trivial,trivial⟩,⟨(mk0 i.p).s,i.p,af i.p.count []⟩,rfl,rfl,rfl,rfl,rfl,rfl,rfl,rfl,rfl,rfl,rfl,rfl,⟨hM0.s,hB0⟩,fun _ _=> ?_⟩⟩
 refine⟨⟨mk0 i.p,0,[qT i.p (af i.p.count [])]⟩,rfl,rfl,rfl,fun j=>(j.k≤30∧j.k≤i.l.length)∧(j.V.length=j.k+1∧∀v∈j.V,VwG i.p v)∧∃B U,j.m.Rep i.p B U∧BOk i.p B,fun j=>30-j.k,⟨⟨y1n _,y1n _⟩,⟨rfl,fun v hv=> ?_⟩,_,_,hM0,hB0⟩,?_⟩
 ·rw[y1k]at hv
  subst hv
  exact yGq (hM0.s.wf hB0)
 rintro⟨m,k,V⟩ ⟨⟨hk1,hk2⟩,⟨hVl,hV⟩,B,U,hM,hB⟩
 dsimp only at hk1 hk2 hM hVl hV ⊢
 refine⟨am,fun b=>b=decide (k<i.l.length∧k<30),zJ (fun c=>⟨_,rfl,decide_eq_decide.2 ⟨fun x=>⟨by omega,by omega⟩,fun x=>by omega⟩,k0q⟩) (fun c=>⟨_,rfl,(y0k (by omega)).symm,k0q⟩),?_⟩
 rintro _ rfl
 have hwf:=hM.s.wf hB
 refine zJ (fun hb=> ?_) (fun _=> ?_)
 ·obtain⟨hb1,hb2⟩:=hb
  obtain⟨a,ha⟩:=z8 (l:=i.l) (i:=k) hb1
  have e2:=yYi ha
  have hcr:=hok a (y0g ha)
  have hlb:=zZc ⟨i.p,a,(k:Int)⟩
  have hq:=z9m ⟨i.p,a,(k:Int)⟩
  have hvl:(V.map vwE).length=V.length:=y0a _
  refine⟨⟨by omega,by omega⟩,a.kind,a.id,a.inst,a.side,a.price,a.qty,a.least,a.time,sb a.label,e2,⟨i.p,a,(k:Int)⟩,rfl,rfl,rfl,rfl,rfl,rfl,rfl,rfl,rfl,rfl,rfl,rfl,rfl,rfl,rfl,rfl,rfl,rfl,rfl,rfl,rfl,⟨hc,hs,hcr,by dsimp only;omega,by dsimp only;omega⟩,fun _ _=> ?_⟩
  generalize qP ⟨i.p,a,(k:Int)⟩=D at*
  refine⟨⟨m,i.p,B,U,D,doF i.p B U D⟩,rfl,rfl,rfl,rfl,rfl,rfl,rfl,rfl,rfl,rfl,⟨⟨hM,hB⟩,by dsimp only;rw[hlb];decide,by dsimp only;omega,rfl⟩,fun o ho=> ?_⟩
  have hB2:=yBj hwf U D
  refine⟨o,rfl,ho.s.small hB2,fun _ _=>⟨⟨rfl,trivial,rfl,rfl,rfl,rfl,rfl,rfl,rfl,rfl,trivial,trivial⟩,⟨o.s,i.p,(doF i.p B U D).B⟩,rfl,rfl,rfl,rfl,rfl,rfl,rfl,rfl,rfl,rfl,rfl,rfl,⟨ho.s,hB2⟩,fun _ _=>⟨by omega,⟨o,k+1,V++[qT i.p (doF i.p B U D).B]⟩,wjn (by omega),rfl,by rw[y0j];rfl,⟨⟨by dsimp only;omega,by dsimp only;omega⟩,⟨by rw[y0e,hVl];rfl,fun v hv=> ?_⟩,_,_,ho,hB2⟩,by dsimp only;omega,k0q⟩⟩⟩
  rcases y0u.1 hv with hv|hv
  ·exact hV v hv
  ·rw[y1k]at hv
   subst hv
   exact yGq (ho.s.wf hB2)
 ·exact⟨V,rfl,fun e=>by rw[e]at hVl;simp at hVl,by omega,hV⟩
theorem views_ok:viewsC.ok Tryz.prog 13:=okw mixed (gokc z3v (gokc zVd (gokc z6c (gokc yJk (gokc yMl gok0))))) 0 (fun _=>yPr) (fun _=>yQb) [] Tryz.func13 yQd
theorem yYk {p:Prd} {v w:Vw} (hv:VwG p v) (hw:VwG p w):v.length=w.length∧Vw.levs v≤100000000∧Vw.levs w≤100000000∧v.length≤1000000:=by
 have h1:=zTd hv
 have h2:=zTd hw
 have h3:=hv.r.2
 have h4:=hw.r.2
 exact⟨by rw[hv.len,hw.len],by omega,by omega,by omega⟩
theorem yRi {p:Prd} {v w:Vw} (hv:VwG p v) (hw:VwG p w):∀m∈yN 0 v w,zXa p.count m:=fun m hm=>by
 have:=z3c 0 v w (yNf hv) (yNf hw) m hm
 rwa [y0w,hv.len]at this
open Go Cv Go.Proofs
theorem yIk (n:Int): -1099511627776<n.tmod 1099511627776∧n.tmod 1099511627776<1099511627776:=by
 have h:(n.tmod 1099511627776).natAbs=n.natAbs % 1099511627776:=Int.natAbs_tmod n 1099511627776
 have h2:n.natAbs % 1099511627776<1099511627776:=Nat.mod_lt _ (by decide)
 rw[← h]at h2
 omega
open Classical in
theorem yGb (v w:Vw):lW v w=am↔v=w:=by
 unfold lW
 exact decide_eq_true_iff
theorem yJm {n:Nat} {m:VM} (h:zXa n m) (hn:n≤256) (q:Int):(toM q m).form=0:=by
 have h1:=h.inst
 have h2:=h.side
 rw[MsgM.form]
 show(if(m.inst:Int)<0∨255<(m.inst:Int)∨(m.side≠1∧m.side≠2)then _ else _)=_
 rw[yZx (by omega)]
theorem yQu {n:Nat} {m:VM} (h:zXa n m) {q:Int} (hq:yO q):(toM q m).raw:=⟨hq,h.f.1,h.f.2.1,h.f.2.2⟩
theorem vft (i:FtI) (h:ftC.cnd i):Vft i:=by
 obtain⟨hraw,hok,hlen,ha,hb,hseq⟩:i.ok:=h
 have hs:=yIk i.seq
 unfold Vft yU fD yDh yFl yDu yGr zTt zSx lA zJg qY z1m jN kB hU wN dI
 refine⟨i.x,rfl,rfl,rfl,rfl,rfl,rfl,rfl,rfl,rfl,rfl,rfl,hraw,fun _ _=>⟨⟨gM i.x,i.l⟩,rfl,rfl,rfl,rfl,rfl,rfl,rfl,rfl,rfl,rfl,rfl,rfl,⟨zYm i.x,zXv i.x,hok,hlen⟩,fun V hV=> ?_⟩⟩
 obtain⟨hne,hl,hV⟩:=hV
 have hV:∀v∈V,VwG (gM i.x) v:=hV
 have hvl:(V.map vwE).length=V.length:=y0a _
 have h0:0<V.length:=List.length_pos_iff.2 hne
 have hw:((V.length:Int)-1)=aj.wrap (((V.map vwE).length:Nat)-1):=by rw[hvl,w64 (by omega)]
 obtain⟨ba,A,eA,gA⟩:=z4c (n:=i.a) hne hV hl
 obtain⟨bb,B,eB,gB⟩:=z4c (n:=i.b) hne hV hl
 generalize i.seq.tmod 1099511627776=s at hs ⊢
 refine Cv.cnd.mk (fun e=>absurd e (by rw[hvl];simp;omega)) (fun _=>⟨⟨i.a,0,(V.length:Int)-1⟩,rfl,rfl,hw,⟨ha,by dsimp only;omega,by dsimp only;omega,by dsimp only;omega⟩,fun _ _=>⟨by rw[hvl];exact ba,_,yOi eA,⟨i.b,0,(V.length:Int)-1⟩,rfl,rfl,hw,⟨hb,by dsimp only;omega,by dsimp only;omega,by dsimp only;omega⟩,fun _ _=>⟨by rw[hvl];exact bb,_,yOi eB,rfl,by decide,?_⟩⟩⟩)
 obtain⟨dl1,d1,d2,d3⟩:=yYk gA gB
 have n1:=yLa gA gB
 have o1:=zAm gA.r
 have o2:=zAm gB.r
 have m1:=yRi gA gB
 have cle:=xQ (gM i.x)
 have l1:((vF s (yN 0 A B)).map qJ).length=(yN 0 A B).length:=by rw[y0a,z5y]
 refine⟨⟨A,B,s⟩,rfl,rfl,rfl,⟨dl1,⟨by dsimp only;omega,by dsimp only;omega⟩,d1,d2,d3⟩,fun _ _=>⟨⟨A,B⟩,rfl,rfl,⟨gA.s,gB.s⟩,fun _ _=>Cv.cnd.mk (fun e=> ?_) (fun _=> ?_)⟩⟩
 ·exfalso
  rw[l1]at e
  dsimp only at e
  have hn:=yLw dl1 o1 o2
  have e2:lW A B=(((yN 0 A B).length:Int)==0):=by
   rw[y4n,beq_iff_eq,yGb,← hn]
   constructor
   ·intro x;rw[x];rfl
   ·intro x;exact y0y (by omega)
  rw[e2]at e
  revert e
  cases (((yN 0 A B).length:Int)==0)<;>decide
 dsimp only
 have at_:∀{k:Nat} {x:VM},(yN 0 A B)[k]? =some x→((vF s (yN 0 A B)).map qJ)[k]? =some (qJ (toM (s+k+1) x)):=fun hx=>by
  rw[y0z,z3n hx];rfl
 obtain⟨L,hL,hperm,hidx⟩:∃L:List VM,L.length=(yN 0 A B).length∧L.Perm (yN 0 A B)∧∀k,k<(yN 0 A B).length→L[k]? =(yN 0 A B)[if i.back=am then(yN 0 A B).length-1-k else k]? :=by
  cases hbk:i.back
  ·exact⟨yN 0 A B,rfl,List.Perm.refl _,fun k _=>by rw[yZx (by decide)]⟩
  ·refine⟨(yN 0 A B).reverse,List.length_reverse,List.reverse_perm _,fun k hk=> ?_⟩
   rw[yZy rfl,List.getElem?_reverse hk]
 have hm:∀m∈L,zXa (gM i.x).count m:=fun m hm=>m1 m (hperm.mem_iff.1 hm)
 have fin:=zKg dl1 o1 o2 hperm
 refine⟨⟨A,0⟩,rfl,rfl,fun j=>j.k≤L.length∧j.v=atV A L j.k,fun j=>L.length-j.k,⟨y1n _,(yNs _ _).symm⟩,?_⟩
 rintro⟨v,k⟩ ⟨hk,hv⟩
 dsimp only at hk hv ⊢
 subst hv
 rw[l1]
 refine zJ (fun hlt=> ?_) (fun hlt=> ?_)
 ·have hkl:k<(yN 0 A B).length:=by omega
  have hid:=hidx k hkl
  refine⟨0,fun z=>z=((if i.back=am then(yN 0 A B).length-1-k else k:Nat):Int),Cv.cnd.mk (fun e=>⟨_,rfl,?_,k0q⟩) (fun e=>⟨_,rfl,?_,k0q⟩),?_⟩
  ·rw[yZy e,w64 (x:=((yN 0 A B).length:Int)-1) (by omega),w64 (by omega)];omega
  ·rw[yZx (by rw[e];decide)]
  rintro _ rfl
  have hj:(if i.back=am then(yN 0 A B).length-1-k else k)<(yN 0 A B).length:=by split<;>omega
  generalize (if i.back=am then(yN 0 A B).length-1-k else k)=j at hid hj ⊢
  obtain⟨x,hx⟩:=z8 (l:=yN 0 A B) (i:=j) hj
  rw[hx]at hid
  obtain⟨a1,a2,a3,a4⟩:=yKf gA (by omega) hm hid (s+j+1)
  have vm:=m1 x (y0g hx)
  have bd:(0:Int)≤(j:Int)∧(j:Int)<((yN 0 A B).length:Nat):=⟨by omega,by omega⟩
  have hfo:=yJm vm (by omega) (s+j+1)
  have hra:=yQu vm (q:=s+j+1) ⟨by omega,by omega⟩
  have hde:=yHd hfo hra
  have hle:(toM (s+j+1) x).enc.length≤1099511627776:=by
   rw[MsgM.enc]
   split
   ·simp
   ·rw[yEu];decide
  rw[y0s]
  refine⟨bd,_,yLp (at_ hx),Cv.cnd.mk (fun e=> ?_) (fun _=>⟨bd,_,_,_,_,_,_,_,yGo (at_ hx),toM (s+j+1) x,rfl,rfl,rfl,rfl,rfl,rfl,rfl,trivial,fun _ _=>⟨(toM (s+j+1) x).enc,rfl,hle,fun _ _=> ?_⟩⟩)⟩
  ·exfalso
   rw[w64 (x:=s+(j:Int)) (by omega),w64 (by omega)]at e
   have e2:(toM (s+j+1) x).seq=s+j+1:=rfl
   rw[e2]at e
   simp at e
  ·rw[hde]
   dsimp only
   refine⟨⟨atV A L k,toM (s+j+1) x⟩,rfl,rfl,rfl,rfl,rfl,rfl,rfl,rfl,⟨a1,a2,a3⟩,fun _ _=>⟨ao,fun z=>z=ao,Cv.cnd.mk (fun e=> ?_) (fun _=>Cv.cnd.mk (fun e=>absurd e (by decide)) (fun _=>⟨bd,_,_,_,_,_,_,_,yGo (at_ hx),_,rfl,?_,k0q⟩)),?_⟩⟩
   ·exfalso
    rw[hfo]at e
    exact absurd e (by decide)
   ·simp
   ·rintro _ rfl
    exact Cv.cnd.mk (fun e=>absurd e (by decide)) (fun _=>⟨⟨atV A L (k+1),k+1⟩,wjn (by omega),congrArg (fun z:Vw=>z.map zB) a4.symm,⟨by dsimp only;omega,rfl⟩,by dsimp only;omega,k0q⟩)
 ·obtain rfl:k=L.length:=by omega
  rw[yHs,fin]
  exact⟨⟨B,B⟩,rfl,rfl,⟨gB.s,gB.s⟩,fun _ _=>Cv.cnd.mk (fun _=>⟨(),trivial,fun _ _=>⟨(),rfl,trivial⟩⟩) (fun e=>by dsimp only at e;rw[z9j]at e;cases e)⟩
end Sx
