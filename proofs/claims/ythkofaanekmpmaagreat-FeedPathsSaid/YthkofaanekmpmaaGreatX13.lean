/- Texts of ours, one behind the other: a walk that the kernel reckons, and contracts of functions. No condition. -/
import Derived.Test.YthkofaanekmpmaaGreatX12
namespace Sx
set_option linter.unusedVariables false
set_option maxRecDepth 100000
open Go Cv Go.Proofs
def zEd (a:LkI) (b:VsI):Prop:=zE a.s=zE a.s∧Sx.AObj.cells [V.d (D.v (Value.string (sb b.p.code))),V.own 0,V.d (dI b.p.tick),V.d (dI b.p.low),V.d (dI b.p.high),V.d (dI b.p.wide),V.d (dI b.p.rule),V.d (dI b.p.top),V.d (dI b.p.least),V.d (dI b.p.part),V.own ((0:Nat)+(1:Nat))] 25=Sx.AObj.cells [V.d (D.v (Value.string (sb b.p.code))),V.own 0,V.d (dI b.p.tick),V.d (dI b.p.low),V.d (dI b.p.high),V.d (dI b.p.wide),V.d (dI b.p.rule),V.d (dI b.p.top),V.d (dI b.p.least),V.d (dI b.p.part),V.own ((0:Nat)+(1:Nat))] 25∧AObj.fro 1 (iE b.p.settle)=AObj.fro 1 (iE b.p.settle)∧AObj.fro 1 (iE b.p.months)=AObj.fro 1 (iE b.p.months)
def zGo (a:Bool→Prop) (b:Bool) (c:VsJ) (d:LkI) (e:VsI):Prop:=a b∧fQ c.m=fQ c.m∧AObj.own rS 1 (List.map vwE c.V)=AObj.own rS 1 (List.map vwE c.V)∧zEd d e
def zAv (a:VsI):Prop:=sb a.p.code=sb a.p.code∧True∧a.p.tick=a.p.tick∧a.p.low=a.p.low∧a.p.high=a.p.high∧a.p.wide=a.p.wide∧a.p.rule=a.p.rule∧a.p.top=a.p.top∧a.p.least=a.p.least∧a.p.part=a.p.part∧True∧True
def yCb (i:VsI):Prop:=
 ∃(a:Prd),sb a.code=sb i.p.code∧iE a.months=iE i.p.months∧a.tick=i.p.tick∧a.low=i.p.low∧a.high=i.p.high∧a.wide=i.p.wide∧a.rule=i.p.rule∧a.top=i.p.top∧a.least=i.p.least∧a.part=i.p.part∧iE a.settle=iE i.p.settle∧(zY a)∧(∀(b:Unit),a.check=0→∃(c:Mkt),fQ c=fQ (Mkt.mk a (a9 a) [])∧(jG c)∧∀(d:Unit),True→(zAv i)∧∃(e:LkI),sb e.p.code=sb i.p.code∧iE e.p.months=iE i.p.months∧e.p.tick=i.p.tick∧e.p.low=i.p.low∧e.p.high=i.p.high∧e.p.wide=i.p.wide∧e.p.rule=i.p.rule∧e.p.top=i.p.top∧e.p.least=i.p.least∧e.p.part=i.p.part∧iE e.p.settle=iE i.p.settle∧zE e.s=zE c.s∧(e.s.Rep e.p e.B∧BOk e.p e.B)∧∀(f:Unit),True→∃(g:VsJ),(↑g.k:Int)=0∧fQ g.m=fQ c∧List.map vwE g.V=[[D.ro 10 (List.map zB (qX e.p e.B))]]∧∃(h:VsJ→Prop),∃(j:VsJ→Nat),h g∧∀(k:VsJ),h k→∃(l:Bool),∃(m:Bool→Prop),cnd (decide ((↑k.k:Int)<(↑(List.map cmdE i.l).length:Int))) (∃(n:Bool),n=decide ((↑k.k:Int)<30)∧zGo m n k e i) (∃(n:Bool),n=false∧zGo m n k e i)∧∀(n:Bool),m n→cnd n ((0≤(↑k.k:Int)∧(↑k.k:Int)<(↑(List.map cmdE i.l).length:Int))∧∃(p:Int),∃(q:Int),∃(r:Int),∃(s:Int),∃(t:Int),∃(u:Int),∃(v:Int),∃(w:Int),∃(x:ByteArray),zF (List.map cmdE i.l) (↑k.k:Int).toNat 0 9=some [dI p,dI q,dI r,dI s,dI t,dI u,dI v,dI w,D.v (Value.string x)]∧∃(y:TmI),sb y.p.code=sb i.p.code∧iE y.p.months=iE i.p.months∧y.p.tick=i.p.tick∧y.p.low=i.p.low∧y.p.high=i.p.high∧y.p.wide=i.p.wide∧y.p.rule=i.p.rule∧y.p.top=i.p.top∧y.p.least=i.p.least∧y.p.part=i.p.part∧iE y.p.settle=iE i.p.settle∧y.c.kind=p∧y.c.id=q∧y.c.inst=r∧y.c.side=s∧y.c.price=t∧y.c.qty=u∧y.c.least=v∧y.c.time=w∧sb y.c.label=x∧y.i=(↑k.k:Int)∧(y.p.check=0∧(y.p.code.length≤1099511627776∧y.p.months.length≤1099511627776∧y.p.settle.length≤1099511627776)∧(((-9223372036854775808)≤y.c.kind∧y.c.kind≤9223372036854775807)∧((-9223372036854775808)≤y.c.id∧y.c.id≤9223372036854775807)∧((-9223372036854775808)≤y.c.inst∧y.c.inst≤9223372036854775807)∧((-9223372036854775808)≤y.c.side∧y.c.side≤9223372036854775807)∧((-9223372036854775808)≤y.c.price∧y.c.price≤9223372036854775807)∧((-9223372036854775808)≤y.c.qty∧y.c.qty≤9223372036854775807)∧((-9223372036854775808)≤y.c.least∧y.c.least≤9223372036854775807)∧(-9223372036854775808)≤y.c.time∧y.c.time≤9223372036854775807)∧0≤y.i∧y.i≤1000000)∧∀(z:Unit),True→∃(a_1:EnI),a_1.c.kind=(qR y).kind∧a_1.c.id=(qR y).id∧a_1.c.inst=(qR y).inst∧a_1.c.side=(qR y).side∧a_1.c.price=(qR y).price∧a_1.c.qty=(qR y).qty∧a_1.c.least=(qR y).least∧a_1.c.time=(qR y).time∧sb a_1.c.label=sb (qR y).label∧fQ a_1.m=fQ k.m∧(cO a_1)∧∀(a_2:Mkt),a_2.Rep a_1.p a_1.X.B a_1.X.U→∃(a_3:Mkt),fQ a_3=fQ a_2∧(jG a_3)∧∀(a_4:Unit),True→(zAv i)∧∃(a_5:LkI),sb a_5.p.code=sb i.p.code∧iE a_5.p.months=iE i.p.months∧a_5.p.tick=i.p.tick∧a_5.p.low=i.p.low∧a_5.p.high=i.p.high∧a_5.p.wide=i.p.wide∧a_5.p.rule=i.p.rule∧a_5.p.top=i.p.top∧a_5.p.least=i.p.least∧a_5.p.part=i.p.part∧iE a_5.p.settle=iE i.p.settle∧zE a_5.s=zE a_3.s∧(a_5.s.Rep a_5.p a_5.B∧BOk a_5.p a_5.B)∧∀(a_6:Unit),True→((List.map vwE k.V).length+1)*(24:Nat)≤(140737488355328:Nat)∧∃(a_7:VsJ),(↑a_7.k:Int)=IntKind.i64.wrap ((↑k.k:Int)+1)∧fQ a_7.m=fQ a_3∧List.map vwE a_7.V=List.map vwE k.V++[[D.ro 10 (List.map zB (qX a_5.p a_5.B))]]∧h a_7∧j a_7<j k∧zEd e i) (∃(p:List Vw),List.map vwE p=List.map vwE k.V∧p≠[]∧p.length≤31∧∀(q:Vw),q∈p→VwG i.p q))∧∀(b:Unit),a.check≠0→∃(c:List Vw),List.map vwE c=[]∧c≠[]∧c.length≤31∧∀(d:Vw),d∈c→VwG i.p d
def zSx:=((0:Nat)+(1:Nat)+(1:Nat)+(1:Nat)+((0:Nat)-(0:Nat))+(1:Nat)+(1:Nat)+1+((1:Nat)-(0:Nat))+((0:Nat)-(0:Nat))+(1:Nat)+(1:Nat)+((0:Nat)-(0:Nat))+(1:Nat)+(1:Nat)+((0:Nat)-(0:Nat))+(1:Nat)+(1:Nat)+((1:Nat)-(0:Nat))+((1:Nat)-(0:Nat))+(1:Nat)+(1:Nat))
def zTh (a:ApI):Prop:=MsgM.fine (↑(List.length a.v):Int) a.m=0∧List.length a.v≤1000000∧List.length a.v≤1099511627776∧∀(b:Sd×Sd),b∈a.v→wR b
def cY (a:DvI) (b:DvI):=(List.map xW (gR a)++List.map xW (gR b))
def z8n (a:DvI) (b:DvI) (c:List (List D)) (d:List (List D)) (e:List (List D)) (f:List Vw) (g:Prd) (h:FpI):Prop:=AObj.own 28 7 (cY a b)=AObj.own 28 7 (cY a b)∧AObj.own zNt 7 (qD b)=AObj.own zNt 7 (qD b)∧AObj.fro 10 c=AObj.fro 10 c∧Sx.AObj.cells [V.own ((0:Nat)+(1:Nat)+(1:Nat)+(1:Nat)+((0:Nat)-(0:Nat))+(1:Nat)+(1:Nat)+1+((1:Nat)-(0:Nat))+((0:Nat)-(0:Nat))+(1:Nat)+(1:Nat)+((0:Nat)-(0:Nat))+(1:Nat)+(1:Nat)+((0:Nat)-(0:Nat))+1)] 34=Sx.AObj.cells [V.own ((0:Nat)+(1:Nat)+(1:Nat)+(1:Nat)+((0:Nat)-(0:Nat))+(1:Nat)+(1:Nat)+1+((1:Nat)-(0:Nat))+((0:Nat)-(0:Nat))+(1:Nat)+(1:Nat)+((0:Nat)-(0:Nat))+(1:Nat)+(1:Nat)+((0:Nat)-(0:Nat))+1)] 34∧AObj.fro 10 d=AObj.fro 10 d∧Sx.AObj.cells [V.own ((0:Nat)+(1:Nat)+(1:Nat)+(1:Nat)+((0:Nat)-(0:Nat))+(1:Nat)+(1:Nat)+1+((1:Nat)-(0:Nat))+((0:Nat)-(0:Nat))+(1:Nat)+(1:Nat)+((0:Nat)-(0:Nat))+1)] 34=Sx.AObj.cells [V.own ((0:Nat)+(1:Nat)+(1:Nat)+(1:Nat)+((0:Nat)-(0:Nat))+(1:Nat)+(1:Nat)+1+((1:Nat)-(0:Nat))+((0:Nat)-(0:Nat))+(1:Nat)+(1:Nat)+((0:Nat)-(0:Nat))+1)] 34∧AObj.fro 10 e=AObj.fro 10 e∧Sx.AObj.cells [V.own ((0:Nat)+(1:Nat)+(1:Nat)+(1:Nat)+((0:Nat)-(0:Nat))+(1:Nat)+(1:Nat)+1+((1:Nat)-(0:Nat))+((0:Nat)-(0:Nat))+1)] 34=Sx.AObj.cells [V.own ((0:Nat)+(1:Nat)+(1:Nat)+(1:Nat)+((0:Nat)-(0:Nat))+(1:Nat)+(1:Nat)+1+((1:Nat)-(0:Nat))+((0:Nat)-(0:Nat))+1)] 34∧AObj.own rS 1 (List.map vwE f)=AObj.own rS 1 (List.map vwE f)∧AObj.fro 1 (iE (qE (yF g) (kN g).toNat))=AObj.fro 1 (iE (qE (yF g) (kN g).toNat))∧AObj.fro 1 (iE (qZ (kN g).toNat))=AObj.fro 1 (iE (qZ (kN g).toNat))∧Sx.AObj.cells [V.d (D.v (Value.string (sb [(206:UInt8),(169:UInt8)]))),V.own ((0:Nat)+(1:Nat)+(1:Nat)+(1:Nat)+((0:Nat)-(0:Nat))+1),V.d (dI (yF g)),V.d (dI ((-20)*yF g)),V.d (dI (100*yF g)),V.d (dI (yF g*(jN g))),V.d (dI (1+zI g.rule 0 2)),V.d (dI (zI g.top 0 9)),V.d (dI (1+zI g.least 0 4)),V.d (dI (zI g.part 0 100)),V.own ((0:Nat)+(1:Nat)+(1:Nat)+(1:Nat)+((0:Nat)-(0:Nat))+(1:Nat)+(1:Nat))] 25=Sx.AObj.cells [V.d (D.v (Value.string (sb [(206:UInt8),(169:UInt8)]))),V.own ((0:Nat)+(1:Nat)+(1:Nat)+(1:Nat)+((0:Nat)-(0:Nat))+1),V.d (dI (yF g)),V.d (dI ((-20)*yF g)),V.d (dI (100*yF g)),V.d (dI (yF g*(jN g))),V.d (dI (1+zI g.rule 0 2)),V.d (dI (zI g.top 0 9)),V.d (dI (1+zI g.least 0 4)),V.d (dI (zI g.part 0 100)),V.own ((0:Nat)+(1:Nat)+(1:Nat)+(1:Nat)+((0:Nat)-(0:Nat))+(1:Nat)+(1:Nat))] 25∧Sx.AObj.cells [V.d (D.v (Value.string (sb h.x.code))),V.own 0,V.d (dI h.x.tick),V.d (dI h.x.low),V.d (dI h.x.high),V.d (dI h.x.wide),V.d (dI h.x.rule),V.d (dI h.x.top),V.d (dI h.x.least),V.d (dI h.x.part),V.own ((0:Nat)+(1:Nat))] 25=Sx.AObj.cells [V.d (D.v (Value.string (sb h.x.code))),V.own 0,V.d (dI h.x.tick),V.d (dI h.x.low),V.d (dI h.x.high),V.d (dI h.x.wide),V.d (dI h.x.rule),V.d (dI h.x.top),V.d (dI h.x.least),V.d (dI h.x.part),V.own ((0:Nat)+(1:Nat))] 25∧AObj.fro 1 (iE h.x.settle)=AObj.fro 1 (iE h.x.settle)∧AObj.fro 1 (iE h.x.months)=AObj.fro 1 (iE h.x.months)
def yEw (a:VkJ) (b:Int) (c:Int) (d:Int) (e:Int) (f:Int) (g:Int) (h:Bool) (j:VkJ→Prop) (k:VkJ→Nat) (l:DvI) (m:DvI) (n:VkJ) (p:VkJ) (q:DvI) (r:DvI) (s:List (List D)) (t:List (List D)) (u:List (List D)) (v:List Vw) (w:Prd) (x:FpI):Prop:=∃(y:ApI),List.map zB y.v=List.map zB a.v∧y.m.seq=b∧y.m.inst=c∧y.m.side=d∧y.m.price=e∧y.m.qty=f∧y.m.count=g∧y.m.implied=h∧(zTh y)∧∀(z:Unit),True→∃(a_1:VkJ),(↑a_1.k:Int)=IntKind.i64.wrap ((↑a.k:Int)+1)∧AObj.fro 10 (List.map zB a_1.v)=AObj.fro 10 (List.map zB (apV y.v y.m))∧j a_1∧k a_1<k a∧AObj.own 28 7 (cY l m)=AObj.own 28 7 (cY l m)∧AObj.own zNt 7 (qD m)=AObj.own zNt 7 (qD m)∧Sx.AObj.cells (vK (fN zSx [((1:Nat),(0:Nat)+(1:Nat)+(1:Nat)+(1:Nat)+((0:Nat)-(0:Nat))+(1:Nat)+(1:Nat)+1+((1:Nat)-(0:Nat))+((0:Nat)-(0:Nat))+1),((0:Nat),(0:Nat)+(1:Nat)+(1:Nat)+(1:Nat)+((0:Nat)-(0:Nat))+(1:Nat)+(1:Nat)+1+((1:Nat)-(0:Nat))+((0:Nat)-(0:Nat))+(1:Nat)+(1:Nat)+((0:Nat)-(0:Nat))+(1:Nat)+(1:Nat)+((0:Nat)-(0:Nat))+(1:Nat)+(1:Nat)+((1:Nat)-(0:Nat))+((1:Nat)-(0:Nat))+1)] 0 [Sx.AObj.cells [V.own 1] rS,AObj.fro 10 (List.map zB n.v)]) [V.own 1]) rS=Sx.AObj.cells (vK (fN zSx [((1:Nat),(0:Nat)+(1:Nat)+(1:Nat)+(1:Nat)+((0:Nat)-(0:Nat))+(1:Nat)+(1:Nat)+1+((1:Nat)-(0:Nat))+((0:Nat)-(0:Nat))+1),((0:Nat),(0:Nat)+(1:Nat)+(1:Nat)+(1:Nat)+((0:Nat)-(0:Nat))+(1:Nat)+(1:Nat)+1+((1:Nat)-(0:Nat))+((0:Nat)-(0:Nat))+(1:Nat)+(1:Nat)+((0:Nat)-(0:Nat))+(1:Nat)+(1:Nat)+((0:Nat)-(0:Nat))+(1:Nat)+(1:Nat)+((1:Nat)-(0:Nat))+((1:Nat)-(0:Nat))+1)] 0 [Sx.AObj.cells [V.own 1] rS,AObj.fro 10 (List.map zB n.v)]) [V.own 1]) rS∧AObj.fro 10 (List.map zB p.v)=AObj.fro 10 (List.map zB p.v)∧z8n q r s t u v w x
def yFl (a:VkJ) (b:Int) (c:Int) (d:Int) (e:Int) (f:Int) (g:Int) (h:Bool) (j:VkJ→Prop) (k:VkJ→Nat) (l:DvI) (m:DvI) (n:List (List D)) (p:List (List D)) (q:List (List D)) (r:List Vw) (s:Prd) (t:FpI):Prop:=∃(u:ApI),List.map zB u.v=List.map zB a.v∧u.m.seq=b∧u.m.inst=c∧u.m.side=d∧u.m.price=e∧u.m.qty=f∧u.m.count=g∧u.m.implied=h∧(zTh u)∧∀(v:Unit),True→∃(w:VkJ),(↑w.k:Int)=IntKind.i64.wrap ((↑a.k:Int)+1)∧AObj.fro 10 (List.map zB w.v)=AObj.fro 10 (List.map zB (apV u.v u.m))∧j w∧k w<k a∧z8n l m n p q r s t
def zTk (a:DvI) (b:DvI) (c:VkJ) (d:Int) (e:Int) (f:Int) (g:Int) (h:Int) (j:Int) (k:Bool):Prop:=∃(l:Int),∃(m:Int),∃(n:Int),∃(p:Int),∃(q:Int),∃(r:Int),∃(s:Bool),zF (cY a b) (↑c.k:Int).toNat 0 7=some [dI l,dI m,dI n,dI p,dI q,dI r,D.v (.bool s)]∧l=d∧m=e∧n=f∧p=g∧q=h∧r=j∧s=k∧True
def zRb (a:DvI) (b:DvI):=(↑(cY a b).length:Int)
def zIu (a:VkJ) (b:DvI) (c:DvI):Prop:=0≤(↑a.k:Int)∧(↑a.k:Int)<(zRb b c)
def zSu (a:VkJ) (b:DvI) (c:DvI):Prop:=(zIu a b c)∧(↑a.k:Int).toNat=(↑a.k:Int).toNat
def zTx (a:VkJ) (b:DvI) (c:DvI):=(decide ((↑a.k:Int)<(zRb b c)))
def zTv (a:DvI) (b:DvI):=((qD a).length+(qD b).length)
def lK (a:List Vw):=(↑(List.map vwE a).length:Int)
def zIi (a:WiI) (b:List Vw):Prop:=0≤zI a.n a.lo a.hi∧zI a.n a.lo a.hi<(lK b)
def Vfp (i:FpI):Prop:=
 ∃(a:Prd),sb a.code=sb i.x.code∧iE a.months=iE i.x.months∧a.tick=i.x.tick∧a.low=i.x.low∧a.high=i.x.high∧a.wide=i.x.wide∧a.rule=i.x.rule∧a.top=i.x.top∧a.least=i.x.least∧a.part=i.x.part∧iE a.settle=iE i.x.settle∧(((-9223372036854775808)≤a.tick∧a.tick≤9223372036854775807)∧((-9223372036854775808)≤a.wide∧a.wide≤9223372036854775807)∧((-9223372036854775808)≤a.rule∧a.rule≤9223372036854775807)∧((-9223372036854775808)≤a.top∧a.top≤9223372036854775807)∧((-9223372036854775808)≤a.least∧a.least≤9223372036854775807)∧((-9223372036854775808)≤a.part∧a.part≤9223372036854775807)∧a.months.length≤9223372036854775807)∧∀(b:Unit),True→∃(c:VsI),sb c.p.code=sb [(206:UInt8),(169:UInt8)]∧iE c.p.months=iE (qZ (kN a).toNat)∧c.p.tick=yF a∧c.p.low=(-20)*yF a∧c.p.high=100*yF a∧c.p.wide=yF a*(jN a)∧c.p.rule=1+zI a.rule 0 2∧c.p.top=zI a.top 0 9∧c.p.least=1+zI a.least 0 4∧c.p.part=zI a.part 0 100∧iE c.p.settle=iE (qE (yF a) (kN a).toNat)∧List.map cmdE c.l=List.map cmdE i.l∧(c.p.check=0∧(c.p.code.length≤1099511627776∧c.p.months.length≤1099511627776∧c.p.settle.length≤1099511627776)∧(∀(d:Cmd),d∈c.l→((-9223372036854775808)≤d.kind∧d.kind≤9223372036854775807)∧((-9223372036854775808)≤d.id∧d.id≤9223372036854775807)∧((-9223372036854775808)≤d.inst∧d.inst≤9223372036854775807)∧((-9223372036854775808)≤d.side∧d.side≤9223372036854775807)∧((-9223372036854775808)≤d.price∧d.price≤9223372036854775807)∧((-9223372036854775808)≤d.qty∧d.qty≤9223372036854775807)∧((-9223372036854775808)≤d.least∧d.least≤9223372036854775807)∧(-9223372036854775808)≤d.time∧d.time≤9223372036854775807)∧c.l.length≤9223372036854775807)∧∀(d:List Vw),(d≠[]∧d.length≤31∧∀(e:Vw),e∈d→VwG c.p e)→cnd ((lK d)==0) (∃(e:Unit),true=false∧True) (∃(e:WiI),e.n=i.a∧e.lo=0∧e.hi=IntKind.i64.wrap ((lK d)-1)∧(yO e)∧∀(f:Unit),True→(zIi e d)∧∃(g:List (List D)),zF (List.map vwE d) (zI e.n e.lo e.hi).toNat 0 1=some [D.ro 10 g]∧∃(h:WiI),h.n=i.b∧h.lo=0∧h.hi=IntKind.i64.wrap ((lK d)-1)∧(yO h)∧∀(j:Unit),True→(zIi h d)∧∃(k:List (List D)),zF (List.map vwE d) (zI h.n h.lo h.hi).toNat 0 1=some [D.ro 10 k]∧∃(l:WiI),l.n=i.c∧l.lo=0∧l.hi=IntKind.i64.wrap ((lK d)-1)∧(yO l)∧∀(m:Unit),True→(zIi l d)∧∃(n:List (List D)),zF (List.map vwE d) (zI l.n l.lo l.hi).toNat 0 1=some [D.ro 10 n]∧∃(p:DvI),List.map zB p.v=g∧List.map zB p.w=k∧p.seq=0∧(qH p)∧∀(q:Unit),True→(True∧True)∧(True∧True)∧∃(r:DvI),List.map zB r.v=k∧List.map zB r.w=n∧r.seq=5∧(qH r)∧∀(s:Unit),True→(zTv p r)*(56:Nat)≤(140737488355328:Nat)∧∃(t:VkJ),(↑t.k:Int)=0∧AObj.fro 10 (List.map zB t.v)=AObj.fro 10 g∧∃(u:VkJ→Prop),∃(v:VkJ→Nat),u t∧∀(w:VkJ),u w→cnd (zTx w p r) ((zIu w p r)∧∃(x:Int),∃(y:Int),∃(z:Int),∃(a_1:Int),∃(a_2:Int),∃(a_3:Int),∃(a_4:Bool),zF (cY p r) (↑w.k:Int).toNat 0 7=some [dI x,dI y,dI z,dI a_1,dI a_2,dI a_3,D.v (.bool a_4)]∧(yFl w x y z a_1 a_2 a_3 a_4 u v p r n k g d a i)∧(zTk p r w x y z a_1 a_2 a_3 a_4)∧(zSu w p r)∧(True∧True)∧yFl w x y z a_1 a_2 a_3 a_4 u v p r n k g d a i) (∃(x:DvI),List.map zB x.v=g∧List.map zB x.w=k∧x.seq=0∧(qH x)∧∀(y:Unit),True→(True∧True)∧(True∧True)∧∃(z:DvI),List.map zB z.v=k∧List.map zB z.w=g∧z.seq=0∧(qH z)∧∀(a_1:Unit),True→(zTv x z)*(56:Nat)≤(140737488355328:Nat)∧∃(a_2:VkJ),(↑a_2.k:Int)=0∧AObj.fro 10 (List.map zB a_2.v)=AObj.fro 10 g∧∃(a_3:VkJ→Prop),∃(a_4:VkJ→Nat),a_3 a_2∧∀(a_5:VkJ),a_3 a_5→cnd (zTx a_5 x z) ((zIu a_5 x z)∧∃(a_6:Int),∃(a_7:Int),∃(a_8:Int),∃(a_9:Int),∃(a_10:Int),∃(a_11:Int),∃(a_12:Bool),zF (cY x z) (↑a_5.k:Int).toNat 0 7=some [dI a_6,dI a_7,dI a_8,dI a_9,dI a_10,dI a_11,D.v (.bool a_12)]∧(yEw a_5 a_6 a_7 a_8 a_9 a_10 a_11 a_12 a_3 a_4 x z t w p r n k g d a i)∧(zTk x z a_5 a_6 a_7 a_8 a_9 a_10 a_11 a_12)∧(zSu a_5 x z)∧(True∧True)∧yEw a_5 a_6 a_7 a_8 a_9 a_10 a_11 a_12 a_3 a_4 x z t w p r n k g d a i) (∃(a_6:zJo),List.map zB a_6.v=List.map zB w.v∧List.map zB a_6.w=n∧(gD a_6)∧∀(a_7:Unit),True→cnd (zGb a_6.v a_6.w) (∃(a_8:zJo),List.map zB a_8.v=List.map zB a_5.v∧List.map zB a_8.w=g∧(gD a_8)∧∀(a_9:Unit),True→cnd (zGb a_8.v a_8.w) (∃(a_10:DvI),List.map zB a_10.v=g∧List.map zB a_10.w=k∧a_10.seq=0∧(qH a_10)∧∀(a_11:Unit),True→(True∧True)∧(True∧True)∧∃(a_12:DvI),List.map zB a_12.v=k∧List.map zB a_12.w=g∧a_12.seq=9∧(qH a_12)∧∀(a_13:Unit),True→(kB a_10)=(kB a_10)∧cnd ((kB a_10)==(kB a_12)) (∃(a_14:Unit),True∧∀(a_15:Unit),True→∃(a_16:Unit),true=true∧True) (∃(a_14:Unit),true=false∧True)) (∃(a_10:Unit),true=false∧True)) (∃(a_8:Unit),true=false∧True))))
theorem eqfp (i:FpI):Vfp i=walk Tryz.prog ([(12,kprodC),(13,viewsC),(14,withinC),(18,diffC),(15,applyC),(19,fsameC),(17,known19C)]) 0 ([]) (fpA) [] Tryz.f4 (Tryz.f4.body.getD .skip) (fpC.pat i) (fpC.pre i) (fpC.alts i):=by kernel_rfl
set_option linter.unusedSimpArgs false
open Go Cv Go.Proofs
theorem yGz {n lo hi:Int} (h:lo≤hi):lo≤zI n lo hi∧zI n lo hi≤hi:=by
 have h1:=Int.emod_nonneg n (show hi-lo+1≠0 by omega)
 have h2:=Int.emod_lt_of_pos n (show 0<hi-lo+1 by omega)
 rw[zI]
 constructor<;>omega
theorem yAd {V:List Vw} {k:Nat} {v:Vw} (h:V[k]? =some v):zF (V.map vwE) k 0 1=some [D.ro 10 (v.map zB)]:=by
 rw[zF,yXj,h];rfl
theorem zTi {els:List (List D)} {k:Nat} {m:MsgM} (h:els[k]? =some (xW m)):zF els k 0 7=some [D.v (.int .i64 m.seq),D.v (.int .i64 m.inst),D.v (.int .i64 m.side),D.v (.int .i64 m.price),D.v (.int .i64 m.qty),D.v (.int .i64 m.count),D.v (.bool m.implied)]:=by
 rw[zF,h];rfl
open Classical in
theorem zPj (v:Vw):zGb v v=true:=by
 unfold zGb
 exact yXb rfl
open Classical in
theorem zUh {M1 M2:List VM} {s1 s2:Int} {k:Nat} {x:VM} (h:(M1++M2)[k]? =some x):∃q:Int,((wA s1 M1).map xW++(wA s2 M2).map xW)[k]? =some (xW (toM q x)):=by
 have hl:((wA s1 M1).map xW).length=M1.length:=by rw[yWm,zTm]
 rcases yZi k M1.length with hk|hk
 ·rw[yYu hk]at h
  refine⟨s1+k+1,?_⟩
  rw[yYu (by omega),yXj,zSz h];rfl
 ·rw[yYd hk]at h
  refine⟨s2+(k-M1.length:Nat)+1,?_⟩
  rw[yYd (by omega),hl,yXj,zSz h];rfl
theorem zRi {V:List Vw} {p:Prd} {n:Int} (hne:V≠[]) (hV:∀v∈V,VwG p v) (hl:V.length≤31):(0≤zI n 0 ((V.length:Int)-1)∧zI n 0 ((V.length:Int)-1)<(V.length:Int))∧∃v,V[(zI n 0 ((V.length:Int)-1)).toNat]? =some v∧VwG p v:=by
 have h0:0<V.length:=List.length_pos_iff.2 hne
 have hb:=yGz (n:=n) (lo:=0) (hi:=(V.length:Int)-1) (by omega)
 refine⟨by omega,?_⟩
 obtain⟨v,hv⟩:=z6 (l:=V) (i:=(zI n 0 ((V.length:Int)-1)).toNat) (by omega)
 exact⟨v,hv,hV v (yWu hv)⟩
theorem yQs (i:VsI) (h:viewsC.cnd i):yCb i:=by
 obtain⟨hc,hs,hok,hlen⟩:i.p.check=0∧i.p.small∧(∀c∈i.l,c.raw)∧i.l.length≤9223372036854775807:=h
 have hml:(List.map cmdE i.l).length=i.l.length:=yWm _
 have hB0:BOk i.p (List.replicate i.p.count []):=BOk.new hc hs
 have hM0:=z2e i.p
 unfold yCb zGo zEd zAv cO jG wO zY dI
 rw[hml]
 refine⟨i.p,rfl,rfl,rfl,rfl,rfl,rfl,rfl,rfl,rfl,rfl,rfl,hs,fun _ _=> ?_,fun _ hne=>absurd hc hne⟩
 refine⟨mk0 i.p,rfl,hM0.s.small hB0,fun _ _=>⟨⟨rfl,trivial,rfl,rfl,rfl,rfl,rfl,rfl,rfl,rfl,trivial,trivial⟩,⟨(mk0 i.p).s,i.p,List.replicate i.p.count []⟩,rfl,rfl,rfl,rfl,rfl,rfl,rfl,rfl,rfl,rfl,rfl,rfl,⟨hM0.s,hB0⟩,fun _ _=> ?_⟩⟩
 refine⟨⟨mk0 i.p,0,[qX i.p (List.replicate i.p.count [])]⟩,rfl,rfl,rfl,fun j=>(j.k≤30∧j.k≤i.l.length)∧(j.V.length=j.k+1∧∀v∈j.V,VwG i.p v)∧∃B U,j.m.Rep i.p B U∧BOk i.p B,fun j=>30-j.k,⟨⟨yYa _,yYa _⟩,⟨rfl,fun v hv=> ?_⟩,_,_,hM0,hB0⟩,?_⟩
 ·rw[yXx]at hv
  subst hv
  exact yDv (hM0.s.wf hB0)
 rintro⟨m,k,V⟩ ⟨⟨hk1,hk2⟩,⟨hVl,hV⟩,B,U,hM,hB⟩
 dsimp only at hk1 hk2 hM hVl hV ⊢
 refine⟨true,fun b=>b=decide (k<i.l.length∧k<30),zK (fun c=>⟨_,rfl,decide_eq_decide.2 ⟨fun x=>⟨by omega,by omega⟩,fun x=>by omega⟩,by(repeat'(first|exact trivial|exact rfl|apply And.intro))⟩) (fun c=>⟨_,rfl,(yWx (by omega)).symm,by(repeat'(first|exact trivial|exact rfl|apply And.intro))⟩),?_⟩
 rintro _ rfl
 have hwf:=hM.s.wf hB
 refine zK (fun hb=> ?_) (fun _=> ?_)
 ·obtain⟨hb1,hb2⟩:=hb
  obtain⟨a,ha⟩:=z6 (l:=i.l) (i:=k) hb1
  have e2:=yUn ha
  have hcr:=hok a (yWu ha)
  have hlb:=z0x ⟨i.p,a,(k:Int)⟩
  have hq:=z9o ⟨i.p,a,(k:Int)⟩
  have hvl:(V.map vwE).length=V.length:=yWm _
  refine⟨⟨by omega,by omega⟩,a.kind,a.id,a.inst,a.side,a.price,a.qty,a.least,a.time,sb a.label,e2,⟨i.p,a,(k:Int)⟩,rfl,rfl,rfl,rfl,rfl,rfl,rfl,rfl,rfl,rfl,rfl,rfl,rfl,rfl,rfl,rfl,rfl,rfl,rfl,rfl,rfl,⟨hc,hs,hcr,by dsimp only;omega,by dsimp only;omega⟩,fun _ _=> ?_⟩
  generalize qR ⟨i.p,a,(k:Int)⟩=D at*
  refine⟨⟨m,i.p,B,U,D,doF i.p B U D⟩,rfl,rfl,rfl,rfl,rfl,rfl,rfl,rfl,rfl,rfl,⟨⟨hM,hB⟩,by dsimp only;rw[hlb];decide,by dsimp only;omega,rfl⟩,fun o ho=> ?_⟩
  have hB2:=yBv hwf U D
  refine⟨o,rfl,ho.s.small hB2,fun _ _=>⟨⟨rfl,trivial,rfl,rfl,rfl,rfl,rfl,rfl,rfl,rfl,trivial,trivial⟩,⟨o.s,i.p,(doF i.p B U D).B⟩,rfl,rfl,rfl,rfl,rfl,rfl,rfl,rfl,rfl,rfl,rfl,rfl,⟨ho.s,hB2⟩,fun _ _=>⟨by omega,⟨o,k+1,V++[qX i.p (doF i.p B U D).B]⟩,wjn (by omega),rfl,by rw[yWw];rfl,⟨⟨by dsimp only;omega,by dsimp only;omega⟩,⟨by rw[yWp,hVl];rfl,fun v hv=> ?_⟩,_,_,ho,hB2⟩,by dsimp only;omega,by(repeat'(first|exact trivial|exact rfl|apply And.intro))⟩⟩⟩
  rcases yXh.1 hv with hv|hv
  ·exact hV v hv
  ·rw[yXx]at hv
   subst hv
   exact yDv (ho.s.wf hB2)
 ·exact⟨V,rfl,fun e=>by rw[e]at hVl;simp at hVl,by omega,hV⟩
theorem views_ok:viewsC.ok Tryz.prog 13:=okw mixed (gokc z4r (gokc zWz (gokc z2g (gokc yGc (gokc yLp gok0))))) 0 (fun _=>yPr) (fun _=>yMq) [] Tryz.func13 yQs
theorem yMh {p:Prd} {v w:Vw} (hv:VwG p v) (hw:VwG p w):v.length=w.length∧Vw.levs v≤100000000∧Vw.levs w≤100000000∧v.length≤1000000:=by
 have h1:=zTd hv
 have h2:=zTd hw
 have h3:=hv.r.2
 have h4:=hw.r.2
 exact⟨by rw[hv.len,hw.len],by omega,by omega,by omega⟩
theorem zRr {p:Prd} {v w:Vw} (hv:VwG p v) (hw:VwG p w):∀m∈z9 0 v w,zZd p.count m:=fun m hm=>by
 have:=z2k 0 v w (yLl hv) (yLl hw) m hm
 rwa [yXl,hv.len]at this
theorem vfp (i:FpI) (h:fpC.cnd i):Vfp i:=by
 obtain⟨hraw,hok,hlen,ha,hb,hc⟩:i.ok:=h
 unfold Vfp yO kB qH gD yFl zIi lK zTv zTx yEw z8n jN qD zTh wR zSx zSu zIu zRb zTk cY gR dI
 refine⟨i.x,rfl,rfl,rfl,rfl,rfl,rfl,rfl,rfl,rfl,rfl,rfl,hraw,fun _ _=>⟨⟨g7 i.x,i.l⟩,rfl,rfl,rfl,rfl,rfl,rfl,rfl,rfl,rfl,rfl,rfl,rfl,⟨zVj i.x,zYa i.x,hok,hlen⟩,fun V hV=> ?_⟩⟩
 obtain⟨hne,hl,hV⟩:=hV
 have hV:∀v∈V,VwG (g7 i.x) v:=hV
 have hvl:(V.map vwE).length=V.length:=yWm _
 have h0:0<V.length:=List.length_pos_iff.2 hne
 have hw:((V.length:Int)-1)=IntKind.i64.wrap (((V.map vwE).length:Nat)-1):=by rw[hvl,w64 (by omega)]
 obtain⟨ba,A,eA,gA⟩:=zRi (n:=i.a) hne hV hl
 obtain⟨bb,B,eB,gB⟩:=zRi (n:=i.b) hne hV hl
 obtain⟨bc,C,eC,gC⟩:=zRi (n:=i.c) hne hV hl
 refine Cv.cnd.mk (fun e=>absurd e (by rw[hvl];simp;omega)) (fun _=>⟨⟨i.a,0,(V.length:Int)-1⟩,rfl,rfl,hw,⟨ha,by dsimp only;omega,by dsimp only;omega,by dsimp only;omega⟩,fun _ _=>⟨by rw[hvl];exact ba,_,yAd eA,⟨i.b,0,(V.length:Int)-1⟩,rfl,rfl,hw,⟨hb,by dsimp only;omega,by dsimp only;omega,by dsimp only;omega⟩,fun _ _=>⟨by rw[hvl];exact bb,_,yAd eB,⟨i.c,0,(V.length:Int)-1⟩,rfl,rfl,hw,⟨hc,by dsimp only;omega,by dsimp only;omega,by dsimp only;omega⟩,fun _ _=>⟨by rw[hvl];exact bc,_,yAd eC,?_⟩⟩⟩⟩)
 obtain⟨dl1,d1,d2,d3⟩:=yMh gA gB
 obtain⟨dl2,d4,d5,d6⟩:=yMh gB gC
 obtain⟨dl3,d7,d8,d9⟩:=yMh gB gA
 have n1:=zTq gA gB
 have n2:=zTq gB gC
 have n3:=zTq gB gA
 have o1:=nU gA.r
 have o2:=nU gB.r
 have o3:=nU gC.r
 have m1:∀m∈z9 0 A B++z9 0 B C,zZd (g7 i.x).count m:=fun m hm=>(yXh.1 hm).elim (zRr gA gB m) (zRr gB gC m)
 have m2:∀m∈z9 0 A B++z9 0 B A,zZd (g7 i.x).count m:=fun m hm=>(yXh.1 hm).elim (zRr gA gB m) (zRr gB gA m)
 have l1:∀(s:Int) (M:List VM),((wA s M).map xW).length=M.length:=fun s M=>by rw[yWm,zTm]
 have l2:(z9 0 A B++z9 0 B C).length≤600000:=by rw[yWp];omega
 have l3:(z9 0 A B++z9 0 B A).length≤600000:=by rw[yWp];omega
 have fin1:=zLh dl1 dl2 o1 o2 o3
 have fin2:=zLh dl1 dl3 o1 o2 o1
 refine⟨⟨A,B,0⟩,rfl,rfl,rfl,⟨dl1,⟨by dsimp only;omega,by dsimp only;omega⟩,d1,d2,d3⟩,fun _ _=>⟨⟨trivial,trivial⟩,⟨trivial,trivial⟩,⟨B,C,5⟩,rfl,rfl,rfl,⟨dl2,⟨by dsimp only;omega,by dsimp only;omega⟩,d4,d5,d6⟩,fun _ _=>⟨by rw[l1,l1];dsimp only;omega,?_⟩⟩⟩
 dsimp only
 refine⟨⟨A,0⟩,rfl,rfl,fun j=>j.k≤(z9 0 A B++z9 0 B C).length∧j.v=atV A (z9 0 A B++z9 0 B C) j.k,fun j=>(z9 0 A B++z9 0 B C).length-j.k,⟨yYa _,(yEq _ _).symm⟩,?_⟩
 rintro⟨v,k⟩ ⟨hk,hv⟩
 dsimp only at hk hv ⊢
 subst hv
 have hll:(((wA 0 (z9 0 A B)).map xW++(wA 5 (z9 0 B C)).map xW).length:Nat)=(z9 0 A B++z9 0 B C).length:=by rw[yWp,l1,l1,yWp]
 rw[hll]
 refine zK (fun hlt=> ?_) (fun hlt=> ?_)
 ·obtain⟨x,hx⟩:=z6 (l:=z9 0 A B++z9 0 B C) (i:=k) (by omega)
  obtain⟨q,hq⟩:=zUh (s1:=0) (s2:=5) hx
  obtain⟨a1,a2,a3,a4⟩:=z2y gA l2 m1 hx q
  have bd:(0:Int)≤(k:Int)∧(k:Int)<((z9 0 A B++z9 0 B C).length:Nat):=⟨by omega,hlt⟩
  refine⟨bd,_,_,_,_,_,_,_,zTi hq,?_,⟨_,_,_,_,_,_,_,zTi hq,rfl,rfl,rfl,rfl,rfl,rfl,rfl,trivial⟩,⟨bd,rfl⟩,⟨trivial,trivial⟩,?_⟩
  all_goals exact⟨⟨_,toM q x⟩,rfl,rfl,rfl,rfl,rfl,rfl,rfl,rfl,⟨a1,a2,a3⟩,fun _ _=>⟨⟨atV A (z9 0 A B++z9 0 B C) (k+1),k+1⟩,wjn (by omega),congrArg (fun z:Vw=>AObj.fro 10 (z.map zB)) a4.symm,⟨by dsimp only;omega,rfl⟩,by dsimp only;omega,by(repeat'(first|exact trivial|exact rfl|apply And.intro))⟩⟩
 ·obtain rfl:k=(z9 0 A B++z9 0 B C).length:=by omega
  rw[z2j,fin1]
  refine⟨⟨A,B,0⟩,rfl,rfl,rfl,⟨dl1,⟨by dsimp only;omega,by dsimp only;omega⟩,d1,d2,d3⟩,fun _ _=>⟨⟨trivial,trivial⟩,⟨trivial,trivial⟩,⟨B,A,0⟩,rfl,rfl,rfl,⟨dl3,⟨by dsimp only;omega,by dsimp only;omega⟩,d7,d8,d9⟩,fun _ _=>⟨by rw[l1,l1];dsimp only;omega,?_⟩⟩⟩
  dsimp only
  refine⟨⟨A,0⟩,rfl,rfl,fun j=>j.k≤(z9 0 A B++z9 0 B A).length∧j.v=atV A (z9 0 A B++z9 0 B A) j.k,fun j=>(z9 0 A B++z9 0 B A).length-j.k,⟨yYa _,(yEq _ _).symm⟩,?_⟩
  rintro⟨v,k⟩ ⟨hk,hv⟩
  dsimp only at hk hv ⊢
  subst hv
  have hll:(((wA 0 (z9 0 A B)).map xW++(wA 0 (z9 0 B A)).map xW).length:Nat)=(z9 0 A B++z9 0 B A).length:=by rw[yWp,l1,l1,yWp]
  rw[hll]
  refine zK (fun hlt=> ?_) (fun hlt=> ?_)
  ·obtain⟨x,hx⟩:=z6 (l:=z9 0 A B++z9 0 B A) (i:=k) (by omega)
   obtain⟨q,hq⟩:=zUh (s1:=0) (s2:=0) hx
   obtain⟨a1,a2,a3,a4⟩:=z2y gA l3 m2 hx q
   have bd:(0:Int)≤(k:Int)∧(k:Int)<((z9 0 A B++z9 0 B A).length:Nat):=⟨by omega,hlt⟩
   refine⟨bd,_,_,_,_,_,_,_,zTi hq,?_,⟨_,_,_,_,_,_,_,zTi hq,rfl,rfl,rfl,rfl,rfl,rfl,rfl,trivial⟩,⟨bd,rfl⟩,⟨trivial,trivial⟩,?_⟩
   all_goals exact⟨⟨_,toM q x⟩,rfl,rfl,rfl,rfl,rfl,rfl,rfl,rfl,⟨a1,a2,a3⟩,fun _ _=>⟨⟨atV A (z9 0 A B++z9 0 B A) (k+1),k+1⟩,wjn (by omega),congrArg (fun z:Vw=>AObj.fro 10 (z.map zB)) a4.symm,⟨by dsimp only;omega,rfl⟩,by dsimp only;omega,by(repeat'(first|exact trivial|exact rfl|apply And.intro))⟩⟩
  ·obtain rfl:k=(z9 0 A B++z9 0 B A).length:=by omega
   rw[z2j,fin2]
   refine⟨⟨C,C⟩,rfl,rfl,⟨gC.s,gC.s⟩,fun _ _=>Cv.cnd.mk (fun _=>⟨⟨A,A⟩,rfl,rfl,⟨gA.s,gA.s⟩,fun _ _=>Cv.cnd.mk (fun _=>⟨⟨A,B,0⟩,rfl,rfl,rfl,⟨dl1,⟨by dsimp only;omega,by dsimp only;omega⟩,d1,d2,d3⟩,fun _ _=>⟨⟨trivial,trivial⟩,⟨trivial,trivial⟩,⟨B,A,9⟩,rfl,rfl,rfl,⟨dl3,⟨by dsimp only;omega,by dsimp only;omega⟩,d7,d8,d9⟩,fun _ _=>⟨rfl,Cv.cnd.mk (fun _=>⟨(),trivial,fun _ _=>⟨(),rfl,trivial⟩⟩) (fun e=> ?_)⟩⟩⟩) (fun e=> ?_)⟩) (fun e=> ?_)⟩
   ·exfalso
    rw[l1,l1,yFs 0 A B]at e
    simp at e
   ·rw[zPj]at e;cases e
   ·rw[zPj]at e;cases e
end Sx
