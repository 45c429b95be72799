/- Texts of ours, one behind the other: a walk that the kernel reckons, and contracts of functions. No condition. -/
import Derived.Test.YtogkpgfggfbhaaaGreatX11
namespace Sx
set_option linter.unusedVariables false
set_option maxRecDepth 100000
open Go Cv Go.Proofs
def vJ (a:GdI):Prop:=(a.g.m.Rep a.p a.B a.U∧BOk a.p a.B)∧a.b.length≤1099511627776∧a.X=dC a.p a.B a.U a.g.W a.s a.b
def qB (a:GdI):=(↑(List.map gN a.X.O).length:Int)
def gC (a:GdI):Prop:=(0:Int)≤(0:Int)∧0<(qB a)
def qQ (a:Prd):=(Gt.mk (Mkt.mk a (cT a) []) [])
def zQr (u:Unit):Prop:=
 ∃(a:Int),a=1∧True∧∀(b:Unit),True→∃(c:Prd),sb c.code=sb [(67:UInt8),(76:UInt8)]∧iE c.months=iE [(320:Int),(321:Int),(323:Int)]∧c.tick=5∧c.low=0∧c.high=1000∧c.wide=200∧c.rule=a∧c.top=4∧c.least=2∧c.part=40∧iE c.settle=iE [(500:Int),(505:Int),(490:Int)]∧(zY c)∧(∀(d:Unit),c.check=0→(1:Nat)≤(7:Nat)∧∃(e:GdI),e.s=0∧bE e.b=[[D.v (.int .u8 114)],[D.v (.int .u8 117)],[D.v (.int .u8 98)],[D.v (.int .u8 98)],[D.v (.int .u8 105)],[D.v (.int .u8 115)],[D.v (.int .u8 104)]]∧GtR e.g=GtR (qQ c)∧(vJ e)∧∀(f:Mkt),f.Rep e.p e.X.B e.X.U→∃(g:Cmd),g.kind=1∧g.id=7∧g.inst=0∧g.side=1∧g.price=5∧g.qty=3∧g.least=0∧g.time=1∧sb g.label=ByteArray.mk #[]∧(g.label=[]∧g.right=0)∧∀(h:Unit),True→∃(j:GdI),j.s=3∧bE j.b=bE g.enc∧GtR j.g=GtR (Gt.mk f e.X.W)∧(vJ j)∧∀(k:Mkt),k.Rep j.p j.X.B j.X.U→∃(l:GtI),l.s=7∧GtR l.g=GtR (Gt.mk k j.X.W)∧True∧∀(m:Unit),True→cnd ((qB e)==1) ((gC e)∧∃(n:Int),zE (List.map gN e.X.O) (Int.toNat 0) ((0:Nat)+(1:Nat)+0) 1=some [dI n]∧cnd (n==2) ((gC e)∧∃(p:Int),zE (List.map gN e.X.O) (Int.toNat 0) ((0:Nat)+(1:Nat)+7) 1=some [dI p]∧cnd (p==31) (cnd ((qB j)==1) ((gC j)∧∃(q:Int),zE (List.map gN j.X.O) (Int.toNat 0) ((0:Nat)+(0:Nat)) 1=some [dI q]∧cnd (q==3) ((gC j)∧∃(r:Int),zE (List.map gN j.X.O) (Int.toNat 0) ((0:Nat)+(1:Nat)+0) 1=some [dI r]∧cnd (r==1) (cnd ((wO l.g.W l.s).fst==3) (cnd (wO l.g.W l.s).snd (∃(s:GtI),s.s=3∧GtR s.g=GtR l.g∧(s.g.m.Rep s.p s.B s.U∧BOk s.p s.B)∧∀(t:Unit),True→∃(v:Unit),true=((↑(tP s.B s.g.W s.s):Int)==1)∧True) (∃(s:Unit),true=false∧True)) (∃(s:Unit),true=false∧True)) (∃(s:Unit),true=false∧True)) (∃(r:Unit),true=false∧True)) (∃(q:Unit),true=false∧True)) (∃(q:Unit),true=false∧True)) (∃(p:Unit),true=false∧True)) (∃(n:Unit),true=false∧True))∧∀(d:Unit),c.check≠0→∃(e:Unit),true=false∧True
def zWc (a:AgI):Prop:=Sx.AObj.cells [V.d (D.v (Value.string (sb a.x.code))),V.own 0,V.d (dI a.x.tick),V.d (dI a.x.low),V.d (dI a.x.high),V.d (dI a.x.wide),V.d (dI a.x.rule),V.d (dI a.x.top),V.d (dI a.x.least),V.d (dI a.x.part),V.own ((0:Nat)+(1:Nat))] 26=Sx.AObj.cells [V.d (D.v (Value.string (sb a.x.code))),V.own 0,V.d (dI a.x.tick),V.d (dI a.x.low),V.d (dI a.x.high),V.d (dI a.x.wide),V.d (dI a.x.rule),V.d (dI a.x.top),V.d (dI a.x.least),V.d (dI a.x.part),V.own ((0:Nat)+(1:Nat))] 26∧AObj.fro 1 (iE a.x.settle)=AObj.fro 1 (iE a.x.settle)∧AObj.fro 1 (iE a.x.months)=AObj.fro 1 (iE a.x.months)
def zEe (a:Prd) (b:AgI):Prop:=Sx.AObj.cells (jX (zGz ((0:Nat)+(1:Nat)+(1:Nat)+(1:Nat)) (jA [] 0 []) 3) [sV a.code,V.own 1,zA a.tick,zA a.low,zA a.high,zA a.wide,zA a.rule,zA a.top,zA a.least,zA a.part,V.own 2]) (26:TypeId)=Sx.AObj.cells (jX (zGz ((0:Nat)+(1:Nat)+(1:Nat)+(1:Nat)) (jA [] 0 []) 3) [sV a.code,V.own 1,zA a.tick,zA a.low,zA a.high,zA a.wide,zA a.rule,zA a.top,zA a.least,zA a.part,V.own 2]) (26:TypeId)∧AObj.fro 1 (iE a.months)=AObj.fro 1 (iE a.months)∧AObj.fro 1 (iE a.settle)=AObj.fro 1 (iE a.settle)∧zWc b
def zWg (a:Mkt) (b:GdI) (c:Mkt) (d:GdI) (e:Prd) (f:AgI):Prop:=GtR (Gt.mk a b.X.W)=GtR (Gt.mk a b.X.W)∧AObj.own zWx 9 (List.map gN b.X.O)=AObj.own zWx 9 (List.map gN b.X.O)∧GtR (Gt.mk c d.X.W)=GtR (Gt.mk c d.X.W)∧AObj.own zWx 9 (List.map gN d.X.O)=AObj.own zWx 9 (List.map gN d.X.O)∧zEe e f
def zVp (a:Mkt) (b:Mkt→Prop) (c:Mkt) (d:GdI) (e:Mkt) (f:GdI) (g:Prd) (h:AgI):Prop:=∃(j:Mkt),xS j=xS a∧b j∧zWg c d e f g h
def zXm (a:Mkt) (b:Mkt) (c:GdI) (d:Mkt) (e:GdI) (f:Prd) (g:AgI):Prop:=xS a=xS a∧zWg b c d e f g
def zWh (a:Prd) (b:Prd) (c:AgI):Prop:=GtR (qQ a)=GtR (qQ a)∧zEe b c
def zXk (a:Prd) (b:Prd) (c:AgI):Prop:=∃(d:Bool),∃(e:Bool→Prop),(∃(f:Bool),f=true∧e f∧zWh a b c)∧∀(f:Bool),e f→cnd f (∃(g:Unit),true=false∧True) (∃(g:GcJ),False)
def zXi (a:Bool→Prop) (b:Bool) (c:GcJ) (d:Prd) (e:AgI):Prop:=a b∧GtR c.g=GtR c.g∧GtR c.h=GtR c.h∧zEe d e
def zWm (a:TmI):Prop:=a.p.check=0∧(a.p.code.length≤1099511627776∧a.p.months.length≤1099511627776∧a.p.settle.length≤1099511627776)∧(((-9223372036854775808)≤a.c.kind∧a.c.kind≤9223372036854775807)∧((-9223372036854775808)≤a.c.id∧a.c.id≤9223372036854775807)∧((-9223372036854775808)≤a.c.inst∧a.c.inst≤9223372036854775807)∧((-9223372036854775808)≤a.c.side∧a.c.side≤9223372036854775807)∧((-9223372036854775808)≤a.c.price∧a.c.price≤9223372036854775807)∧((-9223372036854775808)≤a.c.qty∧a.c.qty≤9223372036854775807)∧((-9223372036854775808)≤a.c.least∧a.c.least≤9223372036854775807)∧(-9223372036854775808)≤a.c.time∧a.c.time≤9223372036854775807)∧0≤a.i∧a.i≤1000000
def Vgc (i:AgI):Prop:=
 ∃(a:Prd),∃(b:Prd→Prop),(∃(c:Prd),sb c.code=sb i.x.code∧iE c.months=iE i.x.months∧c.tick=i.x.tick∧c.low=i.x.low∧c.high=i.x.high∧c.wide=i.x.wide∧c.rule=i.x.rule∧c.top=i.x.top∧c.least=i.x.least∧c.part=i.x.part∧iE c.settle=iE i.x.settle∧(((-9223372036854775808)≤c.tick∧c.tick≤9223372036854775807)∧((-9223372036854775808)≤c.wide∧c.wide≤9223372036854775807)∧((-9223372036854775808)≤c.rule∧c.rule≤9223372036854775807)∧((-9223372036854775808)≤c.top∧c.top≤9223372036854775807)∧((-9223372036854775808)≤c.least∧c.least≤9223372036854775807)∧((-9223372036854775808)≤c.part∧c.part≤9223372036854775807)∧c.months.length≤9223372036854775807)∧∀(d:Unit),True→∃(e:Prd),sb e.code=sb [(206:UInt8),(169:UInt8)]∧e.tick=zT c∧e.low=(-20)*zT c∧e.high=100*zT c∧e.wide=zT c*(5+zF c.wide 0 60)∧e.rule=1+zF c.rule 0 2∧e.top=zF c.top 0 9∧e.least=1+zF c.least 0 4∧e.part=zF c.part 0 100∧AObj.fro 1 (iE e.months)=AObj.fro 1 (iE (kT (kN c).toNat))∧AObj.fro 1 (iE e.settle)=AObj.fro 1 (iE (qN (zT c) (kN c).toNat))∧b e∧zWc i)∧∀(c:Prd),b c→∃(d:Prd),sb d.code=sb c.code∧iE d.months=iE c.months∧d.tick=c.tick∧d.low=c.low∧d.high=c.high∧d.wide=c.wide∧d.rule=c.rule∧d.top=c.top∧d.least=c.least∧d.part=c.part∧iE d.settle=iE c.settle∧(zY d)∧(∀(e:Unit),d.check=0→∃(f:Prd),sb f.code=sb c.code∧iE f.months=iE c.months∧f.tick=c.tick∧f.low=c.low∧f.high=c.high∧f.wide=c.wide∧f.rule=c.rule∧f.top=c.top∧f.least=c.least∧f.part=c.part∧iE f.settle=iE c.settle∧(zY f)∧(∀(g:Unit),f.check=0→∃(h:Bool),∃(j:Bool→Prop),(∃(k:Bool),k=((0:Int) !=(0:Int))∧j k∧GtR (qQ f)=GtR (qQ f)∧zWh d c i)∧∀(k:Bool),j k→cnd k (∃(l:Unit),true=false∧True) (∃(l:GcJ),(↑l.k:Int)=0∧GtR l.g=GtR (qQ d)∧GtR l.h=GtR (qQ f)∧∃(m:GcJ→Prop),∃(n:GcJ→Nat),m l∧∀(p:GcJ),m p→∃(q:Bool),∃(r:Bool→Prop),cnd (decide ((↑p.k:Int)<(↑(List.map gaskE i.l).length:Int))) (∃(s:Bool),s=decide ((↑p.k:Int)<30)∧zXi r s p c i) (∃(s:Bool),s=false∧zXi r s p c i)∧∀(s:Bool),r s→cnd s ((0≤(↑p.k:Int)∧(↑p.k:Int)<(↑(List.map gaskE i.l).length:Int))∧∃(t:Int),zE (List.map gaskE i.l) (↑p.k:Int).toNat ((0:Nat)+(0:Nat)) 1=some [dI t]∧∃(u:WiI),u.n=t∧u.lo=0∧u.hi=3∧(yV u)∧∀(v:Unit),True→(0≤(↑p.k:Int)∧(↑p.k:Int)<(↑(List.map gaskE i.l).length:Int))∧∃(w:Int),∃(x:Int),∃(y:Int),∃(z:Int),∃(a_1:Int),∃(a_2:Int),∃(a_3:Int),∃(a_4:Int),∃(a_5:ByteArray),zE (List.map gaskE i.l) (↑p.k:Int).toNat ((0:Nat)+(1:Nat)) 9=some [dI w,dI x,dI y,dI z,dI a_1,dI a_2,dI a_3,dI a_4,D.v (Value.string a_5)]∧∃(a_6:TmI),sb a_6.p.code=sb c.code∧iE a_6.p.months=iE c.months∧a_6.p.tick=c.tick∧a_6.p.low=c.low∧a_6.p.high=c.high∧a_6.p.wide=c.wide∧a_6.p.rule=c.rule∧a_6.p.top=c.top∧a_6.p.least=c.least∧a_6.p.part=c.part∧iE a_6.p.settle=iE c.settle∧a_6.c.kind=w∧a_6.c.id=x∧a_6.c.inst=y∧a_6.c.side=z∧a_6.c.price=a_1∧a_6.c.qty=a_2∧a_6.c.least=a_3∧a_6.c.time=a_4∧sb a_6.c.label=a_5∧a_6.i=(↑p.k:Int)∧(zWm a_6)∧∀(a_7:Unit),True→∃(a_8:Cmd),a_8.kind=(y9 a_6).kind∧a_8.id=(y9 a_6).id∧a_8.inst=(y9 a_6).inst∧a_8.side=(y9 a_6).side∧a_8.price=(y9 a_6).price∧a_8.qty=(y9 a_6).qty∧a_8.least=(y9 a_6).least∧a_8.time=(y9 a_6).time∧sb a_8.label=sb (y9 a_6).label∧(a_8.label=[]∧a_8.right=0)∧∀(a_9:Unit),True→∃(a_10:GtI),GtR a_10.g=GtR p.g∧(a_10.g.m.Rep a_10.p a_10.B a_10.U∧BOk a_10.p a_10.B)∧∀(a_11:Unit),True→∃(a_12:MfI),xS a_12.m=xS a_10.g.m∧(a_12.m.Rep a_12.p a_12.B a_12.U∧BOk a_12.p a_12.B)∧∀(a_13:Unit),True→∃(a_14:GdI),a_14.s=zF u.n u.lo u.hi∧bE a_14.b=bE a_8.enc∧GtR a_14.g=GtR a_10.g∧(vJ a_14)∧∀(a_15:Mkt),a_15.Rep a_14.p a_14.X.B a_14.X.U→∃(a_16:GdI),a_16.s=zF u.n u.lo u.hi∧bE a_16.b=bE a_8.enc∧GtR a_16.g=GtR p.h∧(vJ a_16)∧∀(a_17:Mkt),a_17.Rep a_16.p a_16.X.B a_16.X.U→∃(a_18:MfI),xS a_18.m=xS a_12.m∧(a_18.m.Rep a_18.p a_18.B a_18.U∧BOk a_18.p a_18.B)∧∀(a_19:Unit),True→cnd ((↑(tK a_18.B):Int) !=(↑(tK a_12.B):Int)) (∃(a_20:Unit),true=false∧True) (∃(a_20:Mkt),xS a_20=xS a_18.m∧∃(a_21:Mkt→Prop),cnd (decide ((↑p.k:Int)<(↑(List.map gaskE i.q).length:Int))) ((0≤(↑p.k:Int)∧(↑p.k:Int)<(↑(List.map gaskE i.q).length:Int))∧∃(a_22:Int),∃(a_23:Int),∃(a_24:Int),∃(a_25:Int),∃(a_26:Int),∃(a_27:Int),∃(a_28:Int),∃(a_29:Int),∃(a_30:ByteArray),zE (List.map gaskE i.q) (↑p.k:Int).toNat ((0:Nat)+(1:Nat)) 9=some [dI a_22,dI a_23,dI a_24,dI a_25,dI a_26,dI a_27,dI a_28,dI a_29,D.v (Value.string a_30)]∧∃(a_31:TmI),sb a_31.p.code=sb c.code∧iE a_31.p.months=iE c.months∧a_31.p.tick=c.tick∧a_31.p.low=c.low∧a_31.p.high=c.high∧a_31.p.wide=c.wide∧a_31.p.rule=c.rule∧a_31.p.top=c.top∧a_31.p.least=c.least∧a_31.p.part=c.part∧iE a_31.p.settle=iE c.settle∧a_31.c.kind=a_22∧a_31.c.id=a_23∧a_31.c.inst=a_24∧a_31.c.side=a_25∧a_31.c.price=a_26∧a_31.c.qty=a_27∧a_31.c.least=a_28∧a_31.c.time=a_29∧sb a_31.c.label=a_30∧a_31.i=IntKind.i64.wrap (60+(↑p.k:Int))∧(zWm a_31)∧∀(a_32:Unit),True→∃(a_33:EnI),a_33.c.kind=(y9 a_31).kind∧a_33.c.id=(y9 a_31).id∧a_33.c.inst=(y9 a_31).inst∧a_33.c.side=(y9 a_31).side∧a_33.c.price=(y9 a_31).price∧a_33.c.qty=(y9 a_31).qty∧a_33.c.least=(y9 a_31).least∧a_33.c.time=(y9 a_31).time∧sb a_33.c.label=sb (y9 a_31).label∧xS a_33.m=xS a_20∧(zBf a_33)∧∀(a_34:Mkt),a_34.Rep a_33.p a_33.X.B a_33.X.U→zVp a_34 a_21 a_17 a_16 a_15 a_14 c i) (zVp a_20 a_21 a_17 a_16 a_15 a_14 c i)∧∀(a_22:Mkt),a_21 a_22→cnd ((qB a_14) !=(qB a_16)) (∃(a_23:Unit),true=false∧True) (∃(a_23:Nat),(↑a_23:Int)=0∧∃(a_24:Nat→Prop),∃(a_25:Nat→Nat),a_24 a_23∧∀(a_26:Nat),a_24 a_26→cnd (decide ((↑a_26:Int)<(qB a_14))) (∃(a_27:Bool),∃(a_28:Bool→Prop),((0≤(↑a_26:Int)∧(↑a_26:Int)<(qB a_14))∧∃(a_29:Int),∃(a_30:Int),∃(a_31:Int),∃(a_32:Int),∃(a_33:Int),∃(a_34:Int),∃(a_35:Int),∃(a_36:Int),∃(a_37:Int),zE (List.map gN a_14.X.O) (↑a_26:Int).toNat 0 9=some [dI a_29,dI a_30,dI a_31,dI a_32,dI a_33,dI a_34,dI a_35,dI a_36,dI a_37]∧(0≤(↑a_26:Int)∧(↑a_26:Int)<(qB a_16))∧∃(a_38:Int),∃(a_39:Int),∃(a_40:Int),∃(a_41:Int),∃(a_42:Int),∃(a_43:Int),∃(a_44:Int),∃(a_45:Int),∃(a_46:Int),zE (List.map gN a_16.X.O) (↑a_26:Int).toNat 0 9=some [dI a_38,dI a_39,dI a_40,dI a_41,dI a_42,dI a_43,dI a_44,dI a_45,dI a_46]∧∃(a_47:Bool),a_47=!(a_29==a_38 && (a_30==a_39 && (a_31==a_40 && (a_32==a_41 && (a_33==a_42 && (a_34==a_43 && (a_35==a_44 && (a_36==a_45 && (a_37==a_46 && true))))))) && true))∧a_28 a_47∧zXm a_22 a_17 a_16 a_15 a_14 c i)∧∀(a_29:Bool),a_28 a_29→cnd a_29 (∃(a_30:Unit),true=false∧True) (∃(a_30:Nat),(↑a_30:Int)=IntKind.i64.wrap ((↑a_26:Int)+1)∧a_24 a_30∧a_25 a_30<a_25 a_26∧zXm a_22 a_17 a_16 a_15 a_14 c i)) (∃(a_27:GcJ),(↑a_27.k:Int)=IntKind.i64.wrap ((↑p.k:Int)+1)∧GtR a_27.g=GtR (Gt.mk a_15 a_14.X.W)∧GtR a_27.h=GtR (Gt.mk a_17 a_16.X.W)∧m a_27∧n a_27<n p∧zEe c i)))) (∃(t:GtI),GtR t.g=GtR p.g∧(t.g.m.Rep t.p t.B t.U∧BOk t.p t.B)∧∀(u:Unit),True→∃(v:MfI),xS v.m=xS t.g.m∧(v.m.Rep v.p v.B v.U∧BOk v.p v.B)∧∀(w:Unit),True→∃(x:GtI),GtR x.g=GtR p.h∧(x.g.m.Rep x.p x.B x.U∧BOk x.p x.B)∧∀(y:Unit),True→∃(z:MfI),xS z.m=xS x.g.m∧(z.m.Rep z.p z.B z.U∧BOk z.p z.B)∧∀(a_1:Unit),True→cnd ((↑(tK v.B):Int)==(↑(tK z.B):Int)) (∃(a_2:Unit),True∧∀(a_3:Unit),True→∃(a_4:Unit),true=true∧True) (∃(a_2:Unit),true=false∧True))))∧∀(g:Unit),f.check≠0→zXk d c i)∧∀(e:Unit),d.check≠0→∃(f:Prd),sb f.code=sb c.code∧iE f.months=iE c.months∧f.tick=c.tick∧f.low=c.low∧f.high=c.high∧f.wide=c.wide∧f.rule=c.rule∧f.top=c.top∧f.least=c.least∧f.part=c.part∧iE f.settle=iE c.settle∧(zY f)∧(∀(g:Unit),f.check=0→zXk f c i)∧∀(g:Unit),f.check≠0→∃(h:Bool),∃(j:Bool→Prop),(∃(k:Bool),k=true∧j k∧zEe c i)∧∀(k:Bool),j k→cnd k (∃(l:Unit),true=false∧True) (∃(l:GcJ),False)
theorem eqgc (i:AgI):Vgc i=walk Tryz.prog ([(20,kprodC),(14,newGC),(17,withinC),(21,tameC),(15,r6encC),(23,gmktC),(25,mcountC),(16,gdoC),(26,doC),(19,known18C)]) 0 (gcJ) (gcA) [] Tryz.f5 (Tryz.f5.body.getD .skip) (gcC.pat i) (gcC.pre i) (gcC.alts i):=by kernel_rfl
set_option linter.unusedSimpArgs false
open Go Cv Go.Proofs
theorem zQi {c:Cmd} (h:c.right=0):c.enc.length≤1099511627776:=by
 have e:c.enc=lob c.kind::(le c.id 8++c.tail):=by rw[Cmd.enc,yRd (by simp[h])]
 have ht:c.tail.length≤300:=by
  rw[Cmd.tail]
  split
  ·simp only[yRt,yRi,vZ,zEq,yRz];omega
  split
  ·rw[vZ];omega
  split
  ·rw[yRi,vZ,vZ];omega
  ·exact ySr _
 rw[e,yRt,yRi,vZ];omega
theorem zQe {p:Prd} {B:List (List zH)} (h:BWf p B) (U:List Int) {W:List (Int×Int)} {s:Int} {b:List UInt8}:BOk p (dC p B U W s b).B:=by
 rw[dC]
 split
 ·exact h.ok
 split
 ·exact h.ok
 rw[zSb]
 split
 ·exact h.ok
 split
 ·exact h.ok
 ·exact yKd h U _
def kb18:Cmd:=⟨1,7,0,1,5,3,0,1,[]⟩
def kG1:GtX:=dC (f8 1) (List.replicate (f8 1).count []) [] [] 0 [114,117,98,98,105,115,104]
def kG2:GtX:=dC (f8 1) kG1.B kG1.U kG1.W 3 kb18.enc
theorem yQc:kG1.O=[(0,⟨2,0,0,0,0,0,0,31⟩)]:=by kernel_rfl
theorem yQa:kG2.O=[(3,⟨1,7,0,1,5,3,3,0⟩)]:=by kernel_rfl
theorem yQq:wO kG2.W 7=(3,true):=by kernel_rfl
theorem yPi:tP kG2.B kG2.W 3=1:=by kernel_rfl
theorem yBb (u:Unit) (h:known18C.cnd u):zQr u:=by
 have hc:(f8 1).check=0:=by decide+kernel
 have hp:(f8 1).small:=by refine⟨?_,?_,?_⟩<;>decide
 have hB0:=BOk.new hc hp
 have hM0:=zOh (f8 1)
 have hB1:BOk (f8 1) kG1.B:=zQe (hM0.s.wf hB0) _
 have hr:kb18.right=0:=by decide+kernel
 unfold zQr qQ gC qB vJ zY dI
 refine⟨1,rfl,trivial,fun _ _=>⟨f8 1,rfl,rfl,rfl,rfl,rfl,rfl,rfl,rfl,rfl,rfl,rfl,hp,fun _ _=>⟨by decide,⟨⟨mk0 (f8 1),[]⟩,f8 1,List.replicate (f8 1).count [],[],0,[114,117,98,98,105,115,104],kG1⟩,rfl,rfl,rfl,⟨⟨hM0,hB0⟩,by dsimp only;decide,by dsimp only;rw[kG1]⟩,fun o1 ho1=>⟨kb18,rfl,rfl,rfl,rfl,rfl,rfl,rfl,rfl,rfl,⟨rfl,hr⟩,fun _ _=> ?_⟩⟩,fun _ hx=>absurd hc hx⟩⟩
 have hB2:BOk (f8 1) kG2.B:=zQe (ho1.s.wf hB1) _
 refine⟨⟨⟨o1,kG1.W⟩,f8 1,kG1.B,kG1.U,3,kb18.enc,kG2⟩,rfl,rfl,rfl,⟨⟨ho1,hB1⟩,zQi hr,by dsimp only;rw[kG2]⟩,fun o2 ho2=> ?_⟩
 dsimp only at ho2 ⊢
 rw[yQc,yQa]
 refine⟨⟨⟨o2,kG2.W⟩,f8 1,kG2.B,kG2.U,7⟩,rfl,rfl,trivial,fun _ _=> ?_⟩
 dsimp only
 rw[yQq]
 refine Cv.cnd.mk (fun _=>⟨⟨by decide,by decide⟩,_,rfl,Cv.cnd.mk (fun _=>⟨⟨by decide,by decide⟩,_,rfl,Cv.cnd.mk (fun _=>Cv.cnd.mk (fun _=>⟨⟨by decide,by decide⟩,_,rfl,Cv.cnd.mk (fun _=>⟨⟨by decide,by decide⟩,_,rfl,Cv.cnd.mk (fun _=>Cv.cnd.mk (fun _=>Cv.cnd.mk (fun _=>⟨⟨⟨o2,kG2.W⟩,f8 1,kG2.B,kG2.U,3⟩,rfl,rfl,⟨ho2,hB2⟩,fun _ _=>⟨(),?_,trivial⟩⟩) (fun e=>absurd e (by decide))) (fun e=>absurd e (by decide))) (fun e=>absurd e (by decide))⟩) (fun e=>absurd e (by decide))⟩) (fun e=>absurd e (by decide))) (fun e=>absurd e (by decide))⟩) (fun e=>absurd e (by decide))⟩) (fun e=>absurd e (by decide))
 dsimp only
 rw[yPi];rfl
theorem known18_ok:known18C.ok Tryz.prog 19:=okw mixed (gokc z7c (gokc newG_ok (gokc gdo_ok (gokc r6enc_ok (gokc z4k (gokc z9j gok0)))))) 0 (fun _=>[]) (fun _=>[]) [] Tryz.func19 yBb
open Go Cv Go.Proofs
theorem yMq {l:List AskM} {k:Nat} {a:AskM} (h:l[k]? =some a):zE (l.map gaskE) k 0 1=some [D.v (.int .i64 a.s)]∧
 zE (l.map gaskE) k 1 9=some [D.v (.int .i64 a.c.kind),.v (.int .i64 a.c.id),.v (.int .i64 a.c.inst),.v (.int .i64 a.c.side),.v (.int .i64 a.c.price),.v (.int .i64 a.c.qty),.v (.int .i64 a.c.least),.v (.int .i64 a.c.time),.v (.string (sb a.c.label))]:=
 ⟨elA h (by simp[gaskE,cmdE]) rfl,elA h (by simp[gaskE,cmdE]) rfl⟩
theorem yCf {t:TmI} (h:0≤t.i∧t.i≤1000000):1≤(y9 t).id∧(y9 t).id≤1099511627776:=by
 have:0≤zF t.c.id 0 30∧zF t.c.id 0 30≤30:=by rw[zF];omega
 rw[y9]
 split
 ·dsimp only;omega
 ·simp only[yW];omega
theorem yIe {x:Prd} {c:Cmd} {k:Nat} (hk:k≤1000000):(y9 ⟨z8 x,c,k⟩).right=0:=by
 have:=zXv x c k (y9 ⟨z8 x,c,k⟩).id (yCf (by dsimp only;omega))
 exact this
theorem zMd (s:Int):∀(R:List Rep) (W:List (Int×Int)),(pB s W R).2.length=R.length
 |[],_=>rfl
 |r::R,W=>by rw[pB];dsimp only;rw[yRt,zMd s R,yRt]
theorem z8q {p:Prd} {B:List (List zH)} (h:BWf p B) (U:List Int) {W:List (Int×Int)} {s:Int} {b:List UInt8}:(dC p B U W s b).O.length≤9223372036854775806:=by
 have h1:∀x y:Int,(z4c B U W s x y).O.length≤9223372036854775806:=fun x y=>by
  show 1≤9223372036854775806
  omega
 rw[dC]
 split
 ·exact h1 _ _
 split
 ·exact h1 _ _
 rw[zSb]
 split
 ·exact h1 _ _
 split
 ·exact h1 _ _
 ·dsimp only
  rw[zMd]
  exact yTv (zYu h U _) (by omega)
open Go Cv Go.Proofs
theorem yPx {O:List (Int×Rep)} {k:Nat} {o:Int×Rep} (h:O[k]? =some o):zE (O.map gN) k 0 9=some [D.v (.int .i64 o.1),.v (.int .i64 o.2.kind),.v (.int .i64 o.2.id),.v (.int .i64 o.2.inst),.v (.int .i64 o.2.side),.v (.int .i64 o.2.price),.v (.int .i64 o.2.qty),.v (.int .i64 o.2.left),.v (.int .i64 o.2.why)]:=
 elA h (by simp[gN,xJ]) rfl
theorem vgc (i:AgI) (h:gcC.cnd i):Vgc i:=by
 obtain⟨hraw,hok,hok2,hlen,hlen2⟩:i.x.raw∧(∀a∈i.l,a.ok)∧(∀a∈i.q,a.ok)∧i.l.length≤9223372036854775807∧i.q.length≤9223372036854775807:=h
 have hc:=pP i.x
 have hs:=zTz i.x
 have hml:(List.map gaskE i.l).length=i.l.length:=yRg _
 have hmq:(List.map gaskE i.q).length=i.q.length:=yRg _
 unfold Vgc yV qB vJ zBf zWm zXi zXk zWh qQ zXm zVp zWg zEe zWc zY dI
 rw[hml,hmq]
 refine⟨z8 i.x,fun y=>y=z8 i.x,⟨i.x,rfl,rfl,rfl,rfl,rfl,rfl,rfl,rfl,rfl,rfl,rfl,hraw,fun _ _=>⟨z8 i.x,rfl,rfl,rfl,rfl,rfl,rfl,rfl,rfl,rfl,rfl,rfl,rfl,by(repeat'(first|exact trivial|exact rfl|apply And.intro))⟩⟩,?_⟩
 rintro _ rfl
 refine⟨z8 i.x,rfl,rfl,rfl,rfl,rfl,rfl,rfl,rfl,rfl,rfl,rfl,hs,fun _ _=> ?_,fun _ hne=>absurd hc hne⟩
 refine⟨z8 i.x,rfl,rfl,rfl,rfl,rfl,rfl,rfl,rfl,rfl,rfl,rfl,hs,fun _ _=> ?_,fun _ hne=>absurd hc hne⟩
 refine⟨false,fun b=>b=false,⟨false,rfl,rfl,by(repeat'(first|exact trivial|exact rfl|apply And.intro))⟩,?_⟩
 rintro _ rfl
 refine Cv.cnd.mk (fun c=>absurd c (by decide)) (fun _=> ?_)
 refine⟨⟨⟨mk0 (z8 i.x),[]⟩,⟨mk0 (z8 i.x),[]⟩,0⟩,rfl,rfl,rfl,fun j=>(j.k≤30∧j.k≤i.l.length)∧∃B U,j.g.m.Rep (z8 i.x) B U∧j.h.m.Rep (z8 i.x) B U∧BOk (z8 i.x) B∧j.h.W=j.g.W,fun j=>30-j.k,⟨⟨ySr _,ySr _⟩,_,_,zOh _,zOh _,BOk.new hc hs,rfl⟩,?_⟩
 rintro⟨⟨m,W⟩,⟨m2,W2⟩,k⟩ ⟨⟨hk1,hk2⟩,B,U,hM,hM2,hB,hW⟩
 dsimp only at hk1 hk2 hM hM2 hW ⊢
 obtain rfl:W2=W:=hW
 refine⟨true,fun b=>b=decide (k<i.l.length∧k<30),zI (fun c=>⟨_,rfl,decide_eq_decide.2 ⟨fun x=>⟨by omega,by omega⟩,fun x=>by omega⟩,by(repeat'(first|exact trivial|exact rfl|apply And.intro))⟩) (fun c=>⟨_,rfl,(yRo (by omega)).symm,by(repeat'(first|exact trivial|exact rfl|apply And.intro))⟩),?_⟩
 rintro _ rfl
 refine zI (fun hb=> ?_) (fun _=>⟨⟨⟨m,W2⟩,z8 i.x,B,U,0⟩,rfl,⟨hM,hB⟩,fun _ _=>⟨⟨m,z8 i.x,B,U,0⟩,rfl,⟨hM,hB⟩,fun _ _=>⟨⟨⟨m2,W2⟩,z8 i.x,B,U,0⟩,rfl,⟨hM2,hB⟩,fun _ _=>⟨⟨m2,z8 i.x,B,U,0⟩,rfl,⟨hM2,hB⟩,fun _ _=>Cv.cnd.mk (fun _=>⟨(),trivial,fun _ _=>⟨(),rfl,trivial⟩⟩) (fun c=>absurd c (by simp))⟩⟩⟩⟩)
 obtain⟨hb1,hb2⟩:=hb
 obtain⟨a,ha⟩:=yD (l:=i.l) (i:=k) hb1
 obtain⟨e1,e2⟩:=yMq ha
 obtain⟨hs64,hcr⟩:=hok a (yRp ha)
 obtain⟨C,hC⟩:∃C:Cmd,C=y9 ⟨z8 i.x,a.c,k⟩:=⟨_,rfl⟩
 refine⟨⟨by omega,by omega⟩,a.s,e1,⟨a.s,0,3⟩,rfl,rfl,rfl,⟨hs64,by dsimp only;decide,by dsimp only;decide,by dsimp only;decide⟩,fun _ _=>⟨⟨by omega,by omega⟩,a.c.kind,a.c.id,a.c.inst,a.c.side,a.c.price,a.c.qty,a.c.least,a.c.time,sb a.c.label,e2,⟨z8 i.x,a.c,k⟩,rfl,rfl,rfl,rfl,rfl,rfl,rfl,rfl,rfl,rfl,rfl,rfl,rfl,rfl,rfl,rfl,rfl,rfl,rfl,rfl,rfl,⟨hc,hs,hcr,by dsimp only;omega,by dsimp only;omega⟩,fun _ _=> ?_⟩⟩
 have hr:C.right=0:=by rw[hC];exact yIe (by omega)
 have hlb:C.label=[]:=by rw[hC];exact eC _
 have hwf:=hM.s.wf hB
 have hB':∀s,BOk (z8 i.x) (dC (z8 i.x) B U W2 s C.enc).B:=fun s=>zQe hwf U
 have hol:∀s,(dC (z8 i.x) B U W2 s C.enc).O.length≤9223372036854775806:=fun s=>z8q hwf U
 refine⟨C,congrArg Cmd.kind hC,congrArg Cmd.id hC,congrArg Cmd.inst hC,congrArg Cmd.side hC,congrArg Cmd.price hC,congrArg Cmd.qty hC,congrArg Cmd.least hC,congrArg Cmd.time hC,congrArg (fun c:Cmd=>sb c.label) hC,⟨hlb,hr⟩,fun _ _=> ?_⟩
 dsimp only
 generalize zF a.s 0 3=s
 replace hB':=hB' s
 replace hol:=hol s
 refine⟨⟨⟨m,W2⟩,z8 i.x,B,U,0⟩,rfl,⟨hM,hB⟩,fun _ _=>⟨⟨m,z8 i.x,B,U,0⟩,rfl,⟨hM,hB⟩,fun _ _=>⟨⟨⟨m,W2⟩,z8 i.x,B,U,s,C.enc,dC (z8 i.x) B U W2 s C.enc⟩,rfl,rfl,rfl,⟨⟨hM,hB⟩,zQi hr,rfl⟩,fun o ho=>⟨⟨⟨m2,W2⟩,z8 i.x,B,U,s,C.enc,dC (z8 i.x) B U W2 s C.enc⟩,rfl,rfl,rfl,⟨⟨hM2,hB⟩,zQi hr,rfl⟩,fun o2 ho2=>⟨⟨m,z8 i.x,B,U,0⟩,rfl,⟨hM,hB⟩,fun _ _=> ?_⟩⟩⟩⟩⟩
 dsimp only at ho ho2 ⊢
 generalize dC (z8 i.x) B U W2 s C.enc=X at*
 obtain⟨XB,XU,XW,XO⟩:=X
 dsimp only at*
 have e4:(XO.map gN).length=XO.length:=yRg ..
 refine Cv.cnd.mk (fun c=>absurd c (by simp)) (fun _=>⟨m,rfl,fun _=>True,zI (fun hq=> ?_) (fun _=>⟨m,rfl,trivial,by(repeat'(first|exact trivial|exact rfl|apply And.intro))⟩),?_⟩)
 ·obtain⟨a2,ha2⟩:=yD (l:=i.q) (i:=k) (by omega)
  obtain⟨-,e3⟩:=yMq ha2
  obtain⟨-,hcr2⟩:=hok2 a2 (yRp ha2)
  have h60:((60+k:Nat):Int)=IntKind.i64.wrap (60+(k:Int)):=by rw[w64 (by omega)];rfl
  have hlb2:=eC ⟨z8 i.x,a2.c,((60+k:Nat):Int)⟩
  have hq2:=zRy ⟨z8 i.x,a2.c,((60+k:Nat):Int)⟩
  refine⟨⟨by omega,by omega⟩,a2.c.kind,a2.c.id,a2.c.inst,a2.c.side,a2.c.price,a2.c.qty,a2.c.least,a2.c.time,sb a2.c.label,e3,⟨z8 i.x,a2.c,((60+k:Nat):Int)⟩,rfl,rfl,rfl,rfl,rfl,rfl,rfl,rfl,rfl,rfl,rfl,rfl,rfl,rfl,rfl,rfl,rfl,rfl,rfl,rfl,h60,⟨hc,hs,hcr2,by dsimp only;omega,by dsimp only;omega⟩,fun _ _=> ?_⟩
  dsimp only
  generalize y9 ⟨z8 i.x,a2.c,((60+k:Nat):Int)⟩=D at*
  exact⟨⟨m,z8 i.x,B,U,D,doF (z8 i.x) B U D⟩,rfl,rfl,rfl,rfl,rfl,rfl,rfl,rfl,rfl,rfl,⟨⟨hM,hB⟩,by dsimp only;rw[hlb2];decide,by dsimp only;omega,rfl⟩,fun o3 _=>⟨o3,rfl,trivial,by(repeat'(first|exact trivial|exact rfl|apply And.intro))⟩⟩
 rintro m3-
 refine Cv.cnd.mk (fun c=>absurd c (by simp)) (fun _=>⟨0,rfl,fun k=>k≤XO.length,fun k=>XO.length-k,ySr _,fun n hn=>zI (fun e=> ?_) (fun e=> ?_)⟩)
 ·obtain⟨t,ht⟩:=yD (l:=XO) (i:=n) (by omega)
  have r9:=yPx ht
  have hbd:(0:Int)≤n∧(n:Int)<((XO.map gN).length:Nat):=⟨by omega,e⟩
  refine⟨false,fun b=>b=false,⟨hbd,_,_,_,_,_,_,_,_,_,r9,hbd,_,_,_,_,_,_,_,_,_,r9,?_⟩,?_⟩
  ·exact⟨_,rfl,by simp,by(repeat'(first|exact trivial|exact rfl|apply And.intro))⟩
  ·rintro _ rfl
   exact Cv.cnd.mk (fun c=>absurd c (by decide)) (fun _=>⟨n+1,wjN (by omega),by dsimp only;omega,by dsimp only;omega,by(repeat'(first|exact trivial|exact rfl|apply And.intro))⟩)
 ·exact⟨⟨⟨o,XW⟩,⟨o2,XW⟩,k+1⟩,wjn (by omega),rfl,rfl,⟨⟨by dsimp only;omega,by dsimp only;omega⟩,XB,XU,ho,ho2,hB',rfl⟩,by dsimp only;omega,by(repeat'(first|exact trivial|exact rfl|apply And.intro))⟩
end Sx
