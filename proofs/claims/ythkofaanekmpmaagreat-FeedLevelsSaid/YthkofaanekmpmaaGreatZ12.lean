/- Texts of ours, one behind the other: a walk that the kernel reckons, and contracts of functions. No condition. -/
import Derived.Test.YthkofaanekmpmaaGreatZ11
namespace Sx
set_option linter.unusedVariables false
set_option maxRecDepth 100000
open Go Cv Go.Proofs
def yKz (i:List (List D)):Prop:=
 ∀(b:Bool),(b=true→i=[])→cnd b (∃(o:Unit),i=[]∧True) ((0+i.length)*(112:Nat)≤(140737488355328:Nat)∧∃(o:Unit),i=[]++i∧True)
theorem yOh (i:List (List D)):yKz i=walk Tryz.prog ([]) 0 ([]) ([]) [] Tryz.f120 (Tryz.f120.body.getD .skip) (clVwC.pat i) (clVwC.pre i) (clVwC.alts i):=by kernel_rfl
theorem yNw (hG:GOk Tryz.prog ([])) (h:∀(i:List (List D)),clVwC.cnd i→yKz i):clVwC.ok Tryz.prog 120:=aA mixed ([]) hG 0 (fun(i:List (List D))=>[]) (fun(i:List (List D))=>[]) [] Tryz.func120 (by kernel_rfl) (by kernel_rfl) (by kernel_rfl) (fun _=>by kernel_rfl) (fun(i:List (List D)) hc=>Eq.mp (yOh i) (h i hc))
def yLl (i:List (List D)):Prop:=
 ∀(b:Bool),(b=true→i=[])→cnd b (∃(o:Unit),i=[]∧True) ((0+i.length)*(24:Nat)≤(140737488355328:Nat)∧∃(o:Unit),i=[]++i∧True)
theorem yQr (i:List (List D)):yLl i=walk Tryz.prog ([]) 0 ([]) ([]) [] Tryz.f121 (Tryz.f121.body.getD .skip) (clLvC.pat i) (clLvC.pre i) (clLvC.alts i):=by kernel_rfl
theorem yMl (hG:GOk Tryz.prog ([])) (h:∀(i:List (List D)),clLvC.cnd i→yLl i):clLvC.ok Tryz.prog 121:=aA mixed ([]) hG 0 (fun(i:List (List D))=>[]) (fun(i:List (List D))=>[]) [] Tryz.func121 (by kernel_rfl) (by kernel_rfl) (by kernel_rfl) (fun _=>by kernel_rfl) (fun(i:List (List D)) hc=>Eq.mp (yQr i) (h i hc))
def lS (a:Nat→Prop) (b:Nat) (c:Nat→Nat) (d:Nat) (e:CpI):Prop:=a b∧c b<c d∧Sx.AObj.cells Vlookt335.cl 34=Sx.AObj.cells Vlookt335.cl 34∧AObj.fro 10 (List.map zC e.v)=AObj.fro 10 (List.map zC e.v)
def vJ (a:CpI) (b:Nat):=(bif decide (a.n<b)then a.lv else[])
def pP (a:CpI) (b:Nat) (c:List (List D)) (d:Nat→Prop) (e:Nat→Nat) (f:Nat):Prop:=(vJ a b)=c∧lS d b e f a
def u7 (a:CpI) (b:Nat) (c:List (List D)):=(zH (List.map zC a.v) (↑b:Int).toNat ((0:Nat)) [D.ro 3 c])
def pH (a:Nat) (b:CpI) (c:List (List D)):Prop:=0≤(↑a:Int)∧(↑a:Int)<(↑(u7 b a c).length:Int)
def cY:=(0+(nat_lit 0+nat_lit 1) % Vtopst403.natAbs*(5:Nat)+(0:Nat))
def u0 (a:Nat) (b:CpI):Prop:=0≤(↑a:Int)∧(↑a:Int)<(↑(List.map zC b.v).length:Int)
def yFk (i:CpI):Prop:=
 ∃(a:List (List D)),a=List.map zC i.v∧a.length*(112:Nat)≤(140737488355328:Nat)∧∀(b:Unit),True→∃(c:Nat),(↑c:Int)=0∧(List.map zC i.v=a∧decide (i.n<c)=false)∧(vJ i c)=[]∧∃(d:Nat→Prop),∃(e:Nat→Nat),d c∧∀(f:Nat),d f→cnd (decide ((↑f:Int)<(↑a.length:Int))) ((u0 f i)∧∃(g:List (List D)),zE (List.map zC i.v) (↑f:Int).toNat ((0:Nat)) 1=some [D.ro 3 g]∧(i.f<10∧(decide (i.n<f)=true→(↑f:Int).toNat=i.n→(0:Nat)+1≤i.f∨i.f<(0:Nat)))∧(u0 f i)∧∃(h:List (List D)),h=g∧h.length*(24:Nat)≤(140737488355328:Nat)∧∀(j:Unit),True→((u0 f i)∧(↑f:Int).toNat=(↑f:Int).toNat)∧True∧((↑f:Int).toNat<(List.map zC i.v).length∧(0:Nat)<10)∧((↑f:Int).toNat=i.n→(0:Nat)=i.f→(u0 f i)∧∃(k:List (List D)),zE (List.map zC i.v) (↑f:Int).toNat cY 1=some [D.ro 3 k]∧(i.f<10∧(true=true→(↑f:Int).toNat=i.n→0+(nat_lit 0+nat_lit 1) % Vtopst403.natAbs*(5:Nat)+(0:Nat)+1≤i.f∨i.f<0+(nat_lit 0+nat_lit 1) % Vtopst403.natAbs*(5:Nat)+(0:Nat)))∧(u0 f i)∧∃(l:List (List D)),l=k∧l.length*(24:Nat)≤(140737488355328:Nat)∧∀(m:Unit),True→((u0 f i)∧(↑f:Int).toNat=(↑f:Int).toNat)∧True∧((↑f:Int).toNat<(List.map zC i.v).length∧0+(nat_lit 0+nat_lit 1) % Vtopst403.natAbs*(5:Nat)+(0:Nat)<10)∧((↑f:Int).toNat=i.n→0+(nat_lit 0+nat_lit 1) % Vtopst403.natAbs*(5:Nat)+(0:Nat)=i.f→∃(n:Nat),(↑n:Int)=IntKind.i64.wrap ((↑f:Int)+1)∧(List.map zC i.v=List.map zC i.v∧i.n=i.n∧i.f=i.f∧decide (i.n<n)=true)∧pP i n l d e f)∧i.f<10∧(¬((↑f:Int).toNat=i.n∧0+(nat_lit 0+nat_lit 1) % Vtopst403.natAbs*(5:Nat)+(0:Nat)=i.f)→HolI.mk false wK 10 (List.map zC i.v) i.n i.f true (some ((0:Nat)+(1:Nat)+(1:Nat)+(1:Nat)+((1:Nat)-(0:Nat))+(1:Nat)+(3:Nat)+nat_lit 0))=HolI.mk false wK 10 (List.map zC i.v) i.n i.f true (some ((0:Nat)+(1:Nat)+(1:Nat)+(1:Nat)+((1:Nat)-(0:Nat))+(1:Nat)+(3:Nat)+nat_lit 0))∧∃(n:Nat),(↑n:Int)=IntKind.i64.wrap ((↑f:Int)+1)∧(List.map zC i.v=zH (List.map zC i.v) (↑f:Int).toNat cY [D.ro 3 l]∧i.n=i.n∧i.f=i.f∧decide (i.n<n)=true)∧pP i n h d e f))∧i.f<10∧(¬((↑f:Int).toNat=i.n∧(0:Nat)=i.f)→HolI.mk false wK 10 (List.map zC i.v) i.n i.f (decide (i.n<f)) (oN (dJ ((0:Nat)+(1:Nat)+(1:Nat)+(1:Nat)+((1:Nat)-(0:Nat))+1) [((2:Nat),(0:Nat)+(1:Nat)+(1:Nat)+(1:Nat)+((1:Nat)-(0:Nat))),((1:Nat),(0:Nat)+(1:Nat)+(1:Nat)+(1:Nat)+nat_lit 0),((0:Nat),(0:Nat)+(1:Nat))] 0 [Sx.AObj.cells [V.own 1] (34:TypeId),AObj.hol false wK 10 (List.map zC i.v) i.n i.f (decide (i.n<c)) (some 2),AObj.own tLv 3 (vJ i c)]) (some 2))=HolI.mk false wK 10 (List.map zC i.v) i.n i.f (decide (i.n<f)) (oN (dJ ((0:Nat)+(1:Nat)+(1:Nat)+(1:Nat)+((1:Nat)-(0:Nat))+1) [((2:Nat),(0:Nat)+(1:Nat)+(1:Nat)+(1:Nat)+((1:Nat)-(0:Nat))),((1:Nat),(0:Nat)+(1:Nat)+(1:Nat)+(1:Nat)+nat_lit 0),((0:Nat),(0:Nat)+(1:Nat))] 0 [Sx.AObj.cells [V.own 1] (34:TypeId),AObj.hol false wK 10 (List.map zC i.v) i.n i.f (decide (i.n<c)) (some 2),AObj.own tLv 3 (vJ i c)]) (some 2))∧(pH f i h)∧∃(k:List (List D)),zE (u7 i f h) (↑f:Int).toNat cY 1=some [D.ro 3 k]∧(i.f<10∧(decide (i.n<f)=true→(↑f:Int).toNat=i.n→0+(nat_lit 0+nat_lit 1) % Vtopst403.natAbs*(5:Nat)+(0:Nat)+1≤i.f∨i.f<0+(nat_lit 0+nat_lit 1) % Vtopst403.natAbs*(5:Nat)+(0:Nat)))∧(pH f i h)∧∃(l:List (List D)),l=k∧l.length*(24:Nat)≤(140737488355328:Nat)∧∀(m:Unit),True→((pH f i h)∧(↑f:Int).toNat=(↑f:Int).toNat)∧True∧((↑f:Int).toNat<(u7 i f h).length∧0+(nat_lit 0+nat_lit 1) % Vtopst403.natAbs*(5:Nat)+(0:Nat)<10)∧((↑f:Int).toNat=i.n→0+(nat_lit 0+nat_lit 1) % Vtopst403.natAbs*(5:Nat)+(0:Nat)=i.f→∃(n:Nat),(↑n:Int)=IntKind.i64.wrap ((↑f:Int)+1)∧(List.map zC i.v=zH (List.map zC i.v) (↑f:Int).toNat ((0:Nat)) [D.ro 3 h]∧i.n=i.n∧i.f=i.f∧decide (i.n<n)=true)∧pP i n l d e f)∧i.f<10∧(¬((↑f:Int).toNat=i.n∧0+(nat_lit 0+nat_lit 1) % Vtopst403.natAbs*(5:Nat)+(0:Nat)=i.f)→HolI.mk false wK 10 (u7 i f h) i.n i.f (decide (i.n<f)) (oN (dJ ((0:Nat)+(1:Nat)+(1:Nat)+(1:Nat)+((1:Nat)-(0:Nat))+1) [((2:Nat),(0:Nat)+(1:Nat)+(1:Nat)+(1:Nat)+((1:Nat)-(0:Nat))),((1:Nat),(0:Nat)+(1:Nat)+(1:Nat)+(1:Nat)+nat_lit 0),((0:Nat),(0:Nat)+(1:Nat))] 0 [Sx.AObj.cells [V.own 1] (34:TypeId),AObj.hol false wK 10 (List.map zC i.v) i.n i.f (decide (i.n<c)) (some 2),AObj.own tLv 3 (vJ i c)]) (some 2))=HolI.mk false wK 10 (u7 i f h) i.n i.f (decide (i.n<f)) (oN (dJ ((0:Nat)+(1:Nat)+(1:Nat)+(1:Nat)+((1:Nat)-(0:Nat))+1) [((2:Nat),(0:Nat)+(1:Nat)+(1:Nat)+(1:Nat)+((1:Nat)-(0:Nat))),((1:Nat),(0:Nat)+(1:Nat)+(1:Nat)+(1:Nat)+nat_lit 0),((0:Nat),(0:Nat)+(1:Nat))] 0 [Sx.AObj.cells [V.own 1] (34:TypeId),AObj.hol false wK 10 (List.map zC i.v) i.n i.f (decide (i.n<c)) (some 2),AObj.own tLv 3 (vJ i c)]) (some 2))∧∃(n:Nat),(↑n:Int)=IntKind.i64.wrap ((↑f:Int)+1)∧(List.map zC i.v=zH (u7 i f h) (↑f:Int).toNat cY [D.ro 3 l]∧i.n=i.n∧i.f=i.f∧decide (i.n<n)=decide (i.n<f))∧((vJ i n)=bif decide (i.n<f)then i.lv else[])∧lS d n e f i))) (∃(g:Unit),(List.map zC i.v=List.map zC i.v∧i.n=i.n∧i.f=i.f∧true=decide (i.n<f))∧(i.lv=bif decide (i.n<f)then i.lv else[])∧True)
def zYv (i:FnI):Prop:=
 cnd (decide (i.m.inst<0)) (∃(a:Unit),MsgM.fine i.k i.m=20∧True) (cnd (decide (i.m.inst≥i.k)) (∃(a:Unit),MsgM.fine i.k i.m=20∧True) (cnd (i.m.side !=1) (cnd (i.m.side !=2) (∃(a:Unit),MsgM.fine i.k i.m=21∧True) (cnd (decide (i.m.qty<0)) (∃(a:Unit),MsgM.fine i.k i.m=24∧True) (cnd (decide (i.m.count<0)) (∃(a:Unit),MsgM.fine i.k i.m=24∧True) (cnd (!(i.m.qty==0)==(i.m.count==0)) (∃(a:Unit),MsgM.fine i.k i.m=24∧True) (∃(a:Unit),MsgM.fine i.k i.m=0∧True))))) (cnd (decide (i.m.qty<0)) (∃(a:Unit),MsgM.fine i.k i.m=24∧True) (cnd (decide (i.m.count<0)) (∃(a:Unit),MsgM.fine i.k i.m=24∧True) (cnd (!(i.m.qty==0)==(i.m.count==0)) (∃(a:Unit),MsgM.fine i.k i.m=24∧True) (∃(a:Unit),MsgM.fine i.k i.m=0∧True))))))
def m5 (a:IxI):Prop:=List.map lvE a.L=List.map lvE a.L∧a.m.seq=a.m.seq∧a.m.inst=a.m.inst∧a.m.side=a.m.side∧a.m.price=a.m.price∧a.m.qty=a.m.qty∧a.m.count=a.m.count∧a.m.implied=a.m.implied∧True
def zDu (a:Nat) (b:Nat→Prop) (c:Nat→Nat) (d:IxI):Prop:=∃(e:Nat),(↑e:Int)=IntKind.i64.wrap ((↑a:Int)+1)∧b e∧c e<c a∧AObj.own tLv 3 (List.map lvE d.L)=AObj.own tLv 3 (List.map lvE d.L)∧z7v d.m=z7v d.m
def ySt (i:IxI):Prop:=
 ∃(a:Nat),(↑a:Int)=0∧∃(b:Nat→Prop),∃(c:Nat→Nat),b a∧∀(d:Nat),b d→cnd (decide ((↑d:Int)<(↑(List.map lvE i.L).length:Int))) ((0≤(↑d:Int)∧(↑d:Int)<(↑(List.map lvE i.L).length:Int))∧∃(e:Int),∃(f:Int),∃(g:Int),zE (List.map lvE i.L) (↑d:Int).toNat 0 3=some [dI e,dI f,dI g]∧cnd (e==i.m.price) (∃(h:Unit),oI (List.findIdx? (fun(y:Lv) ↦ decide (y.price=i.m.price)) i.L)=(↑d:Int)∧m5 i) (zDu d b c i)) (∃(e:Unit),oI (List.findIdx? (fun(y:Lv) ↦ decide (y.price=i.m.price)) i.L)=(-1)∧m5 i)
def yTw (i:IxI):Prop:=
 ∃(a:Nat),(↑a:Int)=0∧∃(b:Nat→Prop),∃(c:Nat→Nat),b a∧∀(d:Nat),b d→cnd (decide ((↑d:Int)<(↑(List.map lvE i.L).length:Int))) ((0≤(↑d:Int)∧(↑d:Int)<(↑(List.map lvE i.L).length:Int))∧∃(e:Int),∃(f:Int),∃(g:Int),zE (List.map lvE i.L) (↑d:Int).toNat 0 3=some [dI e,dI f,dI g]∧∃(h:I3),h.side=i.m.side∧h.x=i.m.price∧h.y=e∧True∧∀(j:Unit),True→cnd (xA h.side h.x h.y) (∃(k:Unit),oI (List.findIdx? (fun(y:Lv) ↦ xA i.m.side i.m.price y.price) i.L)=(↑d:Int)∧m5 i) (zDu d b c i)) (∃(e:Unit),oI (List.findIdx? (fun(y:Lv) ↦ xA i.m.side i.m.price y.price) i.L)=(-1)∧m5 i)
def vN:=(nat_lit 1-Nat.succ (nat_lit 0))
def zNt (a:CpI) (b:ApI):Prop:=0+vN % Vtopst403.natAbs*(5:Nat)+(1:Nat)+(3:Nat)≤(10:Nat)∧a.f<10∧(true=true→b.m.inst.toNat=a.n→0+vN % Vtopst403.natAbs*(5:Nat)+(1:Nat)+3≤a.f∨a.f<0+vN % Vtopst403.natAbs*(5:Nat)+(1:Nat))
def zNm (a:CpI) (b:ApI):Prop:=a.f<10∧(true=true→b.m.inst.toNat=a.n→0+vN % Vtopst403.natAbs*(5:Nat)+(4:Nat)+1≤a.f∨a.f<0+vN % Vtopst403.natAbs*(5:Nat)+(4:Nat))
def zDq (a:CpI):Prop:=a.n<List.length a.v∧List.length a.v≤1000000∧List.length a.v≤1099511627776∧∀(b:Sd×Sd),b∈a.v→wD b
def kQ:=(oN (dX 0 ((0:Nat)+(1:Nat)+(1:Nat)+(1:Nat)+1+((0:Nat)-(0:Nat))) ((2:Nat)-(0:Nat)) []) (some 1))
def uJ:=(0+vN % Vtopst403.natAbs*(5:Nat)+(4:Nat))
def jD:=(0+vN % Vtopst403.natAbs*(5:Nat)+(1:Nat))
def xY (a:ApI):=(decide (a.m.qty>0))
def ySw (i:ApI):Prop:=
 ∃(a:FnI),a.k=(↑(List.map zC i.v).length:Int)∧a.m.seq=i.m.seq∧a.m.inst=i.m.inst∧a.m.side=1∧a.m.price=i.m.price∧a.m.qty=i.m.qty∧a.m.count=i.m.count∧a.m.implied=i.m.implied∧True∧∀(b:Unit),True→cnd (MsgM.fine a.k a.m !=0) (∃(c:Unit),List.map zC (apV i.v i.m)=[]∧0=MsgM.fine a.k a.m∧True) (∃(c:CpI),List.map zC c.v=List.map zC i.v∧(zDq c)∧∀(d:Unit),True→(0≤i.m.inst∧i.m.inst<(↑(List.map zC c.v).length:Int))∧cnd i.m.implied ((HolI.mk true wK 10 (List.map zC c.v) c.n c.f true kQ=HolI.mk true wK 10 (List.map zC c.v) c.n c.f true kQ∧i.m.inst.toNat<(List.map zC c.v).length∧zNt c i)∧i.m.qty=i.m.qty∧(HolI.mk true wK 10 (zH (List.map zC c.v) i.m.inst.toNat jD [dI i.m.price,dI i.m.qty,dI i.m.count]) c.n c.f true kQ=HolI.mk true wK 10 (zH (List.map zC c.v) i.m.inst.toNat jD [dI i.m.price,dI i.m.qty,dI i.m.count]) c.n c.f true kQ∧i.m.inst.toNat<(zH (List.map zC c.v) i.m.inst.toNat jD [dI i.m.price,dI i.m.qty,dI i.m.count]).length∧0+vN % Vtopst403.natAbs*(5:Nat)+(4:Nat)+(1:Nat)≤(10:Nat)∧zNm c i)∧∃(e:Bool),zE (zH (zH (List.map zC c.v) i.m.inst.toNat jD [dI i.m.price,dI i.m.qty,dI i.m.count]) i.m.inst.toNat uJ [D.v (.bool (xY i))]) i.m.inst.toNat uJ 1=some [D.v (.bool e)]∧(zNm c i)∧cnd (!e) ((HolI.mk true wK 10 (zH (zH (List.map zC c.v) i.m.inst.toNat jD [dI i.m.price,dI i.m.qty,dI i.m.count]) i.m.inst.toNat uJ [D.v (.bool (xY i))]) c.n c.f true kQ=HolI.mk true wK 10 (zH (zH (List.map zC c.v) i.m.inst.toNat jD [dI i.m.price,dI i.m.qty,dI i.m.count]) i.m.inst.toNat uJ [D.v (.bool (xY i))]) c.n c.f true kQ∧i.m.inst.toNat<(zH (zH (List.map zC c.v) i.m.inst.toNat jD [dI i.m.price,dI i.m.qty,dI i.m.count]) i.m.inst.toNat uJ [D.v (.bool (xY i))]).length∧zNt c i)∧∃(f:Unit),(true=true∧c.n<(zH (zH (zH (List.map zC c.v) i.m.inst.toNat jD [dI i.m.price,dI i.m.qty,dI i.m.count]) i.m.inst.toNat uJ [D.v (.bool (xY i))]) i.m.inst.toNat jD [dI 0,dI 0,dI 0]).length∧c.f<10∧List.map zC (apV i.v i.m)=zH (zH (zH (zH (List.map zC c.v) i.m.inst.toNat jD [dI i.m.price,dI i.m.qty,dI i.m.count]) i.m.inst.toNat uJ [D.v (.bool (xY i))]) i.m.inst.toNat jD [dI 0,dI 0,dI 0]) c.n c.f [D.ro 3 c.lv])∧(0:Int)=(0:Int)∧True) (∃(f:Unit),(true=true∧c.n<(zH (zH (List.map zC c.v) i.m.inst.toNat jD [dI i.m.price,dI i.m.qty,dI i.m.count]) i.m.inst.toNat uJ [D.v (.bool (xY i))]).length∧c.f<10∧List.map zC (apV i.v i.m)=zH (zH (zH (List.map zC c.v) i.m.inst.toNat jD [dI i.m.price,dI i.m.qty,dI i.m.count]) i.m.inst.toNat uJ [D.v (.bool (xY i))]) c.n c.f [D.ro 3 c.lv])∧(0:Int)=(0:Int)∧True)) ((i.m.inst.toNat=c.n∧0+vN % Vtopst403.natAbs*(5:Nat)+(0:Nat)=c.f∧true=true∧i.m.inst.toNat<(List.map zC c.v).length∧0+vN % Vtopst403.natAbs*(5:Nat)+(0:Nat)<10)∧((∃(e:IxI),List.map lvE e.L=c.lv∧e.m.seq=i.m.seq∧e.m.inst=i.m.inst∧e.m.side=1∧e.m.price=i.m.price∧e.m.qty=i.m.qty∧e.m.count=i.m.count∧e.m.implied=i.m.implied∧e.L.length≤1099511627776∧∀(f:Unit),True→cnd (decide (oI (List.findIdx? (fun(y:Lv) ↦ decide (y.price=e.m.price)) e.L)≥0)) (cnd (e.m.qty==0) ((i.m.inst.toNat=c.n∧(0:Nat)=c.f∧true=true∧i.m.inst.toNat<(List.map zC c.v).length∧(0:Nat)<10)∧∃(i_4:z8p),(↑i_4.i:Int)=oI (List.findIdx? (fun(y:Lv) ↦ decide (y.price=e.m.price)) e.L)∧(↑i_4.j:Int)=IntKind.i64.wrap (oI (List.findIdx? (fun(y:Lv) ↦ decide (y.price=e.m.price)) e.L)+1)∧i_4.els=List.map lvE e.L∧(i_4.i<i_4.j∧i_4.j≤i_4.els.length)∧∀(f:Unit),True→(i.m.inst.toNat<(List.map zC c.v).length∧(0:Nat)<10)∧(i.m.inst.toNat=c.n∧(0:Nat)=c.f)∧∃(f:Unit),(true=true∧c.n<(List.map zC c.v).length∧c.f<10∧List.map zC (apV i.v i.m)=zH (List.map zC c.v) c.n c.f [D.ro 3 (List.take i_4.i i_4.els++List.drop i_4.j i_4.els)])∧(0:Int)=(0:Int)∧True) (cnd (decide (oI (List.findIdx? (fun(y:Lv) ↦ decide (y.price=e.m.price)) e.L)≥0)) ((i.m.inst.toNat=c.n∧(0:Nat)=c.f∧true=true∧i.m.inst.toNat<(List.map zC c.v).length∧(0:Nat)<10)∧(0≤oI (List.findIdx? (fun(y:Lv) ↦ decide (y.price=e.m.price)) e.L)∧oI (List.findIdx? (fun(y:Lv) ↦ decide (y.price=e.m.price)) e.L)<(↑(List.map lvE e.L).length:Int))∧(oI (List.findIdx? (fun(y:Lv) ↦ decide (y.price=e.m.price)) e.L)).toNat<(List.map lvE e.L).length∧∃(f:Unit),(true=true∧c.n<(List.map zC c.v).length∧c.f<10∧List.map zC (apV i.v i.m)=zH (List.map zC c.v) c.n c.f [D.ro 3 (zH (List.map lvE e.L) (oI (List.findIdx? (fun(y:Lv) ↦ decide (y.price=e.m.price)) e.L)).toNat 0 [dI i.m.price,dI i.m.qty,dI i.m.count])])∧(0:Int)=(0:Int)∧True) (cnd (decide (e.m.qty>0)) ((i.m.inst.toNat=c.n∧(0:Nat)=c.f∧true=true∧i.m.inst.toNat<(List.map zC c.v).length∧(0:Nat)<10)∧((∃(i:IxI),False)∨∃(i_4:IxI),List.map lvE i_4.L=List.map lvE e.L∧i_4.m.seq=e.m.seq∧i_4.m.inst=e.m.inst∧i_4.m.side=e.m.side∧i_4.m.price=e.m.price∧i_4.m.qty=e.m.qty∧i_4.m.count=e.m.count∧i_4.m.implied=e.m.implied∧i_4.L.length≤1099511627776∧∀(f:Unit),True→cnd (decide (oI (List.findIdx? (fun(y:Lv) ↦ xA i_4.m.side i_4.m.price y.price) i_4.L)<0)) ((i.m.inst.toNat=c.n∧(0:Nat)=c.f∧true=true∧i.m.inst.toNat<(List.map zC c.v).length∧(0:Nat)<10)∧(i.m.inst.toNat=c.n∧(0:Nat)=c.f∧true=true∧i.m.inst.toNat<(List.map zC c.v).length∧(0:Nat)<10)∧((i.m.inst.toNat=c.n∧(0:Nat)=c.f∧true=true∧i.m.inst.toNat<(List.map zC c.v).length∧(0:Nat)<10)∧True)∧∃(i_5:zCz),(↑i_5.i:Int)=(↑(List.map lvE i_4.L).length:Int)∧i_5.els=List.map lvE i_4.L∧[i_5.el]=[[dI i.m.price,dI i.m.qty,dI i.m.count]]∧(i_5.i≤i_5.els.length∧(i_5.els.length+1)*(24:Nat)≤(140737488355328:Nat))∧∀(f:Unit),True→(i.m.inst.toNat<(List.map zC c.v).length∧(0:Nat)<10)∧(i.m.inst.toNat=c.n∧(0:Nat)=c.f)∧∃(f:Unit),(true=true∧c.n<(List.map zC c.v).length∧c.f<10∧List.map zC (apV i.v i.m)=zH (List.map zC c.v) c.n c.f [D.ro 3 (List.take i_5.i i_5.els++i_5.el::List.drop i_5.i i_5.els)])∧(0:Int)=(0:Int)∧True) ((i.m.inst.toNat=c.n∧(0:Nat)=c.f∧true=true∧i.m.inst.toNat<(List.map zC c.v).length∧(0:Nat)<10)∧((i.m.inst.toNat=c.n∧(0:Nat)=c.f∧true=true∧i.m.inst.toNat<(List.map zC c.v).length∧(0:Nat)<10)∧True)∧∃(i_5:zCz),(↑i_5.i:Int)=oI (List.findIdx? (fun(y:Lv) ↦ xA i_4.m.side i_4.m.price y.price) i_4.L)∧i_5.els=List.map lvE i_4.L∧[i_5.el]=[[dI i.m.price,dI i.m.qty,dI i.m.count]]∧(i_5.i≤i_5.els.length∧(i_5.els.length+1)*(24:Nat)≤(140737488355328:Nat))∧∀(f:Unit),True→(i.m.inst.toNat<(List.map zC c.v).length∧(0:Nat)<10)∧(i.m.inst.toNat=c.n∧(0:Nat)=c.f)∧∃(f:Unit),(true=true∧c.n<(List.map zC c.v).length∧c.f<10∧List.map zC (apV i.v i.m)=zH (List.map zC c.v) c.n c.f [D.ro 3 (List.take i_5.i i_5.els++i_5.el::List.drop i_5.i i_5.els)])∧(0:Int)=(0:Int)∧True))) (∃(f:Unit),(true=true∧c.n<(List.map zC c.v).length∧c.f<10∧List.map zC (apV i.v i.m)=zH (List.map zC c.v) c.n c.f [D.ro 3 (List.map lvE e.L)])∧(0:Int)=(0:Int)∧True)))) (cnd (decide (oI (List.findIdx? (fun(y:Lv) ↦ decide (y.price=e.m.price)) e.L)≥0)) ((i.m.inst.toNat=c.n∧(0:Nat)=c.f∧true=true∧i.m.inst.toNat<(List.map zC c.v).length∧(0:Nat)<10)∧(0≤oI (List.findIdx? (fun(y:Lv) ↦ decide (y.price=e.m.price)) e.L)∧oI (List.findIdx? (fun(y:Lv) ↦ decide (y.price=e.m.price)) e.L)<(↑(List.map lvE e.L).length:Int))∧(oI (List.findIdx? (fun(y:Lv) ↦ decide (y.price=e.m.price)) e.L)).toNat<(List.map lvE e.L).length∧∃(f:Unit),(true=true∧c.n<(List.map zC c.v).length∧c.f<10∧List.map zC (apV i.v i.m)=zH (List.map zC c.v) c.n c.f [D.ro 3 (zH (List.map lvE e.L) (oI (List.findIdx? (fun(y:Lv) ↦ decide (y.price=e.m.price)) e.L)).toNat 0 [dI i.m.price,dI i.m.qty,dI i.m.count])])∧(0:Int)=(0:Int)∧True) (cnd (decide (e.m.qty>0)) ((i.m.inst.toNat=c.n∧(0:Nat)=c.f∧true=true∧i.m.inst.toNat<(List.map zC c.v).length∧(0:Nat)<10)∧((∃(i:IxI),False)∨∃(i_4:IxI),List.map lvE i_4.L=List.map lvE e.L∧i_4.m.seq=e.m.seq∧i_4.m.inst=e.m.inst∧i_4.m.side=e.m.side∧i_4.m.price=e.m.price∧i_4.m.qty=e.m.qty∧i_4.m.count=e.m.count∧i_4.m.implied=e.m.implied∧i_4.L.length≤1099511627776∧∀(f:Unit),True→cnd (decide (oI (List.findIdx? (fun(y:Lv) ↦ xA i_4.m.side i_4.m.price y.price) i_4.L)<0)) ((i.m.inst.toNat=c.n∧(0:Nat)=c.f∧true=true∧i.m.inst.toNat<(List.map zC c.v).length∧(0:Nat)<10)∧(i.m.inst.toNat=c.n∧(0:Nat)=c.f∧true=true∧i.m.inst.toNat<(List.map zC c.v).length∧(0:Nat)<10)∧((i.m.inst.toNat=c.n∧(0:Nat)=c.f∧true=true∧i.m.inst.toNat<(List.map zC c.v).length∧(0:Nat)<10)∧True)∧∃(i_5:zCz),(↑i_5.i:Int)=(↑(List.map lvE i_4.L).length:Int)∧i_5.els=List.map lvE i_4.L∧[i_5.el]=[[dI i.m.price,dI i.m.qty,dI i.m.count]]∧(i_5.i≤i_5.els.length∧(i_5.els.length+1)*(24:Nat)≤(140737488355328:Nat))∧∀(f:Unit),True→(i.m.inst.toNat<(List.map zC c.v).length∧(0:Nat)<10)∧(i.m.inst.toNat=c.n∧(0:Nat)=c.f)∧∃(f:Unit),(true=true∧c.n<(List.map zC c.v).length∧c.f<10∧List.map zC (apV i.v i.m)=zH (List.map zC c.v) c.n c.f [D.ro 3 (List.take i_5.i i_5.els++i_5.el::List.drop i_5.i i_5.els)])∧(0:Int)=(0:Int)∧True) ((i.m.inst.toNat=c.n∧(0:Nat)=c.f∧true=true∧i.m.inst.toNat<(List.map zC c.v).length∧(0:Nat)<10)∧((i.m.inst.toNat=c.n∧(0:Nat)=c.f∧true=true∧i.m.inst.toNat<(List.map zC c.v).length∧(0:Nat)<10)∧True)∧∃(i_5:zCz),(↑i_5.i:Int)=oI (List.findIdx? (fun(y:Lv) ↦ xA i_4.m.side i_4.m.price y.price) i_4.L)∧i_5.els=List.map lvE i_4.L∧[i_5.el]=[[dI i.m.price,dI i.m.qty,dI i.m.count]]∧(i_5.i≤i_5.els.length∧(i_5.els.length+1)*(24:Nat)≤(140737488355328:Nat))∧∀(f:Unit),True→(i.m.inst.toNat<(List.map zC c.v).length∧(0:Nat)<10)∧(i.m.inst.toNat=c.n∧(0:Nat)=c.f)∧∃(f:Unit),(true=true∧c.n<(List.map zC c.v).length∧c.f<10∧List.map zC (apV i.v i.m)=zH (List.map zC c.v) c.n c.f [D.ro 3 (List.take i_5.i i_5.els++i_5.el::List.drop i_5.i i_5.els)])∧(0:Int)=(0:Int)∧True))) (∃(f:Unit),(true=true∧c.n<(List.map zC c.v).length∧c.f<10∧List.map zC (apV i.v i.m)=zH (List.map zC c.v) c.n c.f [D.ro 3 (List.map lvE e.L)])∧(0:Int)=(0:Int)∧True))))∨∃(i:IxI),False)))
def vE:=(nat_lit 2-Nat.succ (nat_lit 0))
def zNo (a:CpI) (b:ApI):Prop:=0+vE % Vtopst403.natAbs*(5:Nat)+(1:Nat)+(3:Nat)≤(10:Nat)∧a.f<10∧(true=true→b.m.inst.toNat=a.n→0+vE % Vtopst403.natAbs*(5:Nat)+(1:Nat)+3≤a.f∨a.f<0+vE % Vtopst403.natAbs*(5:Nat)+(1:Nat))
def zNi (a:CpI) (b:ApI):Prop:=a.f<10∧(true=true→b.m.inst.toNat=a.n→0+vE % Vtopst403.natAbs*(5:Nat)+(4:Nat)+1≤a.f∨a.f<0+vE % Vtopst403.natAbs*(5:Nat)+(4:Nat))
def uK:=(0+vE % Vtopst403.natAbs*(5:Nat)+(4:Nat))
def kR:=(0+vE % Vtopst403.natAbs*(5:Nat)+(1:Nat))
def yUf (i:ApI):Prop:=
 ∃(a:FnI),a.k=(↑(List.map zC i.v).length:Int)∧a.m.seq=i.m.seq∧a.m.inst=i.m.inst∧a.m.side=2∧a.m.price=i.m.price∧a.m.qty=i.m.qty∧a.m.count=i.m.count∧a.m.implied=i.m.implied∧True∧∀(b:Unit),True→cnd (MsgM.fine a.k a.m !=0) (∃(c:Unit),List.map zC (apV i.v i.m)=[]∧0=MsgM.fine a.k a.m∧True) (∃(c:CpI),List.map zC c.v=List.map zC i.v∧(zDq c)∧∀(d:Unit),True→(0≤i.m.inst∧i.m.inst<(↑(List.map zC c.v).length:Int))∧cnd i.m.implied ((HolI.mk true wK 10 (List.map zC c.v) c.n c.f true kQ=HolI.mk true wK 10 (List.map zC c.v) c.n c.f true kQ∧i.m.inst.toNat<(List.map zC c.v).length∧zNo c i)∧i.m.qty=i.m.qty∧(HolI.mk true wK 10 (zH (List.map zC c.v) i.m.inst.toNat kR [dI i.m.price,dI i.m.qty,dI i.m.count]) c.n c.f true kQ=HolI.mk true wK 10 (zH (List.map zC c.v) i.m.inst.toNat kR [dI i.m.price,dI i.m.qty,dI i.m.count]) c.n c.f true kQ∧i.m.inst.toNat<(zH (List.map zC c.v) i.m.inst.toNat kR [dI i.m.price,dI i.m.qty,dI i.m.count]).length∧0+vE % Vtopst403.natAbs*(5:Nat)+(4:Nat)+(1:Nat)≤(10:Nat)∧zNi c i)∧∃(e:Bool),zE (zH (zH (List.map zC c.v) i.m.inst.toNat kR [dI i.m.price,dI i.m.qty,dI i.m.count]) i.m.inst.toNat uK [D.v (.bool (xY i))]) i.m.inst.toNat uK 1=some [D.v (.bool e)]∧(zNi c i)∧cnd (!e) ((HolI.mk true wK 10 (zH (zH (List.map zC c.v) i.m.inst.toNat kR [dI i.m.price,dI i.m.qty,dI i.m.count]) i.m.inst.toNat uK [D.v (.bool (xY i))]) c.n c.f true kQ=HolI.mk true wK 10 (zH (zH (List.map zC c.v) i.m.inst.toNat kR [dI i.m.price,dI i.m.qty,dI i.m.count]) i.m.inst.toNat uK [D.v (.bool (xY i))]) c.n c.f true kQ∧i.m.inst.toNat<(zH (zH (List.map zC c.v) i.m.inst.toNat kR [dI i.m.price,dI i.m.qty,dI i.m.count]) i.m.inst.toNat uK [D.v (.bool (xY i))]).length∧zNo c i)∧∃(f:Unit),(true=true∧c.n<(zH (zH (zH (List.map zC c.v) i.m.inst.toNat kR [dI i.m.price,dI i.m.qty,dI i.m.count]) i.m.inst.toNat uK [D.v (.bool (xY i))]) i.m.inst.toNat kR [dI 0,dI 0,dI 0]).length∧c.f<10∧List.map zC (apV i.v i.m)=zH (zH (zH (zH (List.map zC c.v) i.m.inst.toNat kR [dI i.m.price,dI i.m.qty,dI i.m.count]) i.m.inst.toNat uK [D.v (.bool (xY i))]) i.m.inst.toNat kR [dI 0,dI 0,dI 0]) c.n c.f [D.ro 3 c.lv])∧(0:Int)=(0:Int)∧True) (∃(f:Unit),(true=true∧c.n<(zH (zH (List.map zC c.v) i.m.inst.toNat kR [dI i.m.price,dI i.m.qty,dI i.m.count]) i.m.inst.toNat uK [D.v (.bool (xY i))]).length∧c.f<10∧List.map zC (apV i.v i.m)=zH (zH (zH (List.map zC c.v) i.m.inst.toNat kR [dI i.m.price,dI i.m.qty,dI i.m.count]) i.m.inst.toNat uK [D.v (.bool (xY i))]) c.n c.f [D.ro 3 c.lv])∧(0:Int)=(0:Int)∧True)) ((i.m.inst.toNat=c.n∧0+vE % Vtopst403.natAbs*(5:Nat)+(0:Nat)=c.f∧true=true∧i.m.inst.toNat<(List.map zC c.v).length∧0+vE % Vtopst403.natAbs*(5:Nat)+(0:Nat)<10)∧((∃(e:IxI),List.map lvE e.L=c.lv∧e.m.seq=i.m.seq∧e.m.inst=i.m.inst∧e.m.side=2∧e.m.price=i.m.price∧e.m.qty=i.m.qty∧e.m.count=i.m.count∧e.m.implied=i.m.implied∧e.L.length≤1099511627776∧∀(f:Unit),True→cnd (decide (oI (List.findIdx? (fun(y:Lv) ↦ decide (y.price=e.m.price)) e.L)≥0)) (cnd (e.m.qty==0) ((i.m.inst.toNat=c.n∧(5:Nat)=c.f∧true=true∧i.m.inst.toNat<(List.map zC c.v).length∧(5:Nat)<10)∧∃(i_4:z8p),(↑i_4.i:Int)=oI (List.findIdx? (fun(y:Lv) ↦ decide (y.price=e.m.price)) e.L)∧(↑i_4.j:Int)=IntKind.i64.wrap (oI (List.findIdx? (fun(y:Lv) ↦ decide (y.price=e.m.price)) e.L)+1)∧i_4.els=List.map lvE e.L∧(i_4.i<i_4.j∧i_4.j≤i_4.els.length)∧∀(f:Unit),True→(i.m.inst.toNat<(List.map zC c.v).length∧(5:Nat)<10)∧(i.m.inst.toNat=c.n∧(5:Nat)=c.f)∧∃(f:Unit),(true=true∧c.n<(List.map zC c.v).length∧c.f<10∧List.map zC (apV i.v i.m)=zH (List.map zC c.v) c.n c.f [D.ro 3 (List.take i_4.i i_4.els++List.drop i_4.j i_4.els)])∧(0:Int)=(0:Int)∧True) (cnd (decide (oI (List.findIdx? (fun(y:Lv) ↦ decide (y.price=e.m.price)) e.L)≥0)) ((i.m.inst.toNat=c.n∧(5:Nat)=c.f∧true=true∧i.m.inst.toNat<(List.map zC c.v).length∧(5:Nat)<10)∧(0≤oI (List.findIdx? (fun(y:Lv) ↦ decide (y.price=e.m.price)) e.L)∧oI (List.findIdx? (fun(y:Lv) ↦ decide (y.price=e.m.price)) e.L)<(↑(List.map lvE e.L).length:Int))∧(oI (List.findIdx? (fun(y:Lv) ↦ decide (y.price=e.m.price)) e.L)).toNat<(List.map lvE e.L).length∧∃(f:Unit),(true=true∧c.n<(List.map zC c.v).length∧c.f<10∧List.map zC (apV i.v i.m)=zH (List.map zC c.v) c.n c.f [D.ro 3 (zH (List.map lvE e.L) (oI (List.findIdx? (fun(y:Lv) ↦ decide (y.price=e.m.price)) e.L)).toNat 0 [dI i.m.price,dI i.m.qty,dI i.m.count])])∧(0:Int)=(0:Int)∧True) (cnd (decide (e.m.qty>0)) ((i.m.inst.toNat=c.n∧(5:Nat)=c.f∧true=true∧i.m.inst.toNat<(List.map zC c.v).length∧(5:Nat)<10)∧((∃(i:IxI),False)∨∃(i_4:IxI),List.map lvE i_4.L=List.map lvE e.L∧i_4.m.seq=e.m.seq∧i_4.m.inst=e.m.inst∧i_4.m.side=e.m.side∧i_4.m.price=e.m.price∧i_4.m.qty=e.m.qty∧i_4.m.count=e.m.count∧i_4.m.implied=e.m.implied∧i_4.L.length≤1099511627776∧∀(f:Unit),True→cnd (decide (oI (List.findIdx? (fun(y:Lv) ↦ xA i_4.m.side i_4.m.price y.price) i_4.L)<0)) ((i.m.inst.toNat=c.n∧(5:Nat)=c.f∧true=true∧i.m.inst.toNat<(List.map zC c.v).length∧(5:Nat)<10)∧(i.m.inst.toNat=c.n∧(5:Nat)=c.f∧true=true∧i.m.inst.toNat<(List.map zC c.v).length∧(5:Nat)<10)∧((i.m.inst.toNat=c.n∧(5:Nat)=c.f∧true=true∧i.m.inst.toNat<(List.map zC c.v).length∧(5:Nat)<10)∧True)∧∃(i_5:zCz),(↑i_5.i:Int)=(↑(List.map lvE i_4.L).length:Int)∧i_5.els=List.map lvE i_4.L∧[i_5.el]=[[dI i.m.price,dI i.m.qty,dI i.m.count]]∧(i_5.i≤i_5.els.length∧(i_5.els.length+1)*(24:Nat)≤(140737488355328:Nat))∧∀(f:Unit),True→(i.m.inst.toNat<(List.map zC c.v).length∧(5:Nat)<10)∧(i.m.inst.toNat=c.n∧(5:Nat)=c.f)∧∃(f:Unit),(true=true∧c.n<(List.map zC c.v).length∧c.f<10∧List.map zC (apV i.v i.m)=zH (List.map zC c.v) c.n c.f [D.ro 3 (List.take i_5.i i_5.els++i_5.el::List.drop i_5.i i_5.els)])∧(0:Int)=(0:Int)∧True) ((i.m.inst.toNat=c.n∧(5:Nat)=c.f∧true=true∧i.m.inst.toNat<(List.map zC c.v).length∧(5:Nat)<10)∧((i.m.inst.toNat=c.n∧(5:Nat)=c.f∧true=true∧i.m.inst.toNat<(List.map zC c.v).length∧(5:Nat)<10)∧True)∧∃(i_5:zCz),(↑i_5.i:Int)=oI (List.findIdx? (fun(y:Lv) ↦ xA i_4.m.side i_4.m.price y.price) i_4.L)∧i_5.els=List.map lvE i_4.L∧[i_5.el]=[[dI i.m.price,dI i.m.qty,dI i.m.count]]∧(i_5.i≤i_5.els.length∧(i_5.els.length+1)*(24:Nat)≤(140737488355328:Nat))∧∀(f:Unit),True→(i.m.inst.toNat<(List.map zC c.v).length∧(5:Nat)<10)∧(i.m.inst.toNat=c.n∧(5:Nat)=c.f)∧∃(f:Unit),(true=true∧c.n<(List.map zC c.v).length∧c.f<10∧List.map zC (apV i.v i.m)=zH (List.map zC c.v) c.n c.f [D.ro 3 (List.take i_5.i i_5.els++i_5.el::List.drop i_5.i i_5.els)])∧(0:Int)=(0:Int)∧True))) (∃(f:Unit),(true=true∧c.n<(List.map zC c.v).length∧c.f<10∧List.map zC (apV i.v i.m)=zH (List.map zC c.v) c.n c.f [D.ro 3 (List.map lvE e.L)])∧(0:Int)=(0:Int)∧True)))) (cnd (decide (oI (List.findIdx? (fun(y:Lv) ↦ decide (y.price=e.m.price)) e.L)≥0)) ((i.m.inst.toNat=c.n∧(5:Nat)=c.f∧true=true∧i.m.inst.toNat<(List.map zC c.v).length∧(5:Nat)<10)∧(0≤oI (List.findIdx? (fun(y:Lv) ↦ decide (y.price=e.m.price)) e.L)∧oI (List.findIdx? (fun(y:Lv) ↦ decide (y.price=e.m.price)) e.L)<(↑(List.map lvE e.L).length:Int))∧(oI (List.findIdx? (fun(y:Lv) ↦ decide (y.price=e.m.price)) e.L)).toNat<(List.map lvE e.L).length∧∃(f:Unit),(true=true∧c.n<(List.map zC c.v).length∧c.f<10∧List.map zC (apV i.v i.m)=zH (List.map zC c.v) c.n c.f [D.ro 3 (zH (List.map lvE e.L) (oI (List.findIdx? (fun(y:Lv) ↦ decide (y.price=e.m.price)) e.L)).toNat 0 [dI i.m.price,dI i.m.qty,dI i.m.count])])∧(0:Int)=(0:Int)∧True) (cnd (decide (e.m.qty>0)) ((i.m.inst.toNat=c.n∧(5:Nat)=c.f∧true=true∧i.m.inst.toNat<(List.map zC c.v).length∧(5:Nat)<10)∧((∃(i:IxI),False)∨∃(i_4:IxI),List.map lvE i_4.L=List.map lvE e.L∧i_4.m.seq=e.m.seq∧i_4.m.inst=e.m.inst∧i_4.m.side=e.m.side∧i_4.m.price=e.m.price∧i_4.m.qty=e.m.qty∧i_4.m.count=e.m.count∧i_4.m.implied=e.m.implied∧i_4.L.length≤1099511627776∧∀(f:Unit),True→cnd (decide (oI (List.findIdx? (fun(y:Lv) ↦ xA i_4.m.side i_4.m.price y.price) i_4.L)<0)) ((i.m.inst.toNat=c.n∧(5:Nat)=c.f∧true=true∧i.m.inst.toNat<(List.map zC c.v).length∧(5:Nat)<10)∧(i.m.inst.toNat=c.n∧(5:Nat)=c.f∧true=true∧i.m.inst.toNat<(List.map zC c.v).length∧(5:Nat)<10)∧((i.m.inst.toNat=c.n∧(5:Nat)=c.f∧true=true∧i.m.inst.toNat<(List.map zC c.v).length∧(5:Nat)<10)∧True)∧∃(i_5:zCz),(↑i_5.i:Int)=(↑(List.map lvE i_4.L).length:Int)∧i_5.els=List.map lvE i_4.L∧[i_5.el]=[[dI i.m.price,dI i.m.qty,dI i.m.count]]∧(i_5.i≤i_5.els.length∧(i_5.els.length+1)*(24:Nat)≤(140737488355328:Nat))∧∀(f:Unit),True→(i.m.inst.toNat<(List.map zC c.v).length∧(5:Nat)<10)∧(i.m.inst.toNat=c.n∧(5:Nat)=c.f)∧∃(f:Unit),(true=true∧c.n<(List.map zC c.v).length∧c.f<10∧List.map zC (apV i.v i.m)=zH (List.map zC c.v) c.n c.f [D.ro 3 (List.take i_5.i i_5.els++i_5.el::List.drop i_5.i i_5.els)])∧(0:Int)=(0:Int)∧True) ((i.m.inst.toNat=c.n∧(5:Nat)=c.f∧true=true∧i.m.inst.toNat<(List.map zC c.v).length∧(5:Nat)<10)∧((i.m.inst.toNat=c.n∧(5:Nat)=c.f∧true=true∧i.m.inst.toNat<(List.map zC c.v).length∧(5:Nat)<10)∧True)∧∃(i_5:zCz),(↑i_5.i:Int)=oI (List.findIdx? (fun(y:Lv) ↦ xA i_4.m.side i_4.m.price y.price) i_4.L)∧i_5.els=List.map lvE i_4.L∧[i_5.el]=[[dI i.m.price,dI i.m.qty,dI i.m.count]]∧(i_5.i≤i_5.els.length∧(i_5.els.length+1)*(24:Nat)≤(140737488355328:Nat))∧∀(f:Unit),True→(i.m.inst.toNat<(List.map zC c.v).length∧(5:Nat)<10)∧(i.m.inst.toNat=c.n∧(5:Nat)=c.f)∧∃(f:Unit),(true=true∧c.n<(List.map zC c.v).length∧c.f<10∧List.map zC (apV i.v i.m)=zH (List.map zC c.v) c.n c.f [D.ro 3 (List.take i_5.i i_5.els++i_5.el::List.drop i_5.i i_5.els)])∧(0:Int)=(0:Int)∧True))) (∃(f:Unit),(true=true∧c.n<(List.map zC c.v).length∧c.f<10∧List.map zC (apV i.v i.m)=zH (List.map zC c.v) c.n c.f [D.ro 3 (List.map lvE e.L)])∧(0:Int)=(0:Int)∧True))))∨∃(i:IxI),False)))
set_option linter.unusedSimpArgs false
open Go Cv Go.Proofs
theorem yHh:clVwC.ok Tryz.prog 120:=yNw gok0 fun i h b hb=>by
 have h:i.length*112≤140737488355328:=h
 exact Cv.cnd.mk (fun e=>⟨(),hb e,trivial⟩) (fun _=>⟨by omega,(),rfl,trivial⟩)
theorem yHs:clLvC.ok Tryz.prog 121:=yMl gok0 fun i h b hb=>by
 have h:i.length*24≤140737488355328:=h
 exact Cv.cnd.mk (fun e=>⟨(),hb e,trivial⟩) (fun _=>⟨by omega,(),rfl,trivial⟩)
theorem yPq {v:Vw} {j:Nat} {p:Sd×Sd} (h:v[j]? =some p):zE (v.map zC) j 0 1=some [.ro 3 (p.1.levels.map lvE)]:=by
 rw[zE,yXq,h];rfl
theorem yCj {v:Vw} {j:Nat} {p:Sd×Sd} (h:v[j]? =some p):zE (v.map zC) j 5 1=some [.ro 3 (p.2.levels.map lvE)]:=by
 rw[zE,yXq,h];rfl
theorem dH {els:List (List D)} {j f:Nat} {ds el el':List D} (h:els[j]? =some el) (e:el.take f++(ds++el.drop (f+ds.length))=el'):zH els j f ds=els.set j el':=by
 rw[zH]
 apply y0d
 intro k
 rw[y1d,yZk]
 by_cases hk:j=k
 ·subst hk
  rw[yWt rfl,h,yWt (yWv.1 h).1,← e]
  show some (if j=j then _ else el)=_
  rw[yWt rfl]
 ·rw[yWs hk]
  cases els[k]? with
  |none=>rfl
  |some x=>
   show some (if j=k then _ else x)=some x
   rw[yWs hk]
theorem zQx {α:Type} {l:List α} {j:Nat} {x:α} (h:l[j]? =some x):l.set j x=l:=by
 apply y0d
 intro k
 rw[yZk]
 by_cases hk:j=k
 ·subst hk
  rw[yWt rfl,yWt (yWv.1 h).1,h]
 ·rw[yWs hk]
theorem yJu {v:Vw} {j:Nat} {p:Sd×Sd} (h:v[j]? =some p):zH (v.map zC) j 0 [.ro 3 (p.1.levels.map lvE)]=v.map zC:=by
 have h':(v.map zC)[j]? =some (zC p):=by rw[yXq,h];rfl
 rw[dH h' (el':=zC p) rfl,zQx h']
theorem z2a {v:Vw} {j:Nat} {p:Sd×Sd} (h:v[j]? =some p):zH (v.map zC) j 5 [.ro 3 (p.2.levels.map lvE)]=v.map zC:=by
 have h':(v.map zC)[j]? =some (zC p):=by rw[yXq,h];rfl
 rw[dH h' (el':=zC p) rfl,zQx h']
theorem yOx (i:CpI) (h:fcopyC.cnd i):yFk i:=by
 obtain⟨hn,hl,hs1,hs2⟩:i.n<i.v.length∧i.v.length≤1000000∧kE i.v:=h
 have hml:(i.v.map zC).length=i.v.length:=yWu _
 have z0:((0:Nat)+nat_lit 0*(5:Nat)+(0:Nat))=0:=rfl
 have z5:((0:Nat)+(nat_lit 0+nat_lit 1) % ((2:Int) ^ IntKind.i64.bits).natAbs*(5:Nat)+(0:Nat))=5:=by decide
 have hf:i.f=if i.s=true then 5 else 0:=by rw[CpI.f];cases i.s<;>rfl
 have hf10:i.f<10:=by rw[hf];split<;>omega
 unfold yFk u0 cY Vtopst403 pH u7 pP vJ lS Vlookt335 vG
 simp only[z0,z5,yXn]
 refine⟨_,rfl,by omega,fun _ _=>⟨0,rfl,⟨rfl,by simp⟩,by simp,fun j=>j≤i.v.length,fun j=>i.v.length-j,yYc _,fun j hj=>zK (fun hlt=> ?_) (fun hlt=> ?_)⟩⟩
 ·have hlt:(j:Int)<((i.v.map zC).length:Nat):=hlt
  obtain⟨p,hp⟩:=zW (l:=i.v) (i:=j) (by omega)
  have hsm:=hs2 p (yXd hp)
  have l1:(p.1.levels.map lvE).length=p.1.levels.length:=yWu _
  have l2:(p.2.levels.map lvE).length=p.2.levels.length:=yWu _
  have bd:(0:Int)≤(j:Int)∧(j:Int)<((i.v.map zC).length:Nat):=⟨by omega,hlt⟩
  have no:decide (i.n<j)=true→j=i.n→False:=fun a b=>by
   have:=yYh a
   omega
  have lv1:j=i.n→0=i.f→i.lv=p.1.levels.map lvE:=fun a b=>by
   subst a
   rw[hf]at b
   rw[CpI.lv,z1o,hp]
   cases hs:i.s
   ·rfl
   ·rw[hs]at b;simp at b
  have lv2:j=i.n→5=i.f→i.lv=p.2.levels.map lvE:=fun a b=>by
   subst a
   rw[hf]at b
   rw[CpI.lv,z1o,hp]
   cases hs:i.s
   ·rw[hs]at b;simp at b
   ·rfl
  refine⟨bd,_,yPq hp,⟨hf10,fun a b=>(no a b).elim⟩,bd,_,rfl,by omega,fun _ _=>⟨⟨bd,by(first|rfl|trivial)⟩,trivial,⟨by omega,by omega⟩,fun e1 e2=> ?_,hf10,fun hne=> ?_⟩⟩
  ·refine⟨bd,_,yCj hp,⟨hf10,fun _ _=> .inr (by omega)⟩,bd,_,rfl,by omega,fun _ _=>⟨⟨bd,by(first|rfl|trivial)⟩,trivial,⟨by omega,by omega⟩,fun _ e3=>absurd e3 (by omega),hf10,fun _=>⟨by(first|rfl|trivial),j+1,wjn (by omega),⟨(z2a hp).symm,by(first|rfl|trivial),by(first|rfl|trivial),yXi (by omega)⟩,?_,by dsimp only;omega,by dsimp only;omega,k0q⟩⟩⟩
   rw[yXi (show i.n<j+1 by omega),cond_true,lv1 e1 e2]
  ·rw[yJu hp]
   refine⟨by(first|rfl|trivial),bd,_,yCj hp,⟨hf10,fun a b=>(no a b).elim⟩,bd,_,rfl,by omega,fun _ _=>⟨⟨bd,by(first|rfl|trivial)⟩,trivial,⟨by omega,by omega⟩,fun e1 e3=>⟨j+1,wjn (by omega),⟨by(first|rfl|trivial),by(first|rfl|trivial),by(first|rfl|trivial),yXi (by omega)⟩,?_,by dsimp only;omega,by dsimp only;omega,k0q⟩,hf10,fun hne2=>⟨by(first|rfl|trivial),j+1,wjn (by omega),⟨(z2a hp).symm,by(first|rfl|trivial),by(first|rfl|trivial),?_⟩,?_,by dsimp only;omega,by dsimp only;omega,k0q⟩⟩⟩
   ·rw[yXi (show i.n<j+1 by omega),cond_true,lv2 e1 e3]
   ·have:j≠i.n:=fun e=>by
     have:i.f=0∨i.f=5:=by rw[hf];split<;>omega
     rcases this with h|h
     ·exact hne ⟨e,h.symm⟩
     ·exact hne2 ⟨e,h.symm⟩
    exact decide_eq_decide.2 ⟨fun _=>by omega,fun _=>by omega⟩
   ·have:j≠i.n:=fun e=>by
     have:i.f=0∨i.f=5:=by rw[hf];split<;>omega
     rcases this with h|h
     ·exact hne ⟨e,h.symm⟩
     ·exact hne2 ⟨e,h.symm⟩
    rw[show decide (i.n<j+1)=decide (i.n<j)from decide_eq_decide.2 ⟨fun _=>by omega,fun _=>by omega⟩]
 ·have hj:j≤i.v.length:=hj
  obtain rfl:j=i.v.length:=by omega
  have e:decide (i.n<i.v.length)=true:=yXi hn
  exact⟨(),⟨by(first|rfl|trivial),by(first|rfl|trivial),by(first|rfl|trivial),e.symm⟩,by rw[e];rfl,k0q⟩
theorem zWz:fcopyC.ok Tryz.prog 53:=okw mixed (gokc yHh (gokc yHs gok0)) 0 (fun _=>[]) (fun i=>yNp i) [] Tryz.func53 yOx
theorem yMw (i:FnI):zYv i:=by
 unfold zYv
 have fin:∀{x:Int},¬i.m.inst<0→¬i.m.inst≥i.k→¬(i.m.side≠1∧i.m.side≠2)→cnd (decide (i.m.qty<0)) (∃(o:Unit),i.m.fine i.k=24∧True) (cnd (decide (i.m.count<0)) (∃(o:Unit),i.m.fine i.k=24∧True) (cnd (!(i.m.qty==0)==(i.m.count==0)) (∃(o:Unit),i.m.fine i.k=24∧True) (∃(o:Unit),i.m.fine i.k=0∧True))):=by
  intro _ h1 h2 h3
  have e:i.m.fine i.k=if(i.m.qty<0∨i.m.count<0)∨¬(i.m.qty=0↔i.m.count=0)then 24 else 0:=by rw[MsgM.fine,yWs (by omega),yWs h3]
  rw[e]
  refine zK (fun a=>⟨(),by rw[yWt (.inl (.inl a))],trivial⟩) (fun a=>zK (fun b=>⟨(),by rw[yWt (.inl (.inr b))],trivial⟩) (fun b=>Cv.cnd.mk (fun c=>⟨(),?_,trivial⟩) (fun c=>⟨(),?_,trivial⟩)))
  ·have hx:¬(i.m.qty=0↔i.m.count=0):=fun x=>by
    have:(i.m.qty==0)=(i.m.count==0):=by
     rw[y1f,beq_iff_eq,beq_iff_eq];exact x
    rw[this]at c
    revert c
    cases (i.m.count==0)<;>decide
   rw[yWt (.inr hx)]
  ·rw[yWs]
   rintro(x|x)
   ·omega
   ·refine x ?_
    have:(i.m.qty==0)=(i.m.count==0):=by
     revert c
     cases (i.m.count==0)<;>cases (i.m.qty==0)<;>decide
    rw[y1f,beq_iff_eq,beq_iff_eq]at this
    exact this
 refine zK (fun a=>⟨(),by rw[MsgM.fine,yWt (.inl a)],trivial⟩) (fun a=>zK (fun b=>⟨(),by rw[MsgM.fine,yWt (.inr b)],trivial⟩) (fun b=>Cv.cnd.mk (fun c=>Cv.cnd.mk (fun d=>⟨(),?_,trivial⟩) (fun d=> ?_)) (fun c=> ?_)))
 ·rw[MsgM.fine,yWs (by omega),yWt ⟨by simpa using c,by simpa using d⟩]
 ·exact fin (x:=0) a b fun x=>x.2 (by simpa using d)
 ·exact fin (x:=0) a b fun x=>x.1 (by simpa using c)
theorem zWr:ffineC.ok Tryz.prog 52:=okw (V:=zYv) mixed gok0 0 (fun _=>[]) (fun _=>[]) [] Tryz.func52 fun(i:FnI) _=>yMw i
theorem zKd {k:Int} {m:MsgM} (h:m.fine k=0):(0≤m.inst∧m.inst<k)∧(m.side=1∨m.side=2)∧(0≤m.qty∧0≤m.count)∧(m.qty=0↔m.count=0):=by
 rw[MsgM.fine]at h
 split at h
 ·cases h
 ·split at h
  ·cases h
  ·split at h
   ·cases h
   ·rename_i a b c
    refine⟨by omega,by omega,by omega,?_⟩
    exact Classical.byContradiction fun x=>c (.inr x)
theorem yLg {L:List Lv} {k:Nat} {l:Lv} (h:L[k]? =some l):zE (L.map lvE) k 0 3=some [D.v (.int .i64 l.price),D.v (.int .i64 l.qty),D.v (.int .i64 l.count)]:=by
 rw[zE,yXq,h];rfl
theorem zQa {f:Lv→Bool} {L:List Lv} {k:Nat} {l:Lv} (h:L[k]? =some l) (h0:(L.take k).findIdx? f=none):(f l=true→L.findIdx? f=some k)∧(f l=false→(L.take (k+1)).findIdx? f=none):=by
 have hk:=(yWv.1 h).1
 have e:L=L.take k++(l::L.drop (k+1)):=by
  obtain⟨_,h2⟩:=yWv.1 h
  rw[← h2,List.getElem_cons_drop,yZc]
 constructor
 ·intro hl
  rw[e,List.findIdx?_append,h0,y0y,yWt hl]
  simp;omega
 ·intro hl
  rw[yXx,h,yZx,List.findIdx?_append,h0,y0y,hl,List.findIdx?_nil]
  rfl
theorem yWi (i:IxI) (h:ixPC.cnd i):ySt i:=by
 (
 have hl:i.L.length≤1099511627776:=h
 have hml:(i.L.map lvE).length=i.L.length:=yWu _)
 unfold ySt zDu m5 dI
 refine⟨0,rfl,fun k=>k≤i.L.length∧(i.L.take k).findIdx? (fun y=>decide (y.price=i.m.price))=none,fun k=>i.L.length-k,⟨yYc _,by rw[y0i];rfl⟩,fun k hk=>zK (fun c=> ?_) (fun c=> ?_)⟩
 ·obtain⟨hk,h0⟩:=hk
  obtain⟨l,hl2⟩:=zW (l:=i.L) (i:=k) (by omega)
  obtain⟨n1,n2⟩:=zQa hl2 h0
  refine⟨⟨by omega,by omega⟩,l.price,l.qty,l.count,yLg hl2,Cv.cnd.mk (fun e=>⟨(),?_,k0q⟩) (fun e=>⟨k+1,?_,⟨by omega,n2 (yXf (by simpa using e))⟩,by dsimp only;omega,k0q⟩)⟩
  ·rw[n1 (yXi (by simpa using e))];rfl
  ·rw[w64 (by omega)];rfl
 ·obtain⟨hk,h0⟩:=hk
  obtain rfl:k=i.L.length:=by omega
  rw[yZi]at h0
  exact⟨(),by rw[h0];rfl,k0q⟩
theorem yCk:ixPC.ok Tryz.prog 54:=okw mixed gok0 1 (fun _=>[]) (fun _=>ixA) [] Tryz.func54 yWi
theorem yWl (i:IxI) (h:ixBC.cnd i):yTw i:=by
 (
 have hl:i.L.length≤1099511627776:=h
 have hml:(i.L.map lvE).length=i.L.length:=yWu _)
 unfold yTw zDu m5 dI
 refine⟨0,rfl,fun k=>k≤i.L.length∧(i.L.take k).findIdx? (fun y=>xA i.m.side i.m.price y.price)=none,fun k=>i.L.length-k,⟨yYc _,by rw[y0i];rfl⟩,fun k hk=>zK (fun c=> ?_) (fun c=> ?_)⟩
 ·obtain⟨hk,h0⟩:=hk
  obtain⟨l,hl2⟩:=zW (l:=i.L) (i:=k) (by omega)
  obtain⟨n1,n2⟩:=zQa hl2 h0
  refine⟨⟨by omega,by omega⟩,l.price,l.qty,l.count,yLg hl2,⟨i.m.side,i.m.price,l.price⟩,rfl,rfl,rfl,trivial,fun _ _=>Cv.cnd.mk (fun e=>⟨(),?_,k0q⟩) (fun e=>⟨k+1,?_,⟨by omega,n2 e⟩,by dsimp only;omega,k0q⟩)⟩
  ·rw[n1 e];rfl
  ·rw[w64 (by omega)];rfl
 ·obtain⟨hk,h0⟩:=hk
  obtain rfl:k=i.L.length:=by omega
  rw[yZi]at h0
  exact⟨(),by rw[h0];rfl,k0q⟩
theorem yCm:ixBC.ok Tryz.prog 54:=okw mixed (gokc zQp gok0) 1 (fun _=>[]) (fun _=>ixA) [] Tryz.func54 yWl
theorem zSu:vC Tryz.prog 39=some (41,3,24,#[.int .i64 0,.int .i64 0,.int .i64 0]):=by kernel_rfl
theorem z4k:insLC.ok Tryz.prog 59:=
 insX_ok (tS:=39) (tI:=3) (fO:=122) (fR:=123) (z:= #[.int .i64 0,.int .i64 0,.int .i64 0]) mixed Tryz.func59 rfl (by kernel_rfl) (by kernel_rfl) (by kernel_rfl) (by kernel_rfl) zSu rfl (by decide) (by decide) (by kernel_rfl) (by kernel_rfl)
  (z3n (tS:=39) (tB:=4) Tryz.func122 (by kernel_rfl) (by kernel_rfl) (by kernel_rfl) (by kernel_rfl) zSu) (fun s sn sk i v vn vk w R=>by kernel_rfl)
theorem z4c:delLC.ok Tryz.prog 56:=
 delX_ok mixed Tryz.func56 rfl (by kernel_rfl) (by kernel_rfl) (by kernel_rfl) (by kernel_rfl) zSu rfl (by decide) (fun s sn sk i j w R=>by kernel_rfl)
theorem eU {els:List (List D)} {j f:Nat} {ds el:List D} (h:j<els.length):zH (els.set j el) j f ds=els.set j (el.take f++(ds++el.drop (f+ds.length))):=by
 have h':(els.set j el)[j]? =some el:=by rw[yZk,yWt rfl,yWt h]
 rw[dH h' rfl,y0s]
theorem yDa {v:Vw} {m:MsgM} {p:Sd×Sd} (h:v[m.inst.toNat]? =some p):(apV v m).map zC=(v.map zC).set m.inst.toNat (zC (if m.side=1 then(lF 1 p.1 m,p.2)else(p.1,lF 2 p.2 m))):=by
 rw[apV]
 apply y0d
 intro k
 rw[yXq,y1d,yZk]
 by_cases hk:m.inst.toNat=k
 ·subst hk
  have hl:m.inst.toNat<(v.map zC).length:=by rw[yWu];exact(yWv.1 h).1
  rw[h,yWt rfl,yWt hl]
  show Option.map zC (some (if m.inst.toNat=m.inst.toNat then _ else p))=_
  rw[yWt rfl];rfl
 ·rw[yWs hk,yXq]
  cases v[k]? with
  |none=>rfl
  |some x=>
   show Option.map zC (some (if m.inst.toNat=k then _ else x))=_
   rw[yWs hk];first|done|rfl
theorem yFq {s:Int} {L:List Lv} {m:Lv} {k:Nat} (h:L.findIdx? (fun y=>decide (y.price=m.price))=some k) (hq:m.qty=0):(kJ s L m).map lvE=(L.map lvE).take k++(L.map lvE).drop (k+1):=by
 rw[kJ,h]
 dsimp only
 rw[yWt hq,List.eraseIdx_eq_take_drop_succ,yXe,y0t,y1j]
theorem z9k {s:Int} {L:List Lv} {m:Lv} {k:Nat} (h:L.findIdx? (fun y=>decide (y.price=m.price))=some k) (hq:¬m.qty=0) (hk:k<L.length):(kJ s L m).map lvE=zH (L.map lvE) k 0 [D.v (.int .i64 m.price),D.v (.int .i64 m.qty),D.v (.int .i64 m.count)]:=by
 rw[kJ,h]
 dsimp only
 obtain⟨l,hl⟩:=zW hk
 have h':(L.map lvE)[k]? =some (lvE l):=by rw[yXq,hl];rfl
 rw[yWs hq,dH h' (el':=lvE m) rfl,List.map_set]
theorem z4u {s:Int} {L:List Lv} {m:Lv} (h:L.findIdx? (fun y=>decide (y.price=m.price))=none) (hq:¬0<m.qty):kJ s L m=L:=by
 rw[kJ,h]
 dsimp only
 rw[yWs hq]
theorem zRb {s:Int} {L:List Lv} {m:Lv} (h:L.findIdx? (fun y=>decide (y.price=m.price))=none) (hq:0<m.qty) {k:Nat} (hk:(L.findIdx? fun y=>xA s m.price y.price).getD L.length=k):(kJ s L m).map lvE=(L.map lvE).take k++lvE m::(L.map lvE).drop k:=by
 have e:kJ s L m=L.take ((L.findIdx? fun y=>xA s m.price y.price).getD L.length)++m::L.drop ((L.findIdx? fun y=>xA s m.price y.price).getD L.length):=by
  rw[kJ,h]
  dsimp only
  rw[yWt hq]
  first|done|rfl
 rw[e,hk,yXe,yXh,y0t,y1j]
theorem zIt {f:Lv→Bool} {L:List Lv} {k:Nat} (h:L.findIdx? f=some k):k<L.length:=by
 obtain⟨h,_⟩:=yZu.1 h
 exact h
theorem zZa {s:Int} {x:Sd} {m:MsgM} (h:¬m.implied=true):lF s x m=⟨kJ s x.levels m.lv,x.imp,x.has⟩:=by rw[lF,yWs h]
theorem yWa (i:ApI) (h:ap1C.cnd i):ySw i:=by
 obtain⟨hs,hfi,hl,hsm⟩:i.m.side=1∧i.m.fine i.v.length=0∧i.v.length≤1000000∧kE i.v:=h
 have hml:(i.v.map zC).length=i.v.length:=yWu _
 obtain⟨⟨f1,f2⟩,f3,f4,f5⟩:=zKd hfi
 have hN:i.m.inst.toNat<(i.v.map zC).length:=by omega
 obtain⟨p,hp⟩:=zW (l:=i.v) (i:=i.m.inst.toNat) (by omega)
 have hp':(i.v.map zC)[i.m.inst.toNat]? =some (zC p):=by rw[yXq,hp];rfl
 have hps:=hsm.2 p (yXd hp)
 have z0:((0:Nat)+(nat_lit 1-Nat.succ (nat_lit 0)) % ((2:Int) ^ IntKind.i64.bits).natAbs*(5:Nat)+(0:Nat))=0:=by decide
 have z1:((0:Nat)+(nat_lit 1-Nat.succ (nat_lit 0)) % ((2:Int) ^ IntKind.i64.bits).natAbs*(5:Nat)+(1:Nat))=1:=by decide
 have z4:((0:Nat)+(nat_lit 1-Nat.succ (nat_lit 0)) % ((2:Int) ^ IntKind.i64.bits).natAbs*(5:Nat)+(4:Nat))=4:=by decide
 have hA:=yDa hp
 rw[yWt hs]at hA
 unfold ySw xY jD uJ kQ zDq wD zNm zNt Vtopst403 vN dI
 simp only[z0,z1,z4]
 refine⟨⟨i.v.length,i.m⟩,by rw[hml],rfl,rfl,hs,rfl,rfl,rfl,rfl,trivial,fun _ _=>Cv.cnd.mk (fun e=> ?_) (fun _=>⟨⟨i.v,i.m.inst.toNat,false⟩,rfl,⟨by dsimp only;omega,hl,hsm⟩,fun _ _=>⟨⟨f1,by rw[hml];exact f2⟩,Cv.cnd.mk (fun hi=> ?_) (fun hi=> ?_)⟩⟩)⟩
 ·exfalso;simp[hfi]at e
 ·have hf0:(⟨i.v,i.m.inst.toNat,false⟩:CpI).f=0:=rfl
  have hlv:(⟨i.v,i.m.inst.toNat,false⟩:CpI).lv=p.1.levels.map lvE:=by rw[CpI.lv,z1o,hp];rfl
  have e0:lF 1 p.1 i.m=if 0<i.m.qty then⟨p.1.levels,i.m.lv,true⟩else⟨p.1.levels,lv0,false⟩:=by rw[lF,yWt hi]
  rw[hf0,hlv]
  have a1:zH (i.v.map zC) i.m.inst.toNat 1 [D.v (.int .i64 i.m.price),D.v (.int .i64 i.m.qty),D.v (.int .i64 i.m.count)]=(i.v.map zC).set i.m.inst.toNat (zC (⟨p.1.levels,i.m.lv,p.1.has⟩,p.2)):=dH hp' rfl
  have a2:∀b:Bool,zH ((i.v.map zC).set i.m.inst.toNat (zC (⟨p.1.levels,i.m.lv,p.1.has⟩,p.2))) i.m.inst.toNat 4 [D.v (.bool b)]=(i.v.map zC).set i.m.inst.toNat (zC (⟨p.1.levels,i.m.lv,b⟩,p.2)):=fun b=>eU hN
  have a3:∀b:Bool,zH ((i.v.map zC).set i.m.inst.toNat (zC (⟨p.1.levels,i.m.lv,b⟩,p.2))) i.m.inst.toNat 1 [D.v (.int .i64 0),D.v (.int .i64 0),D.v (.int .i64 0)]=(i.v.map zC).set i.m.inst.toNat (zC (⟨p.1.levels,lv0,b⟩,p.2)):=fun b=>eU hN
  have a4:∀(y:Lv) (b:Bool),zH ((i.v.map zC).set i.m.inst.toNat (zC (⟨p.1.levels,y,b⟩,p.2))) i.m.inst.toNat 0 [D.ro 3 (p.1.levels.map lvE)]=(i.v.map zC).set i.m.inst.toNat (zC (⟨p.1.levels,y,b⟩,p.2)):=fun y b=>eU hN
  have a5:∀b:Bool,zE ((i.v.map zC).set i.m.inst.toNat (zC (⟨p.1.levels,i.m.lv,b⟩,p.2))) i.m.inst.toNat 4 1=some [D.v (.bool b)]:=fun b=>by
   rw[zE,yZk,yWt rfl,yWt hN];rfl
  simp only[a1,a2,a3,a4,yXv]
  refine⟨⟨by(first|rfl|trivial),hN,by decide,by decide,fun _ _=> .inr (by decide)⟩,by(first|rfl|trivial),⟨by(first|rfl|trivial),hN,by decide,by decide,fun _ _=> .inr (by decide)⟩,_,a5 _,⟨by decide,fun _ _=> .inr (by decide)⟩,Cv.cnd.mk (fun hb=>⟨⟨by(first|rfl|trivial),hN,by decide,by decide,fun _ _=> .inr (by decide)⟩,(),⟨by(first|rfl|trivial),hN,by decide,?_⟩,k0q⟩) (fun hb=>⟨(),⟨by(first|rfl|trivial),hN,by decide,?_⟩,k0q⟩)⟩
  ·have hq:¬0<i.m.qty:=by simpa using hb
   rw[hA,e0,yWs hq,yXf (show ¬i.m.qty>0 from hq)]
  ·have hq:0<i.m.qty:=by simpa using hb
   rw[hA,e0,yWt hq,yXi (show i.m.qty>0 from hq)]
 ·have hf0:(⟨i.v,i.m.inst.toNat,false⟩:CpI).f=0:=rfl
  have hlv:(⟨i.v,i.m.inst.toNat,false⟩:CpI).lv=p.1.levels.map lvE:=by rw[CpI.lv,z1o,hp];rfl
  have e0:=zZa (s:=1) (x:=p.1) (m:=i.m) (by simp[hi])
  rw[e0]at hA
  have hh:i.m.inst.toNat=i.m.inst.toNat∧0=(⟨i.v,i.m.inst.toNat,false⟩:CpI).f∧True∧i.m.inst.toNat<(i.v.map zC).length∧0<10:=⟨rfl,rfl,trivial,hN,by decide⟩
  have hf9:(⟨i.v,i.m.inst.toNat,false⟩:CpI).f<10:=by show 0<10;decide
  have hh2:i.m.inst.toNat<(i.v.map zC).length∧0<10:=⟨hN,by decide⟩
  have hB:∀l:List (List D),(kJ 1 p.1.levels i.m.lv).map lvE=l→(apV i.v i.m).map zC=zH (i.v.map zC) i.m.inst.toNat 0 [D.ro 3 l]:=fun l e=>by
   subst e
   rw[hA]
   exact Eq.symm (dH (f:=0) (ds:=[D.ro 3 ((kJ 1 p.1.levels i.m.lv).map lvE)]) hp' rfl)
  have hll:(p.1.levels.map lvE).length=p.1.levels.length:=yWu _
  have e1:1=i.m.side:=hs.symm
  refine⟨hh,.inl ⟨⟨p.1.levels,i.m⟩,hlv.symm,rfl,rfl,hs,rfl,rfl,rfl,rfl,by dsimp only;omega,fun _ _=> ?_⟩⟩
  dsimp only
  cases hk:p.1.levels.findIdx? (fun y=>decide (y.price=i.m.price))with
  |some k=>
   have hkl:=zIt hk
   refine zK (fun _=>Cv.cnd.mk (fun hq=>⟨hh,⟨p.1.levels.map lvE,k,k+1⟩,rfl,?_,rfl,⟨by dsimp only;omega,by dsimp only;omega⟩,fun _ _=>⟨hh2,⟨by(first|rfl|trivial),by(first|rfl|trivial)⟩,(),⟨by(first|rfl|trivial),hN,hf9,hB _ (yFq hk (by show i.m.qty=0;simpa using hq))⟩,k0q⟩⟩) (fun hq=>zK (fun _=>⟨hh,⟨by show(0:Int)≤(k:Int);omega,by show(k:Int)<_;omega⟩,by show k<_;omega,(),⟨by(first|rfl|trivial),hN,hf9,hB _ (z9k hk (by show ¬i.m.qty=0;simpa using hq) hkl)⟩,k0q⟩) (fun c=>absurd (show(0:Int)≤(k:Int)by omega) c))) (fun c=>absurd (show(0:Int)≤(k:Int)by omega) c)
   show((k+1:Nat):Int)=IntKind.i64.wrap ((k:Int)+1)
   rw[w64 (by omega)];rfl
  |none=>
   refine zK (fun c=>absurd c (by decide)) (fun _=>zK (fun c=>absurd c (by decide)) (fun _=>zK (fun hq=>⟨hh,.inr ⟨⟨p.1.levels,i.m⟩,rfl,rfl,rfl,rfl,rfl,rfl,rfl,rfl,by dsimp only;omega,fun _ _=> ?_⟩⟩) (fun hq=>⟨(),⟨by(first|rfl|trivial),hN,hf9,hB _ (by rw[z4u hk hq])⟩,k0q⟩)))
   dsimp only
   rw[hs]
   cases hb:p.1.levels.findIdx? (fun y=>xA 1 i.m.price y.price)with
   |some k=>
    have hkl:=zIt hb
    exact zK (fun c=>absurd c (by show ¬(k:Int)<0;omega)) (fun _=>⟨hh,⟨hh,trivial⟩,⟨p.1.levels.map lvE,lvE i.m.lv,k⟩,rfl,rfl,rfl,⟨by dsimp only;omega,by dsimp only;omega⟩,fun _ _=>⟨hh2,⟨by(first|rfl|trivial),by(first|rfl|trivial)⟩,(),⟨by(first|rfl|trivial),hN,hf9,hB _ (zRb hk hq (by rw[show(p.1.levels.findIdx? fun y=>xA 1 i.m.lv.price y.price)=some k from hb];rfl))⟩,k0q⟩⟩)
   |none=>
    exact zK (fun _=>⟨hh,hh,⟨hh,trivial⟩,⟨p.1.levels.map lvE,lvE i.m.lv,p.1.levels.length⟩,by rw[hll],rfl,rfl,⟨by dsimp only;omega,by dsimp only;omega⟩,fun _ _=>⟨hh2,⟨by(first|rfl|trivial),by(first|rfl|trivial)⟩,(),⟨by(first|rfl|trivial),hN,hf9,hB _ (zRb hk hq (by rw[show(p.1.levels.findIdx? fun y=>xA 1 i.m.lv.price y.price)=none from hb];rfl))⟩,k0q⟩⟩) (fun c=>absurd (show(-1:Int)<0 by decide) c)
theorem yQf:ap1C.ok Tryz.prog 15:=okw mixed (gokc zWr (gokc zWz (gokc yCk (gokc yCm (gokc z4c (gokc z4k gok0)))))) 0 (fun _=>[]) (fun _=>[]) [] Tryz.func15 yWa
theorem yVi (i:ApI) (h:ap2C.cnd i):yUf i:=by
 obtain⟨hs,hfi,hl,hsm⟩:i.m.side=2∧i.m.fine i.v.length=0∧i.v.length≤1000000∧kE i.v:=h
 have hml:(i.v.map zC).length=i.v.length:=yWu _
 obtain⟨⟨f1,f2⟩,f3,f4,f5⟩:=zKd hfi
 have hN:i.m.inst.toNat<(i.v.map zC).length:=by omega
 obtain⟨p,hp⟩:=zW (l:=i.v) (i:=i.m.inst.toNat) (by omega)
 have hp':(i.v.map zC)[i.m.inst.toNat]? =some (zC p):=by rw[yXq,hp];rfl
 have hps:=hsm.2 p (yXd hp)
 have z0:((0:Nat)+(nat_lit 2-Nat.succ (nat_lit 0)) % ((2:Int) ^ IntKind.i64.bits).natAbs*(5:Nat)+(0:Nat))=5:=by decide
 have z1:((0:Nat)+(nat_lit 2-Nat.succ (nat_lit 0)) % ((2:Int) ^ IntKind.i64.bits).natAbs*(5:Nat)+(1:Nat))=6:=by decide
 have z4:((0:Nat)+(nat_lit 2-Nat.succ (nat_lit 0)) % ((2:Int) ^ IntKind.i64.bits).natAbs*(5:Nat)+(4:Nat))=9:=by decide
 have hA:=yDa hp
 rw[yWs (show ¬i.m.side=1 by omega)]at hA
 unfold yUf kR uK zNi zNo Vtopst403 vE xY kQ zDq wD dI
 simp only[z0,z1,z4]
 refine⟨⟨i.v.length,i.m⟩,by rw[hml],rfl,rfl,hs,rfl,rfl,rfl,rfl,trivial,fun _ _=>Cv.cnd.mk (fun e=> ?_) (fun _=>⟨⟨i.v,i.m.inst.toNat,true⟩,rfl,⟨by dsimp only;omega,hl,hsm⟩,fun _ _=>⟨⟨f1,by rw[hml];exact f2⟩,Cv.cnd.mk (fun hi=> ?_) (fun hi=> ?_)⟩⟩)⟩
 ·exfalso;simp[hfi]at e
 ·have hf0:(⟨i.v,i.m.inst.toNat,true⟩:CpI).f=5:=rfl
  have hlv:(⟨i.v,i.m.inst.toNat,true⟩:CpI).lv=p.2.levels.map lvE:=by rw[CpI.lv,z1o,hp];rfl
  have e0:lF 2 p.2 i.m=if 0<i.m.qty then⟨p.2.levels,i.m.lv,true⟩else⟨p.2.levels,lv0,false⟩:=by rw[lF,yWt hi]
  rw[hf0,hlv]
  have a1:zH (i.v.map zC) i.m.inst.toNat 6 [D.v (.int .i64 i.m.price),D.v (.int .i64 i.m.qty),D.v (.int .i64 i.m.count)]=(i.v.map zC).set i.m.inst.toNat (zC (p.1,⟨p.2.levels,i.m.lv,p.2.has⟩)):=dH hp' rfl
  have a2:∀b:Bool,zH ((i.v.map zC).set i.m.inst.toNat (zC (p.1,⟨p.2.levels,i.m.lv,p.2.has⟩))) i.m.inst.toNat 9 [D.v (.bool b)]=(i.v.map zC).set i.m.inst.toNat (zC (p.1,⟨p.2.levels,i.m.lv,b⟩)):=fun b=>eU hN
  have a3:∀b:Bool,zH ((i.v.map zC).set i.m.inst.toNat (zC (p.1,⟨p.2.levels,i.m.lv,b⟩))) i.m.inst.toNat 6 [D.v (.int .i64 0),D.v (.int .i64 0),D.v (.int .i64 0)]=(i.v.map zC).set i.m.inst.toNat (zC (p.1,⟨p.2.levels,lv0,b⟩)):=fun b=>eU hN
  have a4:∀(y:Lv) (b:Bool),zH ((i.v.map zC).set i.m.inst.toNat (zC (p.1,⟨p.2.levels,y,b⟩))) i.m.inst.toNat 5 [D.ro 3 (p.2.levels.map lvE)]=(i.v.map zC).set i.m.inst.toNat (zC (p.1,⟨p.2.levels,y,b⟩)):=fun y b=>eU hN
  have a5:∀b:Bool,zE ((i.v.map zC).set i.m.inst.toNat (zC (p.1,⟨p.2.levels,i.m.lv,b⟩))) i.m.inst.toNat 9 1=some [D.v (.bool b)]:=fun b=>by
   rw[zE,yZk,yWt rfl,yWt hN];rfl
  simp only[a1,a2,a3,a4,yXv]
  refine⟨⟨by(first|rfl|trivial),hN,by decide,by decide,fun _ _=> .inr (by decide)⟩,by(first|rfl|trivial),⟨by(first|rfl|trivial),hN,by decide,by decide,fun _ _=> .inr (by decide)⟩,_,a5 _,⟨by decide,fun _ _=> .inr (by decide)⟩,Cv.cnd.mk (fun hb=>⟨⟨by(first|rfl|trivial),hN,by decide,by decide,fun _ _=> .inr (by decide)⟩,(),⟨by(first|rfl|trivial),hN,by decide,?_⟩,k0q⟩) (fun hb=>⟨(),⟨by(first|rfl|trivial),hN,by decide,?_⟩,k0q⟩)⟩
  ·have hq:¬0<i.m.qty:=by simpa using hb
   rw[hA,e0,yWs hq,yXf (show ¬i.m.qty>0 from hq)]
  ·have hq:0<i.m.qty:=by simpa using hb
   rw[hA,e0,yWt hq,yXi (show i.m.qty>0 from hq)]
 ·have hf0:(⟨i.v,i.m.inst.toNat,true⟩:CpI).f=5:=rfl
  have hlv:(⟨i.v,i.m.inst.toNat,true⟩:CpI).lv=p.2.levels.map lvE:=by rw[CpI.lv,z1o,hp];rfl
  have e0:=zZa (s:=2) (x:=p.2) (m:=i.m) (by simp[hi])
  rw[e0]at hA
  have hh:i.m.inst.toNat=i.m.inst.toNat∧5=(⟨i.v,i.m.inst.toNat,true⟩:CpI).f∧True∧i.m.inst.toNat<(i.v.map zC).length∧5<10:=⟨rfl,rfl,trivial,hN,by decide⟩
  have hf9:(⟨i.v,i.m.inst.toNat,true⟩:CpI).f<10:=by show 5<10;decide
  have hh2:i.m.inst.toNat<(i.v.map zC).length∧5<10:=⟨hN,by decide⟩
  have hB:∀l:List (List D),(kJ 2 p.2.levels i.m.lv).map lvE=l→(apV i.v i.m).map zC=zH (i.v.map zC) i.m.inst.toNat 5 [D.ro 3 l]:=fun l e=>by
   subst e
   rw[hA]
   exact Eq.symm (dH (f:=5) (ds:=[D.ro 3 ((kJ 2 p.2.levels i.m.lv).map lvE)]) hp' rfl)
  have hll:(p.2.levels.map lvE).length=p.2.levels.length:=yWu _
  have e1:2=i.m.side:=hs.symm
  refine⟨hh,.inl ⟨⟨p.2.levels,i.m⟩,hlv.symm,rfl,rfl,hs,rfl,rfl,rfl,rfl,by dsimp only;omega,fun _ _=> ?_⟩⟩
  dsimp only
  cases hk:p.2.levels.findIdx? (fun y=>decide (y.price=i.m.price))with
  |some k=>
   have hkl:=zIt hk
   refine zK (fun _=>Cv.cnd.mk (fun hq=>⟨hh,⟨p.2.levels.map lvE,k,k+1⟩,rfl,?_,rfl,⟨by dsimp only;omega,by dsimp only;omega⟩,fun _ _=>⟨hh2,⟨by(first|rfl|trivial),by(first|rfl|trivial)⟩,(),⟨by(first|rfl|trivial),hN,hf9,hB _ (yFq hk (by show i.m.qty=0;simpa using hq))⟩,k0q⟩⟩) (fun hq=>zK (fun _=>⟨hh,⟨by show(0:Int)≤(k:Int);omega,by show(k:Int)<_;omega⟩,by show k<_;omega,(),⟨by(first|rfl|trivial),hN,hf9,hB _ (z9k hk (by show ¬i.m.qty=0;simpa using hq) hkl)⟩,k0q⟩) (fun c=>absurd (show(0:Int)≤(k:Int)by omega) c))) (fun c=>absurd (show(0:Int)≤(k:Int)by omega) c)
   show((k+1:Nat):Int)=IntKind.i64.wrap ((k:Int)+1)
   rw[w64 (by omega)];rfl
  |none=>
   refine zK (fun c=>absurd c (by decide)) (fun _=>zK (fun c=>absurd c (by decide)) (fun _=>zK (fun hq=>⟨hh,.inr ⟨⟨p.2.levels,i.m⟩,rfl,rfl,rfl,rfl,rfl,rfl,rfl,rfl,by dsimp only;omega,fun _ _=> ?_⟩⟩) (fun hq=>⟨(),⟨by(first|rfl|trivial),hN,hf9,hB _ (by rw[z4u hk hq])⟩,k0q⟩)))
   dsimp only
   rw[hs]
   cases hb:p.2.levels.findIdx? (fun y=>xA 2 i.m.price y.price)with
   |some k=>
    have hkl:=zIt hb
    exact zK (fun c=>absurd c (by show ¬(k:Int)<0;omega)) (fun _=>⟨hh,⟨hh,trivial⟩,⟨p.2.levels.map lvE,lvE i.m.lv,k⟩,rfl,rfl,rfl,⟨by dsimp only;omega,by dsimp only;omega⟩,fun _ _=>⟨hh2,⟨by(first|rfl|trivial),by(first|rfl|trivial)⟩,(),⟨by(first|rfl|trivial),hN,hf9,hB _ (zRb hk hq (by rw[show(p.2.levels.findIdx? fun y=>xA 2 i.m.lv.price y.price)=some k from hb];rfl))⟩,k0q⟩⟩)
   |none=>
    exact zK (fun _=>⟨hh,hh,⟨hh,trivial⟩,⟨p.2.levels.map lvE,lvE i.m.lv,p.2.levels.length⟩,by rw[hll],rfl,rfl,⟨by dsimp only;omega,by dsimp only;omega⟩,fun _ _=>⟨hh2,⟨by(first|rfl|trivial),by(first|rfl|trivial)⟩,(),⟨by(first|rfl|trivial),hN,hf9,hB _ (zRb hk hq (by rw[show(p.2.levels.findIdx? fun y=>xA 2 i.m.lv.price y.price)=none from hb];rfl))⟩,k0q⟩⟩) (fun c=>absurd (show(-1:Int)<0 by decide) c)
theorem yMk:ap2C.ok Tryz.prog 15:=okw mixed (gokc zWr (gokc zWz (gokc yCk (gokc yCm (gokc z4c (gokc z4k gok0)))))) 0 (fun _=>[]) (fun _=>[]) [] Tryz.func15 yVi
theorem apply_ok:applyC.ok Tryz.prog 15:=by
 intro i h
 obtain⟨hfi,hl,hsm⟩:i.m.fine i.v.length=0∧i.v.length≤1000000∧kE i.v:=h
 obtain⟨_,f3,_⟩:=zKd hfi
 rcases f3 with e|e
 ·have:=yQf i ⟨e,hfi,hl,hsm⟩
  have e2:applyC.pat i=ap1C.pat i:=by
   show[vwV i.v,zZx i.m]=[vwV i.v,V.agg [zA i.m.seq,zA i.m.inst,zA 1,zA i.m.price,zA i.m.qty,zA i.m.count,z7 i.m.implied]]
   rw[zZx,e]
  intro k L E w ys R hv
  rw[e2]at hv
  exact this k L E w ys R hv
 ·have:=yMk i ⟨e,hfi,hl,hsm⟩
  have e2:applyC.pat i=ap2C.pat i:=by
   show[vwV i.v,zZx i.m]=[vwV i.v,V.agg [zA i.m.seq,zA i.m.inst,zA 2,zA i.m.price,zA i.m.qty,zA i.m.count,z7 i.m.implied]]
   rw[zZx,e]
  intro k L E w ys R hv
  rw[e2]at hv
  exact this k L E w ys R hv
open Go Cv Go.Proofs
theorem yLd:∀{l:List zJ} {v:Lv},v∈grp l→(1≤v.count∧v.count≤l.length)∧∃o∈l,o.price=v.price
 |[],v,h=>by cases h
 |o::l,v,h=>by
  have ih:∀v∈grp l,(1≤v.count∧v.count≤l.length)∧∃o∈l,o.price=v.price:=fun v hv=>yLd hv
  rw[grp]at h
  rw[yXa]
  split at h
  ·rw[yYl]at h
   subst h
   exact⟨by dsimp only;omega,o,yWy,rfl⟩
  ·rename_i w ws e
   rw[e]at ih
   have hw:=ih w yWy
   split at h
   ·rename_i ep
    rcases yXl.1 h with rfl|h
    ·exact⟨by dsimp only;omega,o,yWy,ep.symm⟩
    ·obtain⟨a,x,hx,hp⟩:=ih v (yWz _ h)
     exact⟨by omega,x,yWz _ hx,hp⟩
   ·rcases yXl.1 h with rfl|h
    ·exact⟨by dsimp only;omega,o,yWy,rfl⟩
    ·obtain⟨a,x,hx,hp⟩:=ih v h
     exact⟨by omega,x,yWz _ hx,hp⟩
theorem z5w:∀l:List zJ,(grp l).length≤l.length
 |[]=>yYa 0
 |o::l=>by
  have ih:=z5w l
  rw[grp,yXa]
  cases e:grp l with
  |nil=>simp
  |cons w ws=>
   rw[e,yXa]at ih
   dsimp only
   split
   ·rw[yXa];omega
   ·rw[yXa,yXa];omega
theorem yNa {s:Int} {L:List Lv} (h:rA s L) (hp:∀l∈L,1≤l.qty∧1≤l.count) (i:Nat):yFe s L i:=by
 intro a ha
 have hm:=hp a (yXd ha)
 refine⟨hm.1,hm.2,?_⟩
 rintro j b rfl hb
 obtain⟨h1,e1⟩:=yWv.1 ha
 obtain⟨h2,e2⟩:=yWv.1 hb
 have:=(List.pairwise_iff_getElem.1 h) j (j+1) h2 h1 (y0z j)
 rw[e1,e2]at this
 exact this
theorem z4t {p:Prd} {B:List (List zJ)} (h:BWf p B) {k:Nat} {L:List zJ} (hL:B[k]? =some L) {s:Int} (hs:s=1∨s=2):
 (∀i,yFe s (uR L s) i)∧(uR L s).length≤255∧∀l∈uR L s,(1≤l.qty∧l.qty≤250000000)∧l.fit:=by
 obtain⟨h1,h2,h3⟩:=h.od k L hL
 have hf:(L.filter fun o=>decide (o.side=s)).length≤L.length:=y0b _ _
 have hl:=z5w (L.filter fun o=>decide (o.side=s))
 have hall:∀l∈uR L s,(1≤l.qty∧l.qty≤250000000)∧(1≤l.count∧l.count≤250)∧(-2000000≤l.price∧l.price≤2000000):=fun l hm=>by
  have q:=z5u (fun o ho=>h1 o (yYv.1 ho).1) hm
  obtain⟨c,o,ho,e⟩:=yLd hm
  have hp:=h.ok.prices hL o (yYv.1 ho).1
  rw[e]at hp
  exact⟨by omega,by omega,hp⟩
 refine⟨yNa (yJj h hL hs).1 fun l hm=>⟨(hall l hm).1.1,(hall l hm).2.1.1⟩,by rw[uR];omega,fun l hm=> ?_⟩
 obtain⟨a,b,c⟩:=hall l hm
 exact⟨a,⟨by omega,by omega⟩,⟨by omega,by omega⟩,⟨by omega,by omega⟩⟩
theorem zUs {p:Prd} {B:List (List zJ)} (h:BWf p B) {k:Nat} {L:List zJ} (hL:B[k]? =some L) {s:Int} (hs:s=1∨s=2) (hb:(bestL L s).2=true):1≤(bestL L s).1.qty∧(bestL L s).1.qty≤250000000:=by
 have hm:(bestL L s).1∈uR L s:=by
  rw[bestL]at hb ⊢
  split at hb
  ·cases hb
  ·rename_i v vs e
   rw[e]
   exact yWy
 exact((z4t h hL hs).2.2 _ hm).1
theorem yKc {p:Prd} {B:List (List zJ)} (h:BWf p B) {i s:Int} (hi:0≤i∧i<(B.map qO).length) (hs:s=1∨s=2) (hh:((B.map qO).getD i.toNat top0).has s=true):1≤((B.map qO).getD i.toNat top0).qty s∧((B.map qO).getD i.toNat top0).qty s≤250000000:=by
 rw[yWu]at hi
 obtain⟨L,hL⟩:=zW (l:=B) (i:=i.toNat) (by omega)
 have e:(B.map qO).getD i.toNat top0=qO L:=by rw[yXb,yXq,hL];rfl
 rw[e]at hh ⊢
 obtain⟨t1,t2,t3,t4,t5,t6⟩:=zJc L
 rcases hs with rfl|rfl
 ·rw[Top.has,yWt rfl,t3]at hh
  rw[Top.qty,yWt rfl,t2]
  exact zUs h hL (.inl rfl) hh
 ·rw[Top.has,yWs (by decide),t6]at hh
  rw[Top.qty,yWs (by decide),t5]
  exact zUs h hL (.inr rfl) hh
theorem yHg {p:Prd} {B:List (List zJ)} (h:BWf p B) {n s:Int} (hs:s=1∨s=2) {q:Quote} (hq:q∈xO ⟨p,B.map qO,n⟩ s):(1≤q.qty∧q.qty≤250000000)∧(-2000000≤q.price∧q.price≤2000000):=by
 rw[xO,yYv]at hq
 obtain⟨ok,-⟩:=z1y h.ok.pc (by rw[yWu,h.ok.bl]) hs hq.1
 have qa:=yKc h ok.a ok.sa ok.ha
 have qb:=yKc h ok.b ok.sb ok.hb
 have hp:p.price n q.price=0:=by simpa using hq.2
 exact⟨by rw[ok.qty];omega,tE h.ok.pc hp⟩
theorem zGx (b:Quote) {M:Int}:∀(l:List Quote) (a:Int×Int),(∀q∈l,1≤q.qty∧q.qty≤M)→1≤a.1→a.1≤M→
 (1≤(l.foldl (fun a q=>if q.price=b.price then(if q.qty>a.1 then q.qty else a.1,a.2+1)else a) a).1∧(l.foldl (fun a q=>if q.price=b.price then(if q.qty>a.1 then q.qty else a.1,a.2+1)else a) a).1≤M)∧
 a.2≤(l.foldl (fun a q=>if q.price=b.price then(if q.qty>a.1 then q.qty else a.1,a.2+1)else a) a).2∧(l.foldl (fun a q=>if q.price=b.price then(if q.qty>a.1 then q.qty else a.1,a.2+1)else a) a).2≤a.2+l.length∧
 (b∈l→a.2+1≤(l.foldl (fun a q=>if q.price=b.price then(if q.qty>a.1 then q.qty else a.1,a.2+1)else a) a).2)
 |[],a,_,h1,h2=>⟨⟨h1,h2⟩,y1p _,by simp,fun h=>by cases h⟩
 |q::l,a,hq,h1,h2=>by
  have q0:=hq q yWy
  rw[y0o,yXa]
  by_cases e:q.price=b.price
  ·rw[yWt e]
   obtain⟨r1,r2,r3,r4⟩:=zGx b (M:=M) l (if q.qty>a.1 then q.qty else a.1,a.2+1) (fun x hx=>hq x (yWz _ hx)) (by dsimp only;split<;>omega) (by dsimp only;split<;>omega)
   dsimp only at r2 r3
   exact⟨r1,by omega,by omega,fun _=>r2⟩
  ·rw[yWs e]
   obtain⟨r1,r2,r3,r4⟩:=zGx b (M:=M) l a (fun x hx=>hq x (yWz _ hx)) h1 h2
   refine⟨r1,r2,by omega,fun hb=> ?_⟩
   rcases yXl.1 hb with rfl|hb
   ·exact absurd rfl e
   ·exact r4 hb
theorem yAt {l:List Quote} {s:Int} (hl:l.length≤100) (h:∀q∈l,(1≤q.qty∧q.qty≤250000000)∧(-2000000≤q.price∧q.price≤2000000)):
 ((x5 l s).2=true→1≤(x5 l s).1.qty∧1≤(x5 l s).1.count)∧((x5 l s).2=false→(x5 l s).1=⟨0,0,0⟩)∧(x5 l s).1.fit:=by
 by_cases e:(zU l s).2=true
 ·have hm:=zFv e
  have hb:=h _ hm
  have:=zGx (zU l s).1 (M:=250000000) l ((zU l s).1.qty,0) (fun q hq=>(h q hq).1) hb.1.1 hb.1.2
  have e2:x5 l s=(⟨(zU l s).1.price,(fA l (zU l s).1).1,(fA l (zU l s).1).2⟩,true):=by rw[x5,yWt e]
  rw[e2]
  rw[← fA]at this
  obtain⟨r1,r2,r3,r4⟩:=this
  have r4:=r4 hm
  dsimp only at r2 r3 r4 ⊢
  exact⟨fun _=>⟨r1.1,by omega⟩,fun x=>(by cases x),⟨by dsimp only;omega,by dsimp only;omega⟩,⟨by dsimp only;omega,by dsimp only;omega⟩,⟨by dsimp only;omega,by dsimp only;omega⟩⟩
 ·have e2:x5 l s=(⟨0,0,0⟩,false):=by rw[x5,yWs e]
  rw[e2]
  exact⟨fun x=>(by cases x),fun _=>rfl,⟨by decide,by decide⟩,⟨by decide,by decide⟩,⟨by decide,by decide⟩⟩
theorem zBx {p:Prd} {B:List (List zJ)} (h:BWf p B):zTc (qM p B)∧yRu (qM p B)∧kE (qM p B):=by
 have hc:=xP p
 have hlen:=mO p B
 have hside:∀k,k<p.count→∀s,s=1∨s=2→zSd s (zCr p B k s)∧(zCr p B k s).fit:=fun k hk s hs=>by
  obtain⟨L,hL⟩:=zW (l:=B) (i:=k) (by rw[h.ok.bl];exact hk)
  have e:B.getD k []=L:=zT hL
  obtain⟨a1,a2,a3⟩:=z4t h hL hs
  obtain⟨b1,b2,b3⟩:=yAt (s:=s) (zIa ⟨p,B.map qO,k⟩ s) (fun q hq=>yHg h hs hq)
  rw[zCr,e]
  exact⟨⟨a1,a2,b1,b2⟩,fun x hx=>(a3 x hx).2,b3⟩
 have hmem:∀b∈qM p B,∃k,k<p.count∧b=(zCr p B k 1,zCr p B k 2):=fun b hb=>by
  rw[qM]at hb
  obtain⟨k,hk,rfl⟩:=yYj.1 hb
  exact⟨k,yZy.1 hk,rfl⟩
 refine⟨⟨fun b hb=> ?_,by omega⟩,fun b hb=> ?_,⟨by omega,fun b hb=> ?_⟩⟩
 ·obtain⟨k,hk,rfl⟩:=hmem b hb
  exact⟨(hside k hk 1 (.inl rfl)).1,(hside k hk 2 (.inr rfl)).1⟩
 ·obtain⟨k,hk,rfl⟩:=hmem b hb
  exact⟨(hside k hk 1 (.inl rfl)).2,(hside k hk 2 (.inr rfl)).2⟩
 ·obtain⟨k,hk,rfl⟩:=hmem b hb
  have a:=(hside k hk 1 (.inl rfl)).1.2.1
  have c:=(hside k hk 2 (.inr rfl)).1.2.1
  dsimp only
  omega
open Go Cv Go.Proofs
structure VwG (p:Prd) (v:Vw):Prop where
 r:zTc v
 f:yRu v
 s:kE v
 len:v.length=p.count
theorem yDt {p:Prd} {B:List (List zJ)} (h:BWf p B):VwG p (qM p B):=⟨(zBx h).1,(zBx h).2.1,(zBx h).2.2,mO p B⟩
theorem zZk {s:Int}:∀{L:List Lv},(∀i,yFe s L i)→rA s L∧∀l∈L,1≤l.qty∧1≤l.count
 |[],_=>⟨List.Pairwise.nil,fun l h=>by cases h⟩
 |x::L,h=>by
  have hL:∀i,yFe s L i:=fun i a ha=>by
   obtain⟨h1,h2,h3⟩:=h (i+1) a (by simpa using ha)
   exact⟨h1,h2,fun j b e hb=>h3 (j+1) b (by omega) (by simpa using hb)⟩
  obtain⟨i1,i2⟩:=zZk hL
  obtain⟨h1,h2,_⟩:=h 0 x rfl
  refine⟨yYy.2 ⟨?_,i1⟩,fun l hl=> ?_⟩
  ·cases L with
   |nil=>intro a ha;cases ha
   |cons y L=>
    have hy:btr s x.price y.price=true:=(h 1 y rfl).2.2 0 x rfl rfl
    intro a ha
    rcases yXl.1 ha with rfl|ha
    ·exact hy
    ·exact zMo hy ((yYy.1 i1).1 a ha)
  ·rcases yXl.1 hl with rfl|hl
   ·exact⟨h1,h2⟩
   ·exact i2 l hl
theorem z1e {v:Vw} (h:zTc v):yTy v:=fun p hp=>by
 obtain⟨⟨a1,a2,a3,a4⟩,⟨b1,b2,b3,b4⟩⟩:=h.1 p hp
 obtain⟨s1,p1⟩:=zZk a1
 obtain⟨s2,p2⟩:=zZk b1
 exact⟨⟨s1,fun l hl=>(p1 l hl).1,fun x=>(a3 x).1,a4⟩,⟨s2,fun l hl=>(p2 l hl).1,fun x=>(b3 x).1,b4⟩⟩
def yVx (v:Vw):Prop:=∀p∈v,rA 1 p.1.levels∧rA 2 p.2.levels
def yVl (n:Nat) (v:Vw):Prop:=∀p∈v,p.1.levels.length≤n∧p.2.levels.length≤n
theorem z2v (s:Int) (m:Lv):∀L:List Lv,(bY s L m).length≤L.length+1
 |[]=>by rw[bY];split<;>simp
 |x::L=>by
  have:=z2v s m L
  rw[bY]
  split
  ·split
   ·rw[yXa];omega
   ·simp
  ·split
   ·split<;>simp
   ·rw[yXa,yXa];omega
theorem yNv {v:Vw} (h:yTy v):yVx v:=fun p hp=>⟨(h p hp).1.1,(h p hp).2.1⟩
theorem yPo {p:Prd} {v:Vw} (h:VwG p v):yVl 255 v:=fun b hb=>⟨(h.r.1 b hb).1.2.1,(h.r.1 b hb).2.2.1⟩
open Go Cv Go.Proofs
def known19C:Con:=con1 Unit (fun _=>[]) (fun _=>[]) (fun _=>True) (fun _=>z7 true) (fun _=>[])
open Go Cv Go.Proofs
def wH (a:Int):Prop:=sb [(67:UInt8),(76:UInt8)]=sb [(67:UInt8),(76:UInt8)]∧True∧(5:Int)=(5:Int)∧(0:Int)=(0:Int)∧(1000:Int)=(1000:Int)∧(200:Int)=(200:Int)∧a=a∧(4:Int)=(4:Int)∧(2:Int)=(2:Int)∧(40:Int)=(40:Int)∧True∧True
def kX (a:Mkt):Prop:=a.s.books.length≤1000000∧∀(b:Book),b∈a.s.books→wC b
def cB (a:EnI):Prop:=(a.m.Rep a.p a.B a.U∧BOk a.p a.B)∧a.c.label.length≤140737488355328∧((-9223372036854775808)≤a.c.qty∧a.c.qty≤9223372036854775807)∧a.X=doF a.p a.B a.U a.c
def nQ (a:DvI):Prop:=List.length a.v=List.length a.w∧((-4000000000000000000)≤a.seq∧a.seq≤4000000000000000000)∧a.v.levs≤100000000∧a.w.levs≤100000000∧List.length a.v≤1000000
def cH (a:DvI):=(↑(List.map msgE (u6 a.seq (jY 0 a.v a.w))).length:Int)
def sK (a:Int) (b:Mkt) (c:LkI):Prop:=∃(d:LkI),sb d.p.code=sb [(67:UInt8),(76:UInt8)]∧iE d.p.months=iE [(320:Int),(321:Int),(323:Int)]∧d.p.tick=5∧d.p.low=0∧d.p.high=1000∧d.p.wide=200∧d.p.rule=a∧d.p.top=4∧d.p.least=2∧d.p.part=40∧iE d.p.settle=iE [(500:Int),(505:Int),(490:Int)]∧zF d.s=zF b.s∧(d.s.Rep d.p d.B∧BOk d.p d.B)∧∀(e:Unit),True→∃(f:DvI),List.map zC f.v=List.map zC (qM c.p c.B)∧List.map zC f.w=List.map zC (qM d.p d.B)∧f.seq=40∧(nQ f)∧∀(g:Unit),True→cnd ((↑(List.map zC (qM c.p c.B)).length:Int)==6) (cnd ((cH f)==1) (((0:Int)≤(0:Int)∧0<(cH f))∧∃(h:Int),∃(j:Int),∃(k:Int),∃(l:Int),∃(m:Int),∃(n:Int),∃(p:Bool),zE (List.map msgE (u6 f.seq (jY 0 f.v f.w))) (Int.toNat 0) 0 7=some [dI h,dI j,dI k,dI l,dI m,dI n,D.v (.bool p)]∧cnd (h==41 && (j==0 && (k==1 && (l==5 && (m==3 && (n==1 && (p==false && true))))))) (∃(q:zTx),List.map zC q.v=List.map zC (qM c.p c.B)∧List.map zC q.w=List.map zC (qM d.p d.B)∧(rI q)∧∀(r:Unit),True→cnd (!zRg q.v q.w) (∃(s:DvI),List.map zC s.v=List.map zC (qM d.p d.B)∧List.map zC s.w=List.map zC (qM d.p d.B)∧s.seq=0∧(nQ s)∧∀(t:Unit),True→∃(u:Unit),true=((cH s)==0)∧True) (∃(s:Unit),true=false∧True)) (∃(q:Unit),true=false∧True)) (∃(h:Unit),true=false∧True)) (∃(h:Unit),true=false∧True)
def rY (a:Int) (b:Mkt) (c:LkI):Prop:=(wH a)∧sK a b c
def zAd (a:Int) (b:Mkt):Prop:=∃(c:LkI),sb c.p.code=sb [(67:UInt8),(76:UInt8)]∧iE c.p.months=iE [(320:Int),(321:Int),(323:Int)]∧c.p.tick=5∧c.p.low=0∧c.p.high=1000∧c.p.wide=200∧c.p.rule=a∧c.p.top=4∧c.p.least=2∧c.p.part=40∧iE c.p.settle=iE [(500:Int),(505:Int),(490:Int)]∧zF c.s=zF b.s∧(c.s.Rep c.p c.B∧BOk c.p c.B)∧∀(d:Unit),True→∃(e:EnI),e.c.kind=1∧e.c.id=7∧e.c.inst=0∧e.c.side=1∧e.c.price=5∧e.c.qty=3∧e.c.least=0∧e.c.time=1∧sb e.c.label=ByteArray.mk #[]∧g9 e.m=g9 b∧(cB e)∧∀(f:Mkt),f.Rep e.p e.X.B e.X.U→(∃(g:Mkt),g9 g=g9 f∧(kX g)∧∀(h:Unit),True→(wH a)∧(sK a g c)∧rY a g c)∧(wH a)∧∃(g:Mkt),g9 g=g9 f∧(kX g)∧∀(h:Unit),True→rY a g c
def zAx (a:Int) (b:Mkt):Prop:=(wH a)∧zAd a b
def zUu (u:Unit):Prop:=
 ∃(a:Int),a=1∧True∧∀(b:Unit),True→∃(c:Prd),sb c.code=sb [(67:UInt8),(76:UInt8)]∧iE c.months=iE [(320:Int),(321:Int),(323:Int)]∧c.tick=5∧c.low=0∧c.high=1000∧c.wide=200∧c.rule=a∧c.top=4∧c.least=2∧c.part=40∧iE c.settle=iE [(500:Int),(505:Int),(490:Int)]∧(zY c)∧(∀(d:Unit),c.check=0→(∃(e:Mkt),g9 e=g9 (Mkt.mk c (aV c) [])∧(kX e)∧∀(f:Unit),True→(wH a)∧(zAd a e)∧zAx a e)∧(wH a)∧∃(e:Mkt),g9 e=g9 (Mkt.mk c (aV c) [])∧(kX e)∧∀(f:Unit),True→zAx a e)∧∀(d:Unit),c.check≠0→∃(e:Unit),true=false∧True
open Go Cv Go.Proofs
theorem zXb:∀{v:Vw} {b:Sd×Sd},b∈v→b.1.levels.length+b.2.levels.length≤Vw.levs v
 |x::v,b,h=>by
  rw[Vw.levs,yXh,yYf]
  rcases yXl.1 h with rfl|h
  ·omega
  ·have:=zXb h
   rw[Vw.levs]at this
   omega
theorem zMv {v:Vw} (h:v.length≤1000000) (hl:Vw.levs v≤100000000):kE v:=⟨by omega,fun b hb=>by have:=zXb hb;omega⟩
def yUj:Cmd:=⟨1,7,0,1,5,3,0,1,[]⟩
def zRx:List (List zJ):=List.replicate (jU 1).count []
def kX19:MkX:=doF (jU 1) zRx [] yUj
def kV0:Vw:=qM (jU 1) zRx
def kV1:Vw:=qM (jU 1) kX19.B
theorem yUa:jY 0 kV0 kV1=[⟨0,1,⟨5,3,1⟩,false⟩]:=by kernel_rfl
theorem kl0:Vw.levs kV0≤100000000:=by decide+kernel
theorem kl1:Vw.levs kV1≤100000000:=by decide+kernel
theorem kn0:kV0.length=6:=by rw[kV0,mO];decide+kernel
theorem kn1:kV1.length=6:=by rw[kV1,mO];decide+kernel
open Classical in
theorem kne:zRg kV0 kV1=false:=yXf fun e=>by
 have:=yUa
 rw[e,zRp]at this
 cases this
theorem z9v (u:Unit) (h:known19C.cnd u):zUu u:=by
 have hc:(jU 1).check=0:=by decide+kernel
 have hp:(jU 1).small:=by refine⟨?_,?_,?_⟩<;>decide
 have hB0:BOk (jU 1) zRx:=BOk.new hc hp
 have hM0:(mk0 (jU 1)).Rep (jU 1) zRx []:=z5f (jU 1)
 have hB1:BOk (jU 1) kX19.B:=yEf (hM0.s.wf hB0) _ _
 have hs0:=hM0.s.small hB0
 have s0:kE kV0:=zMv (by rw[kn0];decide) kl0
 have s1:kE kV1:=zMv (by rw[kn1];decide) kl1
 unfold zUu zAx zAd rY sK cH nQ rI wD cB kX wC wH zY dI
 refine⟨1,rfl,trivial,fun _ _=>⟨jU 1,rfl,rfl,rfl,rfl,rfl,rfl,rfl,rfl,rfl,rfl,rfl,hp,fun _ _=> ?_,fun _ hx=>absurd hc hx⟩⟩
 refine(fun hT=>⟨⟨mk0 (jU 1),rfl,hs0,fun _ _=>⟨⟨rfl,trivial,rfl,rfl,rfl,rfl,rfl,rfl,rfl,rfl,trivial,trivial⟩,⟨⟨(mk0 (jU 1)).s,jU 1,zRx⟩,rfl,rfl,rfl,rfl,rfl,rfl,rfl,rfl,rfl,rfl,rfl,rfl,⟨hM0.s,hB0⟩,fun _ _=>hT⟩,⟨rfl,trivial,rfl,rfl,rfl,rfl,rfl,rfl,rfl,rfl,trivial,trivial⟩,⟨⟨(mk0 (jU 1)).s,jU 1,zRx⟩,rfl,rfl,rfl,rfl,rfl,rfl,rfl,rfl,rfl,rfl,rfl,rfl,⟨hM0.s,hB0⟩,fun _ _=>hT⟩⟩⟩,
  ⟨rfl,trivial,rfl,rfl,rfl,rfl,rfl,rfl,rfl,rfl,trivial,trivial⟩,⟨mk0 (jU 1),rfl,hs0,fun _ _=>⟨⟨rfl,trivial,rfl,rfl,rfl,rfl,rfl,rfl,rfl,rfl,trivial,trivial⟩,⟨⟨(mk0 (jU 1)).s,jU 1,zRx⟩,rfl,rfl,rfl,rfl,rfl,rfl,rfl,rfl,rfl,rfl,rfl,rfl,⟨hM0.s,hB0⟩,fun _ _=>hT⟩⟩⟩⟩) ?_
 refine⟨⟨mk0 (jU 1),jU 1,zRx,[],yUj,kX19⟩,rfl,rfl,rfl,rfl,rfl,rfl,rfl,rfl,rfl,rfl,⟨⟨hM0,hB0⟩,by dsimp only;decide,by dsimp only;decide,by dsimp only;rw[kX19]⟩,fun o ho=> ?_⟩
 have hs1:=ho.s.small hB1
 refine(fun hT=>⟨⟨o,rfl,hs1,fun _ _=>⟨⟨rfl,trivial,rfl,rfl,rfl,rfl,rfl,rfl,rfl,rfl,trivial,trivial⟩,⟨⟨o.s,jU 1,kX19.B⟩,rfl,rfl,rfl,rfl,rfl,rfl,rfl,rfl,rfl,rfl,rfl,rfl,⟨ho.s,hB1⟩,fun _ _=>hT⟩,⟨rfl,trivial,rfl,rfl,rfl,rfl,rfl,rfl,rfl,rfl,trivial,trivial⟩,⟨⟨o.s,jU 1,kX19.B⟩,rfl,rfl,rfl,rfl,rfl,rfl,rfl,rfl,rfl,rfl,rfl,rfl,⟨ho.s,hB1⟩,fun _ _=>hT⟩⟩⟩,
  ⟨rfl,trivial,rfl,rfl,rfl,rfl,rfl,rfl,rfl,rfl,trivial,trivial⟩,⟨o,rfl,hs1,fun _ _=>⟨⟨rfl,trivial,rfl,rfl,rfl,rfl,rfl,rfl,rfl,rfl,trivial,trivial⟩,⟨⟨o.s,jU 1,kX19.B⟩,rfl,rfl,rfl,rfl,rfl,rfl,rfl,rfl,rfl,rfl,rfl,rfl,⟨ho.s,hB1⟩,fun _ _=>hT⟩⟩⟩⟩) ?_
 refine⟨⟨kV0,kV1,40⟩,rfl,rfl,rfl,⟨by dsimp only;rw[kn0,kn1],by dsimp only;decide,kl0,kl1,by dsimp only;rw[kn0];decide⟩,fun _ _=> ?_⟩
 have hn:((qM (jU 1) zRx).map zC).length=6:=by rw[yWu];exact kn0
 dsimp only
 rw[hn,yUa]
 refine Cv.cnd.mk (fun _=>Cv.cnd.mk (fun _=>⟨⟨by decide,by decide⟩,_,_,_,_,_,_,_,rfl,Cv.cnd.mk (fun _=>⟨⟨kV0,kV1⟩,rfl,rfl,⟨s0,s1⟩,fun _ _=> ?_⟩) (fun e=>absurd e (by decide))⟩) (fun e=>absurd e (by decide))) (fun e=>absurd e (by decide))
 dsimp only
 rw[kne]
 refine Cv.cnd.mk (fun _=>⟨⟨kV1,kV1,0⟩,rfl,rfl,rfl,⟨rfl,by dsimp only;decide,kl1,kl1,by dsimp only;rw[kn1];decide⟩,fun _ _=>⟨(),?_,trivial⟩⟩) (fun e=>absurd e (by decide))
 dsimp only
 rw[zRp];rfl
theorem known19_ok:known19C.ok Tryz.prog 17:=okw mixed (gokc z8x (gokc z5q (gokc zUv (gokc z3a (gokc yKu (gokc z9h (gokc z8v gok0))))))) 0 (fun _=>[]) (fun _=>[]) [] Tryz.func17 z9v
open Go Cv Go.Proofs
@[reducible] def z2l:Nat:=34
def vwE (v:Vw):List D:=[.ro 10 (v.map zC)]
structure VsI where
 p:Prd
 l:List Cmd
structure VsJ where
 m:Mkt
 k:Nat
 V:List Vw
def viewsC:Con where
 ι:=VsI
 pat:=fun i=>[prdV i.p,roV 9 (i.l.map cmdE)]
 pre:=fun _=>[]
 cnd:=fun i=>i.p.check=0∧i.p.small∧(∀c∈i.l,c.raw)∧i.l.length≤9223372036854775807
 alts:=fun i=>[{o:=List Vw,res:=fun _=> .own 0,post:=fun V=>[.own z2l 1 (V.map vwE)],rel:=fun V=>V≠[]∧V.length≤31∧∀v∈V,VwG i.p v}]
def yOp:List SAnn:=[{ι:=VsJ,slots:=fun j=>[(5,.nm 0 0),(7,.own 1),(8,zA j.k)],rows:=fun j=>[g9 j.m,.own z2l 1 (j.V.map vwE)]}]
def yOl:List (Nat×SAnn):=[(24,bj 32)]
end Sx
