/- Texts of ours, one behind the other: a walk that the kernel reckons, and contracts of functions. No condition. -/
import Derived.Test.YthkofaanekmpmaaGreatX11
namespace Sx
set_option linter.unusedVariables false
set_option maxRecDepth 100000
open Go Cv Go.Proofs
def yLf (i:List (List D)):Prop:=
 ∀(b:Bool),(b=true→i=[])→cnd b (∃(o:Unit),i=[]∧True) ((0+i.length)*(112:Nat)≤(140737488355328:Nat)∧∃(o:Unit),i=[]++i∧True)
theorem yMg (i:List (List D)):yLf i=walk Tryz.prog ([]) 0 ([]) ([]) [] Tryz.f120 (Tryz.f120.body.getD .skip) (clVwC.pat i) (clVwC.pre i) (clVwC.alts i):=by kernel_rfl
theorem yOt (hG:GOk Tryz.prog ([])) (h:∀(i:List (List D)),clVwC.cnd i→yLf i):clVwC.ok Tryz.prog 120:=bZ mixed ([]) hG 0 (fun(i:List (List D))=>[]) (fun(i:List (List D))=>[]) [] Tryz.func120 (by kernel_rfl) (by kernel_rfl) (by kernel_rfl) (fun _=>by kernel_rfl) (fun(i:List (List D)) hc=>Eq.mp (yMg i) (h i hc))
def yLt (i:List (List D)):Prop:=
 ∀(b:Bool),(b=true→i=[])→cnd b (∃(o:Unit),i=[]∧True) ((0+i.length)*(24:Nat)≤(140737488355328:Nat)∧∃(o:Unit),i=[]++i∧True)
theorem yNw (i:List (List D)):yLt i=walk Tryz.prog ([]) 0 ([]) ([]) [] Tryz.f121 (Tryz.f121.body.getD .skip) (clLvC.pat i) (clLvC.pre i) (clLvC.alts i):=by kernel_rfl
theorem yNl (hG:GOk Tryz.prog ([])) (h:∀(i:List (List D)),clLvC.cnd i→yLt i):clLvC.ok Tryz.prog 121:=bZ mixed ([]) hG 0 (fun(i:List (List D))=>[]) (fun(i:List (List D))=>[]) [] Tryz.func121 (by kernel_rfl) (by kernel_rfl) (by kernel_rfl) (fun _=>by kernel_rfl) (fun(i:List (List D)) hc=>Eq.mp (yNw i) (h i hc))
def zAf (a:Nat→Prop) (b:Nat) (c:Nat→Nat) (d:Nat) (e:CpI):Prop:=a b∧c b<c d∧Sx.AObj.cells Vlookt296.cl 34=Sx.AObj.cells Vlookt296.cl 34∧AObj.fro 10 (List.map zB e.v)=AObj.fro 10 (List.map zB e.v)
def vP (a:CpI) (b:Nat):=(bif decide (a.n<b)then a.lv else[])
def pE (a:CpI) (b:Nat) (c:List (List D)) (d:Nat→Prop) (e:Nat→Nat) (f:Nat):Prop:=(vP a b)=c∧zAf d b e f a
def h9 (a:CpI) (b:Nat) (c:List (List D)):=(zH (List.map zB a.v) (↑b:Int).toNat (0+nat_lit 0*(5:Nat)+(0:Nat)) [D.ro 3 c])
def pP (a:Nat) (b:CpI) (c:List (List D)):Prop:=0≤(↑a:Int)∧(↑a:Int)<(↑(h9 b a c).length:Int)
def aL:=(0+(nat_lit 0+nat_lit 1) % Vtopst363.natAbs*(5:Nat)+(0:Nat))
def hP (a:Nat) (b:CpI):Prop:=0≤(↑a:Int)∧(↑a:Int)<(↑(List.map zB b.v).length:Int)
def yBz (i:CpI):Prop:=
 ∃(a:List (List D)),a=List.map zB i.v∧a.length*(112:Nat)≤(140737488355328:Nat)∧∀(b:Unit),True→∃(c:Nat),(↑c:Int)=0∧(List.map zB i.v=a∧decide (i.n<c)=false)∧(vP i c)=[]∧∃(d:Nat→Prop),∃(e:Nat→Nat),d c∧∀(f:Nat),d f→cnd (decide ((↑f:Int)<(↑a.length:Int))) ((hP f i)∧∃(g:List (List D)),zF (List.map zB i.v) (↑f:Int).toNat (0+nat_lit 0*(5:Nat)+(0:Nat)) 1=some [D.ro 3 g]∧(i.f<10∧(decide (i.n<f)=true→(↑f:Int).toNat=i.n→0+nat_lit 0*(5:Nat)+(0:Nat)+1≤i.f∨i.f<0+nat_lit 0*(5:Nat)+(0:Nat)))∧(hP f i)∧∃(h:List (List D)),h=g∧h.length*(24:Nat)≤(140737488355328:Nat)∧∀(j:Unit),True→((hP f i)∧(↑f:Int).toNat=(↑f:Int).toNat)∧True∧((↑f:Int).toNat<(List.map zB i.v).length∧0+nat_lit 0*(5:Nat)+(0:Nat)<10)∧((↑f:Int).toNat=i.n→0+nat_lit 0*(5:Nat)+(0:Nat)=i.f→(hP f i)∧∃(k:List (List D)),zF (List.map zB i.v) (↑f:Int).toNat aL 1=some [D.ro 3 k]∧(i.f<10∧(true=true→(↑f:Int).toNat=i.n→0+(nat_lit 0+nat_lit 1) % Vtopst363.natAbs*(5:Nat)+(0:Nat)+1≤i.f∨i.f<0+(nat_lit 0+nat_lit 1) % Vtopst363.natAbs*(5:Nat)+(0:Nat)))∧(hP f i)∧∃(l:List (List D)),l=k∧l.length*(24:Nat)≤(140737488355328:Nat)∧∀(m:Unit),True→((hP f i)∧(↑f:Int).toNat=(↑f:Int).toNat)∧True∧((↑f:Int).toNat<(List.map zB i.v).length∧0+(nat_lit 0+nat_lit 1) % Vtopst363.natAbs*(5:Nat)+(0:Nat)<10)∧((↑f:Int).toNat=i.n→0+(nat_lit 0+nat_lit 1) % Vtopst363.natAbs*(5:Nat)+(0:Nat)=i.f→∃(n:Nat),(↑n:Int)=IntKind.i64.wrap ((↑f:Int)+1)∧(List.map zB i.v=List.map zB i.v∧i.n=i.n∧i.f=i.f∧decide (i.n<n)=true)∧pE i n l d e f)∧i.f<10∧(¬((↑f:Int).toNat=i.n∧0+(nat_lit 0+nat_lit 1) % Vtopst363.natAbs*(5:Nat)+(0:Nat)=i.f)→HolI.mk false wU 10 (List.map zB i.v) i.n i.f true (some ((0:Nat)+(1:Nat)+(1:Nat)+(1:Nat)+((1:Nat)-(0:Nat))+(1:Nat)+(3:Nat)+nat_lit 0))=HolI.mk false wU 10 (List.map zB i.v) i.n i.f true (some ((0:Nat)+(1:Nat)+(1:Nat)+(1:Nat)+((1:Nat)-(0:Nat))+(1:Nat)+(3:Nat)+nat_lit 0))∧∃(n:Nat),(↑n:Int)=IntKind.i64.wrap ((↑f:Int)+1)∧(List.map zB i.v=zH (List.map zB i.v) (↑f:Int).toNat aL [D.ro 3 l]∧i.n=i.n∧i.f=i.f∧decide (i.n<n)=true)∧pE i n h d e f))∧i.f<10∧(¬((↑f:Int).toNat=i.n∧0+nat_lit 0*(5:Nat)+(0:Nat)=i.f)→HolI.mk false wU 10 (List.map zB i.v) i.n i.f (decide (i.n<f)) (oN (fN ((0:Nat)+(1:Nat)+(1:Nat)+(1:Nat)+((1:Nat)-(0:Nat))+1) [((2:Nat),(0:Nat)+(1:Nat)+(1:Nat)+(1:Nat)+((1:Nat)-(0:Nat))),((1:Nat),(0:Nat)+(1:Nat)+(1:Nat)+(1:Nat)+nat_lit 0),((0:Nat),(0:Nat)+(1:Nat))] 0 [Sx.AObj.cells [V.own 1] (34:TypeId),AObj.hol false wU 10 (List.map zB i.v) i.n i.f (decide (i.n<c)) (some 2),AObj.own tLv 3 (vP i c)]) (some 2))=HolI.mk false wU 10 (List.map zB i.v) i.n i.f (decide (i.n<f)) (oN (fN ((0:Nat)+(1:Nat)+(1:Nat)+(1:Nat)+((1:Nat)-(0:Nat))+1) [((2:Nat),(0:Nat)+(1:Nat)+(1:Nat)+(1:Nat)+((1:Nat)-(0:Nat))),((1:Nat),(0:Nat)+(1:Nat)+(1:Nat)+(1:Nat)+nat_lit 0),((0:Nat),(0:Nat)+(1:Nat))] 0 [Sx.AObj.cells [V.own 1] (34:TypeId),AObj.hol false wU 10 (List.map zB i.v) i.n i.f (decide (i.n<c)) (some 2),AObj.own tLv 3 (vP i c)]) (some 2))∧(pP f i h)∧∃(k:List (List D)),zF (h9 i f h) (↑f:Int).toNat aL 1=some [D.ro 3 k]∧(i.f<10∧(decide (i.n<f)=true→(↑f:Int).toNat=i.n→0+(nat_lit 0+nat_lit 1) % Vtopst363.natAbs*(5:Nat)+(0:Nat)+1≤i.f∨i.f<0+(nat_lit 0+nat_lit 1) % Vtopst363.natAbs*(5:Nat)+(0:Nat)))∧(pP f i h)∧∃(l:List (List D)),l=k∧l.length*(24:Nat)≤(140737488355328:Nat)∧∀(m:Unit),True→((pP f i h)∧(↑f:Int).toNat=(↑f:Int).toNat)∧True∧((↑f:Int).toNat<(h9 i f h).length∧0+(nat_lit 0+nat_lit 1) % Vtopst363.natAbs*(5:Nat)+(0:Nat)<10)∧((↑f:Int).toNat=i.n→0+(nat_lit 0+nat_lit 1) % Vtopst363.natAbs*(5:Nat)+(0:Nat)=i.f→∃(n:Nat),(↑n:Int)=IntKind.i64.wrap ((↑f:Int)+1)∧(List.map zB i.v=zH (List.map zB i.v) (↑f:Int).toNat (0+nat_lit 0*(5:Nat)+(0:Nat)) [D.ro 3 h]∧i.n=i.n∧i.f=i.f∧decide (i.n<n)=true)∧pE i n l d e f)∧i.f<10∧(¬((↑f:Int).toNat=i.n∧0+(nat_lit 0+nat_lit 1) % Vtopst363.natAbs*(5:Nat)+(0:Nat)=i.f)→HolI.mk false wU 10 (h9 i f h) i.n i.f (decide (i.n<f)) (oN (fN ((0:Nat)+(1:Nat)+(1:Nat)+(1:Nat)+((1:Nat)-(0:Nat))+1) [((2:Nat),(0:Nat)+(1:Nat)+(1:Nat)+(1:Nat)+((1:Nat)-(0:Nat))),((1:Nat),(0:Nat)+(1:Nat)+(1:Nat)+(1:Nat)+nat_lit 0),((0:Nat),(0:Nat)+(1:Nat))] 0 [Sx.AObj.cells [V.own 1] (34:TypeId),AObj.hol false wU 10 (List.map zB i.v) i.n i.f (decide (i.n<c)) (some 2),AObj.own tLv 3 (vP i c)]) (some 2))=HolI.mk false wU 10 (h9 i f h) i.n i.f (decide (i.n<f)) (oN (fN ((0:Nat)+(1:Nat)+(1:Nat)+(1:Nat)+((1:Nat)-(0:Nat))+1) [((2:Nat),(0:Nat)+(1:Nat)+(1:Nat)+(1:Nat)+((1:Nat)-(0:Nat))),((1:Nat),(0:Nat)+(1:Nat)+(1:Nat)+(1:Nat)+nat_lit 0),((0:Nat),(0:Nat)+(1:Nat))] 0 [Sx.AObj.cells [V.own 1] (34:TypeId),AObj.hol false wU 10 (List.map zB i.v) i.n i.f (decide (i.n<c)) (some 2),AObj.own tLv 3 (vP i c)]) (some 2))∧∃(n:Nat),(↑n:Int)=IntKind.i64.wrap ((↑f:Int)+1)∧(List.map zB i.v=zH (h9 i f h) (↑f:Int).toNat aL [D.ro 3 l]∧i.n=i.n∧i.f=i.f∧decide (i.n<n)=decide (i.n<f))∧((vP i n)=bif decide (i.n<f)then i.lv else[])∧zAf d n e f i))) (∃(g:Unit),(List.map zB i.v=List.map zB i.v∧i.n=i.n∧i.f=i.f∧true=decide (i.n<f))∧(i.lv=bif decide (i.n<f)then i.lv else[])∧True)
def zZh (i:FnI):Prop:=
 cnd (decide (i.m.inst<0)) (∃(a:Unit),MsgM.fine i.k i.m=20∧True) (cnd (decide (i.m.inst≥i.k)) (∃(a:Unit),MsgM.fine i.k i.m=20∧True) (cnd (i.m.side !=1) (cnd (i.m.side !=2) (∃(a:Unit),MsgM.fine i.k i.m=21∧True) (cnd (decide (i.m.qty<0)) (∃(a:Unit),MsgM.fine i.k i.m=24∧True) (cnd (decide (i.m.count<0)) (∃(a:Unit),MsgM.fine i.k i.m=24∧True) (cnd (!(i.m.qty==0)==(i.m.count==0)) (∃(a:Unit),MsgM.fine i.k i.m=24∧True) (∃(a:Unit),MsgM.fine i.k i.m=0∧True))))) (cnd (decide (i.m.qty<0)) (∃(a:Unit),MsgM.fine i.k i.m=24∧True) (cnd (decide (i.m.count<0)) (∃(a:Unit),MsgM.fine i.k i.m=24∧True) (cnd (!(i.m.qty==0)==(i.m.count==0)) (∃(a:Unit),MsgM.fine i.k i.m=24∧True) (∃(a:Unit),MsgM.fine i.k i.m=0∧True))))))
def mW (a:IxI):Prop:=List.map lvE a.L=List.map lvE a.L∧a.m.seq=a.m.seq∧a.m.inst=a.m.inst∧a.m.side=a.m.side∧a.m.price=a.m.price∧a.m.qty=a.m.qty∧a.m.count=a.m.count∧a.m.implied=a.m.implied∧True
def zBw (a:Nat) (b:Nat→Prop) (c:Nat→Nat) (d:IxI):Prop:=∃(e:Nat),(↑e:Int)=IntKind.i64.wrap ((↑a:Int)+1)∧b e∧c e<c a∧AObj.own tLv 3 (List.map lvE d.L)=AObj.own tLv 3 (List.map lvE d.L)∧z7v d.m=z7v d.m
def yRu (i:IxI):Prop:=
 ∃(a:Nat),(↑a:Int)=0∧∃(b:Nat→Prop),∃(c:Nat→Nat),b a∧∀(d:Nat),b d→cnd (decide ((↑d:Int)<(↑(List.map lvE i.L).length:Int))) ((0≤(↑d:Int)∧(↑d:Int)<(↑(List.map lvE i.L).length:Int))∧∃(e:Int),∃(f:Int),∃(g:Int),zF (List.map lvE i.L) (↑d:Int).toNat 0 3=some [dI e,dI f,dI g]∧cnd (e==i.m.price) (∃(h:Unit),oI (List.findIdx? (fun(y:Lv) ↦ decide (y.price=i.m.price)) i.L)=(↑d:Int)∧mW i) (zBw d b c i)) (∃(e:Unit),oI (List.findIdx? (fun(y:Lv) ↦ decide (y.price=i.m.price)) i.L)=(-1)∧mW i)
def yTe (i:IxI):Prop:=
 ∃(a:Nat),(↑a:Int)=0∧∃(b:Nat→Prop),∃(c:Nat→Nat),b a∧∀(d:Nat),b d→cnd (decide ((↑d:Int)<(↑(List.map lvE i.L).length:Int))) ((0≤(↑d:Int)∧(↑d:Int)<(↑(List.map lvE i.L).length:Int))∧∃(e:Int),∃(f:Int),∃(g:Int),zF (List.map lvE i.L) (↑d:Int).toNat 0 3=some [dI e,dI f,dI g]∧∃(h:I3),h.side=i.m.side∧h.x=i.m.price∧h.y=e∧True∧∀(j:Unit),True→cnd (xD h.side h.x h.y) (∃(k:Unit),oI (List.findIdx? (fun(y:Lv) ↦ xD i.m.side i.m.price y.price) i.L)=(↑d:Int)∧mW i) (zBw d b c i)) (∃(e:Unit),oI (List.findIdx? (fun(y:Lv) ↦ xD i.m.side i.m.price y.price) i.L)=(-1)∧mW i)
def vT:=(nat_lit 1-Nat.succ (nat_lit 0))
def zMq (a:CpI) (b:ApI):Prop:=0+vT % Vtopst363.natAbs*(5:Nat)+(1:Nat)+(3:Nat)≤(10:Nat)∧a.f<10∧(true=true→b.m.inst.toNat=a.n→0+vT % Vtopst363.natAbs*(5:Nat)+(1:Nat)+3≤a.f∨a.f<0+vT % Vtopst363.natAbs*(5:Nat)+(1:Nat))
def zLr (a:CpI) (b:ApI):Prop:=a.f<10∧(true=true→b.m.inst.toNat=a.n→0+vT % Vtopst363.natAbs*(5:Nat)+(4:Nat)+1≤a.f∨a.f<0+vT % Vtopst363.natAbs*(5:Nat)+(4:Nat))
def zDf (a:CpI):Prop:=a.n<List.length a.v∧List.length a.v≤1000000∧List.length a.v≤1099511627776∧∀(b:Sd×Sd),b∈a.v→wR b
def kZ:=(oN (cM 0 ((0:Nat)+(1:Nat)+(1:Nat)+(1:Nat)+1+((0:Nat)-(0:Nat))) ((2:Nat)-(0:Nat)) []) (some 1))
def uX:=(0+vT % Vtopst363.natAbs*(5:Nat)+(4:Nat))
def jH:=(0+vT % Vtopst363.natAbs*(5:Nat)+(1:Nat))
def x7 (a:ApI):=(decide (a.m.qty>0))
def yUh (i:ApI):Prop:=
 ∃(a:FnI),a.k=(↑(List.map zB i.v).length:Int)∧a.m.seq=i.m.seq∧a.m.inst=i.m.inst∧a.m.side=1∧a.m.price=i.m.price∧a.m.qty=i.m.qty∧a.m.count=i.m.count∧a.m.implied=i.m.implied∧True∧∀(b:Unit),True→cnd (MsgM.fine a.k a.m !=0) (∃(c:Unit),List.map zB (apV i.v i.m)=[]∧0=MsgM.fine a.k a.m∧True) (∃(c:CpI),List.map zB c.v=List.map zB i.v∧(zDf c)∧∀(d:Unit),True→(0≤i.m.inst∧i.m.inst<(↑(List.map zB c.v).length:Int))∧cnd i.m.implied ((HolI.mk true wU 10 (List.map zB c.v) c.n c.f true kZ=HolI.mk true wU 10 (List.map zB c.v) c.n c.f true kZ∧i.m.inst.toNat<(List.map zB c.v).length∧zMq c i)∧i.m.qty=i.m.qty∧(HolI.mk true wU 10 (zH (List.map zB c.v) i.m.inst.toNat jH [dI i.m.price,dI i.m.qty,dI i.m.count]) c.n c.f true kZ=HolI.mk true wU 10 (zH (List.map zB c.v) i.m.inst.toNat jH [dI i.m.price,dI i.m.qty,dI i.m.count]) c.n c.f true kZ∧i.m.inst.toNat<(zH (List.map zB c.v) i.m.inst.toNat jH [dI i.m.price,dI i.m.qty,dI i.m.count]).length∧0+vT % Vtopst363.natAbs*(5:Nat)+(4:Nat)+(1:Nat)≤(10:Nat)∧zLr c i)∧∃(e:Bool),zF (zH (zH (List.map zB c.v) i.m.inst.toNat jH [dI i.m.price,dI i.m.qty,dI i.m.count]) i.m.inst.toNat uX [D.v (.bool (x7 i))]) i.m.inst.toNat uX 1=some [D.v (.bool e)]∧(zLr c i)∧cnd (!e) ((HolI.mk true wU 10 (zH (zH (List.map zB c.v) i.m.inst.toNat jH [dI i.m.price,dI i.m.qty,dI i.m.count]) i.m.inst.toNat uX [D.v (.bool (x7 i))]) c.n c.f true kZ=HolI.mk true wU 10 (zH (zH (List.map zB c.v) i.m.inst.toNat jH [dI i.m.price,dI i.m.qty,dI i.m.count]) i.m.inst.toNat uX [D.v (.bool (x7 i))]) c.n c.f true kZ∧i.m.inst.toNat<(zH (zH (List.map zB c.v) i.m.inst.toNat jH [dI i.m.price,dI i.m.qty,dI i.m.count]) i.m.inst.toNat uX [D.v (.bool (x7 i))]).length∧zMq c i)∧∃(f:Unit),(true=true∧c.n<(zH (zH (zH (List.map zB c.v) i.m.inst.toNat jH [dI i.m.price,dI i.m.qty,dI i.m.count]) i.m.inst.toNat uX [D.v (.bool (x7 i))]) i.m.inst.toNat jH [dI 0,dI 0,dI 0]).length∧c.f<10∧List.map zB (apV i.v i.m)=zH (zH (zH (zH (List.map zB c.v) i.m.inst.toNat jH [dI i.m.price,dI i.m.qty,dI i.m.count]) i.m.inst.toNat uX [D.v (.bool (x7 i))]) i.m.inst.toNat jH [dI 0,dI 0,dI 0]) c.n c.f [D.ro 3 c.lv])∧(0:Int)=(0:Int)∧True) (∃(f:Unit),(true=true∧c.n<(zH (zH (List.map zB c.v) i.m.inst.toNat jH [dI i.m.price,dI i.m.qty,dI i.m.count]) i.m.inst.toNat uX [D.v (.bool (x7 i))]).length∧c.f<10∧List.map zB (apV i.v i.m)=zH (zH (zH (List.map zB c.v) i.m.inst.toNat jH [dI i.m.price,dI i.m.qty,dI i.m.count]) i.m.inst.toNat uX [D.v (.bool (x7 i))]) c.n c.f [D.ro 3 c.lv])∧(0:Int)=(0:Int)∧True)) ((i.m.inst.toNat=c.n∧0+vT % Vtopst363.natAbs*(5:Nat)+(0:Nat)=c.f∧true=true∧i.m.inst.toNat<(List.map zB c.v).length∧0+vT % Vtopst363.natAbs*(5:Nat)+(0:Nat)<10)∧((∃(e:IxI),List.map lvE e.L=c.lv∧e.m.seq=i.m.seq∧e.m.inst=i.m.inst∧e.m.side=1∧e.m.price=i.m.price∧e.m.qty=i.m.qty∧e.m.count=i.m.count∧e.m.implied=i.m.implied∧e.L.length≤1099511627776∧∀(f:Unit),True→cnd (decide (oI (List.findIdx? (fun(y:Lv) ↦ decide (y.price=e.m.price)) e.L)≥0)) (cnd (e.m.qty==0) ((i.m.inst.toNat=c.n∧0+(nat_lit 1-Nat.succ (nat_lit 0)) % ((2:Int) ^ IntKind.i64.bits).natAbs*(5:Nat)+(0:Nat)=c.f∧true=true∧i.m.inst.toNat<(List.map zB c.v).length∧0+(nat_lit 1-Nat.succ (nat_lit 0)) % ((2:Int) ^ IntKind.i64.bits).natAbs*(5:Nat)+(0:Nat)<10)∧∃(i_4:yAv),(↑i_4.i:Int)=oI (List.findIdx? (fun(y:Lv) ↦ decide (y.price=e.m.price)) e.L)∧(↑i_4.j:Int)=IntKind.i64.wrap (oI (List.findIdx? (fun(y:Lv) ↦ decide (y.price=e.m.price)) e.L)+1)∧i_4.els=List.map lvE e.L∧(i_4.i<i_4.j∧i_4.j≤i_4.els.length)∧∀(f:Unit),True→(i.m.inst.toNat<(List.map zB c.v).length∧0+(nat_lit 1-Nat.succ (nat_lit 0)) % ((2:Int) ^ IntKind.i64.bits).natAbs*(5:Nat)+(0:Nat)<10)∧(i.m.inst.toNat=c.n∧0+(nat_lit 1-Nat.succ (nat_lit 0)) % ((2:Int) ^ IntKind.i64.bits).natAbs*(5:Nat)+(0:Nat)=c.f)∧∃(f:Unit),(true=true∧c.n<(List.map zB c.v).length∧c.f<10∧List.map zB (apV i.v i.m)=zH (List.map zB c.v) c.n c.f [D.ro 3 (List.take i_4.i i_4.els++List.drop i_4.j i_4.els)])∧(0:Int)=(0:Int)∧True) (cnd (decide (oI (List.findIdx? (fun(y:Lv) ↦ decide (y.price=e.m.price)) e.L)≥0)) ((i.m.inst.toNat=c.n∧0+(nat_lit 1-Nat.succ (nat_lit 0)) % ((2:Int) ^ IntKind.i64.bits).natAbs*(5:Nat)+(0:Nat)=c.f∧true=true∧i.m.inst.toNat<(List.map zB c.v).length∧0+(nat_lit 1-Nat.succ (nat_lit 0)) % ((2:Int) ^ IntKind.i64.bits).natAbs*(5:Nat)+(0:Nat)<10)∧(0≤oI (List.findIdx? (fun(y:Lv) ↦ decide (y.price=e.m.price)) e.L)∧oI (List.findIdx? (fun(y:Lv) ↦ decide (y.price=e.m.price)) e.L)<(↑(List.map lvE e.L).length:Int))∧(oI (List.findIdx? (fun(y:Lv) ↦ decide (y.price=e.m.price)) e.L)).toNat<(List.map lvE e.L).length∧∃(f:Unit),(true=true∧c.n<(List.map zB c.v).length∧c.f<10∧List.map zB (apV i.v i.m)=zH (List.map zB c.v) c.n c.f [D.ro 3 (zH (List.map lvE e.L) (oI (List.findIdx? (fun(y:Lv) ↦ decide (y.price=e.m.price)) e.L)).toNat 0 [dI i.m.price,dI i.m.qty,dI i.m.count])])∧(0:Int)=(0:Int)∧True) (cnd (decide (e.m.qty>0)) ((i.m.inst.toNat=c.n∧0+(nat_lit 1-Nat.succ (nat_lit 0)) % ((2:Int) ^ IntKind.i64.bits).natAbs*(5:Nat)+(0:Nat)=c.f∧true=true∧i.m.inst.toNat<(List.map zB c.v).length∧0+(nat_lit 1-Nat.succ (nat_lit 0)) % ((2:Int) ^ IntKind.i64.bits).natAbs*(5:Nat)+(0:Nat)<10)∧((∃(i:IxI),False)∨∃(i_4:IxI),List.map lvE i_4.L=List.map lvE e.L∧i_4.m.seq=e.m.seq∧i_4.m.inst=e.m.inst∧i_4.m.side=e.m.side∧i_4.m.price=e.m.price∧i_4.m.qty=e.m.qty∧i_4.m.count=e.m.count∧i_4.m.implied=e.m.implied∧i_4.L.length≤1099511627776∧∀(f:Unit),True→cnd (decide (oI (List.findIdx? (fun(y:Lv) ↦ xD i_4.m.side i_4.m.price y.price) i_4.L)<0)) ((i.m.inst.toNat=c.n∧0+(nat_lit 1-Nat.succ (nat_lit 0)) % ((2:Int) ^ IntKind.i64.bits).natAbs*(5:Nat)+(0:Nat)=c.f∧true=true∧i.m.inst.toNat<(List.map zB c.v).length∧0+(nat_lit 1-Nat.succ (nat_lit 0)) % ((2:Int) ^ IntKind.i64.bits).natAbs*(5:Nat)+(0:Nat)<10)∧(i.m.inst.toNat=c.n∧0+(nat_lit 1-Nat.succ (nat_lit 0)) % ((2:Int) ^ IntKind.i64.bits).natAbs*(5:Nat)+(0:Nat)=c.f∧true=true∧i.m.inst.toNat<(List.map zB c.v).length∧0+(nat_lit 1-Nat.succ (nat_lit 0)) % ((2:Int) ^ IntKind.i64.bits).natAbs*(5:Nat)+(0:Nat)<10)∧((i.m.inst.toNat=c.n∧0+(nat_lit 1-Nat.succ (nat_lit 0)) % ((2:Int) ^ IntKind.i64.bits).natAbs*(5:Nat)+(0:Nat)=c.f∧true=true∧i.m.inst.toNat<(List.map zB c.v).length∧0+(nat_lit 1-Nat.succ (nat_lit 0)) % ((2:Int) ^ IntKind.i64.bits).natAbs*(5:Nat)+(0:Nat)<10)∧True)∧∃(i_5:zCo),(↑i_5.i:Int)=(↑(List.map lvE i_4.L).length:Int)∧i_5.els=List.map lvE i_4.L∧[i_5.el]=[[dI i.m.price,dI i.m.qty,dI i.m.count]]∧(i_5.i≤i_5.els.length∧(i_5.els.length+1)*(24:Nat)≤(140737488355328:Nat))∧∀(f:Unit),True→(i.m.inst.toNat<(List.map zB c.v).length∧0+(nat_lit 1-Nat.succ (nat_lit 0)) % ((2:Int) ^ IntKind.i64.bits).natAbs*(5:Nat)+(0:Nat)<10)∧(i.m.inst.toNat=c.n∧0+(nat_lit 1-Nat.succ (nat_lit 0)) % ((2:Int) ^ IntKind.i64.bits).natAbs*(5:Nat)+(0:Nat)=c.f)∧∃(f:Unit),(true=true∧c.n<(List.map zB c.v).length∧c.f<10∧List.map zB (apV i.v i.m)=zH (List.map zB c.v) c.n c.f [D.ro 3 (List.take i_5.i i_5.els++i_5.el::List.drop i_5.i i_5.els)])∧(0:Int)=(0:Int)∧True) ((i.m.inst.toNat=c.n∧0+(nat_lit 1-Nat.succ (nat_lit 0)) % ((2:Int) ^ IntKind.i64.bits).natAbs*(5:Nat)+(0:Nat)=c.f∧true=true∧i.m.inst.toNat<(List.map zB c.v).length∧0+(nat_lit 1-Nat.succ (nat_lit 0)) % ((2:Int) ^ IntKind.i64.bits).natAbs*(5:Nat)+(0:Nat)<10)∧((i.m.inst.toNat=c.n∧0+(nat_lit 1-Nat.succ (nat_lit 0)) % ((2:Int) ^ IntKind.i64.bits).natAbs*(5:Nat)+(0:Nat)=c.f∧true=true∧i.m.inst.toNat<(List.map zB c.v).length∧0+(nat_lit 1-Nat.succ (nat_lit 0)) % ((2:Int) ^ IntKind.i64.bits).natAbs*(5:Nat)+(0:Nat)<10)∧True)∧∃(i_5:zCo),(↑i_5.i:Int)=oI (List.findIdx? (fun(y:Lv) ↦ xD i_4.m.side i_4.m.price y.price) i_4.L)∧i_5.els=List.map lvE i_4.L∧[i_5.el]=[[dI i.m.price,dI i.m.qty,dI i.m.count]]∧(i_5.i≤i_5.els.length∧(i_5.els.length+1)*(24:Nat)≤(140737488355328:Nat))∧∀(f:Unit),True→(i.m.inst.toNat<(List.map zB c.v).length∧0+(nat_lit 1-Nat.succ (nat_lit 0)) % ((2:Int) ^ IntKind.i64.bits).natAbs*(5:Nat)+(0:Nat)<10)∧(i.m.inst.toNat=c.n∧0+(nat_lit 1-Nat.succ (nat_lit 0)) % ((2:Int) ^ IntKind.i64.bits).natAbs*(5:Nat)+(0:Nat)=c.f)∧∃(f:Unit),(true=true∧c.n<(List.map zB c.v).length∧c.f<10∧List.map zB (apV i.v i.m)=zH (List.map zB c.v) c.n c.f [D.ro 3 (List.take i_5.i i_5.els++i_5.el::List.drop i_5.i i_5.els)])∧(0:Int)=(0:Int)∧True))) (∃(f:Unit),(true=true∧c.n<(List.map zB c.v).length∧c.f<10∧List.map zB (apV i.v i.m)=zH (List.map zB c.v) c.n c.f [D.ro 3 (List.map lvE e.L)])∧(0:Int)=(0:Int)∧True)))) (cnd (decide (oI (List.findIdx? (fun(y:Lv) ↦ decide (y.price=e.m.price)) e.L)≥0)) ((i.m.inst.toNat=c.n∧0+(nat_lit 1-Nat.succ (nat_lit 0)) % ((2:Int) ^ IntKind.i64.bits).natAbs*(5:Nat)+(0:Nat)=c.f∧true=true∧i.m.inst.toNat<(List.map zB c.v).length∧0+(nat_lit 1-Nat.succ (nat_lit 0)) % ((2:Int) ^ IntKind.i64.bits).natAbs*(5:Nat)+(0:Nat)<10)∧(0≤oI (List.findIdx? (fun(y:Lv) ↦ decide (y.price=e.m.price)) e.L)∧oI (List.findIdx? (fun(y:Lv) ↦ decide (y.price=e.m.price)) e.L)<(↑(List.map lvE e.L).length:Int))∧(oI (List.findIdx? (fun(y:Lv) ↦ decide (y.price=e.m.price)) e.L)).toNat<(List.map lvE e.L).length∧∃(f:Unit),(true=true∧c.n<(List.map zB c.v).length∧c.f<10∧List.map zB (apV i.v i.m)=zH (List.map zB c.v) c.n c.f [D.ro 3 (zH (List.map lvE e.L) (oI (List.findIdx? (fun(y:Lv) ↦ decide (y.price=e.m.price)) e.L)).toNat 0 [dI i.m.price,dI i.m.qty,dI i.m.count])])∧(0:Int)=(0:Int)∧True) (cnd (decide (e.m.qty>0)) ((i.m.inst.toNat=c.n∧0+(nat_lit 1-Nat.succ (nat_lit 0)) % ((2:Int) ^ IntKind.i64.bits).natAbs*(5:Nat)+(0:Nat)=c.f∧true=true∧i.m.inst.toNat<(List.map zB c.v).length∧0+(nat_lit 1-Nat.succ (nat_lit 0)) % ((2:Int) ^ IntKind.i64.bits).natAbs*(5:Nat)+(0:Nat)<10)∧((∃(i:IxI),False)∨∃(i_4:IxI),List.map lvE i_4.L=List.map lvE e.L∧i_4.m.seq=e.m.seq∧i_4.m.inst=e.m.inst∧i_4.m.side=e.m.side∧i_4.m.price=e.m.price∧i_4.m.qty=e.m.qty∧i_4.m.count=e.m.count∧i_4.m.implied=e.m.implied∧i_4.L.length≤1099511627776∧∀(f:Unit),True→cnd (decide (oI (List.findIdx? (fun(y:Lv) ↦ xD i_4.m.side i_4.m.price y.price) i_4.L)<0)) ((i.m.inst.toNat=c.n∧0+(nat_lit 1-Nat.succ (nat_lit 0)) % ((2:Int) ^ IntKind.i64.bits).natAbs*(5:Nat)+(0:Nat)=c.f∧true=true∧i.m.inst.toNat<(List.map zB c.v).length∧0+(nat_lit 1-Nat.succ (nat_lit 0)) % ((2:Int) ^ IntKind.i64.bits).natAbs*(5:Nat)+(0:Nat)<10)∧(i.m.inst.toNat=c.n∧0+(nat_lit 1-Nat.succ (nat_lit 0)) % ((2:Int) ^ IntKind.i64.bits).natAbs*(5:Nat)+(0:Nat)=c.f∧true=true∧i.m.inst.toNat<(List.map zB c.v).length∧0+(nat_lit 1-Nat.succ (nat_lit 0)) % ((2:Int) ^ IntKind.i64.bits).natAbs*(5:Nat)+(0:Nat)<10)∧((i.m.inst.toNat=c.n∧0+(nat_lit 1-Nat.succ (nat_lit 0)) % ((2:Int) ^ IntKind.i64.bits).natAbs*(5:Nat)+(0:Nat)=c.f∧true=true∧i.m.inst.toNat<(List.map zB c.v).length∧0+(nat_lit 1-Nat.succ (nat_lit 0)) % ((2:Int) ^ IntKind.i64.bits).natAbs*(5:Nat)+(0:Nat)<10)∧True)∧∃(i_5:zCo),(↑i_5.i:Int)=(↑(List.map lvE i_4.L).length:Int)∧i_5.els=List.map lvE i_4.L∧[i_5.el]=[[dI i.m.price,dI i.m.qty,dI i.m.count]]∧(i_5.i≤i_5.els.length∧(i_5.els.length+1)*(24:Nat)≤(140737488355328:Nat))∧∀(f:Unit),True→(i.m.inst.toNat<(List.map zB c.v).length∧0+(nat_lit 1-Nat.succ (nat_lit 0)) % ((2:Int) ^ IntKind.i64.bits).natAbs*(5:Nat)+(0:Nat)<10)∧(i.m.inst.toNat=c.n∧0+(nat_lit 1-Nat.succ (nat_lit 0)) % ((2:Int) ^ IntKind.i64.bits).natAbs*(5:Nat)+(0:Nat)=c.f)∧∃(f:Unit),(true=true∧c.n<(List.map zB c.v).length∧c.f<10∧List.map zB (apV i.v i.m)=zH (List.map zB c.v) c.n c.f [D.ro 3 (List.take i_5.i i_5.els++i_5.el::List.drop i_5.i i_5.els)])∧(0:Int)=(0:Int)∧True) ((i.m.inst.toNat=c.n∧0+(nat_lit 1-Nat.succ (nat_lit 0)) % ((2:Int) ^ IntKind.i64.bits).natAbs*(5:Nat)+(0:Nat)=c.f∧true=true∧i.m.inst.toNat<(List.map zB c.v).length∧0+(nat_lit 1-Nat.succ (nat_lit 0)) % ((2:Int) ^ IntKind.i64.bits).natAbs*(5:Nat)+(0:Nat)<10)∧((i.m.inst.toNat=c.n∧0+(nat_lit 1-Nat.succ (nat_lit 0)) % ((2:Int) ^ IntKind.i64.bits).natAbs*(5:Nat)+(0:Nat)=c.f∧true=true∧i.m.inst.toNat<(List.map zB c.v).length∧0+(nat_lit 1-Nat.succ (nat_lit 0)) % ((2:Int) ^ IntKind.i64.bits).natAbs*(5:Nat)+(0:Nat)<10)∧True)∧∃(i_5:zCo),(↑i_5.i:Int)=oI (List.findIdx? (fun(y:Lv) ↦ xD i_4.m.side i_4.m.price y.price) i_4.L)∧i_5.els=List.map lvE i_4.L∧[i_5.el]=[[dI i.m.price,dI i.m.qty,dI i.m.count]]∧(i_5.i≤i_5.els.length∧(i_5.els.length+1)*(24:Nat)≤(140737488355328:Nat))∧∀(f:Unit),True→(i.m.inst.toNat<(List.map zB c.v).length∧0+(nat_lit 1-Nat.succ (nat_lit 0)) % ((2:Int) ^ IntKind.i64.bits).natAbs*(5:Nat)+(0:Nat)<10)∧(i.m.inst.toNat=c.n∧0+(nat_lit 1-Nat.succ (nat_lit 0)) % ((2:Int) ^ IntKind.i64.bits).natAbs*(5:Nat)+(0:Nat)=c.f)∧∃(f:Unit),(true=true∧c.n<(List.map zB c.v).length∧c.f<10∧List.map zB (apV i.v i.m)=zH (List.map zB c.v) c.n c.f [D.ro 3 (List.take i_5.i i_5.els++i_5.el::List.drop i_5.i i_5.els)])∧(0:Int)=(0:Int)∧True))) (∃(f:Unit),(true=true∧c.n<(List.map zB c.v).length∧c.f<10∧List.map zB (apV i.v i.m)=zH (List.map zB c.v) c.n c.f [D.ro 3 (List.map lvE e.L)])∧(0:Int)=(0:Int)∧True))))∨∃(i:IxI),False)))
def vX:=(nat_lit 2-Nat.succ (nat_lit 0))
def zLy (a:CpI) (b:ApI):Prop:=0+vX % Vtopst363.natAbs*(5:Nat)+(1:Nat)+(3:Nat)≤(10:Nat)∧a.f<10∧(true=true→b.m.inst.toNat=a.n→0+vX % Vtopst363.natAbs*(5:Nat)+(1:Nat)+3≤a.f∨a.f<0+vX % Vtopst363.natAbs*(5:Nat)+(1:Nat))
def zMf (a:CpI) (b:ApI):Prop:=a.f<10∧(true=true→b.m.inst.toNat=a.n→0+vX % Vtopst363.natAbs*(5:Nat)+(4:Nat)+1≤a.f∨a.f<0+vX % Vtopst363.natAbs*(5:Nat)+(4:Nat))
def uV:=(0+vX % Vtopst363.natAbs*(5:Nat)+(4:Nat))
def jJ:=(0+vX % Vtopst363.natAbs*(5:Nat)+(1:Nat))
def yRq (i:ApI):Prop:=
 ∃(a:FnI),a.k=(↑(List.map zB i.v).length:Int)∧a.m.seq=i.m.seq∧a.m.inst=i.m.inst∧a.m.side=2∧a.m.price=i.m.price∧a.m.qty=i.m.qty∧a.m.count=i.m.count∧a.m.implied=i.m.implied∧True∧∀(b:Unit),True→cnd (MsgM.fine a.k a.m !=0) (∃(c:Unit),List.map zB (apV i.v i.m)=[]∧0=MsgM.fine a.k a.m∧True) (∃(c:CpI),List.map zB c.v=List.map zB i.v∧(zDf c)∧∀(d:Unit),True→(0≤i.m.inst∧i.m.inst<(↑(List.map zB c.v).length:Int))∧cnd i.m.implied ((HolI.mk true wU 10 (List.map zB c.v) c.n c.f true kZ=HolI.mk true wU 10 (List.map zB c.v) c.n c.f true kZ∧i.m.inst.toNat<(List.map zB c.v).length∧zLy c i)∧i.m.qty=i.m.qty∧(HolI.mk true wU 10 (zH (List.map zB c.v) i.m.inst.toNat jJ [dI i.m.price,dI i.m.qty,dI i.m.count]) c.n c.f true kZ=HolI.mk true wU 10 (zH (List.map zB c.v) i.m.inst.toNat jJ [dI i.m.price,dI i.m.qty,dI i.m.count]) c.n c.f true kZ∧i.m.inst.toNat<(zH (List.map zB c.v) i.m.inst.toNat jJ [dI i.m.price,dI i.m.qty,dI i.m.count]).length∧0+vX % Vtopst363.natAbs*(5:Nat)+(4:Nat)+(1:Nat)≤(10:Nat)∧zMf c i)∧∃(e:Bool),zF (zH (zH (List.map zB c.v) i.m.inst.toNat jJ [dI i.m.price,dI i.m.qty,dI i.m.count]) i.m.inst.toNat uV [D.v (.bool (x7 i))]) i.m.inst.toNat uV 1=some [D.v (.bool e)]∧(zMf c i)∧cnd (!e) ((HolI.mk true wU 10 (zH (zH (List.map zB c.v) i.m.inst.toNat jJ [dI i.m.price,dI i.m.qty,dI i.m.count]) i.m.inst.toNat uV [D.v (.bool (x7 i))]) c.n c.f true kZ=HolI.mk true wU 10 (zH (zH (List.map zB c.v) i.m.inst.toNat jJ [dI i.m.price,dI i.m.qty,dI i.m.count]) i.m.inst.toNat uV [D.v (.bool (x7 i))]) c.n c.f true kZ∧i.m.inst.toNat<(zH (zH (List.map zB c.v) i.m.inst.toNat jJ [dI i.m.price,dI i.m.qty,dI i.m.count]) i.m.inst.toNat uV [D.v (.bool (x7 i))]).length∧zLy c i)∧∃(f:Unit),(true=true∧c.n<(zH (zH (zH (List.map zB c.v) i.m.inst.toNat jJ [dI i.m.price,dI i.m.qty,dI i.m.count]) i.m.inst.toNat uV [D.v (.bool (x7 i))]) i.m.inst.toNat jJ [dI 0,dI 0,dI 0]).length∧c.f<10∧List.map zB (apV i.v i.m)=zH (zH (zH (zH (List.map zB c.v) i.m.inst.toNat jJ [dI i.m.price,dI i.m.qty,dI i.m.count]) i.m.inst.toNat uV [D.v (.bool (x7 i))]) i.m.inst.toNat jJ [dI 0,dI 0,dI 0]) c.n c.f [D.ro 3 c.lv])∧(0:Int)=(0:Int)∧True) (∃(f:Unit),(true=true∧c.n<(zH (zH (List.map zB c.v) i.m.inst.toNat jJ [dI i.m.price,dI i.m.qty,dI i.m.count]) i.m.inst.toNat uV [D.v (.bool (x7 i))]).length∧c.f<10∧List.map zB (apV i.v i.m)=zH (zH (zH (List.map zB c.v) i.m.inst.toNat jJ [dI i.m.price,dI i.m.qty,dI i.m.count]) i.m.inst.toNat uV [D.v (.bool (x7 i))]) c.n c.f [D.ro 3 c.lv])∧(0:Int)=(0:Int)∧True)) ((i.m.inst.toNat=c.n∧0+vX % Vtopst363.natAbs*(5:Nat)+(0:Nat)=c.f∧true=true∧i.m.inst.toNat<(List.map zB c.v).length∧0+vX % Vtopst363.natAbs*(5:Nat)+(0:Nat)<10)∧((∃(e:IxI),List.map lvE e.L=c.lv∧e.m.seq=i.m.seq∧e.m.inst=i.m.inst∧e.m.side=2∧e.m.price=i.m.price∧e.m.qty=i.m.qty∧e.m.count=i.m.count∧e.m.implied=i.m.implied∧e.L.length≤1099511627776∧∀(f:Unit),True→cnd (decide (oI (List.findIdx? (fun(y:Lv) ↦ decide (y.price=e.m.price)) e.L)≥0)) (cnd (e.m.qty==0) ((i.m.inst.toNat=c.n∧0+(nat_lit 2-Nat.succ (nat_lit 0)) % ((2:Int) ^ IntKind.i64.bits).natAbs*(5:Nat)+(0:Nat)=c.f∧true=true∧i.m.inst.toNat<(List.map zB c.v).length∧0+(nat_lit 2-Nat.succ (nat_lit 0)) % ((2:Int) ^ IntKind.i64.bits).natAbs*(5:Nat)+(0:Nat)<10)∧∃(i_4:yAv),(↑i_4.i:Int)=oI (List.findIdx? (fun(y:Lv) ↦ decide (y.price=e.m.price)) e.L)∧(↑i_4.j:Int)=IntKind.i64.wrap (oI (List.findIdx? (fun(y:Lv) ↦ decide (y.price=e.m.price)) e.L)+1)∧i_4.els=List.map lvE e.L∧(i_4.i<i_4.j∧i_4.j≤i_4.els.length)∧∀(f:Unit),True→(i.m.inst.toNat<(List.map zB c.v).length∧0+(nat_lit 2-Nat.succ (nat_lit 0)) % ((2:Int) ^ IntKind.i64.bits).natAbs*(5:Nat)+(0:Nat)<10)∧(i.m.inst.toNat=c.n∧0+(nat_lit 2-Nat.succ (nat_lit 0)) % ((2:Int) ^ IntKind.i64.bits).natAbs*(5:Nat)+(0:Nat)=c.f)∧∃(f:Unit),(true=true∧c.n<(List.map zB c.v).length∧c.f<10∧List.map zB (apV i.v i.m)=zH (List.map zB c.v) c.n c.f [D.ro 3 (List.take i_4.i i_4.els++List.drop i_4.j i_4.els)])∧(0:Int)=(0:Int)∧True) (cnd (decide (oI (List.findIdx? (fun(y:Lv) ↦ decide (y.price=e.m.price)) e.L)≥0)) ((i.m.inst.toNat=c.n∧0+(nat_lit 2-Nat.succ (nat_lit 0)) % ((2:Int) ^ IntKind.i64.bits).natAbs*(5:Nat)+(0:Nat)=c.f∧true=true∧i.m.inst.toNat<(List.map zB c.v).length∧0+(nat_lit 2-Nat.succ (nat_lit 0)) % ((2:Int) ^ IntKind.i64.bits).natAbs*(5:Nat)+(0:Nat)<10)∧(0≤oI (List.findIdx? (fun(y:Lv) ↦ decide (y.price=e.m.price)) e.L)∧oI (List.findIdx? (fun(y:Lv) ↦ decide (y.price=e.m.price)) e.L)<(↑(List.map lvE e.L).length:Int))∧(oI (List.findIdx? (fun(y:Lv) ↦ decide (y.price=e.m.price)) e.L)).toNat<(List.map lvE e.L).length∧∃(f:Unit),(true=true∧c.n<(List.map zB c.v).length∧c.f<10∧List.map zB (apV i.v i.m)=zH (List.map zB c.v) c.n c.f [D.ro 3 (zH (List.map lvE e.L) (oI (List.findIdx? (fun(y:Lv) ↦ decide (y.price=e.m.price)) e.L)).toNat 0 [dI i.m.price,dI i.m.qty,dI i.m.count])])∧(0:Int)=(0:Int)∧True) (cnd (decide (e.m.qty>0)) ((i.m.inst.toNat=c.n∧0+(nat_lit 2-Nat.succ (nat_lit 0)) % ((2:Int) ^ IntKind.i64.bits).natAbs*(5:Nat)+(0:Nat)=c.f∧true=true∧i.m.inst.toNat<(List.map zB c.v).length∧0+(nat_lit 2-Nat.succ (nat_lit 0)) % ((2:Int) ^ IntKind.i64.bits).natAbs*(5:Nat)+(0:Nat)<10)∧((∃(i:IxI),False)∨∃(i_4:IxI),List.map lvE i_4.L=List.map lvE e.L∧i_4.m.seq=e.m.seq∧i_4.m.inst=e.m.inst∧i_4.m.side=e.m.side∧i_4.m.price=e.m.price∧i_4.m.qty=e.m.qty∧i_4.m.count=e.m.count∧i_4.m.implied=e.m.implied∧i_4.L.length≤1099511627776∧∀(f:Unit),True→cnd (decide (oI (List.findIdx? (fun(y:Lv) ↦ xD i_4.m.side i_4.m.price y.price) i_4.L)<0)) ((i.m.inst.toNat=c.n∧0+(nat_lit 2-Nat.succ (nat_lit 0)) % ((2:Int) ^ IntKind.i64.bits).natAbs*(5:Nat)+(0:Nat)=c.f∧true=true∧i.m.inst.toNat<(List.map zB c.v).length∧0+(nat_lit 2-Nat.succ (nat_lit 0)) % ((2:Int) ^ IntKind.i64.bits).natAbs*(5:Nat)+(0:Nat)<10)∧(i.m.inst.toNat=c.n∧0+(nat_lit 2-Nat.succ (nat_lit 0)) % ((2:Int) ^ IntKind.i64.bits).natAbs*(5:Nat)+(0:Nat)=c.f∧true=true∧i.m.inst.toNat<(List.map zB c.v).length∧0+(nat_lit 2-Nat.succ (nat_lit 0)) % ((2:Int) ^ IntKind.i64.bits).natAbs*(5:Nat)+(0:Nat)<10)∧((i.m.inst.toNat=c.n∧0+(nat_lit 2-Nat.succ (nat_lit 0)) % ((2:Int) ^ IntKind.i64.bits).natAbs*(5:Nat)+(0:Nat)=c.f∧true=true∧i.m.inst.toNat<(List.map zB c.v).length∧0+(nat_lit 2-Nat.succ (nat_lit 0)) % ((2:Int) ^ IntKind.i64.bits).natAbs*(5:Nat)+(0:Nat)<10)∧True)∧∃(i_5:zCo),(↑i_5.i:Int)=(↑(List.map lvE i_4.L).length:Int)∧i_5.els=List.map lvE i_4.L∧[i_5.el]=[[dI i.m.price,dI i.m.qty,dI i.m.count]]∧(i_5.i≤i_5.els.length∧(i_5.els.length+1)*(24:Nat)≤(140737488355328:Nat))∧∀(f:Unit),True→(i.m.inst.toNat<(List.map zB c.v).length∧0+(nat_lit 2-Nat.succ (nat_lit 0)) % ((2:Int) ^ IntKind.i64.bits).natAbs*(5:Nat)+(0:Nat)<10)∧(i.m.inst.toNat=c.n∧0+(nat_lit 2-Nat.succ (nat_lit 0)) % ((2:Int) ^ IntKind.i64.bits).natAbs*(5:Nat)+(0:Nat)=c.f)∧∃(f:Unit),(true=true∧c.n<(List.map zB c.v).length∧c.f<10∧List.map zB (apV i.v i.m)=zH (List.map zB c.v) c.n c.f [D.ro 3 (List.take i_5.i i_5.els++i_5.el::List.drop i_5.i i_5.els)])∧(0:Int)=(0:Int)∧True) ((i.m.inst.toNat=c.n∧0+(nat_lit 2-Nat.succ (nat_lit 0)) % ((2:Int) ^ IntKind.i64.bits).natAbs*(5:Nat)+(0:Nat)=c.f∧true=true∧i.m.inst.toNat<(List.map zB c.v).length∧0+(nat_lit 2-Nat.succ (nat_lit 0)) % ((2:Int) ^ IntKind.i64.bits).natAbs*(5:Nat)+(0:Nat)<10)∧((i.m.inst.toNat=c.n∧0+(nat_lit 2-Nat.succ (nat_lit 0)) % ((2:Int) ^ IntKind.i64.bits).natAbs*(5:Nat)+(0:Nat)=c.f∧true=true∧i.m.inst.toNat<(List.map zB c.v).length∧0+(nat_lit 2-Nat.succ (nat_lit 0)) % ((2:Int) ^ IntKind.i64.bits).natAbs*(5:Nat)+(0:Nat)<10)∧True)∧∃(i_5:zCo),(↑i_5.i:Int)=oI (List.findIdx? (fun(y:Lv) ↦ xD i_4.m.side i_4.m.price y.price) i_4.L)∧i_5.els=List.map lvE i_4.L∧[i_5.el]=[[dI i.m.price,dI i.m.qty,dI i.m.count]]∧(i_5.i≤i_5.els.length∧(i_5.els.length+1)*(24:Nat)≤(140737488355328:Nat))∧∀(f:Unit),True→(i.m.inst.toNat<(List.map zB c.v).length∧0+(nat_lit 2-Nat.succ (nat_lit 0)) % ((2:Int) ^ IntKind.i64.bits).natAbs*(5:Nat)+(0:Nat)<10)∧(i.m.inst.toNat=c.n∧0+(nat_lit 2-Nat.succ (nat_lit 0)) % ((2:Int) ^ IntKind.i64.bits).natAbs*(5:Nat)+(0:Nat)=c.f)∧∃(f:Unit),(true=true∧c.n<(List.map zB c.v).length∧c.f<10∧List.map zB (apV i.v i.m)=zH (List.map zB c.v) c.n c.f [D.ro 3 (List.take i_5.i i_5.els++i_5.el::List.drop i_5.i i_5.els)])∧(0:Int)=(0:Int)∧True))) (∃(f:Unit),(true=true∧c.n<(List.map zB c.v).length∧c.f<10∧List.map zB (apV i.v i.m)=zH (List.map zB c.v) c.n c.f [D.ro 3 (List.map lvE e.L)])∧(0:Int)=(0:Int)∧True)))) (cnd (decide (oI (List.findIdx? (fun(y:Lv) ↦ decide (y.price=e.m.price)) e.L)≥0)) ((i.m.inst.toNat=c.n∧0+(nat_lit 2-Nat.succ (nat_lit 0)) % ((2:Int) ^ IntKind.i64.bits).natAbs*(5:Nat)+(0:Nat)=c.f∧true=true∧i.m.inst.toNat<(List.map zB c.v).length∧0+(nat_lit 2-Nat.succ (nat_lit 0)) % ((2:Int) ^ IntKind.i64.bits).natAbs*(5:Nat)+(0:Nat)<10)∧(0≤oI (List.findIdx? (fun(y:Lv) ↦ decide (y.price=e.m.price)) e.L)∧oI (List.findIdx? (fun(y:Lv) ↦ decide (y.price=e.m.price)) e.L)<(↑(List.map lvE e.L).length:Int))∧(oI (List.findIdx? (fun(y:Lv) ↦ decide (y.price=e.m.price)) e.L)).toNat<(List.map lvE e.L).length∧∃(f:Unit),(true=true∧c.n<(List.map zB c.v).length∧c.f<10∧List.map zB (apV i.v i.m)=zH (List.map zB c.v) c.n c.f [D.ro 3 (zH (List.map lvE e.L) (oI (List.findIdx? (fun(y:Lv) ↦ decide (y.price=e.m.price)) e.L)).toNat 0 [dI i.m.price,dI i.m.qty,dI i.m.count])])∧(0:Int)=(0:Int)∧True) (cnd (decide (e.m.qty>0)) ((i.m.inst.toNat=c.n∧0+(nat_lit 2-Nat.succ (nat_lit 0)) % ((2:Int) ^ IntKind.i64.bits).natAbs*(5:Nat)+(0:Nat)=c.f∧true=true∧i.m.inst.toNat<(List.map zB c.v).length∧0+(nat_lit 2-Nat.succ (nat_lit 0)) % ((2:Int) ^ IntKind.i64.bits).natAbs*(5:Nat)+(0:Nat)<10)∧((∃(i:IxI),False)∨∃(i_4:IxI),List.map lvE i_4.L=List.map lvE e.L∧i_4.m.seq=e.m.seq∧i_4.m.inst=e.m.inst∧i_4.m.side=e.m.side∧i_4.m.price=e.m.price∧i_4.m.qty=e.m.qty∧i_4.m.count=e.m.count∧i_4.m.implied=e.m.implied∧i_4.L.length≤1099511627776∧∀(f:Unit),True→cnd (decide (oI (List.findIdx? (fun(y:Lv) ↦ xD i_4.m.side i_4.m.price y.price) i_4.L)<0)) ((i.m.inst.toNat=c.n∧0+(nat_lit 2-Nat.succ (nat_lit 0)) % ((2:Int) ^ IntKind.i64.bits).natAbs*(5:Nat)+(0:Nat)=c.f∧true=true∧i.m.inst.toNat<(List.map zB c.v).length∧0+(nat_lit 2-Nat.succ (nat_lit 0)) % ((2:Int) ^ IntKind.i64.bits).natAbs*(5:Nat)+(0:Nat)<10)∧(i.m.inst.toNat=c.n∧0+(nat_lit 2-Nat.succ (nat_lit 0)) % ((2:Int) ^ IntKind.i64.bits).natAbs*(5:Nat)+(0:Nat)=c.f∧true=true∧i.m.inst.toNat<(List.map zB c.v).length∧0+(nat_lit 2-Nat.succ (nat_lit 0)) % ((2:Int) ^ IntKind.i64.bits).natAbs*(5:Nat)+(0:Nat)<10)∧((i.m.inst.toNat=c.n∧0+(nat_lit 2-Nat.succ (nat_lit 0)) % ((2:Int) ^ IntKind.i64.bits).natAbs*(5:Nat)+(0:Nat)=c.f∧true=true∧i.m.inst.toNat<(List.map zB c.v).length∧0+(nat_lit 2-Nat.succ (nat_lit 0)) % ((2:Int) ^ IntKind.i64.bits).natAbs*(5:Nat)+(0:Nat)<10)∧True)∧∃(i_5:zCo),(↑i_5.i:Int)=(↑(List.map lvE i_4.L).length:Int)∧i_5.els=List.map lvE i_4.L∧[i_5.el]=[[dI i.m.price,dI i.m.qty,dI i.m.count]]∧(i_5.i≤i_5.els.length∧(i_5.els.length+1)*(24:Nat)≤(140737488355328:Nat))∧∀(f:Unit),True→(i.m.inst.toNat<(List.map zB c.v).length∧0+(nat_lit 2-Nat.succ (nat_lit 0)) % ((2:Int) ^ IntKind.i64.bits).natAbs*(5:Nat)+(0:Nat)<10)∧(i.m.inst.toNat=c.n∧0+(nat_lit 2-Nat.succ (nat_lit 0)) % ((2:Int) ^ IntKind.i64.bits).natAbs*(5:Nat)+(0:Nat)=c.f)∧∃(f:Unit),(true=true∧c.n<(List.map zB c.v).length∧c.f<10∧List.map zB (apV i.v i.m)=zH (List.map zB c.v) c.n c.f [D.ro 3 (List.take i_5.i i_5.els++i_5.el::List.drop i_5.i i_5.els)])∧(0:Int)=(0:Int)∧True) ((i.m.inst.toNat=c.n∧0+(nat_lit 2-Nat.succ (nat_lit 0)) % ((2:Int) ^ IntKind.i64.bits).natAbs*(5:Nat)+(0:Nat)=c.f∧true=true∧i.m.inst.toNat<(List.map zB c.v).length∧0+(nat_lit 2-Nat.succ (nat_lit 0)) % ((2:Int) ^ IntKind.i64.bits).natAbs*(5:Nat)+(0:Nat)<10)∧((i.m.inst.toNat=c.n∧0+(nat_lit 2-Nat.succ (nat_lit 0)) % ((2:Int) ^ IntKind.i64.bits).natAbs*(5:Nat)+(0:Nat)=c.f∧true=true∧i.m.inst.toNat<(List.map zB c.v).length∧0+(nat_lit 2-Nat.succ (nat_lit 0)) % ((2:Int) ^ IntKind.i64.bits).natAbs*(5:Nat)+(0:Nat)<10)∧True)∧∃(i_5:zCo),(↑i_5.i:Int)=oI (List.findIdx? (fun(y:Lv) ↦ xD i_4.m.side i_4.m.price y.price) i_4.L)∧i_5.els=List.map lvE i_4.L∧[i_5.el]=[[dI i.m.price,dI i.m.qty,dI i.m.count]]∧(i_5.i≤i_5.els.length∧(i_5.els.length+1)*(24:Nat)≤(140737488355328:Nat))∧∀(f:Unit),True→(i.m.inst.toNat<(List.map zB c.v).length∧0+(nat_lit 2-Nat.succ (nat_lit 0)) % ((2:Int) ^ IntKind.i64.bits).natAbs*(5:Nat)+(0:Nat)<10)∧(i.m.inst.toNat=c.n∧0+(nat_lit 2-Nat.succ (nat_lit 0)) % ((2:Int) ^ IntKind.i64.bits).natAbs*(5:Nat)+(0:Nat)=c.f)∧∃(f:Unit),(true=true∧c.n<(List.map zB c.v).length∧c.f<10∧List.map zB (apV i.v i.m)=zH (List.map zB c.v) c.n c.f [D.ro 3 (List.take i_5.i i_5.els++i_5.el::List.drop i_5.i i_5.els)])∧(0:Int)=(0:Int)∧True))) (∃(f:Unit),(true=true∧c.n<(List.map zB c.v).length∧c.f<10∧List.map zB (apV i.v i.m)=zH (List.map zB c.v) c.n c.f [D.ro 3 (List.map lvE e.L)])∧(0:Int)=(0:Int)∧True))))∨∃(i:IxI),False)))
set_option linter.unusedSimpArgs false
open Go Cv Go.Proofs
theorem yJa:clVwC.ok Tryz.prog 120:=yOt gok0 fun i h b hb=>by
 have h:i.length*112≤140737488355328:=h
 exact Cv.cnd.mk (fun e=>⟨(),hb e,trivial⟩) (fun _=>⟨by omega,(),rfl,trivial⟩)
theorem yHc:clLvC.ok Tryz.prog 121:=yNl gok0 fun i h b hb=>by
 have h:i.length*24≤140737488355328:=h
 exact Cv.cnd.mk (fun e=>⟨(),hb e,trivial⟩) (fun _=>⟨by omega,(),rfl,trivial⟩)
theorem yMy {v:Vw} {j:Nat} {p:Sd×Sd} (h:v[j]? =some p):zF (v.map zB) j 0 1=some [.ro 3 (p.1.levels.map lvE)]:=by
 rw[zF,yXj,h];rfl
theorem yBl {v:Vw} {j:Nat} {p:Sd×Sd} (h:v[j]? =some p):zF (v.map zB) j 5 1=some [.ro 3 (p.2.levels.map lvE)]:=by
 rw[zF,yXj,h];rfl
theorem cC {els:List (List D)} {j f:Nat} {ds el el':List D} (h:els[j]? =some el) (e:el.take f++(ds++el.drop (f+ds.length))=el'):zH els j f ds=els.set j el':=by
 rw[zH]
 apply yZn
 intro k
 rw[yZv,yZe]
 by_cases hk:j=k
 ·subst hk
  rw[yWl rfl,h,yWl (yWn.1 h).1,← e]
  show some (if j=j then _ else el)=_
  rw[yWl rfl]
 ·rw[yWk hk]
  cases els[k]? with
  |none=>rfl
  |some x=>
   show some (if j=k then _ else x)=some x
   rw[yWk hk]
theorem zOy {α:Type} {l:List α} {j:Nat} {x:α} (h:l[j]? =some x):l.set j x=l:=by
 apply yZn
 intro k
 rw[yZe]
 by_cases hk:j=k
 ·subst hk
  rw[yWl rfl,yWl (yWn.1 h).1,h]
 ·rw[yWk hk]
theorem yGi {v:Vw} {j:Nat} {p:Sd×Sd} (h:v[j]? =some p):zH (v.map zB) j 0 [.ro 3 (p.1.levels.map lvE)]=v.map zB:=by
 have h':(v.map zB)[j]? =some (zB p):=by rw[yXj,h];rfl
 rw[cC h' (el':=zB p) rfl,zOy h']
theorem z4d {v:Vw} {j:Nat} {p:Sd×Sd} (h:v[j]? =some p):zH (v.map zB) j 5 [.ro 3 (p.2.levels.map lvE)]=v.map zB:=by
 have h':(v.map zB)[j]? =some (zB p):=by rw[yXj,h];rfl
 rw[cC h' (el':=zB p) rfl,zOy h']
theorem yQw (i:CpI) (h:fcopyC.cnd i):yBz i:=by
 obtain⟨hn,hl,hs1,hs2⟩:i.n<i.v.length∧i.v.length≤1000000∧qF i.v:=h
 have hml:(i.v.map zB).length=i.v.length:=yWm _
 have z0:((0:Nat)+nat_lit 0*(5:Nat)+(0:Nat))=0:=rfl
 have z5:((0:Nat)+(nat_lit 0+nat_lit 1) % ((2:Int) ^ IntKind.i64.bits).natAbs*(5:Nat)+(0:Nat))=5:=by decide
 have hf:i.f=if i.s=true then 5 else 0:=by rw[CpI.f];cases i.s<;>rfl
 have hf10:i.f<10:=by rw[hf];split<;>omega
 unfold yBz hP aL Vtopst363 pP h9 pE vP zAf Vlookt296 vJ
 simp only[z0,z5,yXf]
 refine⟨_,rfl,by omega,fun _ _=>⟨0,rfl,⟨rfl,by simp⟩,by simp,fun j=>j≤i.v.length,fun j=>i.v.length-j,yYa _,fun j hj=>zK (fun hlt=> ?_) (fun hlt=> ?_)⟩⟩
 ·have hlt:(j:Int)<((i.v.map zB).length:Nat):=hlt
  obtain⟨p,hp⟩:=z6 (l:=i.v) (i:=j) (by omega)
  have hsm:=hs2 p (yWu hp)
  have l1:(p.1.levels.map lvE).length=p.1.levels.length:=yWm _
  have l2:(p.2.levels.map lvE).length=p.2.levels.length:=yWm _
  have bd:(0:Int)≤(j:Int)∧(j:Int)<((i.v.map zB).length:Nat):=⟨by omega,hlt⟩
  have no:decide (i.n<j)=true→j=i.n→False:=fun a b=>by
   have:=yYq a
   omega
  have lv1:j=i.n→0=i.f→i.lv=p.1.levels.map lvE:=fun a b=>by
   subst a
   rw[hf]at b
   rw[CpI.lv,zYy,hp]
   cases hs:i.s
   ·rfl
   ·rw[hs]at b;simp at b
  have lv2:j=i.n→5=i.f→i.lv=p.2.levels.map lvE:=fun a b=>by
   subst a
   rw[hf]at b
   rw[CpI.lv,zYy,hp]
   cases hs:i.s
   ·rw[hs]at b;simp at b
   ·rfl
  refine⟨bd,_,yMy hp,⟨hf10,fun a b=>(no a b).elim⟩,bd,_,rfl,by omega,fun _ _=>⟨⟨bd,by(first|rfl|trivial)⟩,trivial,⟨by omega,by omega⟩,fun e1 e2=> ?_,hf10,fun hne=> ?_⟩⟩
  ·refine⟨bd,_,yBl hp,⟨hf10,fun _ _=> .inr (by omega)⟩,bd,_,rfl,by omega,fun _ _=>⟨⟨bd,by(first|rfl|trivial)⟩,trivial,⟨by omega,by omega⟩,fun _ e3=>absurd e3 (by omega),hf10,fun _=>⟨by(first|rfl|trivial),j+1,wjn (by omega),⟨(z4d hp).symm,by(first|rfl|trivial),by(first|rfl|trivial),yXb (by omega)⟩,?_,by dsimp only;omega,by dsimp only;omega,by(repeat'(first|exact trivial|exact rfl|apply And.intro))⟩⟩⟩
   rw[yXb (show i.n<j+1 by omega),cond_true,lv1 e1 e2]
  ·rw[yGi hp]
   refine⟨by(first|rfl|trivial),bd,_,yBl hp,⟨hf10,fun a b=>(no a b).elim⟩,bd,_,rfl,by omega,fun _ _=>⟨⟨bd,by(first|rfl|trivial)⟩,trivial,⟨by omega,by omega⟩,fun e1 e3=>⟨j+1,wjn (by omega),⟨by(first|rfl|trivial),by(first|rfl|trivial),by(first|rfl|trivial),yXb (by omega)⟩,?_,by dsimp only;omega,by dsimp only;omega,by(repeat'(first|exact trivial|exact rfl|apply And.intro))⟩,hf10,fun hne2=>⟨by(first|rfl|trivial),j+1,wjn (by omega),⟨(z4d hp).symm,by(first|rfl|trivial),by(first|rfl|trivial),?_⟩,?_,by dsimp only;omega,by dsimp only;omega,by(repeat'(first|exact trivial|exact rfl|apply And.intro))⟩⟩⟩
   ·rw[yXb (show i.n<j+1 by omega),cond_true,lv2 e1 e3]
   ·have:j≠i.n:=fun e=>by
     have:i.f=0∨i.f=5:=by rw[hf];split<;>omega
     rcases this with h|h
     ·exact hne ⟨e,h.symm⟩
     ·exact hne2 ⟨e,h.symm⟩
    exact decide_eq_decide.2 ⟨fun _=>by omega,fun _=>by omega⟩
   ·have:j≠i.n:=fun e=>by
     have:i.f=0∨i.f=5:=by rw[hf];split<;>omega
     rcases this with h|h
     ·exact hne ⟨e,h.symm⟩
     ·exact hne2 ⟨e,h.symm⟩
    rw[show decide (i.n<j+1)=decide (i.n<j)from decide_eq_decide.2 ⟨fun _=>by omega,fun _=>by omega⟩]
 ·have hj:j≤i.v.length:=hj
  obtain rfl:j=i.v.length:=by omega
  have e:decide (i.n<i.v.length)=true:=yXb hn
  exact⟨(),⟨by(first|rfl|trivial),by(first|rfl|trivial),by(first|rfl|trivial),e.symm⟩,by rw[e];rfl,by(repeat'(first|exact trivial|exact rfl|apply And.intro))⟩
theorem zVl:fcopyC.ok Tryz.prog 53:=okw mixed (gokc yJa (gokc yHc gok0)) 0 (fun _=>[]) (fun i=>yMd i) [] Tryz.func53 yQw
theorem yOc (i:FnI):zZh i:=by
 unfold zZh
 have fin:∀{x:Int},¬i.m.inst<0→¬i.m.inst≥i.k→¬(i.m.side≠1∧i.m.side≠2)→cnd (decide (i.m.qty<0)) (∃(o:Unit),i.m.fine i.k=24∧True) (cnd (decide (i.m.count<0)) (∃(o:Unit),i.m.fine i.k=24∧True) (cnd (!(i.m.qty==0)==(i.m.count==0)) (∃(o:Unit),i.m.fine i.k=24∧True) (∃(o:Unit),i.m.fine i.k=0∧True))):=by
  intro _ h1 h2 h3
  have e:i.m.fine i.k=if(i.m.qty<0∨i.m.count<0)∨¬(i.m.qty=0↔i.m.count=0)then 24 else 0:=by rw[MsgM.fine,yWk (by omega),yWk h3]
  rw[e]
  refine zK (fun a=>⟨(),by rw[yWl (.inl (.inl a))],trivial⟩) (fun a=>zK (fun b=>⟨(),by rw[yWl (.inl (.inr b))],trivial⟩) (fun b=>Cv.cnd.mk (fun c=>⟨(),?_,trivial⟩) (fun c=>⟨(),?_,trivial⟩)))
  ·have hx:¬(i.m.qty=0↔i.m.count=0):=fun x=>by
    have:(i.m.qty==0)=(i.m.count==0):=by
     rw[y2q,beq_iff_eq,beq_iff_eq];exact x
    rw[this]at c
    revert c
    cases (i.m.count==0)<;>decide
   rw[yWl (.inr hx)]
  ·rw[yWk]
   rintro(x|x)
   ·omega
   ·refine x ?_
    have:(i.m.qty==0)=(i.m.count==0):=by
     revert c
     cases (i.m.count==0)<;>cases (i.m.qty==0)<;>decide
    rw[y2q,beq_iff_eq,beq_iff_eq]at this
    exact this
 refine zK (fun a=>⟨(),by rw[MsgM.fine,yWl (.inl a)],trivial⟩) (fun a=>zK (fun b=>⟨(),by rw[MsgM.fine,yWl (.inr b)],trivial⟩) (fun b=>Cv.cnd.mk (fun c=>Cv.cnd.mk (fun d=>⟨(),?_,trivial⟩) (fun d=> ?_)) (fun c=> ?_)))
 ·rw[MsgM.fine,yWk (by omega),yWl ⟨by simpa using c,by simpa using d⟩]
 ·exact fin (x:=0) a b fun x=>x.2 (by simpa using d)
 ·exact fin (x:=0) a b fun x=>x.1 (by simpa using c)
theorem zXt:ffineC.ok Tryz.prog 52:=okw (V:=zZh) mixed gok0 0 (fun _=>[]) (fun _=>[]) [] Tryz.func52 fun(i:FnI) _=>yOc i
theorem zCp {k:Int} {m:MsgM} (h:m.fine k=0):(0≤m.inst∧m.inst<k)∧(m.side=1∨m.side=2)∧(0≤m.qty∧0≤m.count)∧(m.qty=0↔m.count=0):=by
 rw[MsgM.fine]at h
 split at h
 ·cases h
 ·split at h
  ·cases h
  ·split at h
   ·cases h
   ·rename_i a b c
    refine⟨by omega,by omega,by omega,?_⟩
    exact Classical.byContradiction fun x=>c (.inr x)
theorem yLr {L:List Lv} {k:Nat} {l:Lv} (h:L[k]? =some l):zF (L.map lvE) k 0 3=some [D.v (.int .i64 l.price),D.v (.int .i64 l.qty),D.v (.int .i64 l.count)]:=by
 rw[zF,yXj,h];rfl
theorem zOg {f:Lv→Bool} {L:List Lv} {k:Nat} {l:Lv} (h:L[k]? =some l) (h0:(L.take k).findIdx? f=none):(f l=true→L.findIdx? f=some k)∧(f l=false→(L.take (k+1)).findIdx? f=none):=by
 have hk:=(yWn.1 h).1
 have e:L=L.take k++(l::L.drop (k+1)):=by
  obtain⟨_,h2⟩:=yWn.1 h
  rw[← h2,List.getElem_cons_drop,yYw]
 constructor
 ·intro hl
  rw[e,List.findIdx?_append,h0,y0v,yWl hl]
  simp;omega
 ·intro hl
  rw[yXw,h,yZx,List.findIdx?_append,h0,y0v,hl,List.findIdx?_nil]
  rfl
theorem yWe (i:IxI) (h:ixPC.cnd i):yRu i:=by
 (
 have hl:i.L.length≤1099511627776:=h
 have hml:(i.L.map lvE).length=i.L.length:=yWm _)
 unfold yRu zBw mW dI
 refine⟨0,rfl,fun k=>k≤i.L.length∧(i.L.take k).findIdx? (fun y=>decide (y.price=i.m.price))=none,fun k=>i.L.length-k,⟨yYa _,by rw[y0k];rfl⟩,fun k hk=>zK (fun c=> ?_) (fun c=> ?_)⟩
 ·obtain⟨hk,h0⟩:=hk
  obtain⟨l,hl2⟩:=z6 (l:=i.L) (i:=k) (by omega)
  obtain⟨n1,n2⟩:=zOg hl2 h0
  refine⟨⟨by omega,by omega⟩,l.price,l.qty,l.count,yLr hl2,Cv.cnd.mk (fun e=>⟨(),?_,by(repeat'(first|exact trivial|exact rfl|apply And.intro))⟩) (fun e=>⟨k+1,?_,⟨by omega,n2 (yWx (by simpa using e))⟩,by dsimp only;omega,by(repeat'(first|exact trivial|exact rfl|apply And.intro))⟩)⟩
  ·rw[n1 (yXb (by simpa using e))];rfl
  ·rw[w64 (by omega)];rfl
 ·obtain⟨hk,h0⟩:=hk
  obtain rfl:k=i.L.length:=by omega
  rw[yZz]at h0
  exact⟨(),by rw[h0];rfl,by(repeat'(first|exact trivial|exact rfl|apply And.intro))⟩
theorem z9u:ixPC.ok Tryz.prog 54:=okw mixed gok0 1 (fun _=>[]) (fun _=>ixA) [] Tryz.func54 yWe
theorem yVs (i:IxI) (h:ixBC.cnd i):yTe i:=by
 (
 have hl:i.L.length≤1099511627776:=h
 have hml:(i.L.map lvE).length=i.L.length:=yWm _)
 unfold yTe zBw mW dI
 refine⟨0,rfl,fun k=>k≤i.L.length∧(i.L.take k).findIdx? (fun y=>xD i.m.side i.m.price y.price)=none,fun k=>i.L.length-k,⟨yYa _,by rw[y0k];rfl⟩,fun k hk=>zK (fun c=> ?_) (fun c=> ?_)⟩
 ·obtain⟨hk,h0⟩:=hk
  obtain⟨l,hl2⟩:=z6 (l:=i.L) (i:=k) (by omega)
  obtain⟨n1,n2⟩:=zOg hl2 h0
  refine⟨⟨by omega,by omega⟩,l.price,l.qty,l.count,yLr hl2,⟨i.m.side,i.m.price,l.price⟩,rfl,rfl,rfl,trivial,fun _ _=>Cv.cnd.mk (fun e=>⟨(),?_,by(repeat'(first|exact trivial|exact rfl|apply And.intro))⟩) (fun e=>⟨k+1,?_,⟨by omega,n2 e⟩,by dsimp only;omega,by(repeat'(first|exact trivial|exact rfl|apply And.intro))⟩)⟩
  ·rw[n1 e];rfl
  ·rw[w64 (by omega)];rfl
 ·obtain⟨hk,h0⟩:=hk
  obtain rfl:k=i.L.length:=by omega
  rw[yZz]at h0
  exact⟨(),by rw[h0];rfl,by(repeat'(first|exact trivial|exact rfl|apply And.intro))⟩
theorem yDt:ixBC.ok Tryz.prog 54:=okw mixed (gokc zPl gok0) 1 (fun _=>[]) (fun _=>ixA) [] Tryz.func54 yVs
theorem zRj:vL Tryz.prog 39=some (41,3,24,#[.int .i64 0,.int .i64 0,.int .i64 0]):=by kernel_rfl
theorem z2u:insLC.ok Tryz.prog 59:=
 insX_ok (tS:=39) (tI:=3) (fO:=122) (fR:=123) (z:= #[.int .i64 0,.int .i64 0,.int .i64 0]) mixed Tryz.func59 rfl (by kernel_rfl) (by kernel_rfl) (by kernel_rfl) (by kernel_rfl) zRj rfl (by decide) (by decide) (by kernel_rfl) (by kernel_rfl)
  (z2n (tS:=39) (tB:=4) Tryz.func122 (by kernel_rfl) (by kernel_rfl) (by kernel_rfl) (by kernel_rfl) zRj) (fun s sn sk i v vn vk w R=>by kernel_rfl)
theorem z5l:delLC.ok Tryz.prog 56:=
 delX_ok mixed Tryz.func56 rfl (by kernel_rfl) (by kernel_rfl) (by kernel_rfl) (by kernel_rfl) zRj rfl (by decide) (fun s sn sk i j w R=>by kernel_rfl)
theorem eV {els:List (List D)} {j f:Nat} {ds el:List D} (h:j<els.length):zH (els.set j el) j f ds=els.set j (el.take f++(ds++el.drop (f+ds.length))):=by
 have h':(els.set j el)[j]? =some el:=by rw[yZe,yWl rfl,yWl h]
 rw[cC h' rfl,y0p]
theorem z9v {v:Vw} {m:MsgM} {p:Sd×Sd} (h:v[m.inst.toNat]? =some p):(apV v m).map zB=(v.map zB).set m.inst.toNat (zB (if m.side=1 then(zHx 1 p.1 m,p.2)else(p.1,zHx 2 p.2 m))):=by
 rw[apV]
 apply yZn
 intro k
 rw[yXj,yZv,yZe]
 by_cases hk:m.inst.toNat=k
 ·subst hk
  have hl:m.inst.toNat<(v.map zB).length:=by rw[yWm];exact(yWn.1 h).1
  rw[h,yWl rfl,yWl hl]
  show Option.map zB (some (if m.inst.toNat=m.inst.toNat then _ else p))=_
  rw[yWl rfl];rfl
 ·rw[yWk hk,yXj]
  cases v[k]? with
  |none=>rfl
  |some x=>
   show Option.map zB (some (if m.inst.toNat=k then _ else x))=_
   rw[yWk hk];first|done|rfl
theorem yCt {s:Int} {L:List Lv} {m:Lv} {k:Nat} (h:L.findIdx? (fun y=>decide (y.price=m.price))=some k) (hq:m.qty=0):(jR s L m).map lvE=(L.map lvE).take k++(L.map lvE).drop (k+1):=by
 rw[jR,h]
 dsimp only
 rw[yWl hq,List.eraseIdx_eq_take_drop_succ,yWw,y0q,y1c]
theorem yAw {s:Int} {L:List Lv} {m:Lv} {k:Nat} (h:L.findIdx? (fun y=>decide (y.price=m.price))=some k) (hq:¬m.qty=0) (hk:k<L.length):(jR s L m).map lvE=zH (L.map lvE) k 0 [D.v (.int .i64 m.price),D.v (.int .i64 m.qty),D.v (.int .i64 m.count)]:=by
 rw[jR,h]
 dsimp only
 obtain⟨l,hl⟩:=z6 hk
 have h':(L.map lvE)[k]? =some (lvE l):=by rw[yXj,hl];rfl
 rw[yWk hq,cC h' (el':=lvE m) rfl,List.map_set]
theorem z2i {s:Int} {L:List Lv} {m:Lv} (h:L.findIdx? (fun y=>decide (y.price=m.price))=none) (hq:¬0<m.qty):jR s L m=L:=by
 rw[jR,h]
 dsimp only
 rw[yWk hq]
theorem zSo {s:Int} {L:List Lv} {m:Lv} (h:L.findIdx? (fun y=>decide (y.price=m.price))=none) (hq:0<m.qty) {k:Nat} (hk:(L.findIdx? fun y=>xD s m.price y.price).getD L.length=k):(jR s L m).map lvE=(L.map lvE).take k++lvE m::(L.map lvE).drop k:=by
 have e:jR s L m=L.take ((L.findIdx? fun y=>xD s m.price y.price).getD L.length)++m::L.drop ((L.findIdx? fun y=>xD s m.price y.price).getD L.length):=by
  rw[jR,h]
  dsimp only
  rw[yWl hq]
  first|done|rfl
 rw[e,hk,yWw,yWy,y0q,y1c]
theorem zIf {f:Lv→Bool} {L:List Lv} {k:Nat} (h:L.findIdx? f=some k):k<L.length:=by
 obtain⟨h,_⟩:=yZo.1 h
 exact h
theorem yEh {s:Int} {x:Sd} {m:MsgM} (h:¬m.implied=true):zHx s x m=⟨jR s x.levels m.lv,x.imp,x.has⟩:=by rw[zHx,yWk h]
theorem yVo (i:ApI) (h:ap1C.cnd i):yUh i:=by
 obtain⟨hs,hfi,hl,hsm⟩:i.m.side=1∧i.m.fine i.v.length=0∧i.v.length≤1000000∧qF i.v:=h
 have hml:(i.v.map zB).length=i.v.length:=yWm _
 obtain⟨⟨f1,f2⟩,f3,f4,f5⟩:=zCp hfi
 have hN:i.m.inst.toNat<(i.v.map zB).length:=by omega
 obtain⟨p,hp⟩:=z6 (l:=i.v) (i:=i.m.inst.toNat) (by omega)
 have hp':(i.v.map zB)[i.m.inst.toNat]? =some (zB p):=by rw[yXj,hp];rfl
 have hps:=hsm.2 p (yWu hp)
 have z0:((0:Nat)+(nat_lit 1-Nat.succ (nat_lit 0)) % ((2:Int) ^ IntKind.i64.bits).natAbs*(5:Nat)+(0:Nat))=0:=by decide
 have z1:((0:Nat)+(nat_lit 1-Nat.succ (nat_lit 0)) % ((2:Int) ^ IntKind.i64.bits).natAbs*(5:Nat)+(1:Nat))=1:=by decide
 have z4:((0:Nat)+(nat_lit 1-Nat.succ (nat_lit 0)) % ((2:Int) ^ IntKind.i64.bits).natAbs*(5:Nat)+(4:Nat))=4:=by decide
 have hA:=z9v hp
 rw[yWl hs]at hA
 unfold yUh x7 jH uX kZ zDf wR zLr zMq Vtopst363 vT dI
 simp only[z0,z1,z4]
 refine⟨⟨i.v.length,i.m⟩,by rw[hml],rfl,rfl,hs,rfl,rfl,rfl,rfl,trivial,fun _ _=>Cv.cnd.mk (fun e=> ?_) (fun _=>⟨⟨i.v,i.m.inst.toNat,false⟩,rfl,⟨by dsimp only;omega,hl,hsm⟩,fun _ _=>⟨⟨f1,by rw[hml];exact f2⟩,Cv.cnd.mk (fun hi=> ?_) (fun hi=> ?_)⟩⟩)⟩
 ·exfalso;simp[hfi]at e
 ·have hf0:(⟨i.v,i.m.inst.toNat,false⟩:CpI).f=0:=rfl
  have hlv:(⟨i.v,i.m.inst.toNat,false⟩:CpI).lv=p.1.levels.map lvE:=by rw[CpI.lv,zYy,hp];rfl
  have e0:zHx 1 p.1 i.m=if 0<i.m.qty then⟨p.1.levels,i.m.lv,true⟩else⟨p.1.levels,lv0,false⟩:=by rw[zHx,yWl hi]
  rw[hf0,hlv]
  have a1:zH (i.v.map zB) i.m.inst.toNat 1 [D.v (.int .i64 i.m.price),D.v (.int .i64 i.m.qty),D.v (.int .i64 i.m.count)]=(i.v.map zB).set i.m.inst.toNat (zB (⟨p.1.levels,i.m.lv,p.1.has⟩,p.2)):=cC hp' rfl
  have a2:∀b:Bool,zH ((i.v.map zB).set i.m.inst.toNat (zB (⟨p.1.levels,i.m.lv,p.1.has⟩,p.2))) i.m.inst.toNat 4 [D.v (.bool b)]=(i.v.map zB).set i.m.inst.toNat (zB (⟨p.1.levels,i.m.lv,b⟩,p.2)):=fun b=>eV hN
  have a3:∀b:Bool,zH ((i.v.map zB).set i.m.inst.toNat (zB (⟨p.1.levels,i.m.lv,b⟩,p.2))) i.m.inst.toNat 1 [D.v (.int .i64 0),D.v (.int .i64 0),D.v (.int .i64 0)]=(i.v.map zB).set i.m.inst.toNat (zB (⟨p.1.levels,lv0,b⟩,p.2)):=fun b=>eV hN
  have a4:∀(y:Lv) (b:Bool),zH ((i.v.map zB).set i.m.inst.toNat (zB (⟨p.1.levels,y,b⟩,p.2))) i.m.inst.toNat 0 [D.ro 3 (p.1.levels.map lvE)]=(i.v.map zB).set i.m.inst.toNat (zB (⟨p.1.levels,y,b⟩,p.2)):=fun y b=>eV hN
  have a5:∀b:Bool,zF ((i.v.map zB).set i.m.inst.toNat (zB (⟨p.1.levels,i.m.lv,b⟩,p.2))) i.m.inst.toNat 4 1=some [D.v (.bool b)]:=fun b=>by
   rw[zF,yZe,yWl rfl,yWl hN];rfl
  simp only[a1,a2,a3,a4,yXp]
  refine⟨⟨by(first|rfl|trivial),hN,by decide,by decide,fun _ _=> .inr (by decide)⟩,by(first|rfl|trivial),⟨by(first|rfl|trivial),hN,by decide,by decide,fun _ _=> .inr (by decide)⟩,_,a5 _,⟨by decide,fun _ _=> .inr (by decide)⟩,Cv.cnd.mk (fun hb=>⟨⟨by(first|rfl|trivial),hN,by decide,by decide,fun _ _=> .inr (by decide)⟩,(),⟨by(first|rfl|trivial),hN,by decide,?_⟩,by(repeat'(first|exact trivial|exact rfl|apply And.intro))⟩) (fun hb=>⟨(),⟨by(first|rfl|trivial),hN,by decide,?_⟩,by(repeat'(first|exact trivial|exact rfl|apply And.intro))⟩)⟩
  ·have hq:¬0<i.m.qty:=by simpa using hb
   rw[hA,e0,yWk hq,yWx (show ¬i.m.qty>0 from hq)]
  ·have hq:0<i.m.qty:=by simpa using hb
   rw[hA,e0,yWl hq,yXb (show i.m.qty>0 from hq)]
 ·have hf0:(⟨i.v,i.m.inst.toNat,false⟩:CpI).f=0:=rfl
  have hlv:(⟨i.v,i.m.inst.toNat,false⟩:CpI).lv=p.1.levels.map lvE:=by rw[CpI.lv,zYy,hp];rfl
  have e0:=yEh (s:=1) (x:=p.1) (m:=i.m) (by simp[hi])
  rw[e0]at hA
  have hh:i.m.inst.toNat=i.m.inst.toNat∧0=(⟨i.v,i.m.inst.toNat,false⟩:CpI).f∧True∧i.m.inst.toNat<(i.v.map zB).length∧0<10:=⟨rfl,rfl,trivial,hN,by decide⟩
  have hf9:(⟨i.v,i.m.inst.toNat,false⟩:CpI).f<10:=by show 0<10;decide
  have hh2:i.m.inst.toNat<(i.v.map zB).length∧0<10:=⟨hN,by decide⟩
  have hB:∀l:List (List D),(jR 1 p.1.levels i.m.lv).map lvE=l→(apV i.v i.m).map zB=zH (i.v.map zB) i.m.inst.toNat 0 [D.ro 3 l]:=fun l e=>by
   subst e
   rw[hA]
   exact Eq.symm (cC (f:=0) (ds:=[D.ro 3 ((jR 1 p.1.levels i.m.lv).map lvE)]) hp' rfl)
  have hll:(p.1.levels.map lvE).length=p.1.levels.length:=yWm _
  have e1:1=i.m.side:=hs.symm
  refine⟨hh,.inl ⟨⟨p.1.levels,i.m⟩,hlv.symm,rfl,rfl,hs,rfl,rfl,rfl,rfl,by dsimp only;omega,fun _ _=> ?_⟩⟩
  dsimp only
  cases hk:p.1.levels.findIdx? (fun y=>decide (y.price=i.m.price))with
  |some k=>
   have hkl:=zIf hk
   refine zK (fun _=>Cv.cnd.mk (fun hq=>⟨hh,⟨p.1.levels.map lvE,k,k+1⟩,rfl,?_,rfl,⟨by dsimp only;omega,by dsimp only;omega⟩,fun _ _=>⟨hh2,⟨by(first|rfl|trivial),by(first|rfl|trivial)⟩,(),⟨by(first|rfl|trivial),hN,hf9,hB _ (yCt hk (by show i.m.qty=0;simpa using hq))⟩,by(repeat'(first|exact trivial|exact rfl|apply And.intro))⟩⟩) (fun hq=>zK (fun _=>⟨hh,⟨by show(0:Int)≤(k:Int);omega,by show(k:Int)<_;omega⟩,by show k<_;omega,(),⟨by(first|rfl|trivial),hN,hf9,hB _ (yAw hk (by show ¬i.m.qty=0;simpa using hq) hkl)⟩,by(repeat'(first|exact trivial|exact rfl|apply And.intro))⟩) (fun c=>absurd (show(0:Int)≤(k:Int)by omega) c))) (fun c=>absurd (show(0:Int)≤(k:Int)by omega) c)
   show((k+1:Nat):Int)=IntKind.i64.wrap ((k:Int)+1)
   rw[w64 (by omega)];rfl
  |none=>
   refine zK (fun c=>absurd c (by decide)) (fun _=>zK (fun c=>absurd c (by decide)) (fun _=>zK (fun hq=>⟨hh,.inr ⟨⟨p.1.levels,i.m⟩,rfl,rfl,rfl,rfl,rfl,rfl,rfl,rfl,by dsimp only;omega,fun _ _=> ?_⟩⟩) (fun hq=>⟨(),⟨by(first|rfl|trivial),hN,hf9,hB _ (by rw[z2i hk hq])⟩,by(repeat'(first|exact trivial|exact rfl|apply And.intro))⟩)))
   dsimp only
   rw[hs]
   cases hb:p.1.levels.findIdx? (fun y=>xD 1 i.m.price y.price)with
   |some k=>
    have hkl:=zIf hb
    exact zK (fun c=>absurd c (by show ¬(k:Int)<0;omega)) (fun _=>⟨hh,⟨hh,trivial⟩,⟨p.1.levels.map lvE,lvE i.m.lv,k⟩,rfl,rfl,rfl,⟨by dsimp only;omega,by dsimp only;omega⟩,fun _ _=>⟨hh2,⟨by(first|rfl|trivial),by(first|rfl|trivial)⟩,(),⟨by(first|rfl|trivial),hN,hf9,hB _ (zSo hk hq (by rw[show(p.1.levels.findIdx? fun y=>xD 1 i.m.lv.price y.price)=some k from hb];rfl))⟩,by(repeat'(first|exact trivial|exact rfl|apply And.intro))⟩⟩)
   |none=>
    exact zK (fun _=>⟨hh,hh,⟨hh,trivial⟩,⟨p.1.levels.map lvE,lvE i.m.lv,p.1.levels.length⟩,by rw[hll],rfl,rfl,⟨by dsimp only;omega,by dsimp only;omega⟩,fun _ _=>⟨hh2,⟨by(first|rfl|trivial),by(first|rfl|trivial)⟩,(),⟨by(first|rfl|trivial),hN,hf9,hB _ (zSo hk hq (by rw[show(p.1.levels.findIdx? fun y=>xD 1 i.m.lv.price y.price)=none from hb];rfl))⟩,by(repeat'(first|exact trivial|exact rfl|apply And.intro))⟩⟩) (fun c=>absurd (show(-1:Int)<0 by decide) c)
theorem yNe:ap1C.ok Tryz.prog 15:=okw mixed (gokc zXt (gokc zVl (gokc z9u (gokc yDt (gokc z5l (gokc z2u gok0)))))) 0 (fun _=>[]) (fun _=>[]) [] Tryz.func15 yVo
theorem yVc (i:ApI) (h:ap2C.cnd i):yRq i:=by
 obtain⟨hs,hfi,hl,hsm⟩:i.m.side=2∧i.m.fine i.v.length=0∧i.v.length≤1000000∧qF i.v:=h
 have hml:(i.v.map zB).length=i.v.length:=yWm _
 obtain⟨⟨f1,f2⟩,f3,f4,f5⟩:=zCp hfi
 have hN:i.m.inst.toNat<(i.v.map zB).length:=by omega
 obtain⟨p,hp⟩:=z6 (l:=i.v) (i:=i.m.inst.toNat) (by omega)
 have hp':(i.v.map zB)[i.m.inst.toNat]? =some (zB p):=by rw[yXj,hp];rfl
 have hps:=hsm.2 p (yWu hp)
 have z0:((0:Nat)+(nat_lit 2-Nat.succ (nat_lit 0)) % ((2:Int) ^ IntKind.i64.bits).natAbs*(5:Nat)+(0:Nat))=5:=by decide
 have z1:((0:Nat)+(nat_lit 2-Nat.succ (nat_lit 0)) % ((2:Int) ^ IntKind.i64.bits).natAbs*(5:Nat)+(1:Nat))=6:=by decide
 have z4:((0:Nat)+(nat_lit 2-Nat.succ (nat_lit 0)) % ((2:Int) ^ IntKind.i64.bits).natAbs*(5:Nat)+(4:Nat))=9:=by decide
 have hA:=z9v hp
 rw[yWk (show ¬i.m.side=1 by omega)]at hA
 unfold yRq jJ uV zMf zLy Vtopst363 vX x7 kZ zDf wR dI
 simp only[z0,z1,z4]
 refine⟨⟨i.v.length,i.m⟩,by rw[hml],rfl,rfl,hs,rfl,rfl,rfl,rfl,trivial,fun _ _=>Cv.cnd.mk (fun e=> ?_) (fun _=>⟨⟨i.v,i.m.inst.toNat,true⟩,rfl,⟨by dsimp only;omega,hl,hsm⟩,fun _ _=>⟨⟨f1,by rw[hml];exact f2⟩,Cv.cnd.mk (fun hi=> ?_) (fun hi=> ?_)⟩⟩)⟩
 ·exfalso;simp[hfi]at e
 ·have hf0:(⟨i.v,i.m.inst.toNat,true⟩:CpI).f=5:=rfl
  have hlv:(⟨i.v,i.m.inst.toNat,true⟩:CpI).lv=p.2.levels.map lvE:=by rw[CpI.lv,zYy,hp];rfl
  have e0:zHx 2 p.2 i.m=if 0<i.m.qty then⟨p.2.levels,i.m.lv,true⟩else⟨p.2.levels,lv0,false⟩:=by rw[zHx,yWl hi]
  rw[hf0,hlv]
  have a1:zH (i.v.map zB) i.m.inst.toNat 6 [D.v (.int .i64 i.m.price),D.v (.int .i64 i.m.qty),D.v (.int .i64 i.m.count)]=(i.v.map zB).set i.m.inst.toNat (zB (p.1,⟨p.2.levels,i.m.lv,p.2.has⟩)):=cC hp' rfl
  have a2:∀b:Bool,zH ((i.v.map zB).set i.m.inst.toNat (zB (p.1,⟨p.2.levels,i.m.lv,p.2.has⟩))) i.m.inst.toNat 9 [D.v (.bool b)]=(i.v.map zB).set i.m.inst.toNat (zB (p.1,⟨p.2.levels,i.m.lv,b⟩)):=fun b=>eV hN
  have a3:∀b:Bool,zH ((i.v.map zB).set i.m.inst.toNat (zB (p.1,⟨p.2.levels,i.m.lv,b⟩))) i.m.inst.toNat 6 [D.v (.int .i64 0),D.v (.int .i64 0),D.v (.int .i64 0)]=(i.v.map zB).set i.m.inst.toNat (zB (p.1,⟨p.2.levels,lv0,b⟩)):=fun b=>eV hN
  have a4:∀(y:Lv) (b:Bool),zH ((i.v.map zB).set i.m.inst.toNat (zB (p.1,⟨p.2.levels,y,b⟩))) i.m.inst.toNat 5 [D.ro 3 (p.2.levels.map lvE)]=(i.v.map zB).set i.m.inst.toNat (zB (p.1,⟨p.2.levels,y,b⟩)):=fun y b=>eV hN
  have a5:∀b:Bool,zF ((i.v.map zB).set i.m.inst.toNat (zB (p.1,⟨p.2.levels,i.m.lv,b⟩))) i.m.inst.toNat 9 1=some [D.v (.bool b)]:=fun b=>by
   rw[zF,yZe,yWl rfl,yWl hN];rfl
  simp only[a1,a2,a3,a4,yXp]
  refine⟨⟨by(first|rfl|trivial),hN,by decide,by decide,fun _ _=> .inr (by decide)⟩,by(first|rfl|trivial),⟨by(first|rfl|trivial),hN,by decide,by decide,fun _ _=> .inr (by decide)⟩,_,a5 _,⟨by decide,fun _ _=> .inr (by decide)⟩,Cv.cnd.mk (fun hb=>⟨⟨by(first|rfl|trivial),hN,by decide,by decide,fun _ _=> .inr (by decide)⟩,(),⟨by(first|rfl|trivial),hN,by decide,?_⟩,by(repeat'(first|exact trivial|exact rfl|apply And.intro))⟩) (fun hb=>⟨(),⟨by(first|rfl|trivial),hN,by decide,?_⟩,by(repeat'(first|exact trivial|exact rfl|apply And.intro))⟩)⟩
  ·have hq:¬0<i.m.qty:=by simpa using hb
   rw[hA,e0,yWk hq,yWx (show ¬i.m.qty>0 from hq)]
  ·have hq:0<i.m.qty:=by simpa using hb
   rw[hA,e0,yWl hq,yXb (show i.m.qty>0 from hq)]
 ·have hf0:(⟨i.v,i.m.inst.toNat,true⟩:CpI).f=5:=rfl
  have hlv:(⟨i.v,i.m.inst.toNat,true⟩:CpI).lv=p.2.levels.map lvE:=by rw[CpI.lv,zYy,hp];rfl
  have e0:=yEh (s:=2) (x:=p.2) (m:=i.m) (by simp[hi])
  rw[e0]at hA
  have hh:i.m.inst.toNat=i.m.inst.toNat∧5=(⟨i.v,i.m.inst.toNat,true⟩:CpI).f∧True∧i.m.inst.toNat<(i.v.map zB).length∧5<10:=⟨rfl,rfl,trivial,hN,by decide⟩
  have hf9:(⟨i.v,i.m.inst.toNat,true⟩:CpI).f<10:=by show 5<10;decide
  have hh2:i.m.inst.toNat<(i.v.map zB).length∧5<10:=⟨hN,by decide⟩
  have hB:∀l:List (List D),(jR 2 p.2.levels i.m.lv).map lvE=l→(apV i.v i.m).map zB=zH (i.v.map zB) i.m.inst.toNat 5 [D.ro 3 l]:=fun l e=>by
   subst e
   rw[hA]
   exact Eq.symm (cC (f:=5) (ds:=[D.ro 3 ((jR 2 p.2.levels i.m.lv).map lvE)]) hp' rfl)
  have hll:(p.2.levels.map lvE).length=p.2.levels.length:=yWm _
  have e1:2=i.m.side:=hs.symm
  refine⟨hh,.inl ⟨⟨p.2.levels,i.m⟩,hlv.symm,rfl,rfl,hs,rfl,rfl,rfl,rfl,by dsimp only;omega,fun _ _=> ?_⟩⟩
  dsimp only
  cases hk:p.2.levels.findIdx? (fun y=>decide (y.price=i.m.price))with
  |some k=>
   have hkl:=zIf hk
   refine zK (fun _=>Cv.cnd.mk (fun hq=>⟨hh,⟨p.2.levels.map lvE,k,k+1⟩,rfl,?_,rfl,⟨by dsimp only;omega,by dsimp only;omega⟩,fun _ _=>⟨hh2,⟨by(first|rfl|trivial),by(first|rfl|trivial)⟩,(),⟨by(first|rfl|trivial),hN,hf9,hB _ (yCt hk (by show i.m.qty=0;simpa using hq))⟩,by(repeat'(first|exact trivial|exact rfl|apply And.intro))⟩⟩) (fun hq=>zK (fun _=>⟨hh,⟨by show(0:Int)≤(k:Int);omega,by show(k:Int)<_;omega⟩,by show k<_;omega,(),⟨by(first|rfl|trivial),hN,hf9,hB _ (yAw hk (by show ¬i.m.qty=0;simpa using hq) hkl)⟩,by(repeat'(first|exact trivial|exact rfl|apply And.intro))⟩) (fun c=>absurd (show(0:Int)≤(k:Int)by omega) c))) (fun c=>absurd (show(0:Int)≤(k:Int)by omega) c)
   show((k+1:Nat):Int)=IntKind.i64.wrap ((k:Int)+1)
   rw[w64 (by omega)];rfl
  |none=>
   refine zK (fun c=>absurd c (by decide)) (fun _=>zK (fun c=>absurd c (by decide)) (fun _=>zK (fun hq=>⟨hh,.inr ⟨⟨p.2.levels,i.m⟩,rfl,rfl,rfl,rfl,rfl,rfl,rfl,rfl,by dsimp only;omega,fun _ _=> ?_⟩⟩) (fun hq=>⟨(),⟨by(first|rfl|trivial),hN,hf9,hB _ (by rw[z2i hk hq])⟩,by(repeat'(first|exact trivial|exact rfl|apply And.intro))⟩)))
   dsimp only
   rw[hs]
   cases hb:p.2.levels.findIdx? (fun y=>xD 2 i.m.price y.price)with
   |some k=>
    have hkl:=zIf hb
    exact zK (fun c=>absurd c (by show ¬(k:Int)<0;omega)) (fun _=>⟨hh,⟨hh,trivial⟩,⟨p.2.levels.map lvE,lvE i.m.lv,k⟩,rfl,rfl,rfl,⟨by dsimp only;omega,by dsimp only;omega⟩,fun _ _=>⟨hh2,⟨by(first|rfl|trivial),by(first|rfl|trivial)⟩,(),⟨by(first|rfl|trivial),hN,hf9,hB _ (zSo hk hq (by rw[show(p.2.levels.findIdx? fun y=>xD 2 i.m.lv.price y.price)=some k from hb];rfl))⟩,by(repeat'(first|exact trivial|exact rfl|apply And.intro))⟩⟩)
   |none=>
    exact zK (fun _=>⟨hh,hh,⟨hh,trivial⟩,⟨p.2.levels.map lvE,lvE i.m.lv,p.2.levels.length⟩,by rw[hll],rfl,rfl,⟨by dsimp only;omega,by dsimp only;omega⟩,fun _ _=>⟨hh2,⟨by(first|rfl|trivial),by(first|rfl|trivial)⟩,(),⟨by(first|rfl|trivial),hN,hf9,hB _ (zSo hk hq (by rw[show(p.2.levels.findIdx? fun y=>xD 2 i.m.lv.price y.price)=none from hb];rfl))⟩,by(repeat'(first|exact trivial|exact rfl|apply And.intro))⟩⟩) (fun c=>absurd (show(-1:Int)<0 by decide) c)
theorem yRc:ap2C.ok Tryz.prog 15:=okw mixed (gokc zXt (gokc zVl (gokc z9u (gokc yDt (gokc z5l (gokc z2u gok0)))))) 0 (fun _=>[]) (fun _=>[]) [] Tryz.func15 yVc
theorem apply_ok:applyC.ok Tryz.prog 15:=by
 intro i h
 obtain⟨hfi,hl,hsm⟩:i.m.fine i.v.length=0∧i.v.length≤1000000∧qF i.v:=h
 obtain⟨_,f3,_⟩:=zCp hfi
 rcases f3 with e|e
 ·have:=yNe i ⟨e,hfi,hl,hsm⟩
  have e2:applyC.pat i=ap1C.pat i:=by
   show[vwV i.v,z7r i.m]=[vwV i.v,V.agg [zA i.m.seq,zA i.m.inst,zA 1,zA i.m.price,zA i.m.qty,zA i.m.count,yG i.m.implied]]
   rw[z7r,e]
  intro k L E w ys R hv
  rw[e2]at hv
  exact this k L E w ys R hv
 ·have:=yRc i ⟨e,hfi,hl,hsm⟩
  have e2:applyC.pat i=ap2C.pat i:=by
   show[vwV i.v,z7r i.m]=[vwV i.v,V.agg [zA i.m.seq,zA i.m.inst,zA 2,zA i.m.price,zA i.m.qty,zA i.m.count,yG i.m.implied]]
   rw[z7r,e]
  intro k L E w ys R hv
  rw[e2]at hv
  exact this k L E w ys R hv
open Go Cv Go.Proofs
theorem yKx:∀{l:List zJ} {v:Lv},v∈grp l→(1≤v.count∧v.count≤l.length)∧∃o∈l,o.price=v.price
 |[],v,h=>by cases h
 |o::l,v,h=>by
  have ih:∀v∈grp l,(1≤v.count∧v.count≤l.length)∧∃o∈l,o.price=v.price:=fun v hv=>yKx hv
  rw[grp]at h
  rw[yWs]
  split at h
  ·rw[yXx]at h
   subst h
   exact⟨by dsimp only;omega,o,yWr,rfl⟩
  ·rename_i w ws e
   rw[e]at ih
   have hw:=ih w yWr
   split at h
   ·rename_i ep
    rcases yWz.1 h with rfl|h
    ·exact⟨by dsimp only;omega,o,yWr,ep.symm⟩
    ·obtain⟨a,x,hx,hp⟩:=ih v (yWq _ h)
     exact⟨by omega,x,yWq _ hx,hp⟩
   ·rcases yWz.1 h with rfl|h
    ·exact⟨by dsimp only;omega,o,yWr,rfl⟩
    ·obtain⟨a,x,hx,hp⟩:=ih v h
     exact⟨by omega,x,yWq _ hx,hp⟩
theorem z3o:∀l:List zJ,(grp l).length≤l.length
 |[]=>yXs 0
 |o::l=>by
  have ih:=z3o l
  rw[grp,yWs]
  cases e:grp l with
  |nil=>simp
  |cons w ws=>
   rw[e,yWs]at ih
   dsimp only
   split
   ·rw[yWs];omega
   ·rw[yWs,yWs];omega
theorem yNk {s:Int} {L:List Lv} (h:fP s L) (hp:∀l∈L,1≤l.qty∧1≤l.count) (i:Nat):yEm s L i:=by
 intro a ha
 have hm:=hp a (yWu ha)
 refine⟨hm.1,hm.2,?_⟩
 rintro j b rfl hb
 obtain⟨h1,e1⟩:=yWn.1 ha
 obtain⟨h2,e2⟩:=yWn.1 hb
 have:=(List.pairwise_iff_getElem.1 h) j (j+1) h2 h1 (y1v j)
 rw[e1,e2]at this
 exact this
theorem z1t {p:Prd} {B:List (List zJ)} (h:BWf p B) {k:Nat} {L:List zJ} (hL:B[k]? =some L) {s:Int} (hs:s=1∨s=2):
 (∀i,yEm s (uS L s) i)∧(uS L s).length≤255∧∀l∈uS L s,(1≤l.qty∧l.qty≤250000000)∧l.fit:=by
 obtain⟨h1,h2,h3⟩:=h.od k L hL
 have hf:(L.filter fun o=>decide (o.side=s)).length≤L.length:=y0a _ _
 have hl:=z3o (L.filter fun o=>decide (o.side=s))
 have hall:∀l∈uS L s,(1≤l.qty∧l.qty≤250000000)∧(1≤l.count∧l.count≤250)∧(-2000000≤l.price∧l.price≤2000000):=fun l hm=>by
  have q:=z2l (fun o ho=>h1 o (yYp.1 ho).1) hm
  obtain⟨c,o,ho,e⟩:=yKx hm
  have hp:=h.ok.prices hL o (yYp.1 ho).1
  rw[e]at hp
  exact⟨by omega,by omega,hp⟩
 refine⟨yNk (yGp h hL hs).1 fun l hm=>⟨(hall l hm).1.1,(hall l hm).2.1.1⟩,by rw[uS];omega,fun l hm=> ?_⟩
 obtain⟨a,b,c⟩:=hall l hm
 exact⟨a,⟨by omega,by omega⟩,⟨by omega,by omega⟩,⟨by omega,by omega⟩⟩
theorem zWa {p:Prd} {B:List (List zJ)} (h:BWf p B) {k:Nat} {L:List zJ} (hL:B[k]? =some L) {s:Int} (hs:s=1∨s=2) (hb:(bestL L s).2=true):1≤(bestL L s).1.qty∧(bestL L s).1.qty≤250000000:=by
 have hm:(bestL L s).1∈uS L s:=by
  rw[bestL]at hb ⊢
  split at hb
  ·cases hb
  ·rename_i v vs e
   rw[e]
   exact yWr
 exact((z1t h hL hs).2.2 _ hm).1
theorem yKm {p:Prd} {B:List (List zJ)} (h:BWf p B) {i s:Int} (hi:0≤i∧i<(B.map qU).length) (hs:s=1∨s=2) (hh:((B.map qU).getD i.toNat top0).has s=true):1≤((B.map qU).getD i.toNat top0).qty s∧((B.map qU).getD i.toNat top0).qty s≤250000000:=by
 rw[yWm]at hi
 obtain⟨L,hL⟩:=z6 (l:=B) (i:=i.toNat) (by omega)
 have e:(B.map qU).getD i.toNat top0=qU L:=by rw[yWt,yXj,hL];rfl
 rw[e]at hh ⊢
 obtain⟨t1,t2,t3,t4,t5,t6⟩:=zIn L
 rcases hs with rfl|rfl
 ·rw[Top.has,yWl rfl,t3]at hh
  rw[Top.qty,yWl rfl,t2]
  exact zWa h hL (.inl rfl) hh
 ·rw[Top.has,yWk (by decide),t6]at hh
  rw[Top.qty,yWk (by decide),t5]
  exact zWa h hL (.inr rfl) hh
theorem yJe {p:Prd} {B:List (List zJ)} (h:BWf p B) {n s:Int} (hs:s=1∨s=2) {q:Quote} (hq:q∈xR ⟨p,B.map qU,n⟩ s):(1≤q.qty∧q.qty≤250000000)∧(-2000000≤q.price∧q.price≤2000000):=by
 rw[xR,yYp]at hq
 obtain⟨ok,-⟩:=z5a h.ok.pc (by rw[yWm,h.ok.bl]) hs hq.1
 have qa:=yKm h ok.a ok.sa ok.ha
 have qb:=yKm h ok.b ok.sb ok.hb
 have hp:p.price n q.price=0:=by simpa using hq.2
 exact⟨by rw[ok.qty];omega,sS h.ok.pc hp⟩
theorem zFv (b:Quote) {M:Int}:∀(l:List Quote) (a:Int×Int),(∀q∈l,1≤q.qty∧q.qty≤M)→1≤a.1→a.1≤M→
 (1≤(l.foldl (fun a q=>if q.price=b.price then(if q.qty>a.1 then q.qty else a.1,a.2+1)else a) a).1∧(l.foldl (fun a q=>if q.price=b.price then(if q.qty>a.1 then q.qty else a.1,a.2+1)else a) a).1≤M)∧
 a.2≤(l.foldl (fun a q=>if q.price=b.price then(if q.qty>a.1 then q.qty else a.1,a.2+1)else a) a).2∧(l.foldl (fun a q=>if q.price=b.price then(if q.qty>a.1 then q.qty else a.1,a.2+1)else a) a).2≤a.2+l.length∧
 (b∈l→a.2+1≤(l.foldl (fun a q=>if q.price=b.price then(if q.qty>a.1 then q.qty else a.1,a.2+1)else a) a).2)
 |[],a,_,h1,h2=>⟨⟨h1,h2⟩,y0b _,by simp,fun h=>by cases h⟩
 |q::l,a,hq,h1,h2=>by
  have q0:=hq q yWr
  rw[yZh,yWs]
  by_cases e:q.price=b.price
  ·rw[yWl e]
   obtain⟨r1,r2,r3,r4⟩:=zFv b (M:=M) l (if q.qty>a.1 then q.qty else a.1,a.2+1) (fun x hx=>hq x (yWq _ hx)) (by dsimp only;split<;>omega) (by dsimp only;split<;>omega)
   dsimp only at r2 r3
   exact⟨r1,by omega,by omega,fun _=>r2⟩
  ·rw[yWk e]
   obtain⟨r1,r2,r3,r4⟩:=zFv b (M:=M) l a (fun x hx=>hq x (yWq _ hx)) h1 h2
   refine⟨r1,r2,by omega,fun hb=> ?_⟩
   rcases yWz.1 hb with rfl|hb
   ·exact absurd rfl e
   ·exact r4 hb
theorem yDb {l:List Quote} {s:Int} (hl:l.length≤100) (h:∀q∈l,(1≤q.qty∧q.qty≤250000000)∧(-2000000≤q.price∧q.price≤2000000)):
 ((qB l s).2=true→1≤(qB l s).1.qty∧1≤(qB l s).1.count)∧((qB l s).2=false→(qB l s).1=⟨0,0,0⟩)∧(qB l s).1.fit:=by
 by_cases e:(zU l s).2=true
 ·have hm:=zEn e
  have hb:=h _ hm
  have:=zFv (zU l s).1 (M:=250000000) l ((zU l s).1.qty,0) (fun q hq=>(h q hq).1) hb.1.1 hb.1.2
  have e2:qB l s=(⟨(zU l s).1.price,(fS l (zU l s).1).1,(fS l (zU l s).1).2⟩,true):=by rw[qB,yWl e]
  rw[e2]
  rw[← fS]at this
  obtain⟨r1,r2,r3,r4⟩:=this
  have r4:=r4 hm
  dsimp only at r2 r3 r4 ⊢
  exact⟨fun _=>⟨r1.1,by omega⟩,fun x=>(by cases x),⟨by dsimp only;omega,by dsimp only;omega⟩,⟨by dsimp only;omega,by dsimp only;omega⟩,⟨by dsimp only;omega,by dsimp only;omega⟩⟩
 ·have e2:qB l s=(⟨0,0,0⟩,false):=by rw[qB,yWk e]
  rw[e2]
  exact⟨fun x=>(by cases x),fun _=>rfl,⟨by decide,by decide⟩,⟨by decide,by decide⟩,⟨by decide,by decide⟩⟩
theorem zAo {p:Prd} {B:List (List zJ)} (h:BWf p B):zSh (qX p B)∧ySq (qX p B)∧qF (qX p B):=by
 have hc:=xS p
 have hlen:=mN p B
 have hside:∀k,k<p.count→∀s,s=1∨s=2→zCk s (zCw p B k s)∧(zCw p B k s).fit:=fun k hk s hs=>by
  obtain⟨L,hL⟩:=z6 (l:=B) (i:=k) (by rw[h.ok.bl];exact hk)
  have e:B.getD k []=L:=zT hL
  obtain⟨a1,a2,a3⟩:=z1t h hL hs
  obtain⟨b1,b2,b3⟩:=yDb (s:=s) (zGz ⟨p,B.map qU,k⟩ s) (fun q hq=>yJe h hs hq)
  rw[zCw,e]
  exact⟨⟨a1,a2,b1,b2⟩,fun x hx=>(a3 x hx).2,b3⟩
 have hmem:∀b∈qX p B,∃k,k<p.count∧b=(zCw p B k 1,zCw p B k 2):=fun b hb=>by
  rw[qX]at hb
  obtain⟨k,hk,rfl⟩:=yXm.1 hb
  exact⟨k,yZr.1 hk,rfl⟩
 refine⟨⟨fun b hb=> ?_,by omega⟩,fun b hb=> ?_,⟨by omega,fun b hb=> ?_⟩⟩
 ·obtain⟨k,hk,rfl⟩:=hmem b hb
  exact⟨(hside k hk 1 (.inl rfl)).1,(hside k hk 2 (.inr rfl)).1⟩
 ·obtain⟨k,hk,rfl⟩:=hmem b hb
  exact⟨(hside k hk 1 (.inl rfl)).2,(hside k hk 2 (.inr rfl)).2⟩
 ·obtain⟨k,hk,rfl⟩:=hmem b hb
  have a:=(hside k hk 1 (.inl rfl)).1.2.1
  have c:=(hside k hk 2 (.inr rfl)).1.2.1
  dsimp only
  omega
open Go Cv Go.Proofs
structure VwG (p:Prd) (v:Vw):Prop where
 r:zSh v
 f:ySq v
 s:qF v
 len:v.length=p.count
theorem yDv {p:Prd} {B:List (List zJ)} (h:BWf p B):VwG p (qX p B):=⟨(zAo h).1,(zAo h).2.1,(zAo h).2.2,mN p B⟩
theorem zJr {s:Int}:∀{L:List Lv},(∀i,yEm s L i)→fP s L∧∀l∈L,1≤l.qty∧1≤l.count
 |[],_=>⟨List.Pairwise.nil,fun l h=>by cases h⟩
 |x::L,h=>by
  have hL:∀i,yEm s L i:=fun i a ha=>by
   obtain⟨h1,h2,h3⟩:=h (i+1) a (by simpa using ha)
   exact⟨h1,h2,fun j b e hb=>h3 (j+1) b (by omega) (by simpa using hb)⟩
  obtain⟨i1,i2⟩:=zJr hL
  obtain⟨h1,h2,_⟩:=h 0 x rfl
  refine⟨yYk.2 ⟨?_,i1⟩,fun l hl=> ?_⟩
  ·cases L with
   |nil=>intro a ha;cases ha
   |cons y L=>
    have hy:btr s x.price y.price=true:=(h 1 y rfl).2.2 0 x rfl rfl
    intro a ha
    rcases yWz.1 ha with rfl|ha
    ·exact hy
    ·exact nR hy ((yYk.1 i1).1 a ha)
  ·rcases yWz.1 hl with rfl|hl
   ·exact⟨h1,h2⟩
   ·exact i2 l hl
theorem nU {v:Vw} (h:zSh v):zZa v:=fun p hp=>by
 obtain⟨⟨a1,a2,a3,a4⟩,⟨b1,b2,b3,b4⟩⟩:=h.1 p hp
 obtain⟨s1,p1⟩:=zJr a1
 obtain⟨s2,p2⟩:=zJr b1
 exact⟨⟨s1,fun l hl=>(p1 l hl).1,fun x=>(a3 x).1,a4⟩,⟨s2,fun l hl=>(p2 l hl).1,fun x=>(b3 x).1,b4⟩⟩
theorem yFp:yV 0:=⟨by decide,by decide⟩
def SdM (x:Sd):Prop:=(∀l∈x.levels,(1≤l.qty∧1≤l.count)∧l.fit)∧(x.has=true→1≤x.imp.qty∧1≤x.imp.count)∧x.imp.fit
theorem yLl {p:Prd} {v:Vw} (h:VwG p v):∀b∈v,SdM b.1∧SdM b.2:=fun b hb=>by
 obtain⟨⟨a1,a2,a3,a4⟩,⟨b1,b2,b3,b4⟩⟩:=h.r.1 b hb
 obtain⟨⟨f1,f2⟩,⟨g1,g2⟩⟩:=h.f b hb
 exact⟨⟨fun l hl=>⟨(zJr a1).2 l hl,f1 l hl⟩,a3,f2⟩,⟨fun l hl=>⟨(zJr b1).2 l hl,g1 l hl⟩,b3,g2⟩⟩
theorem nM {s:Int}:∀(k:Nat) (X Y:List Lv),∀m∈xA s k X Y,m∈Y∨∃x∈X,m=⟨x.price,0,0⟩
 |0,_,_,m,h=>by rw[xA]at h;cases h
 |k+1,[],[],m,h=>by rw[xA]at h;cases h
 |k+1,x::X,[],m,h=>by
  rw[xA]at h
  rcases yWz.1 h with rfl|h
  ·exact .inr ⟨x,yWr,rfl⟩
  ·rcases nM k X [] m h with h|⟨z,hz,e⟩
   ·cases h
   ·exact .inr ⟨z,yWq _ hz,e⟩
 |k+1,[],y::Y,m,h=>by
  rw[xA]at h
  rcases yWz.1 h with rfl|h
  ·exact .inl yWr
  ·rcases nM k [] Y m h with h|⟨z,hz,e⟩
   ·exact .inl (yWq _ h)
   ·cases hz
 |k+1,x::X,y::Y,m,h=>by
  rw[xA]at h
  split at h
  ·rcases yWz.1 h with rfl|h
   ·exact .inr ⟨x,yWr,rfl⟩
   ·rcases nM k X (y::Y) m h with h|⟨z,hz,e⟩
    ·exact .inl h
    ·exact .inr ⟨z,yWq _ hz,e⟩
  ·split at h
   ·rcases yWz.1 h with rfl|h
    ·exact .inl yWr
    ·rcases nM k (x::X) Y m h with h|h
     ·exact .inl (yWq _ h)
     ·exact .inr h
   ·rcases yXh.1 h with h|h
    ·split at h
     ·cases h
     ·rw[yXx]at h;subst h;exact .inl yWr
    ·rcases nM k X Y m h with h|⟨z,hz,e⟩
     ·exact .inl (yWq _ h)
     ·exact .inr ⟨z,yWq _ hz,e⟩
structure zZd (n:Nat) (m:VM):Prop where
 inst:m.inst<n
 side:m.side=1∨m.side=2
 q:0≤m.l.qty∧0≤m.l.count
 e:m.l.qty=0↔m.l.count=0
 f:m.l.fit
theorem zVn {n N:Nat} {s:Int} {a b:Sd} (hn:n<N) (hs:s=1∨s=2) (ha:SdM a) (hb:SdM b):∀m∈y8 n s a b,zZd N m:=by
 intro m hm
 rw[y8,yXh]at hm
 rcases hm with hm|hm
 ·obtain⟨l,hl,rfl⟩:=yXm.1 hm
  rcases nM _ _ _ l hl with h|⟨x,hx,rfl⟩
  ·obtain⟨⟨h1,h2⟩,h3⟩:=hb.1 l h
   exact⟨hn,hs,⟨by dsimp only;omega,by dsimp only;omega⟩,⟨fun _=>by dsimp only at*;omega,fun _=>by dsimp only at*;omega⟩,h3⟩
  ·exact⟨hn,hs,⟨y0b _,y0b _⟩,⟨fun _=>rfl,fun _=>rfl⟩,⟨(ha.1 x hx).2.1,yFp,yFp⟩⟩
 ·split at hm
  ·rw[yXx]at hm
   subst hm
   have hI:(0≤(zBr b).qty∧0≤(zBr b).count)∧((zBr b).qty=0↔(zBr b).count=0)∧(zBr b).fit:=by
    rw[zBr]
    split
    ·rename_i h
     have:=hb.2.1 h
     exact⟨⟨by omega,by omega⟩,⟨fun _=>by omega,fun _=>by omega⟩,hb.2.2⟩
    ·exact⟨⟨y0b _,y0b _⟩,⟨fun _=>rfl,fun _=>rfl⟩,⟨yFp,yFp,yFp⟩⟩
   exact⟨hn,hs,hI.1,hI.2.1,hI.2.2⟩
  ·cases hm
theorem z2k:∀(n:Nat) (A B:Vw),(∀p∈A,SdM p.1∧SdM p.2)→(∀p∈B,SdM p.1∧SdM p.2)→∀m∈z9 n A B,zZd (n+A.length) m
 |n,[],_,_,_,m,h=>by rw[z9]at h<;>first|cases h|simp
 |n,a::A,[],_,_,m,h=>by rw[z9]at h<;>first|cases h|simp
 |n,a::A,b::B,hA,hB,m,h=>by
  rw[z9,yXh,yXh]at h
  have ha:=hA a yWr
  have hb:=hB b yWr
  rw[yWs]
  rcases h with(h|h)|h
  ·exact zVn (by omega) (.inl rfl) ha.1 hb.1 m h
  ·exact zVn (by omega) (.inr rfl) ha.2 hb.2 m h
  ·have:=z2k (n+1) A B (fun p hp=>hA p (yWq _ hp)) (fun p hp=>hB p (yWq _ hp)) m h
   rwa [show n+1+A.length=n+(A.length+1)by omega]at this
theorem zTd {p:Prd} {v:Vw} (h:VwG p v):Vw.levs v≤510*v.length:=by
 have:∀{v:Vw},(∀b∈v,zCk 1 b.1∧zCk 2 b.2)→Vw.levs v≤510*v.length:=by
  intro v
  induction v with
  |nil=>intro _;exact yXs _
  |cons a v ih=>
   intro h
   have ha:=h a yWr
   have:=ih fun b hb=>h b (yWq _ hb)
   have h1:=ha.1.2.1
   have h2:=ha.2.2.1
   rw[Vw.levs]at this ⊢
   rw[yWy,yXy,yWs]
   omega
 exact this h.r.1
theorem zTq {p:Prd} {v w:Vw} (hv:VwG p v) (hw:VwG p w):(z9 0 v w).length≤300000:=by
 have h1:=zTd hv
 have h2:=zTd hw
 have h3:=hv.len
 have h4:=hw.len
 have h5:=hv.r.2
 have h6:=hw.r.2
 have:=yCd v w v.length (yXs _) (by omega)
 rw[yZz,show w.take v.length=w by rw[yXc (by omega)]]at this
 omega
def ofM (m:MsgM):VM:=⟨m.inst.toNat,m.side,m.lv,m.implied⟩
def toM (seq:Int) (m:VM):MsgM:=⟨seq,m.inst,m.side,m.l.price,m.l.qty,m.l.count,m.imp⟩
theorem ySt (seq:Int) (m:VM):ofM (toM seq m)=m:=rfl
theorem zSz:∀{M:List VM} {seq:Int} {k:Nat} {x:VM},M[k]? =some x→(wA seq M)[k]? =some (toM (seq+k+1) x)
 |[],seq,k,x,h=>by cases h
 |m::M,seq,0,x,h=>by
  cases h
  rw[wA,yYo,Int.natCast_zero,Int.add_zero];rfl
 |m::M,seq,k+1,x,h=>by
  rw[wA,yYe,zSz (M:=M) (by simpa using h)]
  congr 2
  omega
theorem zTm:∀(M:List VM) (seq:Int),(wA seq M).length=M.length
 |[],_=>rfl
 |m::M,seq=>by rw[wA,yWs,yWs,zTm M]
def zYx (v:Vw):Prop:=∀p∈v,fP 1 p.1.levels∧fP 2 p.2.levels
def z6p (n:Nat) (v:Vw):Prop:=∀p∈v,p.1.levels.length≤n∧p.2.levels.length≤n
theorem z4x (s:Int) (m:Lv):∀L:List Lv,(cX s L m).length≤L.length+1
 |[]=>by rw[cX];split<;>simp
 |x::L=>by
  have:=z4x s m L
  rw[cX]
  split
  ·split
   ·rw[yWs];omega
   ·simp
  ·split
   ·split<;>simp
   ·rw[yWs,yWs];omega
theorem z1s {v:Vw} {m:VM} {q:Sd×Sd} (h:q∈g9 v m):q∈v∨∃p∈v,q=dV p m:=by
 rw[g9]at h
 obtain⟨k,hk⟩:=yZd.1 h
 rw[yZv]at hk
 cases e:v[k]? with
 |none=>rw[e]at hk;cases hk
 |some x=>
  rw[e]at hk
  have hx:=yWu e
  have hk:(if m.inst=k then dV x m else x)=q:=Option.some.inj hk
  split at hk
  ·exact .inr ⟨x,hx,hk.symm⟩
  ·exact .inl (hk▸hx)
theorem yIj {v:Vw} {m:VM} (h:zYx v):zYx (g9 v m):=fun q hq=>by
 rcases z1s hq with hq|⟨p,hp,rfl⟩
 ·exact h q hq
 ·obtain⟨h1,h2⟩:=h p hp
  rw[dV]
  split
  ·refine⟨?_,h2⟩
   rw[jW]
   split
   ·split<;>exact h1
   ·exact zIb h1
  ·refine⟨h1,?_⟩
   rw[jW]
   split
   ·split<;>exact h2
   ·exact zIb h2
theorem yIa {v:Vw} {m:VM} {n:Nat} (h:z6p n v):z6p (n+1) (g9 v m):=fun q hq=>by
 rcases z1s hq with hq|⟨p,hp,rfl⟩
 ·have:=h q hq;omega
 ·obtain⟨h1,h2⟩:=h p hp
  have key:∀s (x:Sd),x.levels.length≤n→(jW s x m).levels.length≤n+1:=fun s x hx=>by
   rw[jW]
   split
   ·split<;>exact Nat.le_succ_of_le hx
   ·have:=z4x s m.l x.levels
    show(cX s x.levels m.l).length≤n+1
    omega
  rw[dV]
  split
  ·exact⟨key 1 p.1 h1,Nat.le_succ_of_le h2⟩
  ·exact⟨Nat.le_succ_of_le h1,key 2 p.2 h2⟩
theorem z1v {s:Int} {x:Sd} {m:MsgM} (hs:fP s x.levels) (hq:0≤m.qty):zHx s x m=jW s x (ofM m):=by
 rw[zHx,jW]
 show(if m.implied=true then _ else _)=(if m.implied=true then _ else _)
 split
 ·rfl
 ·rw[zOf (m:=m.lv) hq hs];rfl
theorem yNf {v:Vw} {m:MsgM} (hs:zYx v) (hf:m.fine v.length=0):apV v m=g9 v (ofM m):=by
 obtain⟨_,f3,f4,_⟩:=zCp hf
 rw[apV,g9]
 apply yZn
 intro k
 rw[yZv,yZv]
 cases e:v[k]? with
 |none=>rfl
 |some x=>
  obtain⟨h1,h2⟩:=hs x (yWu e)
  show some (if m.inst.toNat=k then _ else x)=some (if m.inst.toNat=k then dV x (ofM m)else x)
  congr 1
  split
  ·rw[dV,z1v h1 f4.1,z1v h2 f4.1];rfl
  ·rfl
theorem yGg {n:Nat} {m:VM} (h:zZd n m) (seq:Int):(toM seq m).fine n=0:=by
 obtain⟨h1,h2,h3,h4,_⟩:=h
 rw[MsgM.fine]
 show(if(m.inst:Int)<0∨(n:Int)≤(m.inst:Int)then _ else if m.side≠1∧m.side≠2 then _ else if(m.l.qty<0∨m.l.count<0)∨¬(m.l.qty=0↔m.l.count=0)then _ else _)=_
 rw[yWk (by omega),yWk (by omega),yWk]
 rintro(x|x)
 ·omega
 ·exact x h4
def atV (c:Vw) (L:List VM) (k:Nat):Vw:=(L.take k).foldl g9 c
theorem yEq (c:Vw) (L:List VM):atV c L 0=c:=by rw[atV,y0k];rfl
theorem zXy {c:Vw} {L:List VM} {k:Nat} {m:VM} (h:L[k]? =some m):atV c L (k+1)=g9 (atV c L k) m:=by
 rw[atV,yXw,h,yZx,y1l];rfl
theorem z2j (c:Vw) (L:List VM):atV c L L.length=L.foldl g9 c:=by rw[atV,yZz]
theorem yEk {c:Vw} (hs:zYx c) {n:Nat} (hl:z6p n c) (L:List VM):∀k,k≤L.length→zYx (atV c L k)∧z6p (n+k) (atV c L k)∧(atV c L k).length=c.length
 |0,_=>by rw[yEq];exact⟨hs,hl,rfl⟩
 |k+1,h=>by
  obtain⟨m,hm⟩:=z6 (l:=L) (i:=k) (by omega)
  obtain⟨h1,h2,h3⟩:=yEk hs hl L k (by omega)
  rw[zXy hm]
  exact⟨yIj h1,yIa h2,by rw[yHd,h3]⟩
theorem yNr {v:Vw} (h:zZa v):zYx v:=fun p hp=>⟨(h p hp).1.1,(h p hp).2.1⟩
theorem yMk {p:Prd} {v:Vw} (h:VwG p v):z6p 255 v:=fun b hb=>⟨(h.r.1 b hb).1.2.1,(h.r.1 b hb).2.2.1⟩
theorem z7m {v:Vw} {n:Nat} (h:z6p n v) (hn:n≤1000000) (hl:v.length≤1000000):qF v:=⟨by omega,fun b hb=>by have:=h b hb;omega⟩
theorem yWh {p:Prd} {c:Vw} (h:VwG p c) {L:List VM} (hL:L.length≤600000) {k:Nat} (hk:k≤L.length):zYx (atV c L k)∧qF (atV c L k)∧(atV c L k).length=p.count:=by
 obtain⟨h1,h2,h3⟩:=yEk (yNr (nU h.r)) (yMk h) L k hk
 have:=h.r.2
 exact⟨h1,z7m h2 (by omega) (by omega),by rw[h3,h.len]⟩
theorem z2y {p:Prd} {c:Vw} (h:VwG p c) {L:List VM} (hL:L.length≤600000) (hm:∀m∈L,zZd p.count m) {k:Nat} {x:VM} (hx:L[k]? =some x) (seq:Int):
 (toM seq x).fine (atV c L k).length=0∧(atV c L k).length≤1000000∧qF (atV c L k)∧apV (atV c L k) (toM seq x)=atV c L (k+1):=by
 have hk:=(yWn.1 hx).1
 obtain⟨h1,h2,h3⟩:=yWh h hL (k:=k) (by omega)
 have hf:=yGg (hm x (yWu hx)) seq
 have:=xS p
 rw[← h3]at hf
 exact⟨hf,by omega,h2,by rw[yNf h1 hf,ySt,zXy hx]⟩
open Go Cv Go.Proofs
def known19C:Con:=con1 Unit (fun _=>[]) (fun _=>[]) (fun _=>True) (fun _=>yG true) (fun _=>[])
open Go Cv Go.Proofs
def wL (a:Int):Prop:=sb [(67:UInt8),(76:UInt8)]=sb [(67:UInt8),(76:UInt8)]∧True∧(5:Int)=(5:Int)∧(0:Int)=(0:Int)∧(1000:Int)=(1000:Int)∧(200:Int)=(200:Int)∧a=a∧(4:Int)=(4:Int)∧(2:Int)=(2:Int)∧(40:Int)=(40:Int)∧True∧True
def qH (a:DvI):Prop:=List.length a.v=List.length a.w∧((-4000000000000000000)≤a.seq∧a.seq≤4000000000000000000)∧a.v.levs≤100000000∧a.w.levs≤100000000∧List.length a.v≤1000000
def qD (a:DvI):=(List.map xW (gR a))
def kB (a:DvI):=(↑(qD a).length:Int)
def sP (a:Int) (b:Mkt) (c:LkI):Prop:=∃(d:LkI),sb d.p.code=sb [(67:UInt8),(76:UInt8)]∧iE d.p.months=iE [(320:Int),(321:Int),(323:Int)]∧d.p.tick=5∧d.p.low=0∧d.p.high=1000∧d.p.wide=200∧d.p.rule=a∧d.p.top=4∧d.p.least=2∧d.p.part=40∧iE d.p.settle=iE [(500:Int),(505:Int),(490:Int)]∧zE d.s=zE b.s∧(d.s.Rep d.p d.B∧BOk d.p d.B)∧∀(e:Unit),True→∃(f:DvI),List.map zB f.v=List.map zB (qX c.p c.B)∧List.map zB f.w=List.map zB (qX d.p d.B)∧f.seq=40∧(qH f)∧∀(g:Unit),True→cnd ((↑(List.map zB (qX c.p c.B)).length:Int)==6) (cnd ((kB f)==1) (((0:Int)≤(0:Int)∧0<(kB f))∧∃(h:Int),∃(j:Int),∃(k:Int),∃(l:Int),∃(m:Int),∃(n:Int),∃(p:Bool),zF (qD f) (Int.toNat 0) 0 7=some [dI h,dI j,dI k,dI l,dI m,dI n,D.v (.bool p)]∧cnd (h==41 && (j==0 && (k==1 && (l==5 && (m==3 && (n==1 && (p==false && true))))))) (∃(q:zJo),List.map zB q.v=List.map zB (qX c.p c.B)∧List.map zB q.w=List.map zB (qX d.p d.B)∧(gD q)∧∀(r:Unit),True→cnd (!zGb q.v q.w) (∃(s:DvI),List.map zB s.v=List.map zB (qX d.p d.B)∧List.map zB s.w=List.map zB (qX d.p d.B)∧s.seq=0∧(qH s)∧∀(t:Unit),True→∃(u:Unit),true=((kB s)==0)∧True) (∃(s:Unit),true=false∧True)) (∃(q:Unit),true=false∧True)) (∃(h:Unit),true=false∧True)) (∃(h:Unit),true=false∧True)
def sL (a:Int) (b:Mkt) (c:LkI):Prop:=(wL a)∧sP a b c
def jG (a:Mkt):Prop:=a.s.books.length≤1000000∧∀(b:Book),b∈a.s.books→wO b
def cO (a:EnI):Prop:=(a.m.Rep a.p a.B a.U∧BOk a.p a.B)∧a.c.label.length≤140737488355328∧((-9223372036854775808)≤a.c.qty∧a.c.qty≤9223372036854775807)∧a.X=doF a.p a.B a.U a.c
def zBi (a:Int) (b:Mkt):Prop:=∃(c:LkI),sb c.p.code=sb [(67:UInt8),(76:UInt8)]∧iE c.p.months=iE [(320:Int),(321:Int),(323:Int)]∧c.p.tick=5∧c.p.low=0∧c.p.high=1000∧c.p.wide=200∧c.p.rule=a∧c.p.top=4∧c.p.least=2∧c.p.part=40∧iE c.p.settle=iE [(500:Int),(505:Int),(490:Int)]∧zE c.s=zE b.s∧(c.s.Rep c.p c.B∧BOk c.p c.B)∧∀(d:Unit),True→∃(e:EnI),e.c.kind=1∧e.c.id=7∧e.c.inst=0∧e.c.side=1∧e.c.price=5∧e.c.qty=3∧e.c.least=0∧e.c.time=1∧sb e.c.label=ByteArray.mk #[]∧fQ e.m=fQ b∧(cO e)∧∀(f:Mkt),f.Rep e.p e.X.B e.X.U→(∃(g:Mkt),fQ g=fQ f∧(jG g)∧∀(h:Unit),True→(wL a)∧(sP a g c)∧sL a g c)∧(wL a)∧∃(g:Mkt),fQ g=fQ f∧(jG g)∧∀(h:Unit),True→sL a g c
def zBm (a:Int) (b:Mkt):Prop:=(wL a)∧zBi a b
def zWb (u:Unit):Prop:=
 ∃(a:Int),a=1∧True∧∀(b:Unit),True→∃(c:Prd),sb c.code=sb [(67:UInt8),(76:UInt8)]∧iE c.months=iE [(320:Int),(321:Int),(323:Int)]∧c.tick=5∧c.low=0∧c.high=1000∧c.wide=200∧c.rule=a∧c.top=4∧c.least=2∧c.part=40∧iE c.settle=iE [(500:Int),(505:Int),(490:Int)]∧(zY c)∧(∀(d:Unit),c.check=0→(∃(e:Mkt),fQ e=fQ (Mkt.mk c (a9 c) [])∧(jG e)∧∀(f:Unit),True→(wL a)∧(zBi a e)∧zBm a e)∧(wL a)∧∃(e:Mkt),fQ e=fQ (Mkt.mk c (a9 c) [])∧(jG e)∧∀(f:Unit),True→zBm a e)∧∀(d:Unit),c.check≠0→∃(e:Unit),true=false∧True
open Go Cv Go.Proofs
theorem zYf:∀{v:Vw} {b:Sd×Sd},b∈v→b.1.levels.length+b.2.levels.length≤Vw.levs v
 |x::v,b,h=>by
  rw[Vw.levs,yWy,yXy]
  rcases yWz.1 h with rfl|h
  ·omega
  ·have:=zYf h
   rw[Vw.levs]at this
   omega
theorem zNl {v:Vw} (h:v.length≤1000000) (hl:Vw.levs v≤100000000):qF v:=⟨by omega,fun b hb=>by have:=zYf hb;omega⟩
def yTr:Cmd:=⟨1,7,0,1,5,3,0,1,[]⟩
def zSl:List (List zJ):=List.replicate (jX 1).count []
def kX19:MkX:=doF (jX 1) zSl [] yTr
def kV0:Vw:=qX (jX 1) zSl
def kV1:Vw:=qX (jX 1) kX19.B
theorem ySi:z9 0 kV0 kV1=[⟨0,1,⟨5,3,1⟩,false⟩]:=by kernel_rfl
theorem kl0:Vw.levs kV0≤100000000:=by decide+kernel
theorem kl1:Vw.levs kV1≤100000000:=by decide+kernel
theorem kn0:kV0.length=6:=by rw[kV0,mN];decide+kernel
theorem kn1:kV1.length=6:=by rw[kV1,mN];decide+kernel
open Classical in
theorem kne:zGb kV0 kV1=false:=yWx fun e=>by
 have:=ySi
 rw[e,zTt]at this
 cases this
theorem yAk (u:Unit) (h:known19C.cnd u):zWb u:=by
 have hc:(jX 1).check=0:=by decide+kernel
 have hp:(jX 1).small:=by refine⟨?_,?_,?_⟩<;>decide
 have hB0:BOk (jX 1) zSl:=BOk.new hc hp
 have hM0:(mk0 (jX 1)).Rep (jX 1) zSl []:=z2e (jX 1)
 have hB1:BOk (jX 1) kX19.B:=yBv (hM0.s.wf hB0) _ _
 have hs0:=hM0.s.small hB0
 have s0:qF kV0:=zNl (by rw[kn0];decide) kl0
 have s1:qF kV1:=zNl (by rw[kn1];decide) kl1
 unfold zWb zBm zBi cO jG wO sL sP kB qD gR qH gD wR wL zY dI
 refine⟨1,rfl,trivial,fun _ _=>⟨jX 1,rfl,rfl,rfl,rfl,rfl,rfl,rfl,rfl,rfl,rfl,rfl,hp,fun _ _=> ?_,fun _ hx=>absurd hc hx⟩⟩
 refine(fun hT=>⟨⟨mk0 (jX 1),rfl,hs0,fun _ _=>⟨⟨rfl,trivial,rfl,rfl,rfl,rfl,rfl,rfl,rfl,rfl,trivial,trivial⟩,⟨⟨(mk0 (jX 1)).s,jX 1,zSl⟩,rfl,rfl,rfl,rfl,rfl,rfl,rfl,rfl,rfl,rfl,rfl,rfl,⟨hM0.s,hB0⟩,fun _ _=>hT⟩,⟨rfl,trivial,rfl,rfl,rfl,rfl,rfl,rfl,rfl,rfl,trivial,trivial⟩,⟨⟨(mk0 (jX 1)).s,jX 1,zSl⟩,rfl,rfl,rfl,rfl,rfl,rfl,rfl,rfl,rfl,rfl,rfl,rfl,⟨hM0.s,hB0⟩,fun _ _=>hT⟩⟩⟩,
  ⟨rfl,trivial,rfl,rfl,rfl,rfl,rfl,rfl,rfl,rfl,trivial,trivial⟩,⟨mk0 (jX 1),rfl,hs0,fun _ _=>⟨⟨rfl,trivial,rfl,rfl,rfl,rfl,rfl,rfl,rfl,rfl,trivial,trivial⟩,⟨⟨(mk0 (jX 1)).s,jX 1,zSl⟩,rfl,rfl,rfl,rfl,rfl,rfl,rfl,rfl,rfl,rfl,rfl,rfl,⟨hM0.s,hB0⟩,fun _ _=>hT⟩⟩⟩⟩) ?_
 refine⟨⟨mk0 (jX 1),jX 1,zSl,[],yTr,kX19⟩,rfl,rfl,rfl,rfl,rfl,rfl,rfl,rfl,rfl,rfl,⟨⟨hM0,hB0⟩,by dsimp only;decide,by dsimp only;decide,by dsimp only;rw[kX19]⟩,fun o ho=> ?_⟩
 have hs1:=ho.s.small hB1
 refine(fun hT=>⟨⟨o,rfl,hs1,fun _ _=>⟨⟨rfl,trivial,rfl,rfl,rfl,rfl,rfl,rfl,rfl,rfl,trivial,trivial⟩,⟨⟨o.s,jX 1,kX19.B⟩,rfl,rfl,rfl,rfl,rfl,rfl,rfl,rfl,rfl,rfl,rfl,rfl,⟨ho.s,hB1⟩,fun _ _=>hT⟩,⟨rfl,trivial,rfl,rfl,rfl,rfl,rfl,rfl,rfl,rfl,trivial,trivial⟩,⟨⟨o.s,jX 1,kX19.B⟩,rfl,rfl,rfl,rfl,rfl,rfl,rfl,rfl,rfl,rfl,rfl,rfl,⟨ho.s,hB1⟩,fun _ _=>hT⟩⟩⟩,
  ⟨rfl,trivial,rfl,rfl,rfl,rfl,rfl,rfl,rfl,rfl,trivial,trivial⟩,⟨o,rfl,hs1,fun _ _=>⟨⟨rfl,trivial,rfl,rfl,rfl,rfl,rfl,rfl,rfl,rfl,trivial,trivial⟩,⟨⟨o.s,jX 1,kX19.B⟩,rfl,rfl,rfl,rfl,rfl,rfl,rfl,rfl,rfl,rfl,rfl,rfl,⟨ho.s,hB1⟩,fun _ _=>hT⟩⟩⟩⟩) ?_
 refine⟨⟨kV0,kV1,40⟩,rfl,rfl,rfl,⟨by dsimp only;rw[kn0,kn1],by dsimp only;decide,kl0,kl1,by dsimp only;rw[kn0];decide⟩,fun _ _=> ?_⟩
 have hn:((qX (jX 1) zSl).map zB).length=6:=by rw[yWm];exact kn0
 dsimp only
 rw[hn,ySi]
 refine Cv.cnd.mk (fun _=>Cv.cnd.mk (fun _=>⟨⟨by decide,by decide⟩,_,_,_,_,_,_,_,rfl,Cv.cnd.mk (fun _=>⟨⟨kV0,kV1⟩,rfl,rfl,⟨s0,s1⟩,fun _ _=> ?_⟩) (fun e=>absurd e (by decide))⟩) (fun e=>absurd e (by decide))) (fun e=>absurd e (by decide))
 dsimp only
 rw[kne]
 refine Cv.cnd.mk (fun _=>⟨⟨kV1,kV1,0⟩,rfl,rfl,rfl,⟨rfl,by dsimp only;decide,kl1,kl1,by dsimp only;rw[kn1];decide⟩,fun _ _=>⟨(),?_,trivial⟩⟩) (fun e=>absurd e (by decide))
 dsimp only
 rw[zTt];rfl
theorem known19_ok:known19C.ok Tryz.prog 17:=okw mixed (gokc yFa (gokc z4r (gokc zWz (gokc z2g (gokc yLp (gokc fdiff_ok (gokc fsame_ok gok0))))))) 0 (fun _=>[]) (fun _=>[]) [] Tryz.func17 yAk
open Go Cv Go.Proofs
@[reducible] def rS:Nat:=34
def vwE (v:Vw):List D:=[.ro 10 (v.map zB)]
structure VsI where
 p:Prd
 l:List Cmd
structure VsJ where
 m:Mkt
 k:Nat
 V:List Vw
def viewsC:Con where
 ι:=VsI
 pat:=fun i=>[prdV i.p,roV 9 (i.l.map cmdE)]
 pre:=fun _=>[]
 cnd:=fun i=>i.p.check=0∧i.p.small∧(∀c∈i.l,c.raw)∧i.l.length≤9223372036854775807
 alts:=fun i=>[{o:=List Vw,res:=fun _=> .own 0,post:=fun V=>[.own rS 1 (V.map vwE)],rel:=fun V=>V≠[]∧V.length≤31∧∀v∈V,VwG i.p v}]
def yMq:List SAnn:=[{ι:=VsJ,slots:=fun j=>[(5,.nm 0 0),(7,.own 1),(8,zA j.k)],rows:=fun j=>[fQ j.m,.own rS 1 (j.V.map vwE)]}]
def yPr:List (Nat×SAnn):=[(24,bj 32)]
structure FpI where
 x:Prd
 l:List Cmd
 a:Int
 b:Int
 c:Int
@[reducible] def FpI.ok (i:FpI):Prop:=i.x.raw∧(∀c∈i.l,c.raw)∧i.l.length≤9223372036854775807∧yV i.a∧yV i.b∧yV i.c
structure VkJ where
 v:Vw
 k:Nat
def fpC:Con:=con1 FpI (fun i=>[prdV i.x,roV 9 (i.l.map cmdE),zA i.a,zA i.b,zA i.c]) (fun _=>[]) (fun i=>i.ok) (fun _=>yG true) (fun _=>[])
def fpA:List SAnn:=[
 {ι:=VkJ,slots:=fun j=>[(17,.nm 0 0),(18,zA j.k)],rows:=fun j=>[.cells [.own 1] rS,.fro 10 (j.v.map zB)]},
 {ι:=VkJ,slots:=fun j=>[(22,.nm 0 0),(23,zA j.k)],rows:=fun j=>[.cells [.own 1] rS,.fro 10 (j.v.map zB)]}]
end Sx
