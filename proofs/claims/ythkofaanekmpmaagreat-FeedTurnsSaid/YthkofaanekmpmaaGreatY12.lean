/- Texts of ours, one behind the other: a walk that the kernel reckons, and contracts of functions. No condition. -/
import Derived.Test.YthkofaanekmpmaaGreatY11
open List renaming map→aa,findIdx?→ab,take→ac,drop→ae,length→af
open Bool renaming true→ag,false→aj
open Go.IntKind renaming i64→ak
open Option renaming some→am,none→ao
open Sx.AObj renaming cells→ap,own→aq,fro→ar
namespace Sx
set_option linter.unusedVariables false
set_option maxRecDepth 100000
open Go Cv Go.Proofs
def yNb (i:List (List D)):Prop:=
 ∀(b:Bool),(b=ag→i=[])→cnd b (∃(o:Unit),i=[]∧True) ((0+i.length)*(112:Nat)≤(140737488355328:Nat)∧∃(o:Unit),i=[]++i∧True)
theorem yOk (i:List (List D)):yNb i=walk Tryz.prog ([]) 0 ([]) ([]) [] Tryz.f120 (Tryz.f120.body.getD .skip) (clVwC.pat i) (clVwC.pre i) (clVwC.alts i):=by kernel_rfl
theorem yOu (hG:GOk Tryz.prog ([])) (h:∀(i:List (List D)),clVwC.cnd i→yNb i):clVwC.ok Tryz.prog 120:=gK mixed ([]) hG 0 (fun(i:List (List D))=>[]) (fun(i:List (List D))=>[]) [] Tryz.func120 (by kernel_rfl) (by kernel_rfl) (by kernel_rfl) (fun _=>by kernel_rfl) (fun(i:List (List D)) hc=>Eq.mp (yOk i) (h i hc))
def yMf (i:List (List D)):Prop:=
 ∀(b:Bool),(b=ag→i=[])→cnd b (∃(o:Unit),i=[]∧True) ((0+i.length)*(24:Nat)≤(140737488355328:Nat)∧∃(o:Unit),i=[]++i∧True)
theorem yQh (i:List (List D)):yMf i=walk Tryz.prog ([]) 0 ([]) ([]) [] Tryz.f121 (Tryz.f121.body.getD .skip) (clLvC.pat i) (clLvC.pre i) (clLvC.alts i):=by kernel_rfl
theorem yTs (hG:GOk Tryz.prog ([])) (h:∀(i:List (List D)),clLvC.cnd i→yMf i):clLvC.ok Tryz.prog 121:=gK mixed ([]) hG 0 (fun(i:List (List D))=>[]) (fun(i:List (List D))=>[]) [] Tryz.func121 (by kernel_rfl) (by kernel_rfl) (by kernel_rfl) (fun _=>by kernel_rfl) (fun(i:List (List D)) hc=>Eq.mp (yQh i) (h i hc))
def zBl (a:Nat→Prop) (b:Nat) (c:Nat→Nat) (d:Nat) (e:CpI):Prop:=a b∧c b<c d∧ap Vlookt297.cl 34=ap Vlookt297.cl 34∧ar 10 (aa zB e.v)=ar 10 (aa zB e.v)
def vL (a:CpI) (b:Nat):=(bif decide (a.n<b)then a.lv else[])
def pM (a:CpI) (b:Nat) (c:List (List D)) (d:Nat→Prop) (e:Nat→Nat) (f:Nat):Prop:=(vL a b)=c∧zBl d b e f a
def gD (a:CpI) (b:Nat) (c:List (List D)):=(zH (aa zB a.v) (↑b:Int).toNat ((0:Nat)) [D.ro 3 c])
def pZ (a:Nat) (b:CpI) (c:List (List D)):Prop:=0≤(↑a:Int)∧(↑a:Int)<(↑(gD b a c).length:Int)
def aJ:=(0+(nat_lit 0+nat_lit 1) % Vtopst364.natAbs*(5:Nat)+(0:Nat))
def gH (a:Nat) (b:CpI):Prop:=0≤(↑a:Int)∧(↑a:Int)<(↑(aa zB b.v).length:Int)
def yCk (i:CpI):Prop:=
 ∃(a:List (List D)),a=aa zB i.v∧a.length*(112:Nat)≤(140737488355328:Nat)∧∀(b:Unit),True→∃(c:Nat),(↑c:Int)=0∧(aa zB i.v=a∧decide (i.n<c)=aj)∧(vL i c)=[]∧∃(d:Nat→Prop),∃(e:Nat→Nat),d c∧∀(f:Nat),d f→cnd (decide ((↑f:Int)<(↑a.length:Int))) ((gH f i)∧∃(g:List (List D)),zE (aa zB i.v) (↑f:Int).toNat ((0:Nat)) 1=am [D.ro 3 g]∧(i.f<10∧(decide (i.n<f)=ag→(↑f:Int).toNat=i.n→(0:Nat)+1≤i.f∨i.f<(0:Nat)))∧(gH f i)∧∃(h:List (List D)),h=g∧h.length*(24:Nat)≤(140737488355328:Nat)∧∀(j:Unit),True→((gH f i)∧(↑f:Int).toNat=(↑f:Int).toNat)∧True∧((↑f:Int).toNat<(aa zB i.v).length∧(0:Nat)<10)∧((↑f:Int).toNat=i.n→(0:Nat)=i.f→(gH f i)∧∃(k:List (List D)),zE (aa zB i.v) (↑f:Int).toNat aJ 1=am [D.ro 3 k]∧(i.f<10∧(ag=ag→(↑f:Int).toNat=i.n→0+(nat_lit 0+nat_lit 1) % Vtopst364.natAbs*(5:Nat)+(0:Nat)+1≤i.f∨i.f<0+(nat_lit 0+nat_lit 1) % Vtopst364.natAbs*(5:Nat)+(0:Nat)))∧(gH f i)∧∃(l:List (List D)),l=k∧l.length*(24:Nat)≤(140737488355328:Nat)∧∀(m:Unit),True→((gH f i)∧(↑f:Int).toNat=(↑f:Int).toNat)∧True∧((↑f:Int).toNat<(aa zB i.v).length∧0+(nat_lit 0+nat_lit 1) % Vtopst364.natAbs*(5:Nat)+(0:Nat)<10)∧((↑f:Int).toNat=i.n→0+(nat_lit 0+nat_lit 1) % Vtopst364.natAbs*(5:Nat)+(0:Nat)=i.f→∃(n:Nat),(↑n:Int)=ak.wrap ((↑f:Int)+1)∧(aa zB i.v=aa zB i.v∧i.n=i.n∧i.f=i.f∧decide (i.n<n)=ag)∧pM i n l d e f)∧i.f<10∧(¬((↑f:Int).toNat=i.n∧0+(nat_lit 0+nat_lit 1) % Vtopst364.natAbs*(5:Nat)+(0:Nat)=i.f)→HolI.mk aj wS 10 (aa zB i.v) i.n i.f ag (am ((0:Nat)+(1:Nat)+(1:Nat)+(1:Nat)+((1:Nat)-(0:Nat))+(1:Nat)+(3:Nat)+nat_lit 0))=HolI.mk aj wS 10 (aa zB i.v) i.n i.f ag (am ((0:Nat)+(1:Nat)+(1:Nat)+(1:Nat)+((1:Nat)-(0:Nat))+(1:Nat)+(3:Nat)+nat_lit 0))∧∃(n:Nat),(↑n:Int)=ak.wrap ((↑f:Int)+1)∧(aa zB i.v=zH (aa zB i.v) (↑f:Int).toNat aJ [D.ro 3 l]∧i.n=i.n∧i.f=i.f∧decide (i.n<n)=ag)∧pM i n h d e f))∧i.f<10∧(¬((↑f:Int).toNat=i.n∧(0:Nat)=i.f)→HolI.mk aj wS 10 (aa zB i.v) i.n i.f (decide (i.n<f)) (oN (fJ ((0:Nat)+(1:Nat)+(1:Nat)+(1:Nat)+((1:Nat)-(0:Nat))+1) [((2:Nat),(0:Nat)+(1:Nat)+(1:Nat)+(1:Nat)+((1:Nat)-(0:Nat))),((1:Nat),(0:Nat)+(1:Nat)+(1:Nat)+(1:Nat)+nat_lit 0),((0:Nat),(0:Nat)+(1:Nat))] 0 [ap [V.own 1] (34:TypeId),AObj.hol aj wS 10 (aa zB i.v) i.n i.f (decide (i.n<c)) (am 2),aq tLv 3 (vL i c)]) (am 2))=HolI.mk aj wS 10 (aa zB i.v) i.n i.f (decide (i.n<f)) (oN (fJ ((0:Nat)+(1:Nat)+(1:Nat)+(1:Nat)+((1:Nat)-(0:Nat))+1) [((2:Nat),(0:Nat)+(1:Nat)+(1:Nat)+(1:Nat)+((1:Nat)-(0:Nat))),((1:Nat),(0:Nat)+(1:Nat)+(1:Nat)+(1:Nat)+nat_lit 0),((0:Nat),(0:Nat)+(1:Nat))] 0 [ap [V.own 1] (34:TypeId),AObj.hol aj wS 10 (aa zB i.v) i.n i.f (decide (i.n<c)) (am 2),aq tLv 3 (vL i c)]) (am 2))∧(pZ f i h)∧∃(k:List (List D)),zE (gD i f h) (↑f:Int).toNat aJ 1=am [D.ro 3 k]∧(i.f<10∧(decide (i.n<f)=ag→(↑f:Int).toNat=i.n→0+(nat_lit 0+nat_lit 1) % Vtopst364.natAbs*(5:Nat)+(0:Nat)+1≤i.f∨i.f<0+(nat_lit 0+nat_lit 1) % Vtopst364.natAbs*(5:Nat)+(0:Nat)))∧(pZ f i h)∧∃(l:List (List D)),l=k∧l.length*(24:Nat)≤(140737488355328:Nat)∧∀(m:Unit),True→((pZ f i h)∧(↑f:Int).toNat=(↑f:Int).toNat)∧True∧((↑f:Int).toNat<(gD i f h).length∧0+(nat_lit 0+nat_lit 1) % Vtopst364.natAbs*(5:Nat)+(0:Nat)<10)∧((↑f:Int).toNat=i.n→0+(nat_lit 0+nat_lit 1) % Vtopst364.natAbs*(5:Nat)+(0:Nat)=i.f→∃(n:Nat),(↑n:Int)=ak.wrap ((↑f:Int)+1)∧(aa zB i.v=zH (aa zB i.v) (↑f:Int).toNat ((0:Nat)) [D.ro 3 h]∧i.n=i.n∧i.f=i.f∧decide (i.n<n)=ag)∧pM i n l d e f)∧i.f<10∧(¬((↑f:Int).toNat=i.n∧0+(nat_lit 0+nat_lit 1) % Vtopst364.natAbs*(5:Nat)+(0:Nat)=i.f)→HolI.mk aj wS 10 (gD i f h) i.n i.f (decide (i.n<f)) (oN (fJ ((0:Nat)+(1:Nat)+(1:Nat)+(1:Nat)+((1:Nat)-(0:Nat))+1) [((2:Nat),(0:Nat)+(1:Nat)+(1:Nat)+(1:Nat)+((1:Nat)-(0:Nat))),((1:Nat),(0:Nat)+(1:Nat)+(1:Nat)+(1:Nat)+nat_lit 0),((0:Nat),(0:Nat)+(1:Nat))] 0 [ap [V.own 1] (34:TypeId),AObj.hol aj wS 10 (aa zB i.v) i.n i.f (decide (i.n<c)) (am 2),aq tLv 3 (vL i c)]) (am 2))=HolI.mk aj wS 10 (gD i f h) i.n i.f (decide (i.n<f)) (oN (fJ ((0:Nat)+(1:Nat)+(1:Nat)+(1:Nat)+((1:Nat)-(0:Nat))+1) [((2:Nat),(0:Nat)+(1:Nat)+(1:Nat)+(1:Nat)+((1:Nat)-(0:Nat))),((1:Nat),(0:Nat)+(1:Nat)+(1:Nat)+(1:Nat)+nat_lit 0),((0:Nat),(0:Nat)+(1:Nat))] 0 [ap [V.own 1] (34:TypeId),AObj.hol aj wS 10 (aa zB i.v) i.n i.f (decide (i.n<c)) (am 2),aq tLv 3 (vL i c)]) (am 2))∧∃(n:Nat),(↑n:Int)=ak.wrap ((↑f:Int)+1)∧(aa zB i.v=zH (gD i f h) (↑f:Int).toNat aJ [D.ro 3 l]∧i.n=i.n∧i.f=i.f∧decide (i.n<n)=decide (i.n<f))∧((vL i n)=bif decide (i.n<f)then i.lv else[])∧zBl d n e f i))) (∃(g:Unit),(aa zB i.v=aa zB i.v∧i.n=i.n∧i.f=i.f∧ag=decide (i.n<f))∧(i.lv=bif decide (i.n<f)then i.lv else[])∧True)
def z0t (i:FnI):Prop:=
 cnd (decide (i.m.inst<0)) (∃(a:Unit),MsgM.fine i.k i.m=20∧True) (cnd (decide (i.m.inst≥i.k)) (∃(a:Unit),MsgM.fine i.k i.m=20∧True) (cnd (i.m.side !=1) (cnd (i.m.side !=2) (∃(a:Unit),MsgM.fine i.k i.m=21∧True) (cnd (decide (i.m.qty<0)) (∃(a:Unit),MsgM.fine i.k i.m=24∧True) (cnd (decide (i.m.count<0)) (∃(a:Unit),MsgM.fine i.k i.m=24∧True) (cnd (!(i.m.qty==0)==(i.m.count==0)) (∃(a:Unit),MsgM.fine i.k i.m=24∧True) (∃(a:Unit),MsgM.fine i.k i.m=0∧True))))) (cnd (decide (i.m.qty<0)) (∃(a:Unit),MsgM.fine i.k i.m=24∧True) (cnd (decide (i.m.count<0)) (∃(a:Unit),MsgM.fine i.k i.m=24∧True) (cnd (!(i.m.qty==0)==(i.m.count==0)) (∃(a:Unit),MsgM.fine i.k i.m=24∧True) (∃(a:Unit),MsgM.fine i.k i.m=0∧True))))))
def mP (a:IxI):Prop:=aa lvE a.L=aa lvE a.L∧a.m.seq=a.m.seq∧a.m.inst=a.m.inst∧a.m.side=a.m.side∧a.m.price=a.m.price∧a.m.qty=a.m.qty∧a.m.count=a.m.count∧a.m.implied=a.m.implied∧True
def zDj (a:Nat) (b:Nat→Prop) (c:Nat→Nat) (d:IxI):Prop:=∃(e:Nat),(↑e:Int)=ak.wrap ((↑a:Int)+1)∧b e∧c e<c a∧aq tLv 3 (aa lvE d.L)=aq tLv 3 (aa lvE d.L)∧z8r d.m=z8r d.m
def yVj (i:IxI):Prop:=
 ∃(a:Nat),(↑a:Int)=0∧∃(b:Nat→Prop),∃(c:Nat→Nat),b a∧∀(d:Nat),b d→cnd (decide ((↑d:Int)<(↑(aa lvE i.L).length:Int))) ((0≤(↑d:Int)∧(↑d:Int)<(↑(aa lvE i.L).length:Int))∧∃(e:Int),∃(f:Int),∃(g:Int),zE (aa lvE i.L) (↑d:Int).toNat 0 3=am [dI e,dI f,dI g]∧cnd (e==i.m.price) (∃(h:Unit),oI (ab (fun(y:Lv) ↦ decide (y.price=i.m.price)) i.L)=(↑d:Int)∧mP i) (zDj d b c i)) (∃(e:Unit),oI (ab (fun(y:Lv) ↦ decide (y.price=i.m.price)) i.L)=(-1)∧mP i)
def yXh (i:IxI):Prop:=
 ∃(a:Nat),(↑a:Int)=0∧∃(b:Nat→Prop),∃(c:Nat→Nat),b a∧∀(d:Nat),b d→cnd (decide ((↑d:Int)<(↑(aa lvE i.L).length:Int))) ((0≤(↑d:Int)∧(↑d:Int)<(↑(aa lvE i.L).length:Int))∧∃(e:Int),∃(f:Int),∃(g:Int),zE (aa lvE i.L) (↑d:Int).toNat 0 3=am [dI e,dI f,dI g]∧∃(h:I3),h.side=i.m.side∧h.x=i.m.price∧h.y=e∧True∧∀(j:Unit),True→cnd (xB h.side h.x h.y) (∃(k:Unit),oI (ab (fun(y:Lv) ↦ xB i.m.side i.m.price y.price) i.L)=(↑d:Int)∧mP i) (zDj d b c i)) (∃(e:Unit),oI (ab (fun(y:Lv) ↦ xB i.m.side i.m.price y.price) i.L)=(-1)∧mP i)
def vJ:=(nat_lit 1-Nat.succ (nat_lit 0))
def zLd (a:CpI) (b:ApI):Prop:=0+vJ % Vtopst364.natAbs*(5:Nat)+(1:Nat)+(3:Nat)≤(10:Nat)∧a.f<10∧(ag=ag→b.m.inst.toNat=a.n→0+vJ % Vtopst364.natAbs*(5:Nat)+(1:Nat)+3≤a.f∨a.f<0+vJ % Vtopst364.natAbs*(5:Nat)+(1:Nat))
def zJy (a:CpI) (b:ApI):Prop:=a.f<10∧(ag=ag→b.m.inst.toNat=a.n→0+vJ % Vtopst364.natAbs*(5:Nat)+(4:Nat)+1≤a.f∨a.f<0+vJ % Vtopst364.natAbs*(5:Nat)+(4:Nat))
def zDg (a:CpI):Prop:=a.n<af a.v∧af a.v≤1000000∧af a.v≤1099511627776∧∀(b:Sd×Sd),b∈a.v→wN b
def kZ:=(oN (cO 0 ((0:Nat)+(1:Nat)+(1:Nat)+(1:Nat)+1+((0:Nat)-(0:Nat))) ((2:Nat)-(0:Nat)) []) (am 1))
def uS:=(0+vJ % Vtopst364.natAbs*(5:Nat)+(4:Nat))
def jA:=(0+vJ % Vtopst364.natAbs*(5:Nat)+(1:Nat))
def x4 (a:ApI):=(decide (a.m.qty>0))
def yVs (i:ApI):Prop:=
 ∃(a:FnI),a.k=(↑(aa zB i.v).length:Int)∧a.m.seq=i.m.seq∧a.m.inst=i.m.inst∧a.m.side=1∧a.m.price=i.m.price∧a.m.qty=i.m.qty∧a.m.count=i.m.count∧a.m.implied=i.m.implied∧True∧∀(b:Unit),True→cnd (MsgM.fine a.k a.m !=0) (∃(c:Unit),aa zB (apV i.v i.m)=[]∧0=MsgM.fine a.k a.m∧True) (∃(c:CpI),aa zB c.v=aa zB i.v∧(zDg c)∧∀(d:Unit),True→(0≤i.m.inst∧i.m.inst<(↑(aa zB c.v).length:Int))∧cnd i.m.implied ((HolI.mk ag wS 10 (aa zB c.v) c.n c.f ag kZ=HolI.mk ag wS 10 (aa zB c.v) c.n c.f ag kZ∧i.m.inst.toNat<(aa zB c.v).length∧zLd c i)∧i.m.qty=i.m.qty∧(HolI.mk ag wS 10 (zH (aa zB c.v) i.m.inst.toNat jA [dI i.m.price,dI i.m.qty,dI i.m.count]) c.n c.f ag kZ=HolI.mk ag wS 10 (zH (aa zB c.v) i.m.inst.toNat jA [dI i.m.price,dI i.m.qty,dI i.m.count]) c.n c.f ag kZ∧i.m.inst.toNat<(zH (aa zB c.v) i.m.inst.toNat jA [dI i.m.price,dI i.m.qty,dI i.m.count]).length∧0+vJ % Vtopst364.natAbs*(5:Nat)+(4:Nat)+(1:Nat)≤(10:Nat)∧zJy c i)∧∃(e:Bool),zE (zH (zH (aa zB c.v) i.m.inst.toNat jA [dI i.m.price,dI i.m.qty,dI i.m.count]) i.m.inst.toNat uS [D.v (.bool (x4 i))]) i.m.inst.toNat uS 1=am [D.v (.bool e)]∧(zJy c i)∧cnd (!e) ((HolI.mk ag wS 10 (zH (zH (aa zB c.v) i.m.inst.toNat jA [dI i.m.price,dI i.m.qty,dI i.m.count]) i.m.inst.toNat uS [D.v (.bool (x4 i))]) c.n c.f ag kZ=HolI.mk ag wS 10 (zH (zH (aa zB c.v) i.m.inst.toNat jA [dI i.m.price,dI i.m.qty,dI i.m.count]) i.m.inst.toNat uS [D.v (.bool (x4 i))]) c.n c.f ag kZ∧i.m.inst.toNat<(zH (zH (aa zB c.v) i.m.inst.toNat jA [dI i.m.price,dI i.m.qty,dI i.m.count]) i.m.inst.toNat uS [D.v (.bool (x4 i))]).length∧zLd c i)∧∃(f:Unit),(ag=ag∧c.n<(zH (zH (zH (aa zB c.v) i.m.inst.toNat jA [dI i.m.price,dI i.m.qty,dI i.m.count]) i.m.inst.toNat uS [D.v (.bool (x4 i))]) i.m.inst.toNat jA [dI 0,dI 0,dI 0]).length∧c.f<10∧aa zB (apV i.v i.m)=zH (zH (zH (zH (aa zB c.v) i.m.inst.toNat jA [dI i.m.price,dI i.m.qty,dI i.m.count]) i.m.inst.toNat uS [D.v (.bool (x4 i))]) i.m.inst.toNat jA [dI 0,dI 0,dI 0]) c.n c.f [D.ro 3 c.lv])∧(0:Int)=(0:Int)∧True) (∃(f:Unit),(ag=ag∧c.n<(zH (zH (aa zB c.v) i.m.inst.toNat jA [dI i.m.price,dI i.m.qty,dI i.m.count]) i.m.inst.toNat uS [D.v (.bool (x4 i))]).length∧c.f<10∧aa zB (apV i.v i.m)=zH (zH (zH (aa zB c.v) i.m.inst.toNat jA [dI i.m.price,dI i.m.qty,dI i.m.count]) i.m.inst.toNat uS [D.v (.bool (x4 i))]) c.n c.f [D.ro 3 c.lv])∧(0:Int)=(0:Int)∧True)) ((i.m.inst.toNat=c.n∧0+vJ % Vtopst364.natAbs*(5:Nat)+(0:Nat)=c.f∧ag=ag∧i.m.inst.toNat<(aa zB c.v).length∧0+vJ % Vtopst364.natAbs*(5:Nat)+(0:Nat)<10)∧((∃(e:IxI),aa lvE e.L=c.lv∧e.m.seq=i.m.seq∧e.m.inst=i.m.inst∧e.m.side=1∧e.m.price=i.m.price∧e.m.qty=i.m.qty∧e.m.count=i.m.count∧e.m.implied=i.m.implied∧e.L.length≤1099511627776∧∀(f:Unit),True→cnd (decide (oI (ab (fun(y:Lv) ↦ decide (y.price=e.m.price)) e.L)≥0)) (cnd (e.m.qty==0) ((i.m.inst.toNat=c.n∧(0:Nat)=c.f∧ag=ag∧i.m.inst.toNat<(aa zB c.v).length∧(0:Nat)<10)∧∃(i_4:yHh),(↑i_4.i:Int)=oI (ab (fun(y:Lv) ↦ decide (y.price=e.m.price)) e.L)∧(↑i_4.j:Int)=ak.wrap (oI (ab (fun(y:Lv) ↦ decide (y.price=e.m.price)) e.L)+1)∧i_4.els=aa lvE e.L∧(i_4.i<i_4.j∧i_4.j≤i_4.els.length)∧∀(f:Unit),True→(i.m.inst.toNat<(aa zB c.v).length∧(0:Nat)<10)∧(i.m.inst.toNat=c.n∧(0:Nat)=c.f)∧∃(f:Unit),(ag=ag∧c.n<(aa zB c.v).length∧c.f<10∧aa zB (apV i.v i.m)=zH (aa zB c.v) c.n c.f [D.ro 3 (ac i_4.i i_4.els++ae i_4.j i_4.els)])∧(0:Int)=(0:Int)∧True) (cnd (decide (oI (ab (fun(y:Lv) ↦ decide (y.price=e.m.price)) e.L)≥0)) ((i.m.inst.toNat=c.n∧(0:Nat)=c.f∧ag=ag∧i.m.inst.toNat<(aa zB c.v).length∧(0:Nat)<10)∧(0≤oI (ab (fun(y:Lv) ↦ decide (y.price=e.m.price)) e.L)∧oI (ab (fun(y:Lv) ↦ decide (y.price=e.m.price)) e.L)<(↑(aa lvE e.L).length:Int))∧(oI (ab (fun(y:Lv) ↦ decide (y.price=e.m.price)) e.L)).toNat<(aa lvE e.L).length∧∃(f:Unit),(ag=ag∧c.n<(aa zB c.v).length∧c.f<10∧aa zB (apV i.v i.m)=zH (aa zB c.v) c.n c.f [D.ro 3 (zH (aa lvE e.L) (oI (ab (fun(y:Lv) ↦ decide (y.price=e.m.price)) e.L)).toNat 0 [dI i.m.price,dI i.m.qty,dI i.m.count])])∧(0:Int)=(0:Int)∧True) (cnd (decide (e.m.qty>0)) ((i.m.inst.toNat=c.n∧(0:Nat)=c.f∧ag=ag∧i.m.inst.toNat<(aa zB c.v).length∧(0:Nat)<10)∧((∃(i:IxI),False)∨∃(i_4:IxI),aa lvE i_4.L=aa lvE e.L∧i_4.m.seq=e.m.seq∧i_4.m.inst=e.m.inst∧i_4.m.side=e.m.side∧i_4.m.price=e.m.price∧i_4.m.qty=e.m.qty∧i_4.m.count=e.m.count∧i_4.m.implied=e.m.implied∧i_4.L.length≤1099511627776∧∀(f:Unit),True→cnd (decide (oI (ab (fun(y:Lv) ↦ xB i_4.m.side i_4.m.price y.price) i_4.L)<0)) ((i.m.inst.toNat=c.n∧(0:Nat)=c.f∧ag=ag∧i.m.inst.toNat<(aa zB c.v).length∧(0:Nat)<10)∧(i.m.inst.toNat=c.n∧(0:Nat)=c.f∧ag=ag∧i.m.inst.toNat<(aa zB c.v).length∧(0:Nat)<10)∧((i.m.inst.toNat=c.n∧(0:Nat)=c.f∧ag=ag∧i.m.inst.toNat<(aa zB c.v).length∧(0:Nat)<10)∧True)∧∃(i_5:zCw),(↑i_5.i:Int)=(↑(aa lvE i_4.L).length:Int)∧i_5.els=aa lvE i_4.L∧[i_5.el]=[[dI i.m.price,dI i.m.qty,dI i.m.count]]∧(i_5.i≤i_5.els.length∧(i_5.els.length+1)*(24:Nat)≤(140737488355328:Nat))∧∀(f:Unit),True→(i.m.inst.toNat<(aa zB c.v).length∧(0:Nat)<10)∧(i.m.inst.toNat=c.n∧(0:Nat)=c.f)∧∃(f:Unit),(ag=ag∧c.n<(aa zB c.v).length∧c.f<10∧aa zB (apV i.v i.m)=zH (aa zB c.v) c.n c.f [D.ro 3 (ac i_5.i i_5.els++i_5.el::ae i_5.i i_5.els)])∧(0:Int)=(0:Int)∧True) ((i.m.inst.toNat=c.n∧(0:Nat)=c.f∧ag=ag∧i.m.inst.toNat<(aa zB c.v).length∧(0:Nat)<10)∧((i.m.inst.toNat=c.n∧(0:Nat)=c.f∧ag=ag∧i.m.inst.toNat<(aa zB c.v).length∧(0:Nat)<10)∧True)∧∃(i_5:zCw),(↑i_5.i:Int)=oI (ab (fun(y:Lv) ↦ xB i_4.m.side i_4.m.price y.price) i_4.L)∧i_5.els=aa lvE i_4.L∧[i_5.el]=[[dI i.m.price,dI i.m.qty,dI i.m.count]]∧(i_5.i≤i_5.els.length∧(i_5.els.length+1)*(24:Nat)≤(140737488355328:Nat))∧∀(f:Unit),True→(i.m.inst.toNat<(aa zB c.v).length∧(0:Nat)<10)∧(i.m.inst.toNat=c.n∧(0:Nat)=c.f)∧∃(f:Unit),(ag=ag∧c.n<(aa zB c.v).length∧c.f<10∧aa zB (apV i.v i.m)=zH (aa zB c.v) c.n c.f [D.ro 3 (ac i_5.i i_5.els++i_5.el::ae i_5.i i_5.els)])∧(0:Int)=(0:Int)∧True))) (∃(f:Unit),(ag=ag∧c.n<(aa zB c.v).length∧c.f<10∧aa zB (apV i.v i.m)=zH (aa zB c.v) c.n c.f [D.ro 3 (aa lvE e.L)])∧(0:Int)=(0:Int)∧True)))) (cnd (decide (oI (ab (fun(y:Lv) ↦ decide (y.price=e.m.price)) e.L)≥0)) ((i.m.inst.toNat=c.n∧(0:Nat)=c.f∧ag=ag∧i.m.inst.toNat<(aa zB c.v).length∧(0:Nat)<10)∧(0≤oI (ab (fun(y:Lv) ↦ decide (y.price=e.m.price)) e.L)∧oI (ab (fun(y:Lv) ↦ decide (y.price=e.m.price)) e.L)<(↑(aa lvE e.L).length:Int))∧(oI (ab (fun(y:Lv) ↦ decide (y.price=e.m.price)) e.L)).toNat<(aa lvE e.L).length∧∃(f:Unit),(ag=ag∧c.n<(aa zB c.v).length∧c.f<10∧aa zB (apV i.v i.m)=zH (aa zB c.v) c.n c.f [D.ro 3 (zH (aa lvE e.L) (oI (ab (fun(y:Lv) ↦ decide (y.price=e.m.price)) e.L)).toNat 0 [dI i.m.price,dI i.m.qty,dI i.m.count])])∧(0:Int)=(0:Int)∧True) (cnd (decide (e.m.qty>0)) ((i.m.inst.toNat=c.n∧(0:Nat)=c.f∧ag=ag∧i.m.inst.toNat<(aa zB c.v).length∧(0:Nat)<10)∧((∃(i:IxI),False)∨∃(i_4:IxI),aa lvE i_4.L=aa lvE e.L∧i_4.m.seq=e.m.seq∧i_4.m.inst=e.m.inst∧i_4.m.side=e.m.side∧i_4.m.price=e.m.price∧i_4.m.qty=e.m.qty∧i_4.m.count=e.m.count∧i_4.m.implied=e.m.implied∧i_4.L.length≤1099511627776∧∀(f:Unit),True→cnd (decide (oI (ab (fun(y:Lv) ↦ xB i_4.m.side i_4.m.price y.price) i_4.L)<0)) ((i.m.inst.toNat=c.n∧(0:Nat)=c.f∧ag=ag∧i.m.inst.toNat<(aa zB c.v).length∧(0:Nat)<10)∧(i.m.inst.toNat=c.n∧(0:Nat)=c.f∧ag=ag∧i.m.inst.toNat<(aa zB c.v).length∧(0:Nat)<10)∧((i.m.inst.toNat=c.n∧(0:Nat)=c.f∧ag=ag∧i.m.inst.toNat<(aa zB c.v).length∧(0:Nat)<10)∧True)∧∃(i_5:zCw),(↑i_5.i:Int)=(↑(aa lvE i_4.L).length:Int)∧i_5.els=aa lvE i_4.L∧[i_5.el]=[[dI i.m.price,dI i.m.qty,dI i.m.count]]∧(i_5.i≤i_5.els.length∧(i_5.els.length+1)*(24:Nat)≤(140737488355328:Nat))∧∀(f:Unit),True→(i.m.inst.toNat<(aa zB c.v).length∧(0:Nat)<10)∧(i.m.inst.toNat=c.n∧(0:Nat)=c.f)∧∃(f:Unit),(ag=ag∧c.n<(aa zB c.v).length∧c.f<10∧aa zB (apV i.v i.m)=zH (aa zB c.v) c.n c.f [D.ro 3 (ac i_5.i i_5.els++i_5.el::ae i_5.i i_5.els)])∧(0:Int)=(0:Int)∧True) ((i.m.inst.toNat=c.n∧(0:Nat)=c.f∧ag=ag∧i.m.inst.toNat<(aa zB c.v).length∧(0:Nat)<10)∧((i.m.inst.toNat=c.n∧(0:Nat)=c.f∧ag=ag∧i.m.inst.toNat<(aa zB c.v).length∧(0:Nat)<10)∧True)∧∃(i_5:zCw),(↑i_5.i:Int)=oI (ab (fun(y:Lv) ↦ xB i_4.m.side i_4.m.price y.price) i_4.L)∧i_5.els=aa lvE i_4.L∧[i_5.el]=[[dI i.m.price,dI i.m.qty,dI i.m.count]]∧(i_5.i≤i_5.els.length∧(i_5.els.length+1)*(24:Nat)≤(140737488355328:Nat))∧∀(f:Unit),True→(i.m.inst.toNat<(aa zB c.v).length∧(0:Nat)<10)∧(i.m.inst.toNat=c.n∧(0:Nat)=c.f)∧∃(f:Unit),(ag=ag∧c.n<(aa zB c.v).length∧c.f<10∧aa zB (apV i.v i.m)=zH (aa zB c.v) c.n c.f [D.ro 3 (ac i_5.i i_5.els++i_5.el::ae i_5.i i_5.els)])∧(0:Int)=(0:Int)∧True))) (∃(f:Unit),(ag=ag∧c.n<(aa zB c.v).length∧c.f<10∧aa zB (apV i.v i.m)=zH (aa zB c.v) c.n c.f [D.ro 3 (aa lvE e.L)])∧(0:Int)=(0:Int)∧True))))∨∃(i:IxI),False)))
def vW:=(nat_lit 2-Nat.succ (nat_lit 0))
def zKn (a:CpI) (b:ApI):Prop:=0+vW % Vtopst364.natAbs*(5:Nat)+(1:Nat)+(3:Nat)≤(10:Nat)∧a.f<10∧(ag=ag→b.m.inst.toNat=a.n→0+vW % Vtopst364.natAbs*(5:Nat)+(1:Nat)+3≤a.f∨a.f<0+vW % Vtopst364.natAbs*(5:Nat)+(1:Nat))
def zMr (a:CpI) (b:ApI):Prop:=a.f<10∧(ag=ag→b.m.inst.toNat=a.n→0+vW % Vtopst364.natAbs*(5:Nat)+(4:Nat)+1≤a.f∨a.f<0+vW % Vtopst364.natAbs*(5:Nat)+(4:Nat))
def uV:=(0+vW % Vtopst364.natAbs*(5:Nat)+(4:Nat))
def jJ:=(0+vW % Vtopst364.natAbs*(5:Nat)+(1:Nat))
def yUi (i:ApI):Prop:=
 ∃(a:FnI),a.k=(↑(aa zB i.v).length:Int)∧a.m.seq=i.m.seq∧a.m.inst=i.m.inst∧a.m.side=2∧a.m.price=i.m.price∧a.m.qty=i.m.qty∧a.m.count=i.m.count∧a.m.implied=i.m.implied∧True∧∀(b:Unit),True→cnd (MsgM.fine a.k a.m !=0) (∃(c:Unit),aa zB (apV i.v i.m)=[]∧0=MsgM.fine a.k a.m∧True) (∃(c:CpI),aa zB c.v=aa zB i.v∧(zDg c)∧∀(d:Unit),True→(0≤i.m.inst∧i.m.inst<(↑(aa zB c.v).length:Int))∧cnd i.m.implied ((HolI.mk ag wS 10 (aa zB c.v) c.n c.f ag kZ=HolI.mk ag wS 10 (aa zB c.v) c.n c.f ag kZ∧i.m.inst.toNat<(aa zB c.v).length∧zKn c i)∧i.m.qty=i.m.qty∧(HolI.mk ag wS 10 (zH (aa zB c.v) i.m.inst.toNat jJ [dI i.m.price,dI i.m.qty,dI i.m.count]) c.n c.f ag kZ=HolI.mk ag wS 10 (zH (aa zB c.v) i.m.inst.toNat jJ [dI i.m.price,dI i.m.qty,dI i.m.count]) c.n c.f ag kZ∧i.m.inst.toNat<(zH (aa zB c.v) i.m.inst.toNat jJ [dI i.m.price,dI i.m.qty,dI i.m.count]).length∧0+vW % Vtopst364.natAbs*(5:Nat)+(4:Nat)+(1:Nat)≤(10:Nat)∧zMr c i)∧∃(e:Bool),zE (zH (zH (aa zB c.v) i.m.inst.toNat jJ [dI i.m.price,dI i.m.qty,dI i.m.count]) i.m.inst.toNat uV [D.v (.bool (x4 i))]) i.m.inst.toNat uV 1=am [D.v (.bool e)]∧(zMr c i)∧cnd (!e) ((HolI.mk ag wS 10 (zH (zH (aa zB c.v) i.m.inst.toNat jJ [dI i.m.price,dI i.m.qty,dI i.m.count]) i.m.inst.toNat uV [D.v (.bool (x4 i))]) c.n c.f ag kZ=HolI.mk ag wS 10 (zH (zH (aa zB c.v) i.m.inst.toNat jJ [dI i.m.price,dI i.m.qty,dI i.m.count]) i.m.inst.toNat uV [D.v (.bool (x4 i))]) c.n c.f ag kZ∧i.m.inst.toNat<(zH (zH (aa zB c.v) i.m.inst.toNat jJ [dI i.m.price,dI i.m.qty,dI i.m.count]) i.m.inst.toNat uV [D.v (.bool (x4 i))]).length∧zKn c i)∧∃(f:Unit),(ag=ag∧c.n<(zH (zH (zH (aa zB c.v) i.m.inst.toNat jJ [dI i.m.price,dI i.m.qty,dI i.m.count]) i.m.inst.toNat uV [D.v (.bool (x4 i))]) i.m.inst.toNat jJ [dI 0,dI 0,dI 0]).length∧c.f<10∧aa zB (apV i.v i.m)=zH (zH (zH (zH (aa zB c.v) i.m.inst.toNat jJ [dI i.m.price,dI i.m.qty,dI i.m.count]) i.m.inst.toNat uV [D.v (.bool (x4 i))]) i.m.inst.toNat jJ [dI 0,dI 0,dI 0]) c.n c.f [D.ro 3 c.lv])∧(0:Int)=(0:Int)∧True) (∃(f:Unit),(ag=ag∧c.n<(zH (zH (aa zB c.v) i.m.inst.toNat jJ [dI i.m.price,dI i.m.qty,dI i.m.count]) i.m.inst.toNat uV [D.v (.bool (x4 i))]).length∧c.f<10∧aa zB (apV i.v i.m)=zH (zH (zH (aa zB c.v) i.m.inst.toNat jJ [dI i.m.price,dI i.m.qty,dI i.m.count]) i.m.inst.toNat uV [D.v (.bool (x4 i))]) c.n c.f [D.ro 3 c.lv])∧(0:Int)=(0:Int)∧True)) ((i.m.inst.toNat=c.n∧0+vW % Vtopst364.natAbs*(5:Nat)+(0:Nat)=c.f∧ag=ag∧i.m.inst.toNat<(aa zB c.v).length∧0+vW % Vtopst364.natAbs*(5:Nat)+(0:Nat)<10)∧((∃(e:IxI),aa lvE e.L=c.lv∧e.m.seq=i.m.seq∧e.m.inst=i.m.inst∧e.m.side=2∧e.m.price=i.m.price∧e.m.qty=i.m.qty∧e.m.count=i.m.count∧e.m.implied=i.m.implied∧e.L.length≤1099511627776∧∀(f:Unit),True→cnd (decide (oI (ab (fun(y:Lv) ↦ decide (y.price=e.m.price)) e.L)≥0)) (cnd (e.m.qty==0) ((i.m.inst.toNat=c.n∧(5:Nat)=c.f∧ag=ag∧i.m.inst.toNat<(aa zB c.v).length∧(5:Nat)<10)∧∃(i_4:yHh),(↑i_4.i:Int)=oI (ab (fun(y:Lv) ↦ decide (y.price=e.m.price)) e.L)∧(↑i_4.j:Int)=ak.wrap (oI (ab (fun(y:Lv) ↦ decide (y.price=e.m.price)) e.L)+1)∧i_4.els=aa lvE e.L∧(i_4.i<i_4.j∧i_4.j≤i_4.els.length)∧∀(f:Unit),True→(i.m.inst.toNat<(aa zB c.v).length∧(5:Nat)<10)∧(i.m.inst.toNat=c.n∧(5:Nat)=c.f)∧∃(f:Unit),(ag=ag∧c.n<(aa zB c.v).length∧c.f<10∧aa zB (apV i.v i.m)=zH (aa zB c.v) c.n c.f [D.ro 3 (ac i_4.i i_4.els++ae i_4.j i_4.els)])∧(0:Int)=(0:Int)∧True) (cnd (decide (oI (ab (fun(y:Lv) ↦ decide (y.price=e.m.price)) e.L)≥0)) ((i.m.inst.toNat=c.n∧(5:Nat)=c.f∧ag=ag∧i.m.inst.toNat<(aa zB c.v).length∧(5:Nat)<10)∧(0≤oI (ab (fun(y:Lv) ↦ decide (y.price=e.m.price)) e.L)∧oI (ab (fun(y:Lv) ↦ decide (y.price=e.m.price)) e.L)<(↑(aa lvE e.L).length:Int))∧(oI (ab (fun(y:Lv) ↦ decide (y.price=e.m.price)) e.L)).toNat<(aa lvE e.L).length∧∃(f:Unit),(ag=ag∧c.n<(aa zB c.v).length∧c.f<10∧aa zB (apV i.v i.m)=zH (aa zB c.v) c.n c.f [D.ro 3 (zH (aa lvE e.L) (oI (ab (fun(y:Lv) ↦ decide (y.price=e.m.price)) e.L)).toNat 0 [dI i.m.price,dI i.m.qty,dI i.m.count])])∧(0:Int)=(0:Int)∧True) (cnd (decide (e.m.qty>0)) ((i.m.inst.toNat=c.n∧(5:Nat)=c.f∧ag=ag∧i.m.inst.toNat<(aa zB c.v).length∧(5:Nat)<10)∧((∃(i:IxI),False)∨∃(i_4:IxI),aa lvE i_4.L=aa lvE e.L∧i_4.m.seq=e.m.seq∧i_4.m.inst=e.m.inst∧i_4.m.side=e.m.side∧i_4.m.price=e.m.price∧i_4.m.qty=e.m.qty∧i_4.m.count=e.m.count∧i_4.m.implied=e.m.implied∧i_4.L.length≤1099511627776∧∀(f:Unit),True→cnd (decide (oI (ab (fun(y:Lv) ↦ xB i_4.m.side i_4.m.price y.price) i_4.L)<0)) ((i.m.inst.toNat=c.n∧(5:Nat)=c.f∧ag=ag∧i.m.inst.toNat<(aa zB c.v).length∧(5:Nat)<10)∧(i.m.inst.toNat=c.n∧(5:Nat)=c.f∧ag=ag∧i.m.inst.toNat<(aa zB c.v).length∧(5:Nat)<10)∧((i.m.inst.toNat=c.n∧(5:Nat)=c.f∧ag=ag∧i.m.inst.toNat<(aa zB c.v).length∧(5:Nat)<10)∧True)∧∃(i_5:zCw),(↑i_5.i:Int)=(↑(aa lvE i_4.L).length:Int)∧i_5.els=aa lvE i_4.L∧[i_5.el]=[[dI i.m.price,dI i.m.qty,dI i.m.count]]∧(i_5.i≤i_5.els.length∧(i_5.els.length+1)*(24:Nat)≤(140737488355328:Nat))∧∀(f:Unit),True→(i.m.inst.toNat<(aa zB c.v).length∧(5:Nat)<10)∧(i.m.inst.toNat=c.n∧(5:Nat)=c.f)∧∃(f:Unit),(ag=ag∧c.n<(aa zB c.v).length∧c.f<10∧aa zB (apV i.v i.m)=zH (aa zB c.v) c.n c.f [D.ro 3 (ac i_5.i i_5.els++i_5.el::ae i_5.i i_5.els)])∧(0:Int)=(0:Int)∧True) ((i.m.inst.toNat=c.n∧(5:Nat)=c.f∧ag=ag∧i.m.inst.toNat<(aa zB c.v).length∧(5:Nat)<10)∧((i.m.inst.toNat=c.n∧(5:Nat)=c.f∧ag=ag∧i.m.inst.toNat<(aa zB c.v).length∧(5:Nat)<10)∧True)∧∃(i_5:zCw),(↑i_5.i:Int)=oI (ab (fun(y:Lv) ↦ xB i_4.m.side i_4.m.price y.price) i_4.L)∧i_5.els=aa lvE i_4.L∧[i_5.el]=[[dI i.m.price,dI i.m.qty,dI i.m.count]]∧(i_5.i≤i_5.els.length∧(i_5.els.length+1)*(24:Nat)≤(140737488355328:Nat))∧∀(f:Unit),True→(i.m.inst.toNat<(aa zB c.v).length∧(5:Nat)<10)∧(i.m.inst.toNat=c.n∧(5:Nat)=c.f)∧∃(f:Unit),(ag=ag∧c.n<(aa zB c.v).length∧c.f<10∧aa zB (apV i.v i.m)=zH (aa zB c.v) c.n c.f [D.ro 3 (ac i_5.i i_5.els++i_5.el::ae i_5.i i_5.els)])∧(0:Int)=(0:Int)∧True))) (∃(f:Unit),(ag=ag∧c.n<(aa zB c.v).length∧c.f<10∧aa zB (apV i.v i.m)=zH (aa zB c.v) c.n c.f [D.ro 3 (aa lvE e.L)])∧(0:Int)=(0:Int)∧True)))) (cnd (decide (oI (ab (fun(y:Lv) ↦ decide (y.price=e.m.price)) e.L)≥0)) ((i.m.inst.toNat=c.n∧(5:Nat)=c.f∧ag=ag∧i.m.inst.toNat<(aa zB c.v).length∧(5:Nat)<10)∧(0≤oI (ab (fun(y:Lv) ↦ decide (y.price=e.m.price)) e.L)∧oI (ab (fun(y:Lv) ↦ decide (y.price=e.m.price)) e.L)<(↑(aa lvE e.L).length:Int))∧(oI (ab (fun(y:Lv) ↦ decide (y.price=e.m.price)) e.L)).toNat<(aa lvE e.L).length∧∃(f:Unit),(ag=ag∧c.n<(aa zB c.v).length∧c.f<10∧aa zB (apV i.v i.m)=zH (aa zB c.v) c.n c.f [D.ro 3 (zH (aa lvE e.L) (oI (ab (fun(y:Lv) ↦ decide (y.price=e.m.price)) e.L)).toNat 0 [dI i.m.price,dI i.m.qty,dI i.m.count])])∧(0:Int)=(0:Int)∧True) (cnd (decide (e.m.qty>0)) ((i.m.inst.toNat=c.n∧(5:Nat)=c.f∧ag=ag∧i.m.inst.toNat<(aa zB c.v).length∧(5:Nat)<10)∧((∃(i:IxI),False)∨∃(i_4:IxI),aa lvE i_4.L=aa lvE e.L∧i_4.m.seq=e.m.seq∧i_4.m.inst=e.m.inst∧i_4.m.side=e.m.side∧i_4.m.price=e.m.price∧i_4.m.qty=e.m.qty∧i_4.m.count=e.m.count∧i_4.m.implied=e.m.implied∧i_4.L.length≤1099511627776∧∀(f:Unit),True→cnd (decide (oI (ab (fun(y:Lv) ↦ xB i_4.m.side i_4.m.price y.price) i_4.L)<0)) ((i.m.inst.toNat=c.n∧(5:Nat)=c.f∧ag=ag∧i.m.inst.toNat<(aa zB c.v).length∧(5:Nat)<10)∧(i.m.inst.toNat=c.n∧(5:Nat)=c.f∧ag=ag∧i.m.inst.toNat<(aa zB c.v).length∧(5:Nat)<10)∧((i.m.inst.toNat=c.n∧(5:Nat)=c.f∧ag=ag∧i.m.inst.toNat<(aa zB c.v).length∧(5:Nat)<10)∧True)∧∃(i_5:zCw),(↑i_5.i:Int)=(↑(aa lvE i_4.L).length:Int)∧i_5.els=aa lvE i_4.L∧[i_5.el]=[[dI i.m.price,dI i.m.qty,dI i.m.count]]∧(i_5.i≤i_5.els.length∧(i_5.els.length+1)*(24:Nat)≤(140737488355328:Nat))∧∀(f:Unit),True→(i.m.inst.toNat<(aa zB c.v).length∧(5:Nat)<10)∧(i.m.inst.toNat=c.n∧(5:Nat)=c.f)∧∃(f:Unit),(ag=ag∧c.n<(aa zB c.v).length∧c.f<10∧aa zB (apV i.v i.m)=zH (aa zB c.v) c.n c.f [D.ro 3 (ac i_5.i i_5.els++i_5.el::ae i_5.i i_5.els)])∧(0:Int)=(0:Int)∧True) ((i.m.inst.toNat=c.n∧(5:Nat)=c.f∧ag=ag∧i.m.inst.toNat<(aa zB c.v).length∧(5:Nat)<10)∧((i.m.inst.toNat=c.n∧(5:Nat)=c.f∧ag=ag∧i.m.inst.toNat<(aa zB c.v).length∧(5:Nat)<10)∧True)∧∃(i_5:zCw),(↑i_5.i:Int)=oI (ab (fun(y:Lv) ↦ xB i_4.m.side i_4.m.price y.price) i_4.L)∧i_5.els=aa lvE i_4.L∧[i_5.el]=[[dI i.m.price,dI i.m.qty,dI i.m.count]]∧(i_5.i≤i_5.els.length∧(i_5.els.length+1)*(24:Nat)≤(140737488355328:Nat))∧∀(f:Unit),True→(i.m.inst.toNat<(aa zB c.v).length∧(5:Nat)<10)∧(i.m.inst.toNat=c.n∧(5:Nat)=c.f)∧∃(f:Unit),(ag=ag∧c.n<(aa zB c.v).length∧c.f<10∧aa zB (apV i.v i.m)=zH (aa zB c.v) c.n c.f [D.ro 3 (ac i_5.i i_5.els++i_5.el::ae i_5.i i_5.els)])∧(0:Int)=(0:Int)∧True))) (∃(f:Unit),(ag=ag∧c.n<(aa zB c.v).length∧c.f<10∧aa zB (apV i.v i.m)=zH (aa zB c.v) c.n c.f [D.ro 3 (aa lvE e.L)])∧(0:Int)=(0:Int)∧True))))∨∃(i:IxI),False)))
set_option linter.unusedSimpArgs false
open Go Cv Go.Proofs
theorem yIx:clVwC.ok Tryz.prog 120:=yOu gok0 fun i h b hb=>by
 have h:i.length*112≤140737488355328:=h
 exact Cv.cnd.mk (fun e=>⟨(),hb e,trivial⟩) (fun _=>⟨by omega,(),rfl,trivial⟩)
theorem yLo:clLvC.ok Tryz.prog 121:=yTs gok0 fun i h b hb=>by
 have h:i.length*24≤140737488355328:=h
 exact Cv.cnd.mk (fun e=>⟨(),hb e,trivial⟩) (fun _=>⟨by omega,(),rfl,trivial⟩)
theorem yTo {v:Vw} {j:Nat} {p:Sd×Sd} (h:v[j]? =am p):zE (v.map zB) j 0 1=am [.ro 3 (p.1.levels.map lvE)]:=by
 rw[zE,y0z,h];rfl
theorem yGa {v:Vw} {j:Nat} {p:Sd×Sd} (h:v[j]? =am p):zE (v.map zB) j 5 1=am [.ro 3 (p.2.levels.map lvE)]:=by
 rw[zE,y0z,h];rfl
theorem cK {els:List (List D)} {j f:Nat} {ds el el':List D} (h:els[j]? =am el) (e:el.take f++(ds++el.drop (f+ds.length))=el'):zH els j f ds=els.set j el':=by
 rw[zH]
 apply y3a
 intro k
 rw[y3j,y2r]
 by_cases hk:j=k
 ·subst hk
  rw[yZy rfl,h,yZy (yZz.1 h).1,← e]
  show am (if j=j then _ else el)=_
  rw[yZy rfl]
 ·rw[yZx hk]
  cases els[k]? with
  |none=>rfl
  |some x=>
   show am (if j=k then _ else x)=am x
   rw[yZx hk]
theorem zRe {α:Type} {l:List α} {j:Nat} {x:α} (h:l[j]? =am x):l.set j x=l:=by
 apply y3a
 intro k
 rw[y2r]
 by_cases hk:j=k
 ·subst hk
  rw[yZy rfl,yZy (yZz.1 h).1,h]
 ·rw[yZx hk]
theorem yHr {v:Vw} {j:Nat} {p:Sd×Sd} (h:v[j]? =am p):zH (v.map zB) j 0 [.ro 3 (p.1.levels.map lvE)]=v.map zB:=by
 have h':(v.map zB)[j]? =am (zB p):=by rw[y0z,h];rfl
 rw[cK h' (el':=zB p) rfl,zRe h']
theorem z3m {v:Vw} {j:Nat} {p:Sd×Sd} (h:v[j]? =am p):zH (v.map zB) j 5 [.ro 3 (p.2.levels.map lvE)]=v.map zB:=by
 have h':(v.map zB)[j]? =am (zB p):=by rw[y0z,h];rfl
 rw[cK h' (el':=zB p) rfl,zRe h']
theorem yQr (i:CpI) (h:fcopyC.cnd i):yCk i:=by
 obtain⟨hn,hl,hs1,hs2⟩:i.n<i.v.length∧i.v.length≤1000000∧qC i.v:=h
 have hml:(i.v.map zB).length=i.v.length:=y0a _
 have z0:((0:Nat)+nat_lit 0*(5:Nat)+(0:Nat))=0:=rfl
 have z5:((0:Nat)+(nat_lit 0+nat_lit 1) % ((2:Int) ^ ak.bits).natAbs*(5:Nat)+(0:Nat))=5:=by decide
 have hf:i.f=if i.s=ag then 5 else 0:=by rw[CpI.f];cases i.s<;>rfl
 have hf10:i.f<10:=by rw[hf];split<;>omega
 unfold yCk gH aJ Vtopst364 pZ gD pM vL zBl Vlookt297 vR
 simp only[z0,z5,y0s]
 refine⟨_,rfl,by omega,fun _ _=>⟨0,rfl,⟨rfl,by simp⟩,by simp,fun j=>j≤i.v.length,fun j=>i.v.length-j,y1n _,fun j hj=>zJ (fun hlt=> ?_) (fun hlt=> ?_)⟩⟩
 ·have hlt:(j:Int)<((i.v.map zB).length:Nat):=hlt
  obtain⟨p,hp⟩:=z8 (l:=i.v) (i:=j) (by omega)
  have hsm:=hs2 p (y0g hp)
  have l1:(p.1.levels.map lvE).length=p.1.levels.length:=y0a _
  have l2:(p.2.levels.map lvE).length=p.2.levels.length:=y0a _
  have bd:(0:Int)≤(j:Int)∧(j:Int)<((i.v.map zB).length:Nat):=⟨by omega,hlt⟩
  have no:decide (i.n<j)=ag→j=i.n→False:=fun a b=>by
   have:=y2j a
   omega
  have lv1:j=i.n→0=i.f→i.lv=p.1.levels.map lvE:=fun a b=>by
   subst a
   rw[hf]at b
   rw[CpI.lv,z1c,hp]
   cases hs:i.s
   ·rfl
   ·rw[hs]at b;simp at b
  have lv2:j=i.n→5=i.f→i.lv=p.2.levels.map lvE:=fun a b=>by
   subst a
   rw[hf]at b
   rw[CpI.lv,z1c,hp]
   cases hs:i.s
   ·rw[hs]at b;simp at b
   ·rfl
  refine⟨bd,_,yTo hp,⟨hf10,fun a b=>(no a b).elim⟩,bd,_,rfl,by omega,fun _ _=>⟨⟨bd,by(first|rfl|trivial)⟩,trivial,⟨by omega,by omega⟩,fun e1 e2=> ?_,hf10,fun hne=> ?_⟩⟩
  ·refine⟨bd,_,yGa hp,⟨hf10,fun _ _=> .inr (by omega)⟩,bd,_,rfl,by omega,fun _ _=>⟨⟨bd,by(first|rfl|trivial)⟩,trivial,⟨by omega,by omega⟩,fun _ e3=>absurd e3 (by omega),hf10,fun _=>⟨by(first|rfl|trivial),j+1,wjn (by omega),⟨(z3m hp).symm,by(first|rfl|trivial),by(first|rfl|trivial),y0n (by omega)⟩,?_,by dsimp only;omega,by dsimp only;omega,k0q⟩⟩⟩
   rw[y0n (show i.n<j+1 by omega),cond_true,lv1 e1 e2]
  ·rw[yHr hp]
   refine⟨by(first|rfl|trivial),bd,_,yGa hp,⟨hf10,fun a b=>(no a b).elim⟩,bd,_,rfl,by omega,fun _ _=>⟨⟨bd,by(first|rfl|trivial)⟩,trivial,⟨by omega,by omega⟩,fun e1 e3=>⟨j+1,wjn (by omega),⟨by(first|rfl|trivial),by(first|rfl|trivial),by(first|rfl|trivial),y0n (by omega)⟩,?_,by dsimp only;omega,by dsimp only;omega,k0q⟩,hf10,fun hne2=>⟨by(first|rfl|trivial),j+1,wjn (by omega),⟨(z3m hp).symm,by(first|rfl|trivial),by(first|rfl|trivial),?_⟩,?_,by dsimp only;omega,by dsimp only;omega,k0q⟩⟩⟩
   ·rw[y0n (show i.n<j+1 by omega),cond_true,lv2 e1 e3]
   ·have:j≠i.n:=fun e=>by
     have:i.f=0∨i.f=5:=by rw[hf];split<;>omega
     rcases this with h|h
     ·exact hne ⟨e,h.symm⟩
     ·exact hne2 ⟨e,h.symm⟩
    exact decide_eq_decide.2 ⟨fun _=>by omega,fun _=>by omega⟩
   ·have:j≠i.n:=fun e=>by
     have:i.f=0∨i.f=5:=by rw[hf];split<;>omega
     rcases this with h|h
     ·exact hne ⟨e,h.symm⟩
     ·exact hne2 ⟨e,h.symm⟩
    rw[show decide (i.n<j+1)=decide (i.n<j)from decide_eq_decide.2 ⟨fun _=>by omega,fun _=>by omega⟩]
 ·have hj:j≤i.v.length:=hj
  obtain rfl:j=i.v.length:=by omega
  have e:decide (i.n<i.v.length)=ag:=y0n hn
  exact⟨(),⟨by(first|rfl|trivial),by(first|rfl|trivial),by(first|rfl|trivial),e.symm⟩,by rw[e];rfl,k0q⟩
theorem zXf:fcopyC.ok Tryz.prog 53:=okw mixed (gokc yIx (gokc yLo gok0)) 0 (fun _=>[]) (fun i=>yRr i) [] Tryz.func53 yQr
theorem yTn (i:FnI):z0t i:=by
 unfold z0t
 have fin:∀{x:Int},¬i.m.inst<0→¬i.m.inst≥i.k→¬(i.m.side≠1∧i.m.side≠2)→cnd (decide (i.m.qty<0)) (∃(o:Unit),i.m.fine i.k=24∧True) (cnd (decide (i.m.count<0)) (∃(o:Unit),i.m.fine i.k=24∧True) (cnd (!(i.m.qty==0)==(i.m.count==0)) (∃(o:Unit),i.m.fine i.k=24∧True) (∃(o:Unit),i.m.fine i.k=0∧True))):=by
  intro _ h1 h2 h3
  have e:i.m.fine i.k=if(i.m.qty<0∨i.m.count<0)∨¬(i.m.qty=0↔i.m.count=0)then 24 else 0:=by rw[MsgM.fine,yZx (by omega),yZx h3]
  rw[e]
  refine zJ (fun a=>⟨(),by rw[yZy (.inl (.inl a))],trivial⟩) (fun a=>zJ (fun b=>⟨(),by rw[yZy (.inl (.inr b))],trivial⟩) (fun b=>Cv.cnd.mk (fun c=>⟨(),?_,trivial⟩) (fun c=>⟨(),?_,trivial⟩)))
  ·have hx:¬(i.m.qty=0↔i.m.count=0):=fun x=>by
    have:(i.m.qty==0)=(i.m.count==0):=by
     rw[y4n,beq_iff_eq,beq_iff_eq];exact x
    rw[this]at c
    revert c
    cases (i.m.count==0)<;>decide
   rw[yZy (.inr hx)]
  ·rw[yZx]
   rintro(x|x)
   ·omega
   ·refine x ?_
    have:(i.m.qty==0)=(i.m.count==0):=by
     revert c
     cases (i.m.count==0)<;>cases (i.m.qty==0)<;>decide
    rw[y4n,beq_iff_eq,beq_iff_eq]at this
    exact this
 refine zJ (fun a=>⟨(),by rw[MsgM.fine,yZy (.inl a)],trivial⟩) (fun a=>zJ (fun b=>⟨(),by rw[MsgM.fine,yZy (.inr b)],trivial⟩) (fun b=>Cv.cnd.mk (fun c=>Cv.cnd.mk (fun d=>⟨(),?_,trivial⟩) (fun d=> ?_)) (fun c=> ?_)))
 ·rw[MsgM.fine,yZx (by omega),yZy ⟨by simpa using c,by simpa using d⟩]
 ·exact fin (x:=0) a b fun x=>x.2 (by simpa using d)
 ·exact fin (x:=0) a b fun x=>x.1 (by simpa using c)
theorem zUh:ffineC.ok Tryz.prog 52:=okw (V:=z0t) mixed gok0 0 (fun _=>[]) (fun _=>[]) [] Tryz.func52 fun(i:FnI) _=>yTn i
theorem zDt {k:Int} {m:MsgM} (h:m.fine k=0):(0≤m.inst∧m.inst<k)∧(m.side=1∨m.side=2)∧(0≤m.qty∧0≤m.count)∧(m.qty=0↔m.count=0):=by
 rw[MsgM.fine]at h
 split at h
 ·cases h
 ·split at h
  ·cases h
  ·split at h
   ·cases h
   ·rename_i a b c
    refine⟨by omega,by omega,by omega,?_⟩
    exact Classical.byContradiction fun x=>c (.inr x)
theorem yMi {L:List Lv} {k:Nat} {l:Lv} (h:L[k]? =am l):zE (L.map lvE) k 0 3=am [D.v (.int .i64 l.price),D.v (.int .i64 l.qty),D.v (.int .i64 l.count)]:=by
 rw[zE,y0z,h];rfl
theorem zOs {f:Lv→Bool} {L:List Lv} {k:Nat} {l:Lv} (h:L[k]? =am l) (h0:(L.take k).findIdx? f=ao):(f l=ag→L.findIdx? f=am k)∧(f l=aj→(L.take (k+1)).findIdx? f=ao):=by
 have hk:=(yZz.1 h).1
 have e:L=L.take k++(l::L.drop (k+1)):=by
  obtain⟨_,h2⟩:=yZz.1 h
  rw[← h2,List.getElem_cons_drop,y2g]
 constructor
 ·intro hl
  rw[e,List.findIdx?_append,h0,y4j,yZy hl]
  simp;omega
 ·intro hl
  rw[y1i,h,y3f,List.findIdx?_append,h0,y4j,hl,List.findIdx?_nil]
  rfl
theorem yZl (i:IxI) (h:ixPC.cnd i):yVj i:=by
 (
 have hl:i.L.length≤1099511627776:=h
 have hml:(i.L.map lvE).length=i.L.length:=y0a _)
 unfold yVj zDj mP dI
 refine⟨0,rfl,fun k=>k≤i.L.length∧(i.L.take k).findIdx? (fun y=>decide (y.price=i.m.price))=ao,fun k=>i.L.length-k,⟨y1n _,by rw[y3x];rfl⟩,fun k hk=>zJ (fun c=> ?_) (fun c=> ?_)⟩
 ·obtain⟨hk,h0⟩:=hk
  obtain⟨l,hl2⟩:=z8 (l:=i.L) (i:=k) (by omega)
  obtain⟨n1,n2⟩:=zOs hl2 h0
  refine⟨⟨by omega,by omega⟩,l.price,l.qty,l.count,yMi hl2,Cv.cnd.mk (fun e=>⟨(),?_,k0q⟩) (fun e=>⟨k+1,?_,⟨by omega,n2 (y0k (by simpa using e))⟩,by dsimp only;omega,k0q⟩)⟩
  ·rw[n1 (y0n (by simpa using e))];rfl
  ·rw[w64 (by omega)];rfl
 ·obtain⟨hk,h0⟩:=hk
  obtain rfl:k=i.L.length:=by omega
  rw[y3n]at h0
  exact⟨(),by rw[h0];rfl,k0q⟩
theorem yDb:ixPC.ok Tryz.prog 54:=okw mixed gok0 1 (fun _=>[]) (fun _=>ixA) [] Tryz.func54 yZl
theorem yYf (i:IxI) (h:ixBC.cnd i):yXh i:=by
 (
 have hl:i.L.length≤1099511627776:=h
 have hml:(i.L.map lvE).length=i.L.length:=y0a _)
 unfold yXh zDj mP dI
 refine⟨0,rfl,fun k=>k≤i.L.length∧(i.L.take k).findIdx? (fun y=>xB i.m.side i.m.price y.price)=ao,fun k=>i.L.length-k,⟨y1n _,by rw[y3x];rfl⟩,fun k hk=>zJ (fun c=> ?_) (fun c=> ?_)⟩
 ·obtain⟨hk,h0⟩:=hk
  obtain⟨l,hl2⟩:=z8 (l:=i.L) (i:=k) (by omega)
  obtain⟨n1,n2⟩:=zOs hl2 h0
  refine⟨⟨by omega,by omega⟩,l.price,l.qty,l.count,yMi hl2,⟨i.m.side,i.m.price,l.price⟩,rfl,rfl,rfl,trivial,fun _ _=>Cv.cnd.mk (fun e=>⟨(),?_,k0q⟩) (fun e=>⟨k+1,?_,⟨by omega,n2 e⟩,by dsimp only;omega,k0q⟩)⟩
  ·rw[n1 e];rfl
  ·rw[w64 (by omega)];rfl
 ·obtain⟨hk,h0⟩:=hk
  obtain rfl:k=i.L.length:=by omega
  rw[y3n]at h0
  exact⟨(),by rw[h0];rfl,k0q⟩
theorem yBs:ixBC.ok Tryz.prog 54:=okw mixed (gokc zQo gok0) 1 (fun _=>[]) (fun _=>ixA) [] Tryz.func54 yYf
theorem zTm:vO Tryz.prog 39=am (41,3,24,#[.int .i64 0,.int .i64 0,.int .i64 0]):=by kernel_rfl
theorem z5t:insLC.ok Tryz.prog 59:=
 insX_ok (tS:=39) (tI:=3) (fO:=122) (fR:=123) (z:= #[.int .i64 0,.int .i64 0,.int .i64 0]) mixed Tryz.func59 rfl (by kernel_rfl) (by kernel_rfl) (by kernel_rfl) (by kernel_rfl) zTm rfl (by decide) (by decide) (by kernel_rfl) (by kernel_rfl)
  (z3h (tS:=39) (tB:=4) Tryz.func122 (by kernel_rfl) (by kernel_rfl) (by kernel_rfl) (by kernel_rfl) zTm) (fun s sn sk i v vn vk w R=>by kernel_rfl)
theorem z3y:delLC.ok Tryz.prog 56:=
 delX_ok mixed Tryz.func56 rfl (by kernel_rfl) (by kernel_rfl) (by kernel_rfl) (by kernel_rfl) zTm rfl (by decide) (fun s sn sk i j w R=>by kernel_rfl)
theorem eJ {els:List (List D)} {j f:Nat} {ds el:List D} (h:j<els.length):zH (els.set j el) j f ds=els.set j (el.take f++(ds++el.drop (f+ds.length))):=by
 have h':(els.set j el)[j]? =am el:=by rw[y2r,yZy rfl,yZy h]
 rw[cK h' rfl,y4c]
theorem yHi {v:Vw} {m:MsgM} {p:Sd×Sd} (h:v[m.inst.toNat]? =am p):(apV v m).map zB=(v.map zB).set m.inst.toNat (zB (if m.side=1 then(zIo 1 p.1 m,p.2)else(p.1,zIo 2 p.2 m))):=by
 rw[apV]
 apply y3a
 intro k
 rw[y0z,y3j,y2r]
 by_cases hk:m.inst.toNat=k
 ·subst hk
  have hl:m.inst.toNat<(v.map zB).length:=by rw[y0a];exact(yZz.1 h).1
  rw[h,yZy rfl,yZy hl]
  show Option.map zB (am (if m.inst.toNat=m.inst.toNat then _ else p))=_
  rw[yZy rfl];rfl
 ·rw[yZx hk,y0z]
  cases v[k]? with
  |none=>rfl
  |some x=>
   show Option.map zB (am (if m.inst.toNat=k then _ else x))=_
   rw[yZx hk];first|done|rfl
theorem yEc {s:Int} {L:List Lv} {m:Lv} {k:Nat} (h:L.findIdx? (fun y=>decide (y.price=m.price))=am k) (hq:m.qty=0):(jS s L m).map lvE=(L.map lvE).take k++(L.map lvE).drop (k+1):=by
 rw[jS,h]
 dsimp only
 rw[yZy hq,List.eraseIdx_eq_take_drop_succ,y0j,y4d,y4r]
theorem yBm {s:Int} {L:List Lv} {m:Lv} {k:Nat} (h:L.findIdx? (fun y=>decide (y.price=m.price))=am k) (hq:¬m.qty=0) (hk:k<L.length):(jS s L m).map lvE=zH (L.map lvE) k 0 [D.v (.int .i64 m.price),D.v (.int .i64 m.qty),D.v (.int .i64 m.count)]:=by
 rw[jS,h]
 dsimp only
 obtain⟨l,hl⟩:=z8 hk
 have h':(L.map lvE)[k]? =am (lvE l):=by rw[y0z,hl];rfl
 rw[yZx hq,cK h' (el':=lvE m) rfl,List.map_set]
theorem z4b {s:Int} {L:List Lv} {m:Lv} (h:L.findIdx? (fun y=>decide (y.price=m.price))=ao) (hq:¬0<m.qty):jS s L m=L:=by
 rw[jS,h]
 dsimp only
 rw[yZx hq]
theorem zRu {s:Int} {L:List Lv} {m:Lv} (h:L.findIdx? (fun y=>decide (y.price=m.price))=ao) (hq:0<m.qty) {k:Nat} (hk:(L.findIdx? fun y=>xB s m.price y.price).getD L.length=k):(jS s L m).map lvE=(L.map lvE).take k++lvE m::(L.map lvE).drop k:=by
 have e:jS s L m=L.take ((L.findIdx? fun y=>xB s m.price y.price).getD L.length)++m::L.drop ((L.findIdx? fun y=>xB s m.price y.price).getD L.length):=by
  rw[jS,h]
  dsimp only
  rw[yZy hq]
  first|done|rfl
 rw[e,hk,y0j,y0l,y4d,y4r]
theorem zIx {f:Lv→Bool} {L:List Lv} {k:Nat} (h:L.findIdx? f=am k):k<L.length:=by
 obtain⟨h,_⟩:=y3b.1 h
 exact h
theorem yBu {s:Int} {x:Sd} {m:MsgM} (h:¬m.implied=ag):zIo s x m=⟨jS s x.levels m.lv,x.imp,x.has⟩:=by rw[zIo,yZx h]
theorem yYt (i:ApI) (h:ap1C.cnd i):yVs i:=by
 obtain⟨hs,hfi,hl,hsm⟩:i.m.side=1∧i.m.fine i.v.length=0∧i.v.length≤1000000∧qC i.v:=h
 have hml:(i.v.map zB).length=i.v.length:=y0a _
 obtain⟨⟨f1,f2⟩,f3,f4,f5⟩:=zDt hfi
 have hN:i.m.inst.toNat<(i.v.map zB).length:=by omega
 obtain⟨p,hp⟩:=z8 (l:=i.v) (i:=i.m.inst.toNat) (by omega)
 have hp':(i.v.map zB)[i.m.inst.toNat]? =am (zB p):=by rw[y0z,hp];rfl
 have hps:=hsm.2 p (y0g hp)
 have z0:((0:Nat)+(nat_lit 1-Nat.succ (nat_lit 0)) % ((2:Int) ^ ak.bits).natAbs*(5:Nat)+(0:Nat))=0:=by decide
 have z1:((0:Nat)+(nat_lit 1-Nat.succ (nat_lit 0)) % ((2:Int) ^ ak.bits).natAbs*(5:Nat)+(1:Nat))=1:=by decide
 have z4:((0:Nat)+(nat_lit 1-Nat.succ (nat_lit 0)) % ((2:Int) ^ ak.bits).natAbs*(5:Nat)+(4:Nat))=4:=by decide
 have hA:=yHi hp
 rw[yZy hs]at hA
 unfold yVs x4 jA uS kZ zDg wN zJy zLd Vtopst364 vJ dI
 simp only[z0,z1,z4]
 refine⟨⟨i.v.length,i.m⟩,by rw[hml],rfl,rfl,hs,rfl,rfl,rfl,rfl,trivial,fun _ _=>Cv.cnd.mk (fun e=> ?_) (fun _=>⟨⟨i.v,i.m.inst.toNat,aj⟩,rfl,⟨by dsimp only;omega,hl,hsm⟩,fun _ _=>⟨⟨f1,by rw[hml];exact f2⟩,Cv.cnd.mk (fun hi=> ?_) (fun hi=> ?_)⟩⟩)⟩
 ·exfalso;simp[hfi]at e
 ·have hf0:(⟨i.v,i.m.inst.toNat,aj⟩:CpI).f=0:=rfl
  have hlv:(⟨i.v,i.m.inst.toNat,aj⟩:CpI).lv=p.1.levels.map lvE:=by rw[CpI.lv,z1c,hp];rfl
  have e0:zIo 1 p.1 i.m=if 0<i.m.qty then⟨p.1.levels,i.m.lv,ag⟩else⟨p.1.levels,lv0,aj⟩:=by rw[zIo,yZy hi]
  rw[hf0,hlv]
  have a1:zH (i.v.map zB) i.m.inst.toNat 1 [D.v (.int .i64 i.m.price),D.v (.int .i64 i.m.qty),D.v (.int .i64 i.m.count)]=(i.v.map zB).set i.m.inst.toNat (zB (⟨p.1.levels,i.m.lv,p.1.has⟩,p.2)):=cK hp' rfl
  have a2:∀b:Bool,zH ((i.v.map zB).set i.m.inst.toNat (zB (⟨p.1.levels,i.m.lv,p.1.has⟩,p.2))) i.m.inst.toNat 4 [D.v (.bool b)]=(i.v.map zB).set i.m.inst.toNat (zB (⟨p.1.levels,i.m.lv,b⟩,p.2)):=fun b=>eJ hN
  have a3:∀b:Bool,zH ((i.v.map zB).set i.m.inst.toNat (zB (⟨p.1.levels,i.m.lv,b⟩,p.2))) i.m.inst.toNat 1 [D.v (.int .i64 0),D.v (.int .i64 0),D.v (.int .i64 0)]=(i.v.map zB).set i.m.inst.toNat (zB (⟨p.1.levels,lv0,b⟩,p.2)):=fun b=>eJ hN
  have a4:∀(y:Lv) (b:Bool),zH ((i.v.map zB).set i.m.inst.toNat (zB (⟨p.1.levels,y,b⟩,p.2))) i.m.inst.toNat 0 [D.ro 3 (p.1.levels.map lvE)]=(i.v.map zB).set i.m.inst.toNat (zB (⟨p.1.levels,y,b⟩,p.2)):=fun y b=>eJ hN
  have a5:∀b:Bool,zE ((i.v.map zB).set i.m.inst.toNat (zB (⟨p.1.levels,i.m.lv,b⟩,p.2))) i.m.inst.toNat 4 1=am [D.v (.bool b)]:=fun b=>by
   rw[zE,y2r,yZy rfl,yZy hN];rfl
  simp only[a1,a2,a3,a4,y1c]
  refine⟨⟨by(first|rfl|trivial),hN,by decide,by decide,fun _ _=> .inr (by decide)⟩,by(first|rfl|trivial),⟨by(first|rfl|trivial),hN,by decide,by decide,fun _ _=> .inr (by decide)⟩,_,a5 _,⟨by decide,fun _ _=> .inr (by decide)⟩,Cv.cnd.mk (fun hb=>⟨⟨by(first|rfl|trivial),hN,by decide,by decide,fun _ _=> .inr (by decide)⟩,(),⟨by(first|rfl|trivial),hN,by decide,?_⟩,k0q⟩) (fun hb=>⟨(),⟨by(first|rfl|trivial),hN,by decide,?_⟩,k0q⟩)⟩
  ·have hq:¬0<i.m.qty:=by simpa using hb
   rw[hA,e0,yZx hq,y0k (show ¬i.m.qty>0 from hq)]
  ·have hq:0<i.m.qty:=by simpa using hb
   rw[hA,e0,yZy hq,y0n (show i.m.qty>0 from hq)]
 ·have hf0:(⟨i.v,i.m.inst.toNat,aj⟩:CpI).f=0:=rfl
  have hlv:(⟨i.v,i.m.inst.toNat,aj⟩:CpI).lv=p.1.levels.map lvE:=by rw[CpI.lv,z1c,hp];rfl
  have e0:=yBu (s:=1) (x:=p.1) (m:=i.m) (by simp[hi])
  rw[e0]at hA
  have hh:i.m.inst.toNat=i.m.inst.toNat∧0=(⟨i.v,i.m.inst.toNat,aj⟩:CpI).f∧True∧i.m.inst.toNat<(i.v.map zB).length∧0<10:=⟨rfl,rfl,trivial,hN,by decide⟩
  have hf9:(⟨i.v,i.m.inst.toNat,aj⟩:CpI).f<10:=by show 0<10;decide
  have hh2:i.m.inst.toNat<(i.v.map zB).length∧0<10:=⟨hN,by decide⟩
  have hB:∀l:List (List D),(jS 1 p.1.levels i.m.lv).map lvE=l→(apV i.v i.m).map zB=zH (i.v.map zB) i.m.inst.toNat 0 [D.ro 3 l]:=fun l e=>by
   subst e
   rw[hA]
   exact Eq.symm (cK (f:=0) (ds:=[D.ro 3 ((jS 1 p.1.levels i.m.lv).map lvE)]) hp' rfl)
  have hll:(p.1.levels.map lvE).length=p.1.levels.length:=y0a _
  have e1:1=i.m.side:=hs.symm
  refine⟨hh,.inl ⟨⟨p.1.levels,i.m⟩,hlv.symm,rfl,rfl,hs,rfl,rfl,rfl,rfl,by dsimp only;omega,fun _ _=> ?_⟩⟩
  dsimp only
  cases hk:p.1.levels.findIdx? (fun y=>decide (y.price=i.m.price))with
  |some k=>
   have hkl:=zIx hk
   refine zJ (fun _=>Cv.cnd.mk (fun hq=>⟨hh,⟨p.1.levels.map lvE,k,k+1⟩,rfl,?_,rfl,⟨by dsimp only;omega,by dsimp only;omega⟩,fun _ _=>⟨hh2,⟨by(first|rfl|trivial),by(first|rfl|trivial)⟩,(),⟨by(first|rfl|trivial),hN,hf9,hB _ (yEc hk (by show i.m.qty=0;simpa using hq))⟩,k0q⟩⟩) (fun hq=>zJ (fun _=>⟨hh,⟨by show(0:Int)≤(k:Int);omega,by show(k:Int)<_;omega⟩,by show k<_;omega,(),⟨by(first|rfl|trivial),hN,hf9,hB _ (yBm hk (by show ¬i.m.qty=0;simpa using hq) hkl)⟩,k0q⟩) (fun c=>absurd (show(0:Int)≤(k:Int)by omega) c))) (fun c=>absurd (show(0:Int)≤(k:Int)by omega) c)
   show((k+1:Nat):Int)=ak.wrap ((k:Int)+1)
   rw[w64 (by omega)];rfl
  |none=>
   refine zJ (fun c=>absurd c (by decide)) (fun _=>zJ (fun c=>absurd c (by decide)) (fun _=>zJ (fun hq=>⟨hh,.inr ⟨⟨p.1.levels,i.m⟩,rfl,rfl,rfl,rfl,rfl,rfl,rfl,rfl,by dsimp only;omega,fun _ _=> ?_⟩⟩) (fun hq=>⟨(),⟨by(first|rfl|trivial),hN,hf9,hB _ (by rw[z4b hk hq])⟩,k0q⟩)))
   dsimp only
   rw[hs]
   cases hb:p.1.levels.findIdx? (fun y=>xB 1 i.m.price y.price)with
   |some k=>
    have hkl:=zIx hb
    exact zJ (fun c=>absurd c (by show ¬(k:Int)<0;omega)) (fun _=>⟨hh,⟨hh,trivial⟩,⟨p.1.levels.map lvE,lvE i.m.lv,k⟩,rfl,rfl,rfl,⟨by dsimp only;omega,by dsimp only;omega⟩,fun _ _=>⟨hh2,⟨by(first|rfl|trivial),by(first|rfl|trivial)⟩,(),⟨by(first|rfl|trivial),hN,hf9,hB _ (zRu hk hq (by rw[show(p.1.levels.findIdx? fun y=>xB 1 i.m.lv.price y.price)=am k from hb];rfl))⟩,k0q⟩⟩)
   |none=>
    exact zJ (fun _=>⟨hh,hh,⟨hh,trivial⟩,⟨p.1.levels.map lvE,lvE i.m.lv,p.1.levels.length⟩,by rw[hll],rfl,rfl,⟨by dsimp only;omega,by dsimp only;omega⟩,fun _ _=>⟨hh2,⟨by(first|rfl|trivial),by(first|rfl|trivial)⟩,(),⟨by(first|rfl|trivial),hN,hf9,hB _ (zRu hk hq (by rw[show(p.1.levels.findIdx? fun y=>xB 1 i.m.lv.price y.price)=ao from hb];rfl))⟩,k0q⟩⟩) (fun c=>absurd (show(-1:Int)<0 by decide) c)
theorem yRu:ap1C.ok Tryz.prog 15:=okw mixed (gokc zUh (gokc zXf (gokc yDb (gokc yBs (gokc z3y (gokc z5t gok0)))))) 0 (fun _=>[]) (fun _=>[]) [] Tryz.func15 yYt
theorem yYr (i:ApI) (h:ap2C.cnd i):yUi i:=by
 obtain⟨hs,hfi,hl,hsm⟩:i.m.side=2∧i.m.fine i.v.length=0∧i.v.length≤1000000∧qC i.v:=h
 have hml:(i.v.map zB).length=i.v.length:=y0a _
 obtain⟨⟨f1,f2⟩,f3,f4,f5⟩:=zDt hfi
 have hN:i.m.inst.toNat<(i.v.map zB).length:=by omega
 obtain⟨p,hp⟩:=z8 (l:=i.v) (i:=i.m.inst.toNat) (by omega)
 have hp':(i.v.map zB)[i.m.inst.toNat]? =am (zB p):=by rw[y0z,hp];rfl
 have hps:=hsm.2 p (y0g hp)
 have z0:((0:Nat)+(nat_lit 2-Nat.succ (nat_lit 0)) % ((2:Int) ^ ak.bits).natAbs*(5:Nat)+(0:Nat))=5:=by decide
 have z1:((0:Nat)+(nat_lit 2-Nat.succ (nat_lit 0)) % ((2:Int) ^ ak.bits).natAbs*(5:Nat)+(1:Nat))=6:=by decide
 have z4:((0:Nat)+(nat_lit 2-Nat.succ (nat_lit 0)) % ((2:Int) ^ ak.bits).natAbs*(5:Nat)+(4:Nat))=9:=by decide
 have hA:=yHi hp
 rw[yZx (show ¬i.m.side=1 by omega)]at hA
 unfold yUi jJ uV zMr zKn Vtopst364 vW x4 kZ zDg wN dI
 simp only[z0,z1,z4]
 refine⟨⟨i.v.length,i.m⟩,by rw[hml],rfl,rfl,hs,rfl,rfl,rfl,rfl,trivial,fun _ _=>Cv.cnd.mk (fun e=> ?_) (fun _=>⟨⟨i.v,i.m.inst.toNat,ag⟩,rfl,⟨by dsimp only;omega,hl,hsm⟩,fun _ _=>⟨⟨f1,by rw[hml];exact f2⟩,Cv.cnd.mk (fun hi=> ?_) (fun hi=> ?_)⟩⟩)⟩
 ·exfalso;simp[hfi]at e
 ·have hf0:(⟨i.v,i.m.inst.toNat,ag⟩:CpI).f=5:=rfl
  have hlv:(⟨i.v,i.m.inst.toNat,ag⟩:CpI).lv=p.2.levels.map lvE:=by rw[CpI.lv,z1c,hp];rfl
  have e0:zIo 2 p.2 i.m=if 0<i.m.qty then⟨p.2.levels,i.m.lv,ag⟩else⟨p.2.levels,lv0,aj⟩:=by rw[zIo,yZy hi]
  rw[hf0,hlv]
  have a1:zH (i.v.map zB) i.m.inst.toNat 6 [D.v (.int .i64 i.m.price),D.v (.int .i64 i.m.qty),D.v (.int .i64 i.m.count)]=(i.v.map zB).set i.m.inst.toNat (zB (p.1,⟨p.2.levels,i.m.lv,p.2.has⟩)):=cK hp' rfl
  have a2:∀b:Bool,zH ((i.v.map zB).set i.m.inst.toNat (zB (p.1,⟨p.2.levels,i.m.lv,p.2.has⟩))) i.m.inst.toNat 9 [D.v (.bool b)]=(i.v.map zB).set i.m.inst.toNat (zB (p.1,⟨p.2.levels,i.m.lv,b⟩)):=fun b=>eJ hN
  have a3:∀b:Bool,zH ((i.v.map zB).set i.m.inst.toNat (zB (p.1,⟨p.2.levels,i.m.lv,b⟩))) i.m.inst.toNat 6 [D.v (.int .i64 0),D.v (.int .i64 0),D.v (.int .i64 0)]=(i.v.map zB).set i.m.inst.toNat (zB (p.1,⟨p.2.levels,lv0,b⟩)):=fun b=>eJ hN
  have a4:∀(y:Lv) (b:Bool),zH ((i.v.map zB).set i.m.inst.toNat (zB (p.1,⟨p.2.levels,y,b⟩))) i.m.inst.toNat 5 [D.ro 3 (p.2.levels.map lvE)]=(i.v.map zB).set i.m.inst.toNat (zB (p.1,⟨p.2.levels,y,b⟩)):=fun y b=>eJ hN
  have a5:∀b:Bool,zE ((i.v.map zB).set i.m.inst.toNat (zB (p.1,⟨p.2.levels,i.m.lv,b⟩))) i.m.inst.toNat 9 1=am [D.v (.bool b)]:=fun b=>by
   rw[zE,y2r,yZy rfl,yZy hN];rfl
  simp only[a1,a2,a3,a4,y1c]
  refine⟨⟨by(first|rfl|trivial),hN,by decide,by decide,fun _ _=> .inr (by decide)⟩,by(first|rfl|trivial),⟨by(first|rfl|trivial),hN,by decide,by decide,fun _ _=> .inr (by decide)⟩,_,a5 _,⟨by decide,fun _ _=> .inr (by decide)⟩,Cv.cnd.mk (fun hb=>⟨⟨by(first|rfl|trivial),hN,by decide,by decide,fun _ _=> .inr (by decide)⟩,(),⟨by(first|rfl|trivial),hN,by decide,?_⟩,k0q⟩) (fun hb=>⟨(),⟨by(first|rfl|trivial),hN,by decide,?_⟩,k0q⟩)⟩
  ·have hq:¬0<i.m.qty:=by simpa using hb
   rw[hA,e0,yZx hq,y0k (show ¬i.m.qty>0 from hq)]
  ·have hq:0<i.m.qty:=by simpa using hb
   rw[hA,e0,yZy hq,y0n (show i.m.qty>0 from hq)]
 ·have hf0:(⟨i.v,i.m.inst.toNat,ag⟩:CpI).f=5:=rfl
  have hlv:(⟨i.v,i.m.inst.toNat,ag⟩:CpI).lv=p.2.levels.map lvE:=by rw[CpI.lv,z1c,hp];rfl
  have e0:=yBu (s:=2) (x:=p.2) (m:=i.m) (by simp[hi])
  rw[e0]at hA
  have hh:i.m.inst.toNat=i.m.inst.toNat∧5=(⟨i.v,i.m.inst.toNat,ag⟩:CpI).f∧True∧i.m.inst.toNat<(i.v.map zB).length∧5<10:=⟨rfl,rfl,trivial,hN,by decide⟩
  have hf9:(⟨i.v,i.m.inst.toNat,ag⟩:CpI).f<10:=by show 5<10;decide
  have hh2:i.m.inst.toNat<(i.v.map zB).length∧5<10:=⟨hN,by decide⟩
  have hB:∀l:List (List D),(jS 2 p.2.levels i.m.lv).map lvE=l→(apV i.v i.m).map zB=zH (i.v.map zB) i.m.inst.toNat 5 [D.ro 3 l]:=fun l e=>by
   subst e
   rw[hA]
   exact Eq.symm (cK (f:=5) (ds:=[D.ro 3 ((jS 2 p.2.levels i.m.lv).map lvE)]) hp' rfl)
  have hll:(p.2.levels.map lvE).length=p.2.levels.length:=y0a _
  have e1:2=i.m.side:=hs.symm
  refine⟨hh,.inl ⟨⟨p.2.levels,i.m⟩,hlv.symm,rfl,rfl,hs,rfl,rfl,rfl,rfl,by dsimp only;omega,fun _ _=> ?_⟩⟩
  dsimp only
  cases hk:p.2.levels.findIdx? (fun y=>decide (y.price=i.m.price))with
  |some k=>
   have hkl:=zIx hk
   refine zJ (fun _=>Cv.cnd.mk (fun hq=>⟨hh,⟨p.2.levels.map lvE,k,k+1⟩,rfl,?_,rfl,⟨by dsimp only;omega,by dsimp only;omega⟩,fun _ _=>⟨hh2,⟨by(first|rfl|trivial),by(first|rfl|trivial)⟩,(),⟨by(first|rfl|trivial),hN,hf9,hB _ (yEc hk (by show i.m.qty=0;simpa using hq))⟩,k0q⟩⟩) (fun hq=>zJ (fun _=>⟨hh,⟨by show(0:Int)≤(k:Int);omega,by show(k:Int)<_;omega⟩,by show k<_;omega,(),⟨by(first|rfl|trivial),hN,hf9,hB _ (yBm hk (by show ¬i.m.qty=0;simpa using hq) hkl)⟩,k0q⟩) (fun c=>absurd (show(0:Int)≤(k:Int)by omega) c))) (fun c=>absurd (show(0:Int)≤(k:Int)by omega) c)
   show((k+1:Nat):Int)=ak.wrap ((k:Int)+1)
   rw[w64 (by omega)];rfl
  |none=>
   refine zJ (fun c=>absurd c (by decide)) (fun _=>zJ (fun c=>absurd c (by decide)) (fun _=>zJ (fun hq=>⟨hh,.inr ⟨⟨p.2.levels,i.m⟩,rfl,rfl,rfl,rfl,rfl,rfl,rfl,rfl,by dsimp only;omega,fun _ _=> ?_⟩⟩) (fun hq=>⟨(),⟨by(first|rfl|trivial),hN,hf9,hB _ (by rw[z4b hk hq])⟩,k0q⟩)))
   dsimp only
   rw[hs]
   cases hb:p.2.levels.findIdx? (fun y=>xB 2 i.m.price y.price)with
   |some k=>
    have hkl:=zIx hb
    exact zJ (fun c=>absurd c (by show ¬(k:Int)<0;omega)) (fun _=>⟨hh,⟨hh,trivial⟩,⟨p.2.levels.map lvE,lvE i.m.lv,k⟩,rfl,rfl,rfl,⟨by dsimp only;omega,by dsimp only;omega⟩,fun _ _=>⟨hh2,⟨by(first|rfl|trivial),by(first|rfl|trivial)⟩,(),⟨by(first|rfl|trivial),hN,hf9,hB _ (zRu hk hq (by rw[show(p.2.levels.findIdx? fun y=>xB 2 i.m.lv.price y.price)=am k from hb];rfl))⟩,k0q⟩⟩)
   |none=>
    exact zJ (fun _=>⟨hh,hh,⟨hh,trivial⟩,⟨p.2.levels.map lvE,lvE i.m.lv,p.2.levels.length⟩,by rw[hll],rfl,rfl,⟨by dsimp only;omega,by dsimp only;omega⟩,fun _ _=>⟨hh2,⟨by(first|rfl|trivial),by(first|rfl|trivial)⟩,(),⟨by(first|rfl|trivial),hN,hf9,hB _ (zRu hk hq (by rw[show(p.2.levels.findIdx? fun y=>xB 2 i.m.lv.price y.price)=ao from hb];rfl))⟩,k0q⟩⟩) (fun c=>absurd (show(-1:Int)<0 by decide) c)
theorem yRe:ap2C.ok Tryz.prog 15:=okw mixed (gokc zUh (gokc zXf (gokc yDb (gokc yBs (gokc z3y (gokc z5t gok0)))))) 0 (fun _=>[]) (fun _=>[]) [] Tryz.func15 yYr
theorem apply_ok:applyC.ok Tryz.prog 15:=by
 intro i h
 obtain⟨hfi,hl,hsm⟩:i.m.fine i.v.length=0∧i.v.length≤1000000∧qC i.v:=h
 obtain⟨_,f3,_⟩:=zDt hfi
 rcases f3 with e|e
 ·have:=yRu i ⟨e,hfi,hl,hsm⟩
  have e2:applyC.pat i=ap1C.pat i:=by
   show[vwV i.v,zWh i.m]=[vwV i.v,V.agg [zA i.m.seq,zA i.m.inst,zA 1,zA i.m.price,zA i.m.qty,zA i.m.count,yF i.m.implied]]
   rw[zWh,e]
  intro k L E w ys R hv
  rw[e2]at hv
  exact this k L E w ys R hv
 ·have:=yRe i ⟨e,hfi,hl,hsm⟩
  have e2:applyC.pat i=ap2C.pat i:=by
   show[vwV i.v,zWh i.m]=[vwV i.v,V.agg [zA i.m.seq,zA i.m.inst,zA 2,zA i.m.price,zA i.m.qty,zA i.m.count,yF i.m.implied]]
   rw[zWh,e]
  intro k L E w ys R hv
  rw[e2]at hv
  exact this k L E w ys R hv
open Go Cv Go.Proofs
theorem yNm:∀{l:List zK} {v:Lv},v∈grp l→(1≤v.count∧v.count≤l.length)∧∃o∈l,o.price=v.price
 |[],v,h=>by cases h
 |o::l,v,h=>by
  have ih:∀v∈grp l,(1≤v.count∧v.count≤l.length)∧∃o∈l,o.price=v.price:=fun v hv=>yNm hv
  rw[grp]at h
  rw[y0f]
  split at h
  ·rw[y1k]at h
   subst h
   exact⟨by dsimp only;omega,o,y0d,rfl⟩
  ·rename_i w ws e
   rw[e]at ih
   have hw:=ih w y0d
   split at h
   ·rename_i ep
    rcases y0m.1 h with rfl|h
    ·exact⟨by dsimp only;omega,o,y0d,ep.symm⟩
    ·obtain⟨a,x,hx,hp⟩:=ih v (y0c _ h)
     exact⟨by omega,x,y0c _ hx,hp⟩
   ·rcases y0m.1 h with rfl|h
    ·exact⟨by dsimp only;omega,o,y0d,rfl⟩
    ·obtain⟨a,x,hx,hp⟩:=ih v h
     exact⟨by omega,x,y0c _ hx,hp⟩
theorem z3p:∀l:List zK,(grp l).length≤l.length
 |[]=>y1f 0
 |o::l=>by
  have ih:=z3p l
  rw[grp,y0f]
  cases e:grp l with
  |nil=>simp
  |cons w ws=>
   rw[e,y0f]at ih
   dsimp only
   split
   ·rw[y0f];omega
   ·rw[y0f,y0f];omega
theorem yPl {s:Int} {L:List Lv} (h:fT s L) (hp:∀l∈L,1≤l.qty∧1≤l.count) (i:Nat):yFk s L i:=by
 intro a ha
 have hm:=hp a (y0g ha)
 refine⟨hm.1,hm.2,?_⟩
 rintro j b rfl hb
 obtain⟨h1,e1⟩:=yZz.1 ha
 obtain⟨h2,e2⟩:=yZz.1 hb
 have:=(List.pairwise_iff_getElem.1 h) j (j+1) h2 h1 (y5i j)
 rw[e1,e2]at this
 exact this
theorem z2i {p:Prd} {B:List (List zK)} (h:BWf p B) {k:Nat} {L:List zK} (hL:B[k]? =am L) {s:Int} (hs:s=1∨s=2):
 (∀i,yFk s (uU L s) i)∧(uU L s).length≤255∧∀l∈uU L s,(1≤l.qty∧l.qty≤250000000)∧l.fit:=by
 obtain⟨h1,h2,h3⟩:=h.od k L hL
 have hf:(L.filter fun o=>decide (o.side=s)).length≤L.length:=y3o _ _
 have hl:=z3p (L.filter fun o=>decide (o.side=s))
 have hall:∀l∈uU L s,(1≤l.qty∧l.qty≤250000000)∧(1≤l.count∧l.count≤250)∧(-2000000≤l.price∧l.price≤2000000):=fun l hm=>by
  have q:=z4l (fun o ho=>h1 o (y2c.1 ho).1) hm
  obtain⟨c,o,ho,e⟩:=yNm hm
  have hp:=h.ok.prices hL o (y2c.1 ho).1
  rw[e]at hp
  exact⟨by omega,by omega,hp⟩
 refine⟨yPl (yHv h hL hs).1 fun l hm=>⟨(hall l hm).1.1,(hall l hm).2.1.1⟩,by rw[uU];omega,fun l hm=> ?_⟩
 obtain⟨a,b,c⟩:=hall l hm
 exact⟨a,⟨by omega,by omega⟩,⟨by omega,by omega⟩,⟨by omega,by omega⟩⟩
theorem zYe {p:Prd} {B:List (List zK)} (h:BWf p B) {k:Nat} {L:List zK} (hL:B[k]? =am L) {s:Int} (hs:s=1∨s=2) (hb:(bestL L s).2=ag):1≤(bestL L s).1.qty∧(bestL L s).1.qty≤250000000:=by
 have hm:(bestL L s).1∈uU L s:=by
  rw[bestL]at hb ⊢
  split at hb
  ·cases hb
  ·rename_i v vs e
   rw[e]
   exact y0d
 exact((z2i h hL hs).2.2 _ hm).1
theorem yNo {p:Prd} {B:List (List zK)} (h:BWf p B) {i s:Int} (hi:0≤i∧i<(B.map qU).length) (hs:s=1∨s=2) (hh:((B.map qU).getD i.toNat top0).has s=ag):1≤((B.map qU).getD i.toNat top0).qty s∧((B.map qU).getD i.toNat top0).qty s≤250000000:=by
 rw[y0a]at hi
 obtain⟨L,hL⟩:=z8 (l:=B) (i:=i.toNat) (by omega)
 have e:(B.map qU).getD i.toNat top0=qU L:=by rw[y0h,y0z,hL];rfl
 rw[e]at hh ⊢
 obtain⟨t1,t2,t3,t4,t5,t6⟩:=zJa L
 rcases hs with rfl|rfl
 ·rw[Top.has,yZy rfl,t3]at hh
  rw[Top.qty,yZy rfl,t2]
  exact zYe h hL (.inl rfl) hh
 ·rw[Top.has,yZx (by decide),t6]at hh
  rw[Top.qty,yZx (by decide),t5]
  exact zYe h hL (.inr rfl) hh
theorem yJz {p:Prd} {B:List (List zK)} (h:BWf p B) {n s:Int} (hs:s=1∨s=2) {q:Quote} (hq:q∈xS ⟨p,B.map qU,n⟩ s):(1≤q.qty∧q.qty≤250000000)∧(-2000000≤q.price∧q.price≤2000000):=by
 rw[xS,y2c]at hq
 obtain⟨ok,-⟩:=z4d h.ok.pc (by rw[y0a,h.ok.bl]) hs hq.1
 have qa:=yNo h ok.a ok.sa ok.ha
 have qb:=yNo h ok.b ok.sb ok.hb
 have hp:p.price n q.price=0:=by simpa using hq.2
 exact⟨by rw[ok.qty];omega,sN h.ok.pc hp⟩
theorem zEt (b:Quote) {M:Int}:∀(l:List Quote) (a:Int×Int),(∀q∈l,1≤q.qty∧q.qty≤M)→1≤a.1→a.1≤M→
 (1≤(l.foldl (fun a q=>if q.price=b.price then(if q.qty>a.1 then q.qty else a.1,a.2+1)else a) a).1∧(l.foldl (fun a q=>if q.price=b.price then(if q.qty>a.1 then q.qty else a.1,a.2+1)else a) a).1≤M)∧
 a.2≤(l.foldl (fun a q=>if q.price=b.price then(if q.qty>a.1 then q.qty else a.1,a.2+1)else a) a).2∧(l.foldl (fun a q=>if q.price=b.price then(if q.qty>a.1 then q.qty else a.1,a.2+1)else a) a).2≤a.2+l.length∧
 (b∈l→a.2+1≤(l.foldl (fun a q=>if q.price=b.price then(if q.qty>a.1 then q.qty else a.1,a.2+1)else a) a).2)
 |[],a,_,h1,h2=>⟨⟨h1,h2⟩,y3p _,by simp,fun h=>by cases h⟩
 |q::l,a,hq,h1,h2=>by
  have q0:=hq q y0d
  rw[y2u,y0f]
  by_cases e:q.price=b.price
  ·rw[yZy e]
   obtain⟨r1,r2,r3,r4⟩:=zEt b (M:=M) l (if q.qty>a.1 then q.qty else a.1,a.2+1) (fun x hx=>hq x (y0c _ hx)) (by dsimp only;split<;>omega) (by dsimp only;split<;>omega)
   dsimp only at r2 r3
   exact⟨r1,by omega,by omega,fun _=>r2⟩
  ·rw[yZx e]
   obtain⟨r1,r2,r3,r4⟩:=zEt b (M:=M) l a (fun x hx=>hq x (y0c _ hx)) h1 h2
   refine⟨r1,r2,by omega,fun hb=> ?_⟩
   rcases y0m.1 hb with rfl|hb
   ·exact absurd rfl e
   ·exact r4 hb
theorem yAk {l:List Quote} {s:Int} (hl:l.length≤100) (h:∀q∈l,(1≤q.qty∧q.qty≤250000000)∧(-2000000≤q.price∧q.price≤2000000)):
 ((qA l s).2=ag→1≤(qA l s).1.qty∧1≤(qA l s).1.count)∧((qA l s).2=aj→(qA l s).1=⟨0,0,0⟩)∧(qA l s).1.fit:=by
 by_cases e:(zU l s).2=ag
 ·have hm:=zGy e
  have hb:=h _ hm
  have:=zEt (zU l s).1 (M:=250000000) l ((zU l s).1.qty,0) (fun q hq=>(h q hq).1) hb.1.1 hb.1.2
  have e2:qA l s=(⟨(zU l s).1.price,(fU l (zU l s).1).1,(fU l (zU l s).1).2⟩,ag):=by rw[qA,yZy e]
  rw[e2]
  rw[← fU]at this
  obtain⟨r1,r2,r3,r4⟩:=this
  have r4:=r4 hm
  dsimp only at r2 r3 r4 ⊢
  exact⟨fun _=>⟨r1.1,by omega⟩,fun x=>(by cases x),⟨by dsimp only;omega,by dsimp only;omega⟩,⟨by dsimp only;omega,by dsimp only;omega⟩,⟨by dsimp only;omega,by dsimp only;omega⟩⟩
 ·have e2:qA l s=(⟨0,0,0⟩,aj):=by rw[qA,yZx e]
  rw[e2]
  exact⟨fun x=>(by cases x),fun _=>rfl,⟨by decide,by decide⟩,⟨by decide,by decide⟩,⟨by decide,by decide⟩⟩
theorem zAh {p:Prd} {B:List (List zK)} (h:BWf p B):zSi (qT p B)∧yUh (qT p B)∧qC (qT p B):=by
 have hc:=xQ p
 have hlen:=m9 p B
 have hside:∀k,k<p.count→∀s,s=1∨s=2→zCn s (zCe p B k s)∧(zCe p B k s).fit:=fun k hk s hs=>by
  obtain⟨L,hL⟩:=z8 (l:=B) (i:=k) (by rw[h.ok.bl];exact hk)
  have e:B.getD k []=L:=zT hL
  obtain⟨a1,a2,a3⟩:=z2i h hL hs
  obtain⟨b1,b2,b3⟩:=yAk (s:=s) (zHx ⟨p,B.map qU,k⟩ s) (fun q hq=>yJz h hs hq)
  rw[zCe,e]
  exact⟨⟨a1,a2,b1,b2⟩,fun x hx=>(a3 x hx).2,b3⟩
 have hmem:∀b∈qT p B,∃k,k<p.count∧b=(zCe p B k 1,zCe p B k 2):=fun b hb=>by
  rw[qT]at hb
  obtain⟨k,hk,rfl⟩:=y1a.1 hb
  exact⟨k,y3g.1 hk,rfl⟩
 refine⟨⟨fun b hb=> ?_,by omega⟩,fun b hb=> ?_,⟨by omega,fun b hb=> ?_⟩⟩
 ·obtain⟨k,hk,rfl⟩:=hmem b hb
  exact⟨(hside k hk 1 (.inl rfl)).1,(hside k hk 2 (.inr rfl)).1⟩
 ·obtain⟨k,hk,rfl⟩:=hmem b hb
  exact⟨(hside k hk 1 (.inl rfl)).2,(hside k hk 2 (.inr rfl)).2⟩
 ·obtain⟨k,hk,rfl⟩:=hmem b hb
  have a:=(hside k hk 1 (.inl rfl)).1.2.1
  have c:=(hside k hk 2 (.inr rfl)).1.2.1
  dsimp only
  omega
open Go Cv Go.Proofs
structure VwG (p:Prd) (v:Vw):Prop where
 r:zSi v
 f:yUh v
 s:qC v
 len:v.length=p.count
theorem yGq {p:Prd} {B:List (List zK)} (h:BWf p B):VwG p (qT p B):=⟨(zAh h).1,(zAh h).2.1,(zAh h).2.2,m9 p B⟩
theorem zKp {s:Int}:∀{L:List Lv},(∀i,yFk s L i)→fT s L∧∀l∈L,1≤l.qty∧1≤l.count
 |[],_=>⟨List.Pairwise.nil,fun l h=>by cases h⟩
 |x::L,h=>by
  have hL:∀i,yFk s L i:=fun i a ha=>by
   obtain⟨h1,h2,h3⟩:=h (i+1) a (by simpa using ha)
   exact⟨h1,h2,fun j b e hb=>h3 (j+1) b (by omega) (by simpa using hb)⟩
  obtain⟨i1,i2⟩:=zKp hL
  obtain⟨h1,h2,_⟩:=h 0 x rfl
  refine⟨y1w.2 ⟨?_,i1⟩,fun l hl=> ?_⟩
  ·cases L with
   |nil=>intro a ha;cases ha
   |cons y L=>
    have hy:btr s x.price y.price=ag:=(h 1 y rfl).2.2 0 x rfl rfl
    intro a ha
    rcases y0m.1 ha with rfl|ha
    ·exact hy
    ·exact pL hy ((y1w.1 i1).1 a ha)
  ·rcases y0m.1 hl with rfl|hl
   ·exact⟨h1,h2⟩
   ·exact i2 l hl
theorem zAm {v:Vw} (h:zSi v):z8e v:=fun p hp=>by
 obtain⟨⟨a1,a2,a3,a4⟩,⟨b1,b2,b3,b4⟩⟩:=h.1 p hp
 obtain⟨s1,p1⟩:=zKp a1
 obtain⟨s2,p2⟩:=zKp b1
 exact⟨⟨s1,fun l hl=>(p1 l hl).1,fun x=>(a3 x).1,a4⟩,⟨s2,fun l hl=>(p2 l hl).1,fun x=>(b3 x).1,b4⟩⟩
theorem yBa:yO 0:=⟨by decide,by decide⟩
def SdM (x:Sd):Prop:=(∀l∈x.levels,(1≤l.qty∧1≤l.count)∧l.fit)∧(x.has=ag→1≤x.imp.qty∧1≤x.imp.count)∧x.imp.fit
theorem yNf {p:Prd} {v:Vw} (h:VwG p v):∀b∈v,SdM b.1∧SdM b.2:=fun b hb=>by
 obtain⟨⟨a1,a2,a3,a4⟩,⟨b1,b2,b3,b4⟩⟩:=h.r.1 b hb
 obtain⟨⟨f1,f2⟩,⟨g1,g2⟩⟩:=h.f b hb
 exact⟨⟨fun l hl=>⟨(zKp a1).2 l hl,f1 l hl⟩,a3,f2⟩,⟨fun l hl=>⟨(zKp b1).2 l hl,g1 l hl⟩,b3,g2⟩⟩
theorem mY {s:Int}:∀(k:Nat) (X Y:List Lv),∀m∈xK s k X Y,m∈Y∨∃x∈X,m=⟨x.price,0,0⟩
 |0,_,_,m,h=>by rw[xK]at h;cases h
 |k+1,[],[],m,h=>by rw[xK]at h;cases h
 |k+1,x::X,[],m,h=>by
  rw[xK]at h
  rcases y0m.1 h with rfl|h
  ·exact .inr ⟨x,y0d,rfl⟩
  ·rcases mY k X [] m h with h|⟨z,hz,e⟩
   ·cases h
   ·exact .inr ⟨z,y0c _ hz,e⟩
 |k+1,[],y::Y,m,h=>by
  rw[xK]at h
  rcases y0m.1 h with rfl|h
  ·exact .inl y0d
  ·rcases mY k [] Y m h with h|⟨z,hz,e⟩
   ·exact .inl (y0c _ h)
   ·cases hz
 |k+1,x::X,y::Y,m,h=>by
  rw[xK]at h
  split at h
  ·rcases y0m.1 h with rfl|h
   ·exact .inr ⟨x,y0d,rfl⟩
   ·rcases mY k X (y::Y) m h with h|⟨z,hz,e⟩
    ·exact .inl h
    ·exact .inr ⟨z,y0c _ hz,e⟩
  ·split at h
   ·rcases y0m.1 h with rfl|h
    ·exact .inl y0d
    ·rcases mY k (x::X) Y m h with h|h
     ·exact .inl (y0c _ h)
     ·exact .inr h
   ·rcases y0u.1 h with h|h
    ·split at h
     ·cases h
     ·rw[y1k]at h;subst h;exact .inl y0d
    ·rcases mY k X Y m h with h|⟨z,hz,e⟩
     ·exact .inl (y0c _ h)
     ·exact .inr ⟨z,y0c _ hz,e⟩
structure zXa (n:Nat) (m:VM):Prop where
 inst:m.inst<n
 side:m.side=1∨m.side=2
 q:0≤m.l.qty∧0≤m.l.count
 e:m.l.qty=0↔m.l.count=0
 f:m.l.fit
theorem zUy {n N:Nat} {s:Int} {a b:Sd} (hn:n<N) (hs:s=1∨s=2) (ha:SdM a) (hb:SdM b):∀m∈xE n s a b,zXa N m:=by
 intro m hm
 rw[xE,y0u]at hm
 rcases hm with hm|hm
 ·obtain⟨l,hl,rfl⟩:=y1a.1 hm
  rcases mY _ _ _ l hl with h|⟨x,hx,rfl⟩
  ·obtain⟨⟨h1,h2⟩,h3⟩:=hb.1 l h
   exact⟨hn,hs,⟨by dsimp only;omega,by dsimp only;omega⟩,⟨fun _=>by dsimp only at*;omega,fun _=>by dsimp only at*;omega⟩,h3⟩
  ·exact⟨hn,hs,⟨y3p _,y3p _⟩,⟨fun _=>rfl,fun _=>rfl⟩,⟨(ha.1 x hx).2.1,yBa,yBa⟩⟩
 ·split at hm
  ·rw[y1k]at hm
   subst hm
   have hI:(0≤(zBa b).qty∧0≤(zBa b).count)∧((zBa b).qty=0↔(zBa b).count=0)∧(zBa b).fit:=by
    rw[zBa]
    split
    ·rename_i h
     have:=hb.2.1 h
     exact⟨⟨by omega,by omega⟩,⟨fun _=>by omega,fun _=>by omega⟩,hb.2.2⟩
    ·exact⟨⟨y3p _,y3p _⟩,⟨fun _=>rfl,fun _=>rfl⟩,⟨yBa,yBa,yBa⟩⟩
   exact⟨hn,hs,hI.1,hI.2.1,hI.2.2⟩
  ·cases hm
theorem z3c:∀(n:Nat) (A B:Vw),(∀p∈A,SdM p.1∧SdM p.2)→(∀p∈B,SdM p.1∧SdM p.2)→∀m∈yN n A B,zXa (n+A.length) m
 |n,[],_,_,_,m,h=>by rw[yN]at h<;>first|cases h|simp
 |n,a::A,[],_,_,m,h=>by rw[yN]at h<;>first|cases h|simp
 |n,a::A,b::B,hA,hB,m,h=>by
  rw[yN,y0u,y0u]at h
  have ha:=hA a y0d
  have hb:=hB b y0d
  rw[y0f]
  rcases h with(h|h)|h
  ·exact zUy (by omega) (.inl rfl) ha.1 hb.1 m h
  ·exact zUy (by omega) (.inr rfl) ha.2 hb.2 m h
  ·have:=z3c (n+1) A B (fun p hp=>hA p (y0c _ hp)) (fun p hp=>hB p (y0c _ hp)) m h
   rwa [show n+1+A.length=n+(A.length+1)by omega]at this
theorem zTd {p:Prd} {v:Vw} (h:VwG p v):Vw.levs v≤510*v.length:=by
 have:∀{v:Vw},(∀b∈v,zCn 1 b.1∧zCn 2 b.2)→Vw.levs v≤510*v.length:=by
  intro v
  induction v with
  |nil=>intro _;exact y1f _
  |cons a v ih=>
   intro h
   have ha:=h a y0d
   have:=ih fun b hb=>h b (y0c _ hb)
   have h1:=ha.1.2.1
   have h2:=ha.2.2.1
   rw[Vw.levs]at this ⊢
   rw[y0l,y1l,y0f]
   omega
 exact this h.r.1
theorem yLa {p:Prd} {v w:Vw} (hv:VwG p v) (hw:VwG p w):(yN 0 v w).length≤300000:=by
 have h1:=zTd hv
 have h2:=zTd hw
 have h3:=hv.len
 have h4:=hw.len
 have h5:=hv.r.2
 have h6:=hw.r.2
 have:=yEa v w v.length (y1f _) (by omega)
 rw[y3n,show w.take v.length=w by rw[y0p (by omega)]]at this
 omega
def ofM (m:MsgM):VM:=⟨m.inst.toNat,m.side,m.lv,m.implied⟩
def toM (seq:Int) (m:VM):MsgM:=⟨seq,m.inst,m.side,m.l.price,m.l.qty,m.l.count,m.imp⟩
theorem yXi (seq:Int) (m:VM):ofM (toM seq m)=m:=rfl
theorem z3n:∀{M:List VM} {seq:Int} {k:Nat} {x:VM},M[k]? =am x→(vF seq M)[k]? =am (toM (seq+k+1) x)
 |[],seq,k,x,h=>by cases h
 |m::M,seq,0,x,h=>by
  cases h
  rw[vF,y2b,Int.natCast_zero,Int.add_zero];rfl
 |m::M,seq,k+1,x,h=>by
  rw[vF,y1r,z3n (M:=M) (by simpa using h)]
  congr 2
  omega
theorem z5y:∀(M:List VM) (seq:Int),(vF seq M).length=M.length
 |[],_=>rfl
 |m::M,seq=>by rw[vF,y0f,y0f,z5y M]
def zZr (v:Vw):Prop:=∀p∈v,fT 1 p.1.levels∧fT 2 p.2.levels
def z7w (n:Nat) (v:Vw):Prop:=∀p∈v,p.1.levels.length≤n∧p.2.levels.length≤n
theorem z5d (s:Int) (m:Lv):∀L:List Lv,(c8 s L m).length≤L.length+1
 |[]=>by rw[c8];split<;>simp
 |x::L=>by
  have:=z5d s m L
  rw[c8]
  split
  ·split
   ·rw[y0f];omega
   ·simp
  ·split
   ·split<;>simp
   ·rw[y0f,y0f];omega
theorem z3w {v:Vw} {m:VM} {q:Sd×Sd} (h:q∈dA v m):q∈v∨∃p∈v,q=cB p m:=by
 rw[dA]at h
 obtain⟨k,hk⟩:=y2q.1 h
 rw[y3j]at hk
 cases e:v[k]? with
 |none=>rw[e]at hk;cases hk
 |some x=>
  rw[e]at hk
  have hx:=y0g e
  have hk:(if m.inst=k then cB x m else x)=q:=Option.some.inj hk
  split at hk
  ·exact .inr ⟨x,hx,hk.symm⟩
  ·exact .inl (hk▸hx)
theorem yKh {v:Vw} {m:VM} (h:zZr v):zZr (dA v m):=fun q hq=>by
 rcases z3w hq with hq|⟨p,hp,rfl⟩
 ·exact h q hq
 ·obtain⟨h1,h2⟩:=h p hp
  rw[cB]
  split
  ·refine⟨?_,h2⟩
   rw[jX]
   split
   ·split<;>exact h1
   ·exact zJm h1
  ·refine⟨h1,?_⟩
   rw[jX]
   split
   ·split<;>exact h2
   ·exact zJm h2
theorem yLq {v:Vw} {m:VM} {n:Nat} (h:z7w n v):z7w (n+1) (dA v m):=fun q hq=>by
 rcases z3w hq with hq|⟨p,hp,rfl⟩
 ·have:=h q hq;omega
 ·obtain⟨h1,h2⟩:=h p hp
  have key:∀s (x:Sd),x.levels.length≤n→(jX s x m).levels.length≤n+1:=fun s x hx=>by
   rw[jX]
   split
   ·split<;>exact Nat.le_succ_of_le hx
   ·have:=z5d s m.l x.levels
    show(c8 s x.levels m.l).length≤n+1
    omega
  rw[cB]
  split
  ·exact⟨key 1 p.1 h1,Nat.le_succ_of_le h2⟩
  ·exact⟨Nat.le_succ_of_le h1,key 2 p.2 h2⟩
theorem z6b {s:Int} {x:Sd} {m:MsgM} (hs:fT s x.levels) (hq:0≤m.qty):zIo s x m=jX s x (ofM m):=by
 rw[zIo,jX]
 show(if m.implied=ag then _ else _)=(if m.implied=ag then _ else _)
 split
 ·rfl
 ·rw[zQl (m:=m.lv) hq hs];rfl
theorem yTh {v:Vw} {m:MsgM} (hs:zZr v) (hf:m.fine v.length=0):apV v m=dA v (ofM m):=by
 obtain⟨_,f3,f4,_⟩:=zDt hf
 rw[apV,dA]
 apply y3a
 intro k
 rw[y3j,y3j]
 cases e:v[k]? with
 |none=>rfl
 |some x=>
  obtain⟨h1,h2⟩:=hs x (y0g e)
  show am (if m.inst.toNat=k then _ else x)=am (if m.inst.toNat=k then cB x (ofM m)else x)
  congr 1
  split
  ·rw[cB,z6b h1 f4.1,z6b h2 f4.1];rfl
  ·rfl
theorem yJn {n:Nat} {m:VM} (h:zXa n m) (seq:Int):(toM seq m).fine n=0:=by
 obtain⟨h1,h2,h3,h4,_⟩:=h
 rw[MsgM.fine]
 show(if(m.inst:Int)<0∨(n:Int)≤(m.inst:Int)then _ else if m.side≠1∧m.side≠2 then _ else if(m.l.qty<0∨m.l.count<0)∨¬(m.l.qty=0↔m.l.count=0)then _ else _)=_
 rw[yZx (by omega),yZx (by omega),yZx]
 rintro(x|x)
 ·omega
 ·exact x h4
def atV (c:Vw) (L:List VM) (k:Nat):Vw:=(L.take k).foldl dA c
theorem yNs (c:Vw) (L:List VM):atV c L 0=c:=by rw[atV,y3x];rfl
theorem zWx {c:Vw} {L:List VM} {k:Nat} {m:VM} (h:L[k]? =am m):atV c L (k+1)=dA (atV c L k) m:=by
 rw[atV,y1i,h,y3f,y5o];rfl
theorem yHs (c:Vw) (L:List VM):atV c L L.length=L.foldl dA c:=by rw[atV,y3n]
theorem yFu {c:Vw} (hs:zZr c) {n:Nat} (hl:z7w n c) (L:List VM):∀k,k≤L.length→zZr (atV c L k)∧z7w (n+k) (atV c L k)∧(atV c L k).length=c.length
 |0,_=>by rw[yNs];exact⟨hs,hl,rfl⟩
 |k+1,h=>by
  obtain⟨m,hm⟩:=z8 (l:=L) (i:=k) (by omega)
  obtain⟨h1,h2,h3⟩:=yFu hs hl L k (by omega)
  rw[zWx hm]
  exact⟨yKh h1,yLq h2,by rw[yHt,h3]⟩
theorem yRz {v:Vw} (h:z8e v):zZr v:=fun p hp=>⟨(h p hp).1.1,(h p hp).2.1⟩
theorem yPa {p:Prd} {v:Vw} (h:VwG p v):z7w 255 v:=fun b hb=>⟨(h.r.1 b hb).1.2.1,(h.r.1 b hb).2.2.1⟩
theorem z8t {v:Vw} {n:Nat} (h:z7w n v) (hn:n≤1000000) (hl:v.length≤1000000):qC v:=⟨by omega,fun b hb=>by have:=h b hb;omega⟩
theorem yYh {p:Prd} {c:Vw} (h:VwG p c) {L:List VM} (hL:L.length≤600000) {k:Nat} (hk:k≤L.length):zZr (atV c L k)∧qC (atV c L k)∧(atV c L k).length=p.count:=by
 obtain⟨h1,h2,h3⟩:=yFu (yRz (zAm h.r)) (yPa h) L k hk
 have:=h.r.2
 exact⟨h1,z8t h2 (by omega) (by omega),by rw[h3,h.len]⟩
theorem yKf {p:Prd} {c:Vw} (h:VwG p c) {L:List VM} (hL:L.length≤600000) (hm:∀m∈L,zXa p.count m) {k:Nat} {x:VM} (hx:L[k]? =am x) (seq:Int):
 (toM seq x).fine (atV c L k).length=0∧(atV c L k).length≤1000000∧qC (atV c L k)∧apV (atV c L k) (toM seq x)=atV c L (k+1):=by
 have hk:=(yZz.1 hx).1
 obtain⟨h1,h2,h3⟩:=yYh h hL (k:=k) (by omega)
 have hf:=yJn (hm x (y0g hx)) seq
 have:=xQ p
 rw[← h3]at hf
 exact⟨hf,by omega,h2,by rw[yTh h1 hf,yXi,zWx hx]⟩
open Go Cv Go.Proofs
def known19C:Con:=con1 Unit (fun _=>[]) (fun _=>[]) (fun _=>True) (fun _=>yF ag) (fun _=>[])
open Go Cv Go.Proofs
def wK (a:Int):Prop:=sb [(67:UInt8),(76:UInt8)]=sb [(67:UInt8),(76:UInt8)]∧True∧(5:Int)=(5:Int)∧(0:Int)=(0:Int)∧(1000:Int)=(1000:Int)∧(200:Int)=(200:Int)∧a=a∧(4:Int)=(4:Int)∧(2:Int)=(2:Int)∧(40:Int)=(40:Int)∧True∧True
def fD (a:DvI):Prop:=af a.v=af a.w∧((-4000000000000000000)≤a.seq∧a.seq≤4000000000000000000)∧a.v.levs≤100000000∧a.w.levs≤100000000∧af a.v≤1000000
def kB (a:DvI):=(aa qJ (vF a.seq (yN 0 a.v a.w)))
def qY (a:DvI):=(↑(kB a).length:Int)
def tD (a:Int) (b:Mkt) (c:LkI):Prop:=∃(d:LkI),sb d.p.code=sb [(67:UInt8),(76:UInt8)]∧iE d.p.months=iE [(320:Int),(321:Int),(323:Int)]∧d.p.tick=5∧d.p.low=0∧d.p.high=1000∧d.p.wide=200∧d.p.rule=a∧d.p.top=4∧d.p.least=2∧d.p.part=40∧iE d.p.settle=iE [(500:Int),(505:Int),(490:Int)]∧zF d.s=zF b.s∧(d.s.Rep d.p d.B∧BOk d.p d.B)∧∀(e:Unit),True→∃(f:DvI),aa zB f.v=aa zB (qT c.p c.B)∧aa zB f.w=aa zB (qT d.p d.B)∧f.seq=40∧(fD f)∧∀(g:Unit),True→cnd ((↑(aa zB (qT c.p c.B)).length:Int)==6) (cnd ((qY f)==1) (((0:Int)≤(0:Int)∧0<(qY f))∧∃(h:Int),∃(j:Int),∃(k:Int),∃(l:Int),∃(m:Int),∃(n:Int),∃(p:Bool),zE (kB f) (Int.toNat 0) 0 7=am [dI h,dI j,dI k,dI l,dI m,dI n,D.v (.bool p)]∧cnd (h==41 && (j==0 && (k==1 && (l==5 && (m==3 && (n==1 && (p==aj && ag))))))) (∃(q:zMe),aa zB q.v=aa zB (qT c.p c.B)∧aa zB q.w=aa zB (qT d.p d.B)∧(hU q)∧∀(r:Unit),True→cnd (!lW q.v q.w) (∃(s:DvI),aa zB s.v=aa zB (qT d.p d.B)∧aa zB s.w=aa zB (qT d.p d.B)∧s.seq=0∧(fD s)∧∀(t:Unit),True→∃(u:Unit),ag=((qY s)==0)∧True) (∃(s:Unit),ag=aj∧True)) (∃(q:Unit),ag=aj∧True)) (∃(h:Unit),ag=aj∧True)) (∃(h:Unit),ag=aj∧True)
def sI (a:Int) (b:Mkt) (c:LkI):Prop:=(wK a)∧tD a b c
def jB (a:Mkt):Prop:=a.s.books.length≤1000000∧∀(b:Book),b∈a.s.books→wO b
def cY (a:EnI):Prop:=(a.m.Rep a.p a.B a.U∧BOk a.p a.B)∧a.c.label.length≤140737488355328∧((-9223372036854775808)≤a.c.qty∧a.c.qty≤9223372036854775807)∧a.X=doF a.p a.B a.U a.c
def zAs (a:Int) (b:Mkt):Prop:=∃(c:LkI),sb c.p.code=sb [(67:UInt8),(76:UInt8)]∧iE c.p.months=iE [(320:Int),(321:Int),(323:Int)]∧c.p.tick=5∧c.p.low=0∧c.p.high=1000∧c.p.wide=200∧c.p.rule=a∧c.p.top=4∧c.p.least=2∧c.p.part=40∧iE c.p.settle=iE [(500:Int),(505:Int),(490:Int)]∧zF c.s=zF b.s∧(c.s.Rep c.p c.B∧BOk c.p c.B)∧∀(d:Unit),True→∃(e:EnI),e.c.kind=1∧e.c.id=7∧e.c.inst=0∧e.c.side=1∧e.c.price=5∧e.c.qty=3∧e.c.least=0∧e.c.time=1∧sb e.c.label=ByteArray.mk #[]∧fS e.m=fS b∧(cY e)∧∀(f:Mkt),f.Rep e.p e.X.B e.X.U→(∃(g:Mkt),fS g=fS f∧(jB g)∧∀(h:Unit),True→(wK a)∧(tD a g c)∧sI a g c)∧(wK a)∧∃(g:Mkt),fS g=fS f∧(jB g)∧∀(h:Unit),True→sI a g c
def zAv (a:Int) (b:Mkt):Prop:=(wK a)∧zAs a b
def zWe (u:Unit):Prop:=
 ∃(a:Int),a=1∧True∧∀(b:Unit),True→∃(c:Prd),sb c.code=sb [(67:UInt8),(76:UInt8)]∧iE c.months=iE [(320:Int),(321:Int),(323:Int)]∧c.tick=5∧c.low=0∧c.high=1000∧c.wide=200∧c.rule=a∧c.top=4∧c.least=2∧c.part=40∧iE c.settle=iE [(500:Int),(505:Int),(490:Int)]∧(zY c)∧(∀(d:Unit),c.check=0→(∃(e:Mkt),fS e=fS (Mkt.mk c (mF c) [])∧(jB e)∧∀(f:Unit),True→(wK a)∧(zAs a e)∧zAv a e)∧(wK a)∧∃(e:Mkt),fS e=fS (Mkt.mk c (mF c) [])∧(jB e)∧∀(f:Unit),True→zAv a e)∧∀(d:Unit),c.check≠0→∃(e:Unit),ag=aj∧True
open Go Cv Go.Proofs
theorem zVr:∀{v:Vw} {b:Sd×Sd},b∈v→b.1.levels.length+b.2.levels.length≤Vw.levs v
 |x::v,b,h=>by
  rw[Vw.levs,y0l,y1l]
  rcases y0m.1 h with rfl|h
  ·omega
  ·have:=zVr h
   rw[Vw.levs]at this
   omega
theorem zNw {v:Vw} (h:v.length≤1000000) (hl:Vw.levs v≤100000000):qC v:=⟨by omega,fun b hb=>by have:=zVr hb;omega⟩
def yVk:Cmd:=⟨1,7,0,1,5,3,0,1,[]⟩
def zSt:List (List zK):=List.replicate (wB 1).count []
def kX19:MkX:=doF (wB 1) zSt [] yVk
def kV0:Vw:=qT (wB 1) zSt
def kV1:Vw:=qT (wB 1) kX19.B
theorem yUf:yN 0 kV0 kV1=[⟨0,1,⟨5,3,1⟩,aj⟩]:=by kernel_rfl
theorem kl0:Vw.levs kV0≤100000000:=by decide+kernel
theorem kl1:Vw.levs kV1≤100000000:=by decide+kernel
theorem kn0:kV0.length=6:=by rw[kV0,m9];decide+kernel
theorem kn1:kV1.length=6:=by rw[kV1,m9];decide+kernel
open Classical in
theorem kne:lW kV0 kV1=aj:=y0k fun e=>by
 have:=yUf
 rw[e,zJl]at this
 cases this
theorem yAv (u:Unit) (h:known19C.cnd u):zWe u:=by
 have hc:(wB 1).check=0:=by decide+kernel
 have hp:(wB 1).small:=by refine⟨?_,?_,?_⟩<;>decide
 have hB0:BOk (wB 1) zSt:=BOk.new hc hp
 have hM0:(mk0 (wB 1)).Rep (wB 1) zSt []:=z4u (wB 1)
 have hB1:BOk (wB 1) kX19.B:=yBj (hM0.s.wf hB0) _ _
 have hs0:=hM0.s.small hB0
 have s0:qC kV0:=zNw (by rw[kn0];decide) kl0
 have s1:qC kV1:=zNw (by rw[kn1];decide) kl1
 unfold zWe zAv zAs cY jB wO sI tD qY kB fD hU wN wK zY dI
 refine⟨1,rfl,trivial,fun _ _=>⟨wB 1,rfl,rfl,rfl,rfl,rfl,rfl,rfl,rfl,rfl,rfl,rfl,hp,fun _ _=> ?_,fun _ hx=>absurd hc hx⟩⟩
 refine(fun hT=>⟨⟨mk0 (wB 1),rfl,hs0,fun _ _=>⟨⟨rfl,trivial,rfl,rfl,rfl,rfl,rfl,rfl,rfl,rfl,trivial,trivial⟩,⟨⟨(mk0 (wB 1)).s,wB 1,zSt⟩,rfl,rfl,rfl,rfl,rfl,rfl,rfl,rfl,rfl,rfl,rfl,rfl,⟨hM0.s,hB0⟩,fun _ _=>hT⟩,⟨rfl,trivial,rfl,rfl,rfl,rfl,rfl,rfl,rfl,rfl,trivial,trivial⟩,⟨⟨(mk0 (wB 1)).s,wB 1,zSt⟩,rfl,rfl,rfl,rfl,rfl,rfl,rfl,rfl,rfl,rfl,rfl,rfl,⟨hM0.s,hB0⟩,fun _ _=>hT⟩⟩⟩,
  ⟨rfl,trivial,rfl,rfl,rfl,rfl,rfl,rfl,rfl,rfl,trivial,trivial⟩,⟨mk0 (wB 1),rfl,hs0,fun _ _=>⟨⟨rfl,trivial,rfl,rfl,rfl,rfl,rfl,rfl,rfl,rfl,trivial,trivial⟩,⟨⟨(mk0 (wB 1)).s,wB 1,zSt⟩,rfl,rfl,rfl,rfl,rfl,rfl,rfl,rfl,rfl,rfl,rfl,rfl,⟨hM0.s,hB0⟩,fun _ _=>hT⟩⟩⟩⟩) ?_
 refine⟨⟨mk0 (wB 1),wB 1,zSt,[],yVk,kX19⟩,rfl,rfl,rfl,rfl,rfl,rfl,rfl,rfl,rfl,rfl,⟨⟨hM0,hB0⟩,by dsimp only;decide,by dsimp only;decide,by dsimp only;rw[kX19]⟩,fun o ho=> ?_⟩
 have hs1:=ho.s.small hB1
 refine(fun hT=>⟨⟨o,rfl,hs1,fun _ _=>⟨⟨rfl,trivial,rfl,rfl,rfl,rfl,rfl,rfl,rfl,rfl,trivial,trivial⟩,⟨⟨o.s,wB 1,kX19.B⟩,rfl,rfl,rfl,rfl,rfl,rfl,rfl,rfl,rfl,rfl,rfl,rfl,⟨ho.s,hB1⟩,fun _ _=>hT⟩,⟨rfl,trivial,rfl,rfl,rfl,rfl,rfl,rfl,rfl,rfl,trivial,trivial⟩,⟨⟨o.s,wB 1,kX19.B⟩,rfl,rfl,rfl,rfl,rfl,rfl,rfl,rfl,rfl,rfl,rfl,rfl,⟨ho.s,hB1⟩,fun _ _=>hT⟩⟩⟩,
  ⟨rfl,trivial,rfl,rfl,rfl,rfl,rfl,rfl,rfl,rfl,trivial,trivial⟩,⟨o,rfl,hs1,fun _ _=>⟨⟨rfl,trivial,rfl,rfl,rfl,rfl,rfl,rfl,rfl,rfl,trivial,trivial⟩,⟨⟨o.s,wB 1,kX19.B⟩,rfl,rfl,rfl,rfl,rfl,rfl,rfl,rfl,rfl,rfl,rfl,rfl,⟨ho.s,hB1⟩,fun _ _=>hT⟩⟩⟩⟩) ?_
 refine⟨⟨kV0,kV1,40⟩,rfl,rfl,rfl,⟨by dsimp only;rw[kn0,kn1],by dsimp only;decide,kl0,kl1,by dsimp only;rw[kn0];decide⟩,fun _ _=> ?_⟩
 have hn:((qT (wB 1) zSt).map zB).length=6:=by rw[y0a];exact kn0
 dsimp only
 rw[hn,yUf]
 refine Cv.cnd.mk (fun _=>Cv.cnd.mk (fun _=>⟨⟨by decide,by decide⟩,_,_,_,_,_,_,_,rfl,Cv.cnd.mk (fun _=>⟨⟨kV0,kV1⟩,rfl,rfl,⟨s0,s1⟩,fun _ _=> ?_⟩) (fun e=>absurd e (by decide))⟩) (fun e=>absurd e (by decide))) (fun e=>absurd e (by decide))
 dsimp only
 rw[kne]
 refine Cv.cnd.mk (fun _=>⟨⟨kV1,kV1,0⟩,rfl,rfl,rfl,⟨rfl,by dsimp only;decide,kl1,kl1,by dsimp only;rw[kn1];decide⟩,fun _ _=>⟨(),?_,trivial⟩⟩) (fun e=>absurd e (by decide))
 dsimp only
 rw[zJl];rfl
theorem known19_ok:known19C.ok Tryz.prog 17:=okw mixed (gokc z9s (gokc z3v (gokc zVd (gokc z6c (gokc yMl (gokc fdiff_ok (gokc fsame_ok gok0))))))) 0 (fun _=>[]) (fun _=>[]) [] Tryz.func17 yAv
open Go Cv Go.Proofs
@[reducible] def tE:Nat:=34
def vwE (v:Vw):List D:=[.ro 10 (v.map zB)]
structure VsI where
 p:Prd
 l:List Cmd
structure VsJ where
 m:Mkt
 k:Nat
 V:List Vw
def viewsC:Con where
 ι:=VsI
 pat:=fun i=>[prdV i.p,roV 9 (i.l.map cmdE)]
 pre:=fun _=>[]
 cnd:=fun i=>i.p.check=0∧i.p.small∧(∀c∈i.l,c.raw)∧i.l.length≤9223372036854775807
 alts:=fun i=>[{o:=List Vw,res:=fun _=> .own 0,post:=fun V=>[.own tE 1 (V.map vwE)],rel:=fun V=>V≠[]∧V.length≤31∧∀v∈V,VwG i.p v}]
def yQb:List SAnn:=[{ι:=VsJ,slots:=fun j=>[(5,.nm 0 0),(7,.own 1),(8,zA j.k)],rows:=fun j=>[fS j.m,.own tE 1 (j.V.map vwE)]}]
def yPr:List (Nat×SAnn):=[(24,bj 32)]
structure VkJ where
 v:Vw
 k:Nat
structure FtI where
 x:Prd
 l:List Cmd
 a:Int
 b:Int
 seq:Int
 back:Bool
@[reducible] def FtI.ok (i:FtI):Prop:=i.x.raw∧(∀c∈i.l,c.raw)∧i.l.length≤9223372036854775807∧yO i.a∧yO i.b∧yO i.seq
def ftC:Con:=con1 FtI (fun i=>[prdV i.x,roV 9 (i.l.map cmdE),zA i.a,zA i.b,zA i.seq,yF i.back]) (fun _=>[]) (fun i=>i.ok) (fun _=>yF ag) (fun _=>[])
def ftA:List SAnn:=[{ι:=VkJ,slots:=fun j=>[(18,.nm 0 0),(19,zA j.k)],rows:=fun j=>[.cells [roV 10 (j.v.map zB)] tE]}]
def ftJ:List (Nat×SAnn):=[(66,ij 20),(92,bj 124)]
end Sx
