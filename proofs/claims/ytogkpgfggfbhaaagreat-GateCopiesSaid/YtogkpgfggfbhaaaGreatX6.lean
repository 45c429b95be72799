/- Texts of ours, one behind the other: a walk that the kernel reckons, and contracts of functions. No condition. -/
import Derived.Test.YtogkpgfggfbhaaaGreatX5
namespace Sx
set_option linter.unusedVariables false
set_option maxRecDepth 100000
open Go Cv Go.Proofs
def zUj (i:I3'):Prop:=
 cnd (i.side==1) (∃(a:Unit),btr i.side i.x i.y=decide (i.x>i.y)∧True) (∃(a:Unit),btr i.side i.x i.y=decide (i.x<i.y)∧True)
def yBm (s:Slot):Prop:=
 ∃(a:Unit),(!s.used)=!s.used∧True
def zUq (l:List Slot):Prop:=
 ∃(a:Nat),(↑a:Int)=0∧∃(b:Nat→Prop),∃(c:Nat→Nat),b a∧∀(d:Nat),b d→cnd (decide ((↑d:Int)<(↑(List.map zP l).length:Int))) ((0≤(↑d:Int)∧(↑d:Int)<(↑(List.map zP l).length:Int))∧∃(e:Bool),∃(f:Int),∃(g:Int),∃(h:Int),∃(j:Bool),∃(k:Int),∃(m:Int),∃(n:Int),zE (List.map zP l) (↑d:Int).toNat 0 8=some [D.v (.bool e),dI f,dI g,dI h,D.v (.bool j),dI k,dI m,dI n]∧∃(p:Slot),p.used=e∧p.n=f∧p.id=g∧p.qty=h∧p.top=j∧p.queue=k∧p.ahead=m∧p.back=n∧True∧∀(q:Unit),True→cnd (!p.used) (∃(r:Unit),qV l=(↑d:Int)∧List.map zP l=List.map zP l∧True) (∃(r:Nat),(↑r:Int)=IntKind.i64.wrap ((↑d:Int)+1)∧b r∧c r<c d∧AObj.own 305 8 (List.map zP l)=AObj.own 305 8 (List.map zP l))) (∃(e:Unit),qV l=(-1)∧List.map zP l=List.map zP l∧True)
def z8r (a:Arena):Prop:=
 ((List.map zN a.queues).length+1)*(32:Nat)≤(70368744177664:Nat)∧∃(b:Unit),(↑a.queues.length:Int)=IntKind.i64.wrap ((↑(List.map zN a.queues++[[dI (-1),dI (-1),dI 0,dI 0]]).length:Int)-1)∧a.free=a.free∧List.map zP a.slots=List.map zP a.slots∧List.map zN (a.queues++[cY])=List.map zN a.queues++[[dI (-1),dI (-1),dI 0,dI 0]]∧True
def sL (a:z4o):Prop:=∃(b:Unit),(if a.a.usedAt a.n=true then(0:Int)else(26:Int))=26∧(a.a.topF a.n a.t).free=a.a.free∧List.map zP (a.a.topF a.n a.t).slots=List.map zP a.a.slots∧List.map zN (a.a.topF a.n a.t).queues=List.map zN a.a.queues∧True
def yGg (i:z4o):Prop:=
 cnd (decide (i.n<0)) (sL i) (cnd (decide (i.n≥(↑(List.map zP i.a.slots).length:Int))) (sL i) ((0≤i.n∧i.n<(↑(List.map zP i.a.slots).length:Int))∧∃(a:Bool),zE (List.map zP i.a.slots) i.n.toNat ((0:Nat)+(0:Nat)) 1=some [D.v (.bool a)]∧cnd (!a) (sL i) ((0≤i.n∧i.n<(↑(List.map zP i.a.slots).length:Int))∧i.n.toNat<(List.map zP i.a.slots).length∧∃(b:Unit),(if i.a.usedAt i.n=true then(0:Int)else(26:Int))=0∧(i.a.topF i.n i.t).free=i.a.free∧List.map zP (i.a.topF i.n i.t).slots=yC (List.map zP i.a.slots) i.n.toNat ((0:Nat)+(1:Nat)+3) [D.v (.bool i.t)]∧List.map zN (i.a.topF i.n i.t).queues=List.map zN i.a.queues∧True)))
def yF (a:PuI):=(a.a.push a.n a.id a.qty a.top)
def nQ (a:PuI):Prop:=(yF a).fst.free=a.a.free∧List.map zP (yF a).fst.slots=List.map zP a.a.slots∧List.map zN (yF a).fst.queues=List.map zN a.a.queues∧True
def eX (a:PuI):Prop:=∃(b:Unit),(yF a).snd.fst=0∧(yF a).snd.snd=26∧nQ a
def eL (a:PuI):Prop:=∃(b:Unit),(yF a).snd.fst=0∧(yF a).snd.snd=24∧nQ a
def nT (a:PuI) (b:List Slot):=(yC (yC (List.map zN a.a.queues) a.n.toNat ((0:Nat)+(0:Nat)) [dI (qV b)]) a.n.toNat ((0:Nat)+(1:Nat)) [dI (qV b)])
def nH (a:PuI) (b:List Slot) (c:Int):=(yC (nT a b) a.n.toNat ((0:Nat)+(2:Nat)) [dI (IntKind.i64.wrap (c+a.qty))])
def nD (a:PuI) (b:List Slot):=(yC (List.map zN a.a.queues) a.n.toNat ((0:Nat)+(1:Nat)) [dI (qV b)])
def mV (a:PuI) (b:List Slot) (c:Int):=(yC (nD a b) a.n.toNat ((0:Nat)+(2:Nat)) [dI (IntKind.i64.wrap (c+a.qty))])
def yAt (i:PuI):Prop:=
 cnd (decide (i.n≥0)) (cnd (!decide (i.n<(↑(List.map zN i.a.queues).length:Int))) (eX i) (cnd (decide (i.qty<1)) (eL i) (cnd (decide (i.qty>1000000)) (eL i) (cnd (i.a.free==0) (∃(a:Unit),(yF i).snd.fst=0∧(yF i).snd.snd=13∧nQ i) (∃(a:List Slot),List.map zP a=List.map zP i.a.slots∧a.length≤1000000∧∀(b:Unit),True→(0≤i.n∧i.n<(↑(List.map zN i.a.queues).length:Int))∧∃(c:Int),zE (List.map zN i.a.queues) i.n.toNat ((0:Nat)+(1:Nat)) 1=some [dI c]∧(0≤qV a∧qV a<(↑(List.map zP a).length:Int))∧(qV a).toNat<(List.map zP a).length∧∃(d:Int),zE (List.map zN i.a.queues) i.n.toNat ((0:Nat)+(1:Nat)) 1=some [dI d]∧cnd (d==(-1)) (i.n.toNat<(List.map zN i.a.queues).length∧i.n.toNat<(yC (List.map zN i.a.queues) i.n.toNat ((0:Nat)+(0:Nat)) [dI (qV a)]).length∧∃(e:Int),zE (nT i a) i.n.toNat ((0:Nat)+(2:Nat)) 1=some [dI e]∧i.n.toNat<(nT i a).length∧∃(f:Int),zE (nH i a e) i.n.toNat ((0:Nat)+(3:Nat)) 1=some [dI f]∧i.n.toNat<(nH i a e).length∧∃(g:Unit),(yF i).snd.fst=qV a∧(yF i).snd.snd=0∧(yF i).fst.free=IntKind.i64.wrap (i.a.free-1)∧List.map zP (yF i).fst.slots=yC (List.map zP a) (qV a).toNat 0 [D.v (.bool true),dI (qV a),dI i.id,dI i.qty,D.v (.bool i.top),dI i.n,dI c,dI (-1)]∧List.map zN (yF i).fst.queues=yC (nH i a e) i.n.toNat ((0:Nat)+(3:Nat)) [dI (IntKind.i64.wrap (f+1))]∧True) (∃(e:Int),zE (List.map zN i.a.queues) i.n.toNat ((0:Nat)+(1:Nat)) 1=some [dI e]∧(0≤e∧e<(↑(yC (List.map zP a) (qV a).toNat 0 [D.v (.bool true),dI (qV a),dI i.id,dI i.qty,D.v (.bool i.top),dI i.n,dI c,dI (-1)]).length:Int))∧e.toNat<(yC (List.map zP a) (qV a).toNat 0 [D.v (.bool true),dI (qV a),dI i.id,dI i.qty,D.v (.bool i.top),dI i.n,dI c,dI (-1)]).length∧i.n.toNat<(List.map zN i.a.queues).length∧∃(f:Int),zE (nD i a) i.n.toNat ((0:Nat)+(2:Nat)) 1=some [dI f]∧i.n.toNat<(nD i a).length∧∃(g:Int),zE (mV i a f) i.n.toNat ((0:Nat)+(3:Nat)) 1=some [dI g]∧i.n.toNat<(mV i a f).length∧∃(h:Unit),(yF i).snd.fst=qV a∧(yF i).snd.snd=0∧(yF i).fst.free=IntKind.i64.wrap (i.a.free-1)∧List.map zP (yF i).fst.slots=yC (yC (List.map zP a) (qV a).toNat 0 [D.v (.bool true),dI (qV a),dI i.id,dI i.qty,D.v (.bool i.top),dI i.n,dI c,dI (-1)]) e.toNat ((0:Nat)+(7:Nat)) [dI (qV a)]∧List.map zN (yF i).fst.queues=yC (mV i a f) i.n.toNat ((0:Nat)+(3:Nat)) [dI (IntKind.i64.wrap (g+1))]∧True)))))) (eX i)
def xM (a:BkP):=(↑(zU 1 (a.b.rungs 1) a.price):Int)
def wU (a:BkP):=(↑(List.map zB a.b.buys).length:Int)
def gY (a:BkP):Prop:=a.b.top1=a.b.top1∧a.b.top2=a.b.top2∧a.b.has1=a.b.has1∧a.b.has2=a.b.has2∧AObj.adt Arena 3 zG a.b.a=zQ a.b 1∧List.map zB a.b.buys=List.map zB a.b.buys∧List.map zB a.b.sells=List.map zB a.b.sells∧atE a.b.at_=atE a.b.at_∧iE a.b.spare=iE a.b.spare∧True
def zDp (a:Nat) (b:BkP):Prop:=(0≤(↑a:Int)∧(↑a:Int)<(wU b))∧∃(c:Int),zE (List.map zB b.b.buys) (↑a:Int).toNat ((0:Nat)+(0:Nat)) 1=some [dI c]∧∃(d:Unit),(xM b)=(↑a:Int)∧qX 1 (b.b.rungs 1) b.price=(c==b.price)∧gY b
def zCu (a:BkP) (b:Nat):Prop:=∃(c:Unit),(xM a)=(↑b:Int)∧qX 1 (a.b.rungs 1) a.price=false∧gY a
def m8 (a:Nat) (b:Nat→Prop) (c:Nat→Nat) (d:BkP):Prop:=∃(e:Nat),(↑e:Int)=IntKind.i64.wrap ((↑a:Int)+1)∧b e∧c e<c a∧zQ d.b 0=zQ d.b 0∧zQ d.b 1=zQ d.b 1∧zQ d.b 2=zQ d.b 2∧zQ d.b 3=zQ d.b 3∧zQ d.b 4=zQ d.b 4∧zQ d.b 5=zQ d.b 5
def aZ (a:Nat) (b:BkP):=(decide ((↑a:Int)<(wU b)))
def z9i (i:BkP):Prop:=
 ∃(a:Nat),(↑a:Int)=0∧∃(b:Nat→Prop),∃(c:Nat→Nat),b a∧∀(d:Nat),b d→cnd (aZ d i) ((0≤(↑d:Int)∧(↑d:Int)<(wU i))∧∃(e:Int),zE (List.map zB i.b.buys) (↑d:Int).toNat ((0:Nat)+(0:Nat)) 1=some [dI e]∧∃(f:I3'),f.side=1∧f.x=e∧f.y=i.price∧True∧∀(g:Unit),True→cnd (btr f.side f.x f.y) (m8 d b c i) (cnd (aZ d i) (zDp d i) (zCu i d))) (cnd (aZ d i) (zDp d i) (zCu i d))
def xN (a:BkP):=(↑(zU 2 (a.b.rungs 2) a.price):Int)
def wS (a:BkP):=(↑(List.map zB a.b.sells).length:Int)
def zEa (a:Nat) (b:BkP):Prop:=(0≤(↑a:Int)∧(↑a:Int)<(wS b))∧∃(c:Int),zE (List.map zB b.b.sells) (↑a:Int).toNat ((0:Nat)+(0:Nat)) 1=some [dI c]∧∃(d:Unit),(xN b)=(↑a:Int)∧qX 2 (b.b.rungs 2) b.price=(c==b.price)∧gY b
def zDw (a:BkP) (b:Nat):Prop:=∃(c:Unit),(xN a)=(↑b:Int)∧qX 2 (a.b.rungs 2) a.price=false∧gY a
def a9 (a:Nat) (b:BkP):=(decide ((↑a:Int)<(wS b)))
def z7z (i:BkP):Prop:=
 ∃(a:Nat),(↑a:Int)=0∧∃(b:Nat→Prop),∃(c:Nat→Nat),b a∧∀(d:Nat),b d→cnd (a9 d i) ((0≤(↑d:Int)∧(↑d:Int)<(wS i))∧∃(e:Int),zE (List.map zB i.b.sells) (↑d:Int).toNat ((0:Nat)+(0:Nat)) 1=some [dI e]∧∃(f:I3'),f.side=2∧f.x=e∧f.y=i.price∧True∧∀(g:Unit),True→cnd (btr f.side f.x f.y) (m8 d b c i) (cnd (a9 d i) (zEa d i) (zDw i d))) (cnd (a9 d i) (zEa d i) (zDw i d))
def g9 (a:LdI):Prop:=List.map zB a.b.buys=List.map zB a.b.buys∧List.map zB a.b.sells=List.map zB a.b.sells∧atE a.b.at_=atE a.b.at_∧iE a.b.spare=iE a.b.spare∧True
def nC (a:LdI):Prop:=∃(b:Unit),a.id=a.id∧a.b.top2=a.b.top2∧true=true∧a.b.has2=a.b.has2∧AObj.adt Arena 3 zG (a.b.untop 1)=zQ a.b 1∧g9 a
def lG (a:LdI) (b:Int) (c:Int) (d:Int) (e:Bool):Prop:=qK (Value.int IntKind.i64 a.b.top1) (atE a.b.at_)=some [dI b,dI c,dI d]∧e=true∨qK (Value.int IntKind.i64 a.b.top1) (atE a.b.at_)=none∧[dI b,dI c,dI d]=[dI 0,dI 0,dI 0]∧e=false
def lN (a:LdI):Prop:=∀(b:Value×List D),b∈atE a.b.at_→like (Value.int IntKind.i64 a.b.top1) b.fst=true
def z9c (i:LdI):Prop:=
 cnd i.b.has1 ((lN i)∧∃(a:Bool),∃(b:Int),∃(c:Int),∃(d:Int),(lG i b c d a)∧((lN i)∧∃(e:Bool),∃(f:Int),∃(g:Int),∃(h:Int),(lG i f g h e)∧(f=b∧g=c∧h=d∧True)∧e=a∧True)∧i.b.top1=i.b.top1∧True∧cnd a (cnd (b==1) (∃(e:z4o),e.n=d∧e.t=false∧AObj.adt Arena 3 zG e.a=zQ i.b 1∧e.a.slots.length≤1000000∧∀(f:Unit),True→∃(g:Unit),i.id=i.id∧i.b.top2=i.b.top2∧true=true∧i.b.has2=i.b.has2∧AObj.adt Arena 3 zG (i.b.untop 1)=AObj.adt Arena 3 zG (e.a.topF e.n e.t)∧g9 i) (nC i)) (nC i)) (nC i)
def mX (a:LdI):Prop:=∃(b:Unit),a.b.top1=a.b.top1∧a.id=a.id∧a.b.has1=a.b.has1∧true=true∧AObj.adt Arena 3 zG (a.b.untop 2)=zQ a.b 1∧g9 a
def eV (a:LdI) (b:Int) (c:Int) (d:Int) (e:Bool):Prop:=qK (Value.int IntKind.i64 a.b.top2) (atE a.b.at_)=some [dI b,dI c,dI d]∧e=true∨qK (Value.int IntKind.i64 a.b.top2) (atE a.b.at_)=none∧[dI b,dI c,dI d]=[dI 0,dI 0,dI 0]∧e=false
def eB (a:LdI):Prop:=∀(b:Value×List D),b∈atE a.b.at_→like (Value.int IntKind.i64 a.b.top2) b.fst=true
def z5a (i:LdI):Prop:=
 cnd i.b.has2 ((eB i)∧∃(a:Bool),∃(b:Int),∃(c:Int),∃(d:Int),(eV i b c d a)∧((eB i)∧∃(e:Bool),∃(f:Int),∃(g:Int),∃(h:Int),(eV i f g h e)∧(f=b∧g=c∧h=d∧True)∧e=a∧True)∧i.b.top2=i.b.top2∧True∧cnd a (cnd (b==2) (∃(e:z4o),e.n=d∧e.t=false∧AObj.adt Arena 3 zG e.a=zQ i.b 1∧e.a.slots.length≤1000000∧∀(f:Unit),True→∃(g:Unit),i.b.top1=i.b.top1∧i.id=i.id∧i.b.has1=i.b.has1∧true=true∧AObj.adt Arena 3 zG (i.b.untop 2)=AObj.adt Arena 3 zG (e.a.topF e.n e.t)∧g9 i) (mX i)) (mX i)) (mX i)
def x3 (a:BkP):Prop:=(a.b.a.slots.length≤1000000∧a.b.a.queues.length≤1000000)∧a.b.buys.length≤1000000∧a.b.sells.length≤1000000∧a.b.spare.length≤1000000
def hD (a:BkP):Prop:=0≤(xM a)∧(xM a)<(wU a)
def wW (a:BkP):=((↑(iE a.b.spare).length:Int)-1)
def bJ (a:BkP):Prop:=0≤IntKind.i64.wrap (wW a)∧IntKind.i64.wrap (wW a)≤(↑(iE a.b.spare).length:Int)
def bL (a:BkP):Prop:=0≤IntKind.i64.wrap (wW a)∧IntKind.i64.wrap (wW a)<(↑(iE a.b.spare).length:Int)
def hP (a:z4e):Prop:=a.i≤a.els.length∧(a.els.length+1)*(16:Nat)≤(70368744177664:Nat)
def u7 (a:BkP):=(IntKind.i64.wrap (wW a))
def zL (a:BkP):=(a.b.queueF 1 a.price)
def z0l (i:BkP):Prop:=
 ∃(a:BkP),(1:Int)=(1:Int)∧a.price=i.price∧a.b.top1=i.b.top1∧a.b.top2=i.b.top2∧a.b.has1=i.b.has1∧a.b.has2=i.b.has2∧AObj.adt Arena 3 zG a.b.a=zQ i.b 1∧List.map zB a.b.buys=List.map zB i.b.buys∧List.map zB a.b.sells=List.map zB i.b.sells∧atE a.b.at_=atE i.b.at_∧iE a.b.spare=iE i.b.spare∧(x3 a)∧∀(b:Unit),True→cnd (qX 1 (a.b.rungs 1) a.price) ((hD a)∧∃(c:Int),zE (List.map zB a.b.buys) (xM a).toNat ((0:Nat)+(1:Nat)) 1=some [dI c]∧∃(d:Unit),(zL i).snd=c∧(zL i).fst.top1=a.b.top1∧(zL i).fst.top2=a.b.top2∧(zL i).fst.has1=a.b.has1∧(zL i).fst.has2=a.b.has2∧AObj.adt Arena 3 zG (zL i).fst.a=AObj.adt Arena 3 zG a.b.a∧List.map zB (zL i).fst.sells=List.map zB a.b.sells∧atE (zL i).fst.at_=atE a.b.at_∧List.map zB (zL i).fst.buys=List.map zB a.b.buys∧iE (zL i).fst.spare=iE a.b.spare∧True) (cnd (decide ((↑(iE a.b.spare).length:Int)>0)) ((bL a)∧∃(c:Int),zE (iE a.b.spare) (u7 a).toNat 0 1=some [dI c]∧(bJ a)∧True∧∃(d:z4e),(↑d.i:Int)=(xM a)∧d.els=List.map zB a.b.buys∧[d.el]=[[dI i.price,dI c]]∧(hP d)∧∀(e:Unit),True→∃(f:Unit),(zL i).snd=c∧(zL i).fst.top1=a.b.top1∧(zL i).fst.top2=a.b.top2∧(zL i).fst.has1=a.b.has1∧(zL i).fst.has2=a.b.has2∧AObj.adt Arena 3 zG (zL i).fst.a=AObj.adt Arena 3 zG a.b.a∧List.map zB (zL i).fst.sells=List.map zB a.b.sells∧atE (zL i).fst.at_=atE a.b.at_∧List.map zB (zL i).fst.buys=List.take d.i d.els++d.el::List.drop d.i d.els∧iE (zL i).fst.spare=List.take (u7 a).toNat (iE a.b.spare)∧True) (∃(c:Arena),AObj.adt Arena 3 zG c=AObj.adt Arena 3 zG a.b.a∧c.queues.length≤1000000∧∀(d:Unit),True→True∧∃(e:z4e),(↑e.i:Int)=(xM a)∧e.els=List.map zB a.b.buys∧[e.el]=[[dI i.price,dI (↑c.queues.length:Int)]]∧(hP e)∧∀(f:Unit),True→∃(g:Unit),(zL i).snd=(↑c.queues.length:Int)∧(zL i).fst.top1=a.b.top1∧(zL i).fst.top2=a.b.top2∧(zL i).fst.has1=a.b.has1∧(zL i).fst.has2=a.b.has2∧AObj.adt Arena 3 zG (zL i).fst.a=AObj.adt Arena 3 zG c.openQ∧List.map zB (zL i).fst.sells=List.map zB a.b.sells∧atE (zL i).fst.at_=atE a.b.at_∧List.map zB (zL i).fst.buys=List.take e.i e.els++e.el::List.drop e.i e.els∧iE (zL i).fst.spare=iE a.b.spare∧True))
def uX (a:BkP):Prop:=0≤(xN a)∧(xN a)<(wS a)
def zK (a:BkP):=(a.b.queueF 2 a.price)
def zYe (i:BkP):Prop:=
 ∃(a:BkP),(2:Int)=(2:Int)∧a.price=i.price∧a.b.top1=i.b.top1∧a.b.top2=i.b.top2∧a.b.has1=i.b.has1∧a.b.has2=i.b.has2∧AObj.adt Arena 3 zG a.b.a=zQ i.b 1∧List.map zB a.b.buys=List.map zB i.b.buys∧List.map zB a.b.sells=List.map zB i.b.sells∧atE a.b.at_=atE i.b.at_∧iE a.b.spare=iE i.b.spare∧(x3 a)∧∀(b:Unit),True→cnd (qX 2 (a.b.rungs 2) a.price) ((uX a)∧∃(c:Int),zE (List.map zB a.b.sells) (xN a).toNat ((0:Nat)+(1:Nat)) 1=some [dI c]∧∃(d:Unit),(zK i).snd=c∧(zK i).fst.top1=a.b.top1∧(zK i).fst.top2=a.b.top2∧(zK i).fst.has1=a.b.has1∧(zK i).fst.has2=a.b.has2∧AObj.adt Arena 3 zG (zK i).fst.a=AObj.adt Arena 3 zG a.b.a∧List.map zB (zK i).fst.buys=List.map zB a.b.buys∧atE (zK i).fst.at_=atE a.b.at_∧List.map zB (zK i).fst.sells=List.map zB a.b.sells∧iE (zK i).fst.spare=iE a.b.spare∧True) (cnd (decide ((↑(iE a.b.spare).length:Int)>0)) ((bL a)∧∃(c:Int),zE (iE a.b.spare) (u7 a).toNat 0 1=some [dI c]∧(bJ a)∧True∧∃(d:z4e),(↑d.i:Int)=(xN a)∧d.els=List.map zB a.b.sells∧[d.el]=[[dI i.price,dI c]]∧(hP d)∧∀(e:Unit),True→∃(f:Unit),(zK i).snd=c∧(zK i).fst.top1=a.b.top1∧(zK i).fst.top2=a.b.top2∧(zK i).fst.has1=a.b.has1∧(zK i).fst.has2=a.b.has2∧AObj.adt Arena 3 zG (zK i).fst.a=AObj.adt Arena 3 zG a.b.a∧List.map zB (zK i).fst.buys=List.map zB a.b.buys∧atE (zK i).fst.at_=atE a.b.at_∧List.map zB (zK i).fst.sells=List.take d.i d.els++d.el::List.drop d.i d.els∧iE (zK i).fst.spare=List.take (u7 a).toNat (iE a.b.spare)∧True) (∃(c:Arena),AObj.adt Arena 3 zG c=AObj.adt Arena 3 zG a.b.a∧c.queues.length≤1000000∧∀(d:Unit),True→True∧∃(e:z4e),(↑e.i:Int)=(xN a)∧e.els=List.map zB a.b.sells∧[e.el]=[[dI i.price,dI (↑c.queues.length:Int)]]∧(hP e)∧∀(f:Unit),True→∃(g:Unit),(zK i).snd=(↑c.queues.length:Int)∧(zK i).fst.top1=a.b.top1∧(zK i).fst.top2=a.b.top2∧(zK i).fst.has1=a.b.has1∧(zK i).fst.has2=a.b.has2∧AObj.adt Arena 3 zG (zK i).fst.a=AObj.adt Arena 3 zG c.openQ∧List.map zB (zK i).fst.buys=List.map zB a.b.buys∧atE (zK i).fst.at_=atE a.b.at_∧List.map zB (zK i).fst.sells=List.take e.i e.els++e.el::List.drop e.i e.els∧iE (zK i).fst.spare=iE a.b.spare∧True))
set_option linter.unusedSimpArgs false
open Go Cv Go.Proofs
theorem cV:bbetterC.ok Tryz.prog 71:=okw (V:=zUj) mixed gok0 0 (fun _=>[]) (fun _=>[]) [] Tryz.func71 fun(i:I3') _=>by
 unfold zUj
 refine Cv.cnd.mk (fun c=> ?_) (fun c=> ?_)
 ·have c:i.side=1:=by simpa using c
  rw[btr,yRe c];(repeat'(first|exact rfl|exact trivial|assumption|apply And.intro|refine fun(_:Unit) (_:True)=>?_|refine Exists.intro () ?_|omega|(dsimp only;omega)))
 ·have c:¬i.side=1:=by simpa using c
  rw[btr,yRd c];(repeat'(first|exact rfl|exact trivial|assumption|apply And.intro|refine fun(_:Unit) (_:True)=>?_|refine Exists.intro () ?_|omega|(dsimp only;omega)))
theorem yAq:pushFC.ok Tryz.prog 259:=okw (V:=yBm) mixed gok0 0 (fun _=>[]) (fun _=>[]) [] Tryz.func259 fun(s:Slot) _=>by
 unfold yBm;(repeat'(first|exact rfl|exact trivial|assumption|apply And.intro|refine fun(_:Unit) (_:True)=>?_|refine Exists.intro () ?_|omega|(dsimp only;omega)))
theorem yPp {l:List Slot} {k:Nat} {s:Slot} (h:l[k]? =some s):zE (l.map zP) k 0 8=some [D.v (.bool s.used),.v (.int .i64 s.n),.v (.int .i64 s.id),.v (.int .i64 s.qty),.v (.bool s.top),.v (.int .i64 s.queue),.v (.int .i64 s.ahead),.v (.int .i64 s.back)]:=elA h (by simp[zP]) rfl
theorem z7l (l:List Slot) (h:idxSlotC.cnd l):zUq l:=by
 have h:l.length≤1000000:=h
 unfold zUq dI
 simp only[yRg]
 refine⟨0,rfl,fun j=>j≤l.length∧∀k<j,∀x,l[k]? =some x→(!x.used)=false,fun j=>l.length-j,⟨by omega,fun k hk=>by omega⟩,?_⟩
 rintro j ⟨h3,h4⟩
 refine zI (fun hj=> ?_) (fun hj=> ?_)
 ·obtain⟨s,hs⟩:=yD (l:=l) (i:=j) (by omega)
  refine⟨⟨by omega,by omega⟩,s.used,s.n,s.id,s.qty,s.top,s.queue,s.ahead,s.back,yPp hs,s,rfl,rfl,rfl,rfl,rfl,rfl,rfl,rfl,trivial,fun _ _=>Cv.cnd.mk (fun e=> ?_) (fun e=> ?_)⟩
  ·rw[qV,zDa hs e h4];(repeat'(first|exact rfl|exact trivial|assumption|apply And.intro|refine fun(_:Unit) (_:True)=>?_|refine Exists.intro () ?_|omega|(dsimp only;omega)))
  ·refine⟨j+1,by rw[w64 (by omega)];rfl,⟨by omega,fun k hk x hx=> ?_⟩,by(first|omega|(dsimp only;omega)),by(repeat'(first|exact trivial|exact rfl|apply And.intro))⟩
   rcases yTt k j with hk'|hk'
   ·exact h4 k hk' x hx
   ·obtain rfl:k=j:=by omega
    rw[hs]at hx;cases hx;exact e
 ·rw[qV,zDk fun k x hx=>h4 k (by have:=(yRf.1 hx).1;omega) x hx];(repeat'(first|exact rfl|exact trivial|assumption|apply And.intro|refine fun(_:Unit) (_:True)=>?_|refine Exists.intro () ?_|omega|(dsimp only;omega)))
theorem zXw:idxSlotC.ok Tryz.prog 258:=okw mixed (gokc yAq gok0) 0 (fun _=>[]) (fun l=>z8m l) [] Tryz.func258 z7l
theorem zRv:aopenC.ok Tryz.prog 260:=okw (V:=z8r) mixed gok0 0 (fun _=>[]) (fun _=>[]) [0] Tryz.func260 fun(a:Arena) h=>by
 have h:a.queues.length≤1000000:=h
 unfold z8r dI
 rw[yRi,yRg,w64 (by simp only[yRt,yUi];omega)]
 refine⟨by omega,(),?_,rfl,rfl,?_,trivial⟩
 ·simp
 ·rw[yRm];rfl
theorem fM {α:Type} {f:α→α}:∀{l:List α} {i:Nat} {x:α},l[i]? =some x→l.modify i f=l.set i (f x)
 |[],i,x,h=>by simp at h
 |a::l,0,x,h=>by simp at h;subst h;rfl
 |a::l,i+1,x,h=>by
  simp only[ySw]at h
  simp only[yWd,yWu,fM h]
theorem yE {α:Type} {f:α→List D} {l:List α} {i g:Nat} {x y:α} {ds:List D} (hi:l[i]? =some x) (hh:(f x).take g++(ds++(f x).drop (g+ds.length))=f y):yC (l.map f) i g ds=(l.set i y).map f:=by
 have hlt:=(yRf.1 hi).1
 rw[yC,fM (by rw[yTb,hi];rfl),hh,List.map_set]
theorem vM {α:Type} {l:List α} {i:Nat} {x y:α} (hi:l[i]? =some x):(l.set i y)[i]? =some y:=List.getElem?_set_self (yRf.1 hi).1
theorem zR {α:Type} {l:List α} {i:Nat} {x d:α} (h:l[i]? =some x):l.getD i d=x:=by rw[yRl,h];rfl
theorem yPc (i:z4o) (h:atopC.cnd i):yGg i:=by
 have h:i.a.slots.length≤1000000:=h
 unfold yGg sL
 simp only[yRg]
 have no (e:i.a.usedAt i.n=false):i.a.topF i.n i.t=i.a:=by rw[Arena.topF,yRd (by rw[e];decide)]
 refine zI (fun c=> ?_) (fun c=>zI (fun d=> ?_) (fun d=> ?_))
 ·have e:i.a.usedAt i.n=false:=by rw[Arena.usedAt,yRo (by omega),yUh]
  rw[no e,e];(repeat'(first|exact rfl|exact trivial|assumption|apply And.intro|refine fun(_:Unit) (_:True)=>?_|refine Exists.intro () ?_|omega|(dsimp only;omega)))
 ·have e:i.a.usedAt i.n=false:=by rw[Arena.usedAt,yRo (show ¬i.n<(i.a.slots.length:Int)by omega),yUh,yVy]
  rw[no e,e];(repeat'(first|exact rfl|exact trivial|assumption|apply And.intro|refine fun(_:Unit) (_:True)=>?_|refine Exists.intro () ?_|omega|(dsimp only;omega)))
 ·obtain⟨s,hs⟩:=yD (l:=i.a.slots) (i:=i.n.toNat) (by omega)
  have eu:i.a.usedAt i.n=s.used:=by rw[Arena.usedAt,yRu (show 0≤i.n by omega),yRu (show i.n<(i.a.slots.length:Int)by omega),zR hs];simp
  refine⟨⟨by omega,by omega⟩,s.used,elA hs (by simp[zP]) rfl,Cv.cnd.mk (fun u=> ?_) (fun u=> ?_)⟩
  ·have e:i.a.usedAt i.n=false:=by rw[eu];simpa using u
   rw[no e,e];(repeat'(first|exact rfl|exact trivial|assumption|apply And.intro|refine fun(_:Unit) (_:True)=>?_|refine Exists.intro () ?_|omega|(dsimp only;omega)))
  ·have e:i.a.usedAt i.n=true:=by rw[eu];simpa using u
   have et:i.a.topF i.n i.t={i.a with slots:=i.a.slots.set i.n.toNat {s with top:=i.t}}:=by
    rw[Arena.topF,yRe e,fM hs]
   rw[et,e,yE hs (y:={s with top:=i.t}) rfl]
   refine⟨⟨by omega,by omega⟩,by omega,(),rfl,rfl,rfl,rfl,trivial⟩
theorem zZw:atopC.ok Tryz.prog 256:=okw mixed gok0 1 (fun _=>[]) (fun _=>[]) [0] Tryz.func256 yPc
theorem z9d {l:List Slot} (h:∃s∈l,s.used=false):∃k:Nat,qV l=k∧k<l.length:=by
 obtain⟨s,hs,hu⟩:=h
 cases hf:l.findIdx? fun s=> !s.used with
 |none=>
  rw[yVj]at hf
  have:=hf s hs
  rw[hu]at this;cases this
 |some k=>
  rw[yUf]at hf
  exact⟨k,by rw[qV,show(l.findIdx? fun s=> !s.used)=some k by rw[yUf];exact hf];rfl,hf.1⟩
theorem yKi (i:PuI) (h:apushC.cnd i):yAt i:=by
 obtain⟨h1,h2,h3⟩:i.a.fit:=h
 unfold yAt mV nD nH nT eL eX nQ yF dI
 simp only[yRg]
 have out (e:i.n<0∨i.a.queues.length≤i.n):i.a.push i.n i.id i.qty i.top=(i.a,0,26):=by rw[Arena.push,yRe e]
 refine zI (fun c=>Cv.cnd.mk (fun d=> ?_) (fun d=> ?_)) (fun c=> ?_)
 ·have d:¬i.n<(i.a.queues.length:Int):=by simpa using d
  rw[out (.inr (by omega))];(repeat'(first|exact rfl|exact trivial|assumption|apply And.intro|refine fun(_:Unit) (_:True)=>?_|refine Exists.intro () ?_|omega|(dsimp only;omega)))
 ·have d:i.n<(i.a.queues.length:Int):=by simpa using d
  have hn:¬(i.n<0∨(i.a.queues.length:Int)≤i.n):=by omega
  refine zI (fun q1=> ?_) (fun q1=>zI (fun q2=> ?_) (fun q2=>Cv.cnd.mk (fun fr=> ?_) (fun fr=> ?_)))
  ·rw[Arena.push,yRd hn,yRe (.inl q1)];(repeat'(first|exact rfl|exact trivial|assumption|apply And.intro|refine fun(_:Unit) (_:True)=>?_|refine Exists.intro () ?_|omega|(dsimp only;omega)))
  ·rw[Arena.push,yRd hn,yRe (.inr q2)];(repeat'(first|exact rfl|exact trivial|assumption|apply And.intro|refine fun(_:Unit) (_:True)=>?_|refine Exists.intro () ?_|omega|(dsimp only;omega)))
  ·rw[Arena.push,yRd hn,yRd (by omega),yRe (by simpa using fr)];(repeat'(first|exact rfl|exact trivial|assumption|apply And.intro|refine fun(_:Unit) (_:True)=>?_|refine Exists.intro () ?_|omega|(dsimp only;omega)))
  ·have fr:i.a.free≠0:=by simpa using fr
   have ep:i.a.push i.n i.id i.qty i.top=(i.a.put i.n i.id i.qty i.top,qV i.a.slots,0):=by rw[Arena.push,yRd hn,yRd (by omega),yRd fr]
   obtain⟨k,hk,hkl⟩:=z9d (h2 fr)
   obtain⟨q,hq⟩:=yD (l:=i.a.queues) (i:=i.n.toNat) (by omega)
   have hqm:=yRp hq
   have hl:=h3 q hqm
   obtain⟨s,hs⟩:=yD hkl
   refine⟨i.a.slots,rfl,h1,fun _ _=>⟨⟨by omega,by omega⟩,q.last,elA hq (by simp[zN]) rfl,⟨by omega,by omega⟩,by rw[hk];exact hkl,q.last,elA hq (by simp[zN]) rfl,?_⟩⟩
   rw[ep]
   have eput:i.a.put i.n i.id i.qty i.top=⟨if q.last= -1 then i.a.slots.set k ⟨true,k,i.id,i.qty,i.top,i.n,q.last,-1⟩else(i.a.slots.set k ⟨true,k,i.id,i.qty,i.top,i.n,q.last,-1⟩).modify q.last.toNat fun s=>{s with back:=k},i.a.queues.set i.n.toNat ⟨if q.last= -1 then k else q.first,k,IntKind.i64.wrap (q.total+i.qty),IntKind.i64.wrap (q.count+1)⟩,IntKind.i64.wrap (i.a.free-1)⟩:=by
    simp only[Arena.put,zR hq,hk,yRx]
   rw[eput,hk]
   simp only[yRx]
   have es:yC (List.map zP i.a.slots) k 0 [D.v (.bool true),D.v (.int .i64 k),D.v (.int .i64 i.id),D.v (.int .i64 i.qty),D.v (.bool i.top),D.v (.int .i64 i.n),D.v (.int .i64 q.last),D.v (.int .i64 (-1))]=List.map zP (i.a.slots.set k ⟨true,k,i.id,i.qty,i.top,i.n,q.last,-1⟩):=yE hs rfl
   rw[es]
   refine Cv.cnd.mk (fun e=> ?_) (fun e=> ?_)
   ·have e:q.last= -1:=by simpa using e
    have e1:yC (List.map zN i.a.queues) i.n.toNat (0+0) [D.v (.int .i64 k)]=List.map zN (i.a.queues.set i.n.toNat {q with first:=k}):=yE hq rfl
    have g1:=vM (y:={q with first:=(k:Int)}) hq
    have e2:yC (List.map zN (i.a.queues.set i.n.toNat {q with first:=k})) i.n.toNat (0+1) [D.v (.int .i64 k)]=List.map zN (i.a.queues.set i.n.toNat {q with first:=k,last:=k}):=by
     rw[yE g1 (y:={q with first:=(k:Int),last:=(k:Int)}) rfl,yVd]
    have g2:=vM (y:={q with first:=(k:Int),last:=(k:Int)}) hq
    have e3:yC (List.map zN (i.a.queues.set i.n.toNat {q with first:=k,last:=k})) i.n.toNat (0+2) [D.v (.int .i64 (IntKind.i64.wrap (q.total+i.qty)))]=List.map zN (i.a.queues.set i.n.toNat {q with first:=k,last:=k,total:=IntKind.i64.wrap (q.total+i.qty)}):=by
     rw[yE g2 (y:={q with first:=(k:Int),last:=(k:Int),total:=IntKind.i64.wrap (q.total+i.qty)}) rfl,yVd]
    have g3:=vM (y:={q with first:=(k:Int),last:=(k:Int),total:=IntKind.i64.wrap (q.total+i.qty)}) hq
    have e4:yC (List.map zN (i.a.queues.set i.n.toNat {q with first:=k,last:=k,total:=IntKind.i64.wrap (q.total+i.qty)})) i.n.toNat (0+3) [D.v (.int .i64 (IntKind.i64.wrap (q.count+1)))]=List.map zN (i.a.queues.set i.n.toNat ⟨k,k,IntKind.i64.wrap (q.total+i.qty),IntKind.i64.wrap (q.count+1)⟩):=by
     rw[yE g3 (y:=⟨k,k,IntKind.i64.wrap (q.total+i.qty),IntKind.i64.wrap (q.count+1)⟩) rfl,yVd]
    rw[e1,e2]
    simp only[yRe e]
    refine⟨by omega,by simp only[yRg,ySj];omega,q.total,elA g2 (by simp[zN]) rfl,by simp only[yRg,ySj];omega,q.count,?_,by rw[e3];simp only[yRg,ySj];omega,(),?_⟩
    ·rw[e3];exact elA g3 (by simp[zN]) rfl
    ·rw[e3,e4];(repeat'(first|exact rfl|exact trivial|assumption|apply And.intro|refine fun(_:Unit) (_:True)=>?_|refine Exists.intro () ?_|omega|(dsimp only;omega)))
   ·have e:¬q.last= -1:=by simpa using e
    have hl:0≤q.last∧q.last<i.a.slots.length:=hl.resolve_left e
    have e2:yC (List.map zN i.a.queues) i.n.toNat (0+1) [D.v (.int .i64 k)]=List.map zN (i.a.queues.set i.n.toNat {q with last:=k}):=yE hq rfl
    have g2:=vM (y:={q with last:=(k:Int)}) hq
    have e3:yC (List.map zN (i.a.queues.set i.n.toNat {q with last:=k})) i.n.toNat (0+2) [D.v (.int .i64 (IntKind.i64.wrap (q.total+i.qty)))]=List.map zN (i.a.queues.set i.n.toNat {q with last:=k,total:=IntKind.i64.wrap (q.total+i.qty)}):=by
     rw[yE g2 (y:={q with last:=(k:Int),total:=IntKind.i64.wrap (q.total+i.qty)}) rfl,yVd]
    have g3:=vM (y:={q with last:=(k:Int),total:=IntKind.i64.wrap (q.total+i.qty)}) hq
    have e4:yC (List.map zN (i.a.queues.set i.n.toNat {q with last:=k,total:=IntKind.i64.wrap (q.total+i.qty)})) i.n.toNat (0+3) [D.v (.int .i64 (IntKind.i64.wrap (q.count+1)))]=List.map zN (i.a.queues.set i.n.toNat ⟨q.first,k,IntKind.i64.wrap (q.total+i.qty),IntKind.i64.wrap (q.count+1)⟩):=by
     rw[yE g3 (y:=⟨q.first,k,IntKind.i64.wrap (q.total+i.qty),IntKind.i64.wrap (q.count+1)⟩) rfl,yVd]
    obtain⟨s2,hs2⟩:=yD (l:=i.a.slots.set k ⟨true,k,i.id,i.qty,i.top,i.n,q.last,-1⟩) (i:=q.last.toNat) (by rw[ySj];omega)
    have e5:yC (List.map zP (i.a.slots.set k ⟨true,k,i.id,i.qty,i.top,i.n,q.last,-1⟩)) q.last.toNat (0+7) [D.v (.int .i64 k)]=List.map zP ((i.a.slots.set k ⟨true,k,i.id,i.qty,i.top,i.n,q.last,-1⟩).modify q.last.toNat fun s=>{s with back:=k}):=by
     rw[yE hs2 (y:={s2 with back:=(k:Int)}) rfl,fM hs2]
    rw[e2]
    simp only[yRd e]
    refine⟨q.last,elA hq (by simp[zN]) rfl,⟨by omega,by simp only[yRg,ySj];omega⟩,by simp only[yRg,ySj];omega,by omega,q.total,elA g2 (by simp[zN]) rfl,by simp only[yRg,ySj];omega,q.count,?_,by rw[e3];simp only[yRg,ySj];omega,(),?_⟩
    ·rw[e3];exact elA g3 (by simp[zN]) rfl
    ·rw[e3,e4,e5];(repeat'(first|exact rfl|exact trivial|assumption|apply And.intro|refine fun(_:Unit) (_:True)=>?_|refine Exists.intro () ?_|omega|(dsimp only;omega)))
 ·rw[out (.inl (by omega))];(repeat'(first|exact rfl|exact trivial|assumption|apply And.intro|refine fun(_:Unit) (_:True)=>?_|refine Exists.intro () ?_|omega|(dsimp only;omega)))
theorem zQw:apushC.ok Tryz.prog 225:=okw mixed (gokc zXw gok0) 1 (fun _=>[]) (fun _=>[]) [0] Tryz.func225 yKi
theorem aR {s price:Int}:∀{l:List xF} {j:Nat},j≤l.length→(∀k<j,∀r,l[k]? =some r→btr s r.price price=true)→(∀r,l[j]? =some r→btr s r.price price=false)→zU s l price=j
 |[],j,hj,_,_=>by
  obtain rfl:j=0:=by simpa using hj
  rfl
 |r::l,0,_,_,he=>by
  have:=he r rfl
  rw[zU,List.takeWhile_cons,this];rfl
 |r::l,j+1,hj,h,he=>by
  have h0:=h 0 (by omega) r rfl
  have ih:=aR (l:=l) (j:=j) (by simpa using hj) (fun k hk x hx=>h (k+1) (by omega) x (by simpa using hx)) (fun x hx=>he x (by simpa using hx))
  rw[zU]at ih ⊢
  rw[List.takeWhile_cons,h0,yRe rfl,yRt,ih]
theorem l9 (s price:Int) (l:List xF):zU s l price≤l.length:=(List.takeWhile_sublist _).length_le
theorem nE (b:Book):b.rungs 1=b.buys:=rfl
theorem mW (b:Book):b.rungs 2=b.sells:=rfl
theorem yLz (i:BkP) (h:find1C.cnd i):z9i i:=by
 obtain⟨_,h1,h2,_⟩:i.b.small:=h
 unfold z9i zCu zDp gY xM aZ wU m8 dI
 simp only[yRg,nE]
 refine⟨0,rfl,fun j=>j≤i.b.buys.length∧∀k<j,∀r,i.b.buys[k]? =some r→btr 1 r.price i.price=true,fun j=>i.b.buys.length-j,⟨by omega,fun k hk=>by omega⟩,?_⟩
 rintro j ⟨h3,h4⟩
 refine zI (fun hj=> ?_) (fun hj=> ?_)
 ·obtain⟨r,hr⟩:=yD (l:=i.b.buys) (i:=j) (by omega)
  refine⟨⟨by omega,by omega⟩,r.price,elA hr (by simp[zB]) rfl,⟨1,r.price,i.price⟩,rfl,rfl,rfl,trivial,fun _ _=> ?_⟩
  dsimp only
  refine Cv.cnd.mk (fun e=>⟨j+1,by rw[w64 (by omega)];rfl,⟨by omega,fun k hk x hx=> ?_⟩,by(first|omega|(dsimp only;omega)),by(repeat'(first|exact trivial|exact rfl|apply And.intro))⟩) (fun e=>zI (fun _=> ?_) (fun c=>absurd hj c))
  ·rcases yTt k j with hk'|hk'
   ·exact h4 k hk' x hx
   ·obtain rfl:k=j:=by omega
    rw[hr]at hx;cases hx;exact e
  ·have en:zU 1 i.b.buys i.price=j:=aR h3 h4 fun x hx=>by rw[hr]at hx;cases hx;exact e
   have eb:qX 1 i.b.buys i.price=(r.price==i.price):=by rw[qX,en,hr];exact(zTi _ _).symm
   refine⟨⟨by omega,by omega⟩,r.price,elA hr (by simp[zB]) rfl,(),by rw[en],eb,?_⟩
   (repeat'(first|exact trivial|exact rfl|apply And.intro))
 ·have en:zU 1 i.b.buys i.price=j:=aR h3 h4 fun x hx=>by have:=(yRf.1 hx).1;omega
  have eb:qX 1 i.b.buys i.price=false:=by rw[qX,en,ySi (by omega)]
  refine zI (fun c=>absurd c hj) (fun _=>⟨(),by rw[en],eb,?_⟩)
  (repeat'(first|exact trivial|exact rfl|apply And.intro))
theorem zGy:find1C.ok Tryz.prog 228:=okw mixed (gokc cV gok0) 0 (fun _=>[]) (fun _=>yFy) [] Tryz.func228 yLz
theorem jG (l:List (Int×Place)) (k:Int):∀(p:Value×List D),p∈atE l→like (Value.int IntKind.i64 k) p.1=true:=by
 intro p hp
 obtain⟨x,_,rfl⟩:=ySm.1 hp
 rfl
theorem sI (k:Int):∀l:List (Int×Place),qK (Value.int IntKind.i64 k) (atE l)=(pget l k).map zXl
 |[]=>rfl
 |(a,v)::l=>by
  have ih:=sI k l
  show(bif (keq .i64 .i64 && decide (k=a))then _ else qK _ (atE l))=_
  by_cases h:k=a
  ·subst h;simp[pget,keq]
  ·have h':¬a=k:=fun e=>h e.symm
   rw[show(keq .i64 .i64 && decide (k=a))=false by simp[h],cond_false,ih]
   simp[pget,yWw,h']
def zDm:Place:=⟨0,0,0⟩
theorem zLj (l:List (Int×Place)) (k:Int):qK (Value.int IntKind.i64 k) (atE l)=some [D.v (.int .i64 ((pget l k).getD zDm).side),D.v (.int .i64 ((pget l k).getD zDm).price),D.v (.int .i64 ((pget l k).getD zDm).slot)]∧(pget l k).isSome=true∨qK (Value.int IntKind.i64 k) (atE l)=none∧[D.v (.int .i64 ((pget l k).getD zDm).side),D.v (.int .i64 ((pget l k).getD zDm).price),D.v (.int .i64 ((pget l k).getD zDm).slot)]=[D.v (.int .i64 0),D.v (.int .i64 0),D.v (.int .i64 0)]∧(pget l k).isSome=false:=by
 rw[sI]
 cases pget l k with
 |none=>exact .inr ⟨rfl,rfl,rfl⟩
 |some v=>exact .inl ⟨rfl,rfl⟩
theorem zOi (k:Int) (v:Place):∀l,vI (Value.int IntKind.i64 k) (zXl v) (atE l)=atE (nU k v l)
 |[]=>rfl
 |(a,b)::l=>by
  have ih:=zOi k v l
  show(bif (keq .i64 .i64 && decide (k=a))then _ else _::vI _ _ (atE l))=_
  rw[ih,nU]
  by_cases h:k=a
  ·subst h;simp[keq,atE]
  ·simp[h,atE]
theorem yMc (i:LdI) (h:lead1C.cnd i):z9c i:=by
 obtain⟨⟨ha,_⟩,h1,h2,_⟩:i.b.small:=h
 unfold z9c lN lG nC g9 dI
 have no (e:i.b.untop 1=i.b.a):AObj.adt Arena 3 zG (i.b.untop 1)=zQ i.b 1:=by rw[e];rfl
 refine Cv.cnd.mk (fun c=> ?_) (fun c=>⟨(),?_⟩)
 ·have c:i.b.hasF 1=true:=c
  refine⟨jG _ _,(pget i.b.at_ i.b.top1).isSome,_,_,_,zLj _ _,⟨jG _ _,(pget i.b.at_ i.b.top1).isSome,_,_,_,zLj _ _,⟨rfl,rfl,rfl,trivial⟩,rfl,trivial⟩,rfl,trivial,Cv.cnd.mk (fun d=>Cv.cnd.mk (fun e=> ?_) (fun e=>⟨(),?_⟩)) (fun d=>⟨(),?_⟩)⟩
  ·obtain⟨o,ho⟩:=yWl.1 d
   have e:o.side=1:=by rw[ho]at e;simpa using e
   have eu:i.b.untop 1=i.b.a.topF o.slot false:=by
    have ht:pget i.b.at_ (i.b.topI 1)=some o:=ho
    rw[Book.untop,yRe c,ht];dsimp only;rw[yRe e]
   refine⟨⟨i.b.a,o.slot,false⟩,by rw[ho];rfl,rfl,rfl,ha,fun _ _=>⟨(),?_⟩⟩
   rw[eu];(repeat'(first|exact trivial|exact rfl|apply And.intro))
  ·obtain⟨o,ho⟩:=yWl.1 d
   have e:¬o.side=1:=by rw[ho]at e;simpa using e
   have ht:pget i.b.at_ (i.b.topI 1)=some o:=ho
   rw[no (by rw[Book.untop,yRe c,ht];dsimp only;rw[yRd e])];(repeat'(first|exact trivial|exact rfl|apply And.intro))
  ·have ht:pget i.b.at_ (i.b.topI 1)=none:=by
    show pget i.b.at_ i.b.top1=none
    simpa using d
   rw[no (by rw[Book.untop,yRe c,ht])];(repeat'(first|exact trivial|exact rfl|apply And.intro))
 ·have c:¬i.b.hasF 1=true:=by rw[show i.b.hasF 1=i.b.has1 from rfl,c];decide
  rw[no (by rw[Book.untop,yRd c])];(repeat'(first|exact trivial|exact rfl|apply And.intro))
theorem z7o:lead1C.ok Tryz.prog 224:=okw mixed (gokc zZw gok0) 0 (fun _=>[]) (fun _=>[]) [] Tryz.func224 yMc
theorem zTs {s price:Int} {l:List xF} (h:qX s l price=true):∃r,l[zU s l price]? =some r:=by
 rw[qX]at h
 split at h
 ·rename_i r hr;exact⟨r,hr⟩
 ·cases h
theorem yCy (i:BkP) (h:queue1C.cnd i):z0l i:=by
 obtain⟨⟨ha,_⟩,ha',h1,h2,h3⟩:i.b.fit:=h
 have hle:=l9 1 i.price i.b.buys
 unfold z0l zL u7 hP bL bJ wW hD wU x3 xM dI
 refine⟨i,rfl,rfl,rfl,rfl,rfl,rfl,rfl,rfl,rfl,rfl,rfl,⟨⟨ha,by omega⟩,by omega,by omega,by omega⟩,fun _ _=> ?_⟩
 simp only[yRg,yY,nE]
 refine Cv.cnd.mk (fun c=> ?_) (fun c=> ?_)
 ·obtain⟨r,hr⟩:=zTs c
  have hlt:=(yRf.1 hr).1
  have e:i.b.queueF 1 i.price=(i.b,r.queue):=by rw[Book.queueF,yRe (by rw[nE];exact c),nE,zR hr]
  rw[e]
  refine⟨⟨by omega,by omega⟩,r.queue,elA (by simpa using hr) (by simp[zB]) rfl,(),?_⟩
  (repeat'(first|exact trivial|exact rfl|apply And.intro))
 ·have e:i.b.queueF 1 i.price=({i.b with a:=i.b.newQ.2.2,buys:=i.b.ins 1 i.price,spare:=i.b.newQ.2.1},i.b.newQ.1):=by
   rw[Book.queueF,yRd (by rw[nE,c];decide),yRe rfl]
  have hins:List.map zB (i.b.ins 1 i.price)=List.take (zU 1 i.b.buys i.price) (List.map zB i.b.buys)++zB ⟨i.price,i.b.newQ.1⟩::List.drop (zU 1 i.b.buys i.price) (List.map zB i.b.buys):=by
   rw[Book.ins,nE,yRm,yRs,yVe,yWe]
  rw[e]
  refine zI (fun d=> ?_) (fun d=> ?_)
  ·have w:IntKind.i64.wrap ((i.b.spare.length:Int)-1)=((i.b.spare.length-1:Nat):Int):=by rw[w64 (by omega)];omega
   rw[w]
   simp only[yRx]
   obtain⟨q,hq⟩:=yD (l:=i.b.spare) (i:=i.b.spare.length-1) (by omega)
   have eq:i.b.newQ=(q,i.b.spare.take (i.b.spare.length-1),i.b.a):=by rw[Book.newQ,yRd (by omega),zR hq]
   rw[eq]at hins ⊢
   refine⟨⟨by omega,by omega⟩,q,elI hq,⟨by omega,by omega⟩,trivial,⟨i.b.buys.map zB,zB ⟨i.price,q⟩,zU 1 i.b.buys i.price⟩,rfl,rfl,rfl,⟨by rw[yRg];exact hle,by rw[yRg];omega⟩,fun _ _=>⟨(),?_⟩⟩
   have hs:iE (i.b.spare.take (i.b.spare.length-1))=(iE i.b.spare).take (i.b.spare.length-1):=by simp only[iE,yVe]
   (repeat'(first|exact rfl|exact trivial|assumption|apply And.intro|refine fun(_:Unit) (_:True)=>?_|refine Exists.intro () ?_|omega|(dsimp only;omega)))
  ·have eq:i.b.newQ=((i.b.a.queues.length:Int),i.b.spare,i.b.a.openQ):=by rw[Book.newQ,yRe (by omega)]
   rw[eq]at hins ⊢
   refine⟨i.b.a,rfl,by omega,fun _ _=>⟨trivial,⟨i.b.buys.map zB,zB ⟨i.price,i.b.a.queues.length⟩,zU 1 i.b.buys i.price⟩,rfl,rfl,rfl,⟨by rw[yRg];exact hle,by rw[yRg];omega⟩,fun _ _=>⟨(),?_⟩⟩⟩
   (repeat'(first|exact rfl|exact trivial|assumption|apply And.intro|refine fun(_:Unit) (_:True)=>?_|refine Exists.intro () ?_|omega|(dsimp only;omega)))
theorem zCh:vX Tryz.prog 238=some (301,2,16,#[.int .i64 0,.int .i64 0]):=by kernel_rfl
theorem zZg:insRC.ok Tryz.prog 261:=
 insX_ok (tS:=238) (tI:=3) (fO:=279) (fR:=280) (z:= #[.int .i64 0,.int .i64 0]) mixed Tryz.func261 rfl (by kernel_rfl) (by kernel_rfl) (by kernel_rfl) (by kernel_rfl) zCh rfl (by decide) (by decide) (by kernel_rfl) Tryz.underlying3
  (yDf (tS:=238) (tB:=4) Tryz.func279 (by kernel_rfl) (by kernel_rfl) (by kernel_rfl) (by kernel_rfl) zCh) (fun s sn sk i v vn vk w R=>by kernel_rfl)
theorem z2t:queue1C.ok Tryz.prog 226:=okw mixed (gokc zGy (gokc zRv (gokc zZg gok0))) 0 (fun _=>[]) (fun _=>[]) [] Tryz.func226 yCy
theorem yJc (i:BkP) (h:find2C.cnd i):z7z i:=by
 obtain⟨_,h1,h2,_⟩:i.b.small:=h
 unfold z7z zDw zEa xN gY a9 wS m8 dI
 simp only[yRg,mW]
 refine⟨0,rfl,fun j=>j≤i.b.sells.length∧∀k<j,∀r,i.b.sells[k]? =some r→btr 2 r.price i.price=true,fun j=>i.b.sells.length-j,⟨by omega,fun k hk=>by omega⟩,?_⟩
 rintro j ⟨h3,h4⟩
 refine zI (fun hj=> ?_) (fun hj=> ?_)
 ·obtain⟨r,hr⟩:=yD (l:=i.b.sells) (i:=j) (by omega)
  refine⟨⟨by omega,by omega⟩,r.price,elA hr (by simp[zB]) rfl,⟨2,r.price,i.price⟩,rfl,rfl,rfl,trivial,fun _ _=> ?_⟩
  dsimp only
  refine Cv.cnd.mk (fun e=>⟨j+1,by rw[w64 (by omega)];rfl,⟨by omega,fun k hk x hx=> ?_⟩,by(first|omega|(dsimp only;omega)),by(repeat'(first|exact trivial|exact rfl|apply And.intro))⟩) (fun e=>zI (fun _=> ?_) (fun c=>absurd hj c))
  ·rcases yTt k j with hk'|hk'
   ·exact h4 k hk' x hx
   ·obtain rfl:k=j:=by omega
    rw[hr]at hx;cases hx;exact e
  ·have en:zU 2 i.b.sells i.price=j:=aR h3 h4 fun x hx=>by rw[hr]at hx;cases hx;exact e
   have eb:qX 2 i.b.sells i.price=(r.price==i.price):=by rw[qX,en,hr];exact(zTi _ _).symm
   refine⟨⟨by omega,by omega⟩,r.price,elA hr (by simp[zB]) rfl,(),by rw[en],eb,?_⟩
   (repeat'(first|exact trivial|exact rfl|apply And.intro))
 ·have en:zU 2 i.b.sells i.price=j:=aR h3 h4 fun x hx=>by have:=(yRf.1 hx).1;omega
  have eb:qX 2 i.b.sells i.price=false:=by rw[qX,en,ySi (by omega)]
  refine zI (fun c=>absurd c hj) (fun _=>⟨(),by rw[en],eb,?_⟩)
  (repeat'(first|exact trivial|exact rfl|apply And.intro))
theorem zJr:find2C.ok Tryz.prog 228:=okw mixed (gokc cV gok0) 0 (fun _=>[]) (fun _=>yFy) [] Tryz.func228 yJc
theorem yJd (i:LdI) (h:lead2C.cnd i):z5a i:=by
 obtain⟨⟨ha,_⟩,h1,h2,_⟩:i.b.small:=h
 unfold z5a eB eV mX g9 dI
 have no (e:i.b.untop 2=i.b.a):AObj.adt Arena 3 zG (i.b.untop 2)=zQ i.b 1:=by rw[e];rfl
 refine Cv.cnd.mk (fun c=> ?_) (fun c=>⟨(),?_⟩)
 ·have c:i.b.hasF 2=true:=c
  refine⟨jG _ _,(pget i.b.at_ i.b.top2).isSome,_,_,_,zLj _ _,⟨jG _ _,(pget i.b.at_ i.b.top2).isSome,_,_,_,zLj _ _,⟨rfl,rfl,rfl,trivial⟩,rfl,trivial⟩,rfl,trivial,Cv.cnd.mk (fun d=>Cv.cnd.mk (fun e=> ?_) (fun e=>⟨(),?_⟩)) (fun d=>⟨(),?_⟩)⟩
  ·obtain⟨o,ho⟩:=yWl.1 d
   have e:o.side=2:=by rw[ho]at e;simpa using e
   have eu:i.b.untop 2=i.b.a.topF o.slot false:=by
    have ht:pget i.b.at_ (i.b.topI 2)=some o:=ho
    rw[Book.untop,yRe c,ht];dsimp only;rw[yRe e]
   refine⟨⟨i.b.a,o.slot,false⟩,by rw[ho];rfl,rfl,rfl,ha,fun _ _=>⟨(),?_⟩⟩
   rw[eu];(repeat'(first|exact trivial|exact rfl|apply And.intro))
  ·obtain⟨o,ho⟩:=yWl.1 d
   have e:¬o.side=2:=by rw[ho]at e;simpa using e
   have ht:pget i.b.at_ (i.b.topI 2)=some o:=ho
   rw[no (by rw[Book.untop,yRe c,ht];dsimp only;rw[yRd e])];(repeat'(first|exact trivial|exact rfl|apply And.intro))
  ·have ht:pget i.b.at_ (i.b.topI 2)=none:=by
    show pget i.b.at_ i.b.top2=none
    simpa using d
   rw[no (by rw[Book.untop,yRe c,ht])];(repeat'(first|exact trivial|exact rfl|apply And.intro))
 ·have c:¬i.b.hasF 2=true:=by rw[show i.b.hasF 2=i.b.has2 from rfl,c];decide
  rw[no (by rw[Book.untop,yRd c])];(repeat'(first|exact trivial|exact rfl|apply And.intro))
theorem z7h:lead2C.ok Tryz.prog 224:=okw mixed (gokc zZw gok0) 0 (fun _=>[]) (fun _=>[]) [] Tryz.func224 yJd
theorem yEk (i:BkP) (h:queue2C.cnd i):zYe i:=by
 obtain⟨⟨ha,_⟩,ha',h1,h2,h3⟩:i.b.fit:=h
 have hle:=l9 2 i.price i.b.sells
 unfold zYe zK uX wS u7 hP bL bJ wW x3 xN dI
 refine⟨i,rfl,rfl,rfl,rfl,rfl,rfl,rfl,rfl,rfl,rfl,rfl,⟨⟨ha,by omega⟩,by omega,by omega,by omega⟩,fun _ _=> ?_⟩
 simp only[yRg,yY,mW]
 refine Cv.cnd.mk (fun c=> ?_) (fun c=> ?_)
 ·obtain⟨r,hr⟩:=zTs c
  have hlt:=(yRf.1 hr).1
  have e:i.b.queueF 2 i.price=(i.b,r.queue):=by rw[Book.queueF,yRe (by rw[mW];exact c),mW,zR hr]
  rw[e]
  refine⟨⟨by omega,by omega⟩,r.queue,elA (by simpa using hr) (by simp[zB]) rfl,(),?_⟩
  (repeat'(first|exact trivial|exact rfl|apply And.intro))
 ·have e:i.b.queueF 2 i.price=({i.b with a:=i.b.newQ.2.2,sells:=i.b.ins 2 i.price,spare:=i.b.newQ.2.1},i.b.newQ.1):=by
   rw[Book.queueF,yRd (by rw[mW,c];decide),yRd (by decide)]
  have hins:List.map zB (i.b.ins 2 i.price)=List.take (zU 2 i.b.sells i.price) (List.map zB i.b.sells)++zB ⟨i.price,i.b.newQ.1⟩::List.drop (zU 2 i.b.sells i.price) (List.map zB i.b.sells):=by
   rw[Book.ins,mW,yRm,yRs,yVe,yWe]
  rw[e]
  refine zI (fun d=> ?_) (fun d=> ?_)
  ·have w:IntKind.i64.wrap ((i.b.spare.length:Int)-1)=((i.b.spare.length-1:Nat):Int):=by rw[w64 (by omega)];omega
   rw[w]
   simp only[yRx]
   obtain⟨q,hq⟩:=yD (l:=i.b.spare) (i:=i.b.spare.length-1) (by omega)
   have eq:i.b.newQ=(q,i.b.spare.take (i.b.spare.length-1),i.b.a):=by rw[Book.newQ,yRd (by omega),zR hq]
   rw[eq]at hins ⊢
   refine⟨⟨by omega,by omega⟩,q,elI hq,⟨by omega,by omega⟩,trivial,⟨i.b.sells.map zB,zB ⟨i.price,q⟩,zU 2 i.b.sells i.price⟩,rfl,rfl,rfl,⟨by rw[yRg];exact hle,by rw[yRg];omega⟩,fun _ _=>⟨(),?_⟩⟩
   have hs:iE (i.b.spare.take (i.b.spare.length-1))=(iE i.b.spare).take (i.b.spare.length-1):=by simp only[iE,yVe]
   (repeat'(first|exact rfl|exact trivial|assumption|apply And.intro|refine fun(_:Unit) (_:True)=>?_|refine Exists.intro () ?_|omega|(dsimp only;omega)))
  ·have eq:i.b.newQ=((i.b.a.queues.length:Int),i.b.spare,i.b.a.openQ):=by rw[Book.newQ,yRe (by omega)]
   rw[eq]at hins ⊢
   refine⟨i.b.a,rfl,by omega,fun _ _=>⟨trivial,⟨i.b.sells.map zB,zB ⟨i.price,i.b.a.queues.length⟩,zU 2 i.b.sells i.price⟩,rfl,rfl,rfl,⟨by rw[yRg];exact hle,by rw[yRg];omega⟩,fun _ _=>⟨(),?_⟩⟩⟩
   (repeat'(first|exact rfl|exact trivial|assumption|apply And.intro|refine fun(_:Unit) (_:True)=>?_|refine Exists.intro () ?_|omega|(dsimp only;omega)))
theorem z3c:queue2C.ok Tryz.prog 226:=okw mixed (gokc zJr (gokc zRv (gokc zZg gok0))) 0 (fun _=>[]) (fun _=>[]) [] Tryz.func226 yEk
open Go Cv Go.Proofs
structure BaI where
 b:Book
 id:Int
 price:Int
 qty:Int
def Book.leads (b:Book) (s price:Int):Bool:=match b.rungs s with
 |[]=>true
 |r::_=>btr s price r.price
def Book.led (b:Book) (id s price:Int):Book:=if b.leads s price=true then b.leadF id s else b
def Book.stand (b:Book) (s id price qty:Int):Book:=
 let b2:=(b.led id s price).queueF s price
 let x:=b2.1.a.push b2.2 id qty (b.leads s price)
 {b2.1 with a:=x.1,at_:=nU id ⟨s,price,x.2.1⟩ b2.1.at_}
def Book.addF (b:Book) (s id price qty:Int):Book×Int:=
 if qty<1∨1000000<qty then(b,24)else if(pget b.at_ id).isSome=true then(b,25)else if 250≤b.at_.length then(b,13)else(b.stand s id price qty,0)
def z5t (s:Int):Con:=con1 BaI (fun i=>[.nm 0 0,zA i.id,zA s,zA i.price,zA i.qty]) (fun i=>[yA i.b]) (fun i=>i.b.fit) (fun i=>zA (i.b.addF s i.id i.price i.qty).2) (fun i=>[yA (i.b.addF s i.id i.price i.qty).1])
def yFt:List (Nat×SAnn):=[(44,bj 14)]
def badd1C:Con:=z5t 1
def badd2C:Con:=z5t 2
structure BaJ where
 i:BaI
 s:Bool
def baddC:Con:=con1 BaJ (fun j=>[.nm 0 0,zA j.i.id,zA (zC j.s),zA j.i.price,zA j.i.qty]) (fun j=>[yA j.i.b]) (fun j=>j.i.b.fit) (fun j=>zA (j.i.b.addF (zC j.s) j.i.id j.i.price j.i.qty).2) (fun j=>[yA (j.i.b.addF (zC j.s) j.i.id j.i.price j.i.qty).1])
structure SaI where
 s:MSt
 inst:Int
 id:Int
 sd:Bool
 price:Int
 qty:Int
def MSt.bookAt (s:MSt) (n:Int):Book:=s.books.getD n.toNat book0
def MSt.addF (i:SaI):MSt×Int:=
 if i.inst<0∨i.s.books.length≤i.inst then(i.s,20)else if(lI i.s.wh i.id).isSome=true then(i.s,25)else if 250≤i.s.wh.length then(i.s,13)else if i.s.p.price i.inst i.price≠0 then(i.s,i.s.p.price i.inst i.price)
 else
  let x:=(i.s.bookAt i.inst).addF (zC i.sd) i.id i.price i.qty
  ({i.s with books:=i.s.books.set i.inst.toNat x.1,wh:=if x.2=0 then zQu i.id i.inst i.s.wh else i.s.wh},x.2)
@[reducible] def MSt.fit (s:MSt):Prop:=s.p.small∧s.books.length≤1000000∧∀b∈s.books,b.fit
def saddC:Con:=con1 SaI (fun i=>[.nm 0 0,zA i.inst,zA i.id,zA (zC i.sd),zA i.price,zA i.qty]) (fun i=>[zD i.s]) (fun i=>i.s.fit) (fun i=>zA (MSt.addF i).2) (fun i=>[zD (MSt.addF i).1])
open Go Cv Go.Proofs
def mJ (a:BkP):Prop:=(a.b.a.slots.length≤1000000∧(a.b.a.free≠0→∃(b:Slot),b∈a.b.a.slots∧b.used=false)∧∀(b:fY),b∈a.b.a.queues→b.last=(-1)∨0≤b.last∧b.last<(↑a.b.a.slots.length:Int))∧a.b.a.queues.length≤100000∧a.b.buys.length≤100000∧a.b.sells.length≤100000∧a.b.spare.length≤100000
def mR (a:PuI):Prop:=a.a.slots.length≤1000000∧(a.a.free≠0→∃(b:Slot),b∈a.a.slots∧b.used=false)∧∀(b:fY),b∈a.a.queues→b.last=(-1)∨0≤b.last∧b.last<(↑a.a.slots.length:Int)
def yJ (a:BaI):=(a.b.addF 1 a.id a.price a.qty)
def zDu (a:BkP) (b:BaI) (c:Bool):Prop:=(mJ a)∧∀(d:Unit),True→True∧∃(e:PuI),e.n=(zL a).snd∧e.id=b.id∧e.qty=b.qty∧e.top=c∧AObj.adt Arena 3 zG e.a=AObj.adt Arena 3 zG (zL a).fst.a∧(mR e)∧∀(f:Unit),True→(∀(g:Value×List D),g∈atE (zL a).fst.at_→like (Value.int IntKind.i64 b.id) g.fst=true)∧∃(g:Unit),(yJ b).snd=0∧(yJ b).fst.top1=(zL a).fst.top1∧(yJ b).fst.top2=(zL a).fst.top2∧(yJ b).fst.has1=(zL a).fst.has1∧(yJ b).fst.has2=(zL a).fst.has2∧AObj.adt Arena 3 zG (yJ b).fst.a=AObj.adt Arena 3 zG (yF e).fst∧List.map zB (yJ b).fst.buys=List.map zB (zL a).fst.buys∧List.map zB (yJ b).fst.sells=List.map zB (zL a).fst.sells∧atE (yJ b).fst.at_=vI (Value.int IntKind.i64 b.id) [dI 1,dI b.price,dI ((yF e).snd.fst)] (atE (zL a).fst.at_)∧iE (yJ b).fst.spare=iE (zL a).fst.spare∧True
def sS (a:Bool→Prop) (b:Bool) (c:Int) (d:Int) (e:Int) (f:BaI):Prop:=a b∧Sx.AObj.cells [V.d (dI c),V.d (dI d),V.d (dI e)] 235=Sx.AObj.cells [V.d (dI c),V.d (dI d),V.d (dI e)] 235∧Sx.AObj.cells (jX (qR 0 1 6) [V.nm 1 0,V.own 2,V.own 3,V.mp 4,zA f.b.top1,zA f.b.top2,V.own 5,yM f.b.has1,yM f.b.has2]) (244:TypeId)=Sx.AObj.cells (jX (qR 0 1 6) [V.nm 1 0,V.own 2,V.own 3,V.mp 4,zA f.b.top1,zA f.b.top2,V.own 5,yM f.b.has1,yM f.b.has2]) (244:TypeId)∧AObj.adt Arena 3 zG f.b.a=AObj.adt Arena 3 zG f.b.a∧AObj.own 301 2 (List.map zB f.b.buys)=AObj.own 301 2 (List.map zB f.b.buys)∧AObj.own 301 2 (List.map zB f.b.sells)=AObj.own 301 2 (List.map zB f.b.sells)∧Sx.AObj.map (atE f.b.at_)=Sx.AObj.map (atE f.b.at_)∧AObj.own 3 1 (iE f.b.spare)=AObj.own 3 1 (iE f.b.spare)
def tD (a:I3') (b:BaI) (c:Int) (d:Bool→Prop) (e:Int) (f:Int) (g:Int):Prop:=a.x=b.price∧a.y=c∧True∧∀(h:Unit),True→∃(j:Bool),j=btr a.side a.x a.y∧sS d j e f g b
def sH (a:Bool→Prop) (b:Int) (c:Int) (d:Int) (e:BaI):Prop:=∃(f:Bool),f=true∧sS a f b c d e
def bY (a:BaI):Prop:=(yJ a).fst.top1=a.b.top1∧(yJ a).fst.top2=a.b.top2∧(yJ a).fst.has1=a.b.has1∧(yJ a).fst.has2=a.b.has2∧AObj.adt Arena 3 zG (yJ a).fst.a=AObj.adt Arena 3 zG a.b.a∧List.map zB (yJ a).fst.buys=List.map zB a.b.buys∧List.map zB (yJ a).fst.sells=List.map zB a.b.sells∧atE (yJ a).fst.at_=atE a.b.at_∧iE (yJ a).fst.spare=iE a.b.spare∧True
def zCo (a:BaI):Prop:=∃(b:Unit),(yJ a).snd=24∧bY a
def mG (a:BaI) (b:Int) (c:Int) (d:Int) (e:Bool):Prop:=qK (Value.int IntKind.i64 a.id) (atE a.b.at_)=some [dI b,dI c,dI d]∧e=true∨qK (Value.int IntKind.i64 a.id) (atE a.b.at_)=none∧[dI b,dI c,dI d]=[dI 0,dI 0,dI 0]∧e=false
def nB (a:LdI):Prop:=(a.b.a.slots.length≤1000000∧a.b.a.queues.length≤1000000)∧a.b.buys.length≤1000000∧a.b.sells.length≤1000000∧a.b.spare.length≤1000000
def yBa (i:BaI):Prop:=
 (∀(a:Value×List D),a∈atE i.b.at_→like (Value.int IntKind.i64 i.id) a.fst=true)∧∃(a:Bool),∃(b:Int),∃(c:Int),∃(d:Int),(mG i b c d a)∧∃(e:Int),e=1∧True∧∀(f:Unit),True→cnd (!(wP e)) (∃(g:Unit),(yJ i).snd=21∧bY i) (cnd (decide (i.qty<1)) (zCo i) (cnd (decide (i.qty>1000000)) (zCo i) (cnd a (∃(g:Unit),(yJ i).snd=25∧bY i) (cnd (decide ((↑(atE i.b.at_).length:Int)≥250)) (∃(g:Unit),(yJ i).snd=13∧bY i) (∃(g:Bool),∃(h:Bool→Prop),cnd ((↑(List.map zB i.b.buys).length:Int)==0) (sH h b c d i) (((0:Int)≤(0:Int)∧0<(↑(List.map zB i.b.buys).length:Int))∧∃(j:Int),zE (List.map zB i.b.buys) (Int.toNat 0) ((0:Nat)+(0:Nat)) 1=some [dI j]∧∃(k:I3'),k.side=1∧tD k i j h b c d)∧∀(j:Bool),h j→cnd j (∃(k:LdI),k.id=i.id∧(1:Int)=(1:Int)∧k.b.top1=i.b.top1∧k.b.top2=i.b.top2∧k.b.has1=i.b.has1∧k.b.has2=i.b.has2∧AObj.adt Arena 3 zG k.b.a=AObj.adt Arena 3 zG i.b.a∧List.map zB k.b.buys=List.map zB i.b.buys∧List.map zB k.b.sells=List.map zB i.b.sells∧atE k.b.at_=atE i.b.at_∧iE k.b.spare=iE i.b.spare∧(nB k)∧∀(l:Unit),True→∃(m:BkP),(1:Int)=(1:Int)∧m.price=i.price∧m.b.top1=k.id∧m.b.top2=k.b.top2∧m.b.has1=true∧m.b.has2=k.b.has2∧AObj.adt Arena 3 zG m.b.a=AObj.adt Arena 3 zG (k.b.untop 1)∧List.map zB m.b.buys=List.map zB k.b.buys∧List.map zB m.b.sells=List.map zB k.b.sells∧atE m.b.at_=atE k.b.at_∧iE m.b.spare=iE k.b.spare∧zDu m i j) (∃(k:BkP),(1:Int)=(1:Int)∧k.price=i.price∧k.b.top1=i.b.top1∧k.b.top2=i.b.top2∧k.b.has1=i.b.has1∧k.b.has2=i.b.has2∧AObj.adt Arena 3 zG k.b.a=AObj.adt Arena 3 zG i.b.a∧List.map zB k.b.buys=List.map zB i.b.buys∧List.map zB k.b.sells=List.map zB i.b.sells∧atE k.b.at_=atE i.b.at_∧iE k.b.spare=iE i.b.spare∧zDu k i j))))))
def yK (a:BaI):=(a.b.addF 2 a.id a.price a.qty)
def zDz (a:BkP) (b:BaI) (c:Bool):Prop:=(mJ a)∧∀(d:Unit),True→True∧∃(e:PuI),e.n=(zK a).snd∧e.id=b.id∧e.qty=b.qty∧e.top=c∧AObj.adt Arena 3 zG e.a=AObj.adt Arena 3 zG (zK a).fst.a∧(mR e)∧∀(f:Unit),True→(∀(g:Value×List D),g∈atE (zK a).fst.at_→like (Value.int IntKind.i64 b.id) g.fst=true)∧∃(g:Unit),(yK b).snd=0∧(yK b).fst.top1=(zK a).fst.top1∧(yK b).fst.top2=(zK a).fst.top2∧(yK b).fst.has1=(zK a).fst.has1∧(yK b).fst.has2=(zK a).fst.has2∧AObj.adt Arena 3 zG (yK b).fst.a=AObj.adt Arena 3 zG (yF e).fst∧List.map zB (yK b).fst.buys=List.map zB (zK a).fst.buys∧List.map zB (yK b).fst.sells=List.map zB (zK a).fst.sells∧atE (yK b).fst.at_=vI (Value.int IntKind.i64 b.id) [dI 2,dI b.price,dI ((yF e).snd.fst)] (atE (zK a).fst.at_)∧iE (yK b).fst.spare=iE (zK a).fst.spare∧True
def aN (a:BaI):Prop:=(yK a).fst.top1=a.b.top1∧(yK a).fst.top2=a.b.top2∧(yK a).fst.has1=a.b.has1∧(yK a).fst.has2=a.b.has2∧AObj.adt Arena 3 zG (yK a).fst.a=AObj.adt Arena 3 zG a.b.a∧List.map zB (yK a).fst.buys=List.map zB a.b.buys∧List.map zB (yK a).fst.sells=List.map zB a.b.sells∧atE (yK a).fst.at_=atE a.b.at_∧iE (yK a).fst.spare=iE a.b.spare∧True
def zDy (a:BaI):Prop:=∃(b:Unit),(yK a).snd=24∧aN a
def z8b (i:BaI):Prop:=
 (∀(a:Value×List D),a∈atE i.b.at_→like (Value.int IntKind.i64 i.id) a.fst=true)∧∃(a:Bool),∃(b:Int),∃(c:Int),∃(d:Int),(mG i b c d a)∧∃(e:Int),e=2∧True∧∀(f:Unit),True→cnd (!(wP e)) (∃(g:Unit),(yK i).snd=21∧aN i) (cnd (decide (i.qty<1)) (zDy i) (cnd (decide (i.qty>1000000)) (zDy i) (cnd a (∃(g:Unit),(yK i).snd=25∧aN i) (cnd (decide ((↑(atE i.b.at_).length:Int)≥250)) (∃(g:Unit),(yK i).snd=13∧aN i) (∃(g:Bool),∃(h:Bool→Prop),cnd ((↑(List.map zB i.b.sells).length:Int)==0) (sH h b c d i) (((0:Int)≤(0:Int)∧0<(↑(List.map zB i.b.sells).length:Int))∧∃(j:Int),zE (List.map zB i.b.sells) (Int.toNat 0) ((0:Nat)+(0:Nat)) 1=some [dI j]∧∃(k:I3'),k.side=2∧tD k i j h b c d)∧∀(j:Bool),h j→cnd j (∃(k:LdI),k.id=i.id∧(2:Int)=(2:Int)∧k.b.top1=i.b.top1∧k.b.top2=i.b.top2∧k.b.has1=i.b.has1∧k.b.has2=i.b.has2∧AObj.adt Arena 3 zG k.b.a=AObj.adt Arena 3 zG i.b.a∧List.map zB k.b.buys=List.map zB i.b.buys∧List.map zB k.b.sells=List.map zB i.b.sells∧atE k.b.at_=atE i.b.at_∧iE k.b.spare=iE i.b.spare∧(nB k)∧∀(l:Unit),True→∃(m:BkP),(2:Int)=(2:Int)∧m.price=i.price∧m.b.top1=k.b.top1∧m.b.top2=k.id∧m.b.has1=k.b.has1∧m.b.has2=true∧AObj.adt Arena 3 zG m.b.a=AObj.adt Arena 3 zG (k.b.untop 2)∧List.map zB m.b.buys=List.map zB k.b.buys∧List.map zB m.b.sells=List.map zB k.b.sells∧atE m.b.at_=atE k.b.at_∧iE m.b.spare=iE k.b.spare∧zDz m i j) (∃(k:BkP),(2:Int)=(2:Int)∧k.price=i.price∧k.b.top1=i.b.top1∧k.b.top2=i.b.top2∧k.b.has1=i.b.has1∧k.b.has2=i.b.has2∧AObj.adt Arena 3 zG k.b.a=AObj.adt Arena 3 zG i.b.a∧List.map zB k.b.buys=List.map zB i.b.buys∧List.map zB k.b.sells=List.map zB i.b.sells∧atE k.b.at_=atE i.b.at_∧iE k.b.spare=iE i.b.spare∧zDz k i j))))))
def zCq (a:SaI):Prop:=AObj.fro 1 (iE (MSt.addF a).fst.p.months)=AObj.fro 1 (iE a.s.p.months)∧AObj.fro 1 (iE (MSt.addF a).fst.p.settle)=AObj.fro 1 (iE a.s.p.settle)∧True
def zCv (a:SaI):Prop:=yS (MSt.addF a).fst.wh=yS a.s.wh∧zCq a
def rL (a:SaI):Prop:=sb (MSt.addF a).fst.p.code=sb a.s.p.code∧(MSt.addF a).fst.p.tick=a.s.p.tick∧(MSt.addF a).fst.p.low=a.s.p.low∧(MSt.addF a).fst.p.high=a.s.p.high∧(MSt.addF a).fst.p.wide=a.s.p.wide∧(MSt.addF a).fst.p.rule=a.s.p.rule∧(MSt.addF a).fst.p.top=a.s.p.top∧(MSt.addF a).fst.p.least=a.s.p.least∧(MSt.addF a).fst.p.part=a.s.p.part∧AObj.objs 184 Book 6 zQ (MSt.addF a).fst.books none=AObj.objs 184 Book 6 zQ a.s.books none∧zCv a
def zGw (a:SaI):Prop:=∃(b:Unit),(MSt.addF a).snd=20∧rL a
def aD (a:BaJ):=(a.i.b.addF (zC a.s) a.i.id a.i.price a.i.qty)
def yFu (i:SaI):Prop:=
 (∀(a:Value×List D),a∈yS i.s.wh→like (Value.int IntKind.i64 i.id) a.fst=true)∧∃(a:Bool),∃(b:Int),(qK (Value.int IntKind.i64 i.id) (yS i.s.wh)=some [dI b]∧a=true∨qK (Value.int IntKind.i64 i.id) (yS i.s.wh)=none∧[dI b]=[dI 0]∧a=false)∧cnd (decide (i.inst≥0)) (cnd (!decide (i.inst<(↑i.s.books.length:Int))) (zGw i) (cnd a (∃(c:Unit),(MSt.addF i).snd=25∧rL i) (cnd (decide ((↑(yS i.s.wh).length:Int)≥250)) (∃(c:Unit),(MSt.addF i).snd=13∧rL i) (∃(c:pE),sb c.p.code=sb i.s.p.code∧iE c.p.months=iE i.s.p.months∧c.p.tick=i.s.p.tick∧c.p.low=i.s.p.low∧c.p.high=i.s.p.high∧c.p.wide=i.s.p.wide∧c.p.rule=i.s.p.rule∧c.p.top=i.s.p.top∧c.p.least=i.s.p.least∧c.p.part=i.s.p.part∧iE c.p.settle=iE i.s.p.settle∧c.a=i.inst∧c.b=i.price∧(xY c)∧∀(d:Unit),True→cnd (c.p.price c.a c.b !=0) (∃(e:Unit),(MSt.addF i).snd=c.p.price c.a c.b∧rL i) ((0≤i.inst∧i.inst<(↑i.s.books.length:Int))∧i.inst.toNat<i.s.books.length∧∃(e:Book),i.s.books[i.inst.toNat]?=some e∧∃(f:BaJ),f.i.id=i.id∧zC f.s=zC i.sd∧f.i.price=i.price∧f.i.qty=i.qty∧yA f.i.b=yA e∧((f.i.b.a.slots.length≤1000000∧(f.i.b.a.free≠0→∃(g:Slot),g∈f.i.b.a.slots∧g.used=false)∧∀(g:fY),g∈f.i.b.a.queues→g.last=(-1)∨0≤g.last∧g.last<(↑f.i.b.a.slots.length:Int))∧f.i.b.a.queues.length≤100000∧f.i.b.buys.length≤100000∧f.i.b.sells.length≤100000∧f.i.b.spare.length≤100000)∧∀(g:Unit),True→∃(h:Book),yA (aD f).fst=yA h∧i.inst.toNat=i.inst.toNat∧i.inst.toNat<i.s.books.length∧cnd ((aD f).snd==0) ((∀(j:Value×List D),j∈yS i.s.wh→like (Value.int IntKind.i64 i.id) j.fst=true)∧∃(j:Unit),(MSt.addF i).snd=(aD f).snd∧sb (MSt.addF i).fst.p.code=sb i.s.p.code∧(MSt.addF i).fst.p.tick=i.s.p.tick∧(MSt.addF i).fst.p.low=i.s.p.low∧(MSt.addF i).fst.p.high=i.s.p.high∧(MSt.addF i).fst.p.wide=i.s.p.wide∧(MSt.addF i).fst.p.rule=i.s.p.rule∧(MSt.addF i).fst.p.top=i.s.p.top∧(MSt.addF i).fst.p.least=i.s.p.least∧(MSt.addF i).fst.p.part=i.s.p.part∧AObj.objs 184 Book 6 zQ (MSt.addF i).fst.books none=AObj.objs 184 Book 6 zQ (i.s.books.set i.inst.toNat h) none∧yS (MSt.addF i).fst.wh=vI (Value.int IntKind.i64 i.id) [dI i.inst] (yS i.s.wh)∧zCq i) (∃(j:Unit),(MSt.addF i).snd=(aD f).snd∧sb (MSt.addF i).fst.p.code=sb i.s.p.code∧(MSt.addF i).fst.p.tick=i.s.p.tick∧(MSt.addF i).fst.p.low=i.s.p.low∧(MSt.addF i).fst.p.high=i.s.p.high∧(MSt.addF i).fst.p.wide=i.s.p.wide∧(MSt.addF i).fst.p.rule=i.s.p.rule∧(MSt.addF i).fst.p.top=i.s.p.top∧(MSt.addF i).fst.p.least=i.s.p.least∧(MSt.addF i).fst.p.part=i.s.p.part∧AObj.objs 184 Book 6 zQ (MSt.addF i).fst.books none=AObj.objs 184 Book 6 zQ (i.s.books.set i.inst.toNat h) none∧zCv i)))))) (zGw i)
open Go Cv Go.Proofs
theorem zGv {α:Type} {f:α→α} {Q:α→Prop} (hf:∀x,Q x→Q (f x)):∀{l:List α} (i:Nat),(∃x∈l,Q x)→∃x∈l.modify i f,Q x
 |[],i,⟨x,hx,_⟩=>by cases hx
 |a::l,0,⟨x,hx,q⟩=>by
  rcases yRy.1 hx with rfl|hx
  ·exact⟨f x,yRj,hf x q⟩
  ·exact⟨x,yRk _ hx,q⟩
 |a::l,i+1,⟨x,hx,q⟩=>by
  rw[yWd]
  rcases yRy.1 hx with rfl|hx
  ·exact⟨x,yRj,q⟩
  ·obtain⟨y,hy,hq⟩:=zGv hf (l:=l) i ⟨x,hx,q⟩
   exact⟨y,yRk _ hy,hq⟩
theorem z5y {a:Arena} (h:a.fit) (n:Int) (t:Bool):(a.topF n t).fit:=by
 obtain⟨h1,h2,h3⟩:=h
 rw[Arena.topF]
 split
 ·refine⟨by simpa using h1,fun hf=> ?_,by simpa using h3⟩
  exact zGv (f:=fun s:Slot=>{s with top:=t}) (Q:=fun s=>s.used=false) (fun x hx=>hx) _ (h2 hf)
 ·exact⟨h1,h2,h3⟩
theorem z2g {b:Book} (h:b.a.fit) (s:Int):(b.untop s).fit:=by
 rw[Book.untop]
 repeat' split
 all_goals first|exact h|exact z5y h _ _
theorem z1s {a:Arena} (h:a.fit):a.openQ.fit:=by
 obtain⟨h1,h2,h3⟩:=h
 refine⟨h1,h2,fun q hq=> ?_⟩
 rcases ySg.1 hq with hq|hq
 ·exact h3 q hq
 ·rw[yTa.1 hq];exact .inl rfl
theorem zSo {b:Book} (h:b.a.fit):b.newQ.2.2.fit:=by
 rw[Book.newQ]
 split
 ·exact z1s h
 ·exact h
theorem mB {b:Book} (h:b.a.fit) (s p:Int):(b.queueF s p).1.a.fit:=by
 rw[Book.queueF]
 repeat' split
 ·exact h
 ·exact zSo h
 ·exact zSo h
theorem z3k (b:Book) (s:Int):(b.untop s).slots.length=b.a.slots.length∧(b.untop s).queues=b.a.queues:=by
 have ht:∀n t,(b.a.topF n t).slots.length=b.a.slots.length∧(b.a.topF n t).queues=b.a.queues:=by
  intro n t
  rw[Arena.topF]
  split
  ·exact⟨by simp,rfl⟩
  ·exact⟨rfl,rfl⟩
 rw[Book.untop]
 repeat' split
 all_goals first|exact⟨rfl,rfl⟩|exact ht _ _
theorem zLi {b:Book} (h:b.fit) (id s:Int):(b.leadF id s).fit:=by
 obtain⟨h1,h2,h3,h4,h5⟩:=h
 have hl:=z3k b s
 rw[Book.leadF]
 split
 all_goals exact⟨z2g h1 s,by rw[hl.2];exact h2,h3,h4,h5⟩
theorem zLu {b:Book} (h:b.fit):b.small:=by
 obtain⟨⟨h1,_⟩,h2,h3,h4,h5⟩:=h
 exact⟨⟨h1,by omega⟩,by omega,by omega,by omega⟩
theorem yJu (i:BaI) (h:badd1C.cnd i):yBa i:=by
 have hfit:i.b.fit:=h
 have hsm:=zLu hfit
 unfold yBa wP zCo bY sH tD sS zDu zL yJ mR mJ yF nB mG dI
 have plc:∀(b:Book) (x:Int),vI (Value.int IntKind.i64 i.id) [D.v (.int .i64 1),D.v (.int .i64 i.price),D.v (.int .i64 x)] (atE b.at_)=atE (nU i.id ⟨1,i.price,x⟩ b.at_):=fun b x=>zOi i.id ⟨1,i.price,x⟩ b.at_
 refine⟨jG _ _,(pget i.b.at_ i.id).isSome,_,_,_,zLj _ _,1,rfl,trivial,fun _ _=> ?_⟩
 refine Cv.cnd.mk (fun c=>absurd c (by decide)) fun _=> ?_
 refine zI (fun c=> ?_) (fun c=>zI (fun d=> ?_) (fun d=> ?_))
 ·have ha:i.b.addF 1 i.id i.price i.qty=(i.b,24):=by rw[Book.addF,yRe (.inl c)]
  rw[ha];(repeat'(first|exact rfl|exact trivial|assumption|apply And.intro|refine fun(_:Unit) (_:True)=>?_|refine Exists.intro () ?_|omega|(dsimp only;omega)))
 ·have ha:i.b.addF 1 i.id i.price i.qty=(i.b,24):=by rw[Book.addF,yRe (.inr d)]
  rw[ha];(repeat'(first|exact rfl|exact trivial|assumption|apply And.intro|refine fun(_:Unit) (_:True)=>?_|refine Exists.intro () ?_|omega|(dsimp only;omega)))
 have hq:¬(i.qty<1∨1000000<i.qty):=by omega
 refine Cv.cnd.mk (fun e=> ?_) (fun e=> ?_)
 ·have ha:i.b.addF 1 i.id i.price i.qty=(i.b,25):=by rw[Book.addF,yRd hq,yRe e]
  rw[ha];(repeat'(first|exact rfl|exact trivial|assumption|apply And.intro|refine fun(_:Unit) (_:True)=>?_|refine Exists.intro () ?_|omega|(dsimp only;omega)))
 have hlen:(atE i.b.at_).length=i.b.at_.length:=by simp[atE]
 rw[hlen]
 refine zI (fun f=> ?_) (fun f=> ?_)
 ·have ha:i.b.addF 1 i.id i.price i.qty=(i.b,13):=by rw[Book.addF,yRd hq,yRd (by rw[e];decide),yRe (by omega)]
  rw[ha];(repeat'(first|exact rfl|exact trivial|assumption|apply And.intro|refine fun(_:Unit) (_:True)=>?_|refine Exists.intro () ?_|omega|(dsimp only;omega)))
 have ha:i.b.addF 1 i.id i.price i.qty=(i.b.stand 1 i.id i.price i.qty,0):=by rw[Book.addF,yRd hq,yRd (by rw[e];decide),yRd (by omega)]
 rw[ha]
 simp only[yRg]
 refine⟨true,fun x=>x=i.b.leads 1 i.price,Cv.cnd.mk (fun g=>⟨true,rfl,?_,by(repeat'(first|exact trivial|exact rfl|apply And.intro))⟩) (fun g=> ?_),fun x hx=> ?_⟩
 ·have:i.b.buys=[]:=ySe (by have:(i.b.buys.length:Int)=0:=(by simpa using g);omega)
  rw[Book.leads,nE,this]
 ·obtain⟨r,l,hl⟩:∃r l,i.b.buys=r::l:=by
   cases hb:i.b.buys with
   |nil=>rw[hb]at g;exact absurd g (by decide)
   |cons r l=>exact⟨r,l,rfl⟩
  refine⟨⟨by omega,by rw[hl,yRt];omega⟩,r.price,elA (x:=r) (by rw[hl];rfl) (by simp[zB]) rfl,⟨1,i.price,r.price⟩,rfl,rfl,rfl,trivial,fun _ _=>⟨_,rfl,?_,by(repeat'(first|exact trivial|exact rfl|apply And.intro))⟩⟩
  rw[Book.leads,nE,hl]
 subst hx
 refine Cv.cnd.mk (fun g=> ?_) (fun g=> ?_)
 ·have hled:i.b.led i.id 1 i.price=i.b.leadF i.id 1:=by rw[Book.led,yRe g]
  have hf1:=zLi hfit i.id 1
  have hst:i.b.stand 1 i.id i.price i.qty={((i.b.leadF i.id 1).queueF 1 i.price).1 with a:=(((i.b.leadF i.id 1).queueF 1 i.price).1.a.push ((i.b.leadF i.id 1).queueF 1 i.price).2 i.id i.qty (i.b.leads 1 i.price)).1,at_:=nU i.id ⟨1,i.price,(((i.b.leadF i.id 1).queueF 1 i.price).1.a.push ((i.b.leadF i.id 1).queueF 1 i.price).2 i.id i.qty (i.b.leads 1 i.price)).2.1⟩ ((i.b.leadF i.id 1).queueF 1 i.price).1.at_}:=by
   simp only[Book.stand,hled]
  refine⟨⟨i.b,i.id⟩,rfl,trivial,rfl,rfl,rfl,rfl,rfl,rfl,rfl,rfl,rfl,hsm,fun _ _=>⟨⟨i.b.leadF i.id 1,i.price⟩,trivial,rfl,rfl,rfl,rfl,rfl,rfl,rfl,rfl,rfl,rfl,hf1,fun _ _=>⟨trivial,?_⟩⟩⟩
  refine⟨⟨((i.b.leadF i.id 1).queueF 1 i.price).1.a,((i.b.leadF i.id 1).queueF 1 i.price).2,i.id,i.qty,i.b.leads 1 i.price⟩,rfl,rfl,rfl,rfl,rfl,mB hf1.1 1 i.price,fun _ _=>⟨jG _ _,(),?_⟩⟩
  dsimp only
  rw[hst,plc]
  (repeat'(first|exact rfl|exact trivial|assumption|apply And.intro|refine fun(_:Unit) (_:True)=>?_|refine Exists.intro () ?_|omega|(dsimp only;omega)))
 ·have hled:i.b.led i.id 1 i.price=i.b:=by rw[Book.led,yRd (by rw[g];decide)]
  have hst:i.b.stand 1 i.id i.price i.qty={(i.b.queueF 1 i.price).1 with a:=((i.b.queueF 1 i.price).1.a.push (i.b.queueF 1 i.price).2 i.id i.qty (i.b.leads 1 i.price)).1,at_:=nU i.id ⟨1,i.price,((i.b.queueF 1 i.price).1.a.push (i.b.queueF 1 i.price).2 i.id i.qty (i.b.leads 1 i.price)).2.1⟩ (i.b.queueF 1 i.price).1.at_}:=by
   simp only[Book.stand,hled]
  refine⟨⟨i.b,i.price⟩,trivial,rfl,rfl,rfl,rfl,rfl,rfl,rfl,rfl,rfl,rfl,hfit,fun _ _=>⟨trivial,?_⟩⟩
  refine⟨⟨(i.b.queueF 1 i.price).1.a,(i.b.queueF 1 i.price).2,i.id,i.qty,i.b.leads 1 i.price⟩,rfl,rfl,rfl,rfl,rfl,mB hfit.1 1 i.price,fun _ _=>⟨jG _ _,(),?_⟩⟩
  dsimp only
  rw[hst,plc]
  (repeat'(first|exact rfl|exact trivial|assumption|apply And.intro|refine fun(_:Unit) (_:True)=>?_|refine Exists.intro () ?_|omega|(dsimp only;omega)))
theorem yBe:badd1C.ok Tryz.prog 194:=okw mixed (gokc zDl (gokc cV (gokc z7o (gokc z2t (gokc zQw gok0))))) 0 (fun _=>yFt) (fun _=>[]) [0] Tryz.func194 yJu
theorem yJe (i:BaI) (h:badd2C.cnd i):z8b i:=by
 have hfit:i.b.fit:=h
 have hsm:=zLu hfit
 unfold z8b wP zDy aN zDz zK yK mR mJ yF sH tD sS nB mG dI
 have plc:∀(b:Book) (x:Int),vI (Value.int IntKind.i64 i.id) [D.v (.int .i64 2),D.v (.int .i64 i.price),D.v (.int .i64 x)] (atE b.at_)=atE (nU i.id ⟨2,i.price,x⟩ b.at_):=fun b x=>zOi i.id ⟨2,i.price,x⟩ b.at_
 refine⟨jG _ _,(pget i.b.at_ i.id).isSome,_,_,_,zLj _ _,2,rfl,trivial,fun _ _=> ?_⟩
 refine Cv.cnd.mk (fun c=>absurd c (by decide)) fun _=> ?_
 refine zI (fun c=> ?_) (fun c=>zI (fun d=> ?_) (fun d=> ?_))
 ·have ha:i.b.addF 2 i.id i.price i.qty=(i.b,24):=by rw[Book.addF,yRe (.inl c)]
  rw[ha];(repeat'(first|exact rfl|exact trivial|assumption|apply And.intro|refine fun(_:Unit) (_:True)=>?_|refine Exists.intro () ?_|omega|(dsimp only;omega)))
 ·have ha:i.b.addF 2 i.id i.price i.qty=(i.b,24):=by rw[Book.addF,yRe (.inr d)]
  rw[ha];(repeat'(first|exact rfl|exact trivial|assumption|apply And.intro|refine fun(_:Unit) (_:True)=>?_|refine Exists.intro () ?_|omega|(dsimp only;omega)))
 have hq:¬(i.qty<1∨1000000<i.qty):=by omega
 refine Cv.cnd.mk (fun e=> ?_) (fun e=> ?_)
 ·have ha:i.b.addF 2 i.id i.price i.qty=(i.b,25):=by rw[Book.addF,yRd hq,yRe e]
  rw[ha];(repeat'(first|exact rfl|exact trivial|assumption|apply And.intro|refine fun(_:Unit) (_:True)=>?_|refine Exists.intro () ?_|omega|(dsimp only;omega)))
 have hlen:(atE i.b.at_).length=i.b.at_.length:=by simp[atE]
 rw[hlen]
 refine zI (fun f=> ?_) (fun f=> ?_)
 ·have ha:i.b.addF 2 i.id i.price i.qty=(i.b,13):=by rw[Book.addF,yRd hq,yRd (by rw[e];decide),yRe (by omega)]
  rw[ha];(repeat'(first|exact rfl|exact trivial|assumption|apply And.intro|refine fun(_:Unit) (_:True)=>?_|refine Exists.intro () ?_|omega|(dsimp only;omega)))
 have ha:i.b.addF 2 i.id i.price i.qty=(i.b.stand 2 i.id i.price i.qty,0):=by rw[Book.addF,yRd hq,yRd (by rw[e];decide),yRd (by omega)]
 rw[ha]
 simp only[yRg]
 refine⟨true,fun x=>x=i.b.leads 2 i.price,Cv.cnd.mk (fun g=>⟨true,rfl,?_,by(repeat'(first|exact trivial|exact rfl|apply And.intro))⟩) (fun g=> ?_),fun x hx=> ?_⟩
 ·have:i.b.sells=[]:=ySe (by have:(i.b.sells.length:Int)=0:=(by simpa using g);omega)
  rw[Book.leads,mW,this]
 ·obtain⟨r,l,hl⟩:∃r l,i.b.sells=r::l:=by
   cases hb:i.b.sells with
   |nil=>rw[hb]at g;exact absurd g (by decide)
   |cons r l=>exact⟨r,l,rfl⟩
  refine⟨⟨by omega,by rw[hl,yRt];omega⟩,r.price,elA (x:=r) (by rw[hl];rfl) (by simp[zB]) rfl,⟨2,i.price,r.price⟩,rfl,rfl,rfl,trivial,fun _ _=>⟨_,rfl,?_,by(repeat'(first|exact trivial|exact rfl|apply And.intro))⟩⟩
  rw[Book.leads,mW,hl]
 subst hx
 refine Cv.cnd.mk (fun g=> ?_) (fun g=> ?_)
 ·have hled:i.b.led i.id 2 i.price=i.b.leadF i.id 2:=by rw[Book.led,yRe g]
  have hf1:=zLi hfit i.id 2
  have hst:i.b.stand 2 i.id i.price i.qty={((i.b.leadF i.id 2).queueF 2 i.price).1 with a:=(((i.b.leadF i.id 2).queueF 2 i.price).1.a.push ((i.b.leadF i.id 2).queueF 2 i.price).2 i.id i.qty (i.b.leads 2 i.price)).1,at_:=nU i.id ⟨2,i.price,(((i.b.leadF i.id 2).queueF 2 i.price).1.a.push ((i.b.leadF i.id 2).queueF 2 i.price).2 i.id i.qty (i.b.leads 2 i.price)).2.1⟩ ((i.b.leadF i.id 2).queueF 2 i.price).1.at_}:=by
   simp only[Book.stand,hled]
  refine⟨⟨i.b,i.id⟩,rfl,trivial,rfl,rfl,rfl,rfl,rfl,rfl,rfl,rfl,rfl,hsm,fun _ _=>⟨⟨i.b.leadF i.id 2,i.price⟩,trivial,rfl,rfl,rfl,rfl,rfl,rfl,rfl,rfl,rfl,rfl,hf1,fun _ _=>⟨trivial,?_⟩⟩⟩
  refine⟨⟨((i.b.leadF i.id 2).queueF 2 i.price).1.a,((i.b.leadF i.id 2).queueF 2 i.price).2,i.id,i.qty,i.b.leads 2 i.price⟩,rfl,rfl,rfl,rfl,rfl,mB hf1.1 2 i.price,fun _ _=>⟨jG _ _,(),?_⟩⟩
  dsimp only
  rw[hst,plc]
  (repeat'(first|exact rfl|exact trivial|assumption|apply And.intro|refine fun(_:Unit) (_:True)=>?_|refine Exists.intro () ?_|omega|(dsimp only;omega)))
 ·have hled:i.b.led i.id 2 i.price=i.b:=by rw[Book.led,yRd (by rw[g];decide)]
  have hst:i.b.stand 2 i.id i.price i.qty={(i.b.queueF 2 i.price).1 with a:=((i.b.queueF 2 i.price).1.a.push (i.b.queueF 2 i.price).2 i.id i.qty (i.b.leads 2 i.price)).1,at_:=nU i.id ⟨2,i.price,((i.b.queueF 2 i.price).1.a.push (i.b.queueF 2 i.price).2 i.id i.qty (i.b.leads 2 i.price)).2.1⟩ (i.b.queueF 2 i.price).1.at_}:=by
   simp only[Book.stand,hled]
  refine⟨⟨i.b,i.price⟩,trivial,rfl,rfl,rfl,rfl,rfl,rfl,rfl,rfl,rfl,rfl,hfit,fun _ _=>⟨trivial,?_⟩⟩
  refine⟨⟨(i.b.queueF 2 i.price).1.a,(i.b.queueF 2 i.price).2,i.id,i.qty,i.b.leads 2 i.price⟩,rfl,rfl,rfl,rfl,rfl,mB hfit.1 2 i.price,fun _ _=>⟨jG _ _,(),?_⟩⟩
  dsimp only
  rw[hst,plc]
  (repeat'(first|exact rfl|exact trivial|assumption|apply And.intro|refine fun(_:Unit) (_:True)=>?_|refine Exists.intro () ?_|omega|(dsimp only;omega)))
theorem z7a:badd2C.ok Tryz.prog 194:=okw mixed (gokc zDl (gokc cV (gokc z7h (gokc z3c (gokc zQw gok0))))) 0 (fun _=>yFt) (fun _=>[]) [0] Tryz.func194 yJe
theorem yDh:baddC.ok Tryz.prog 194:=fun j=>match j with
 |⟨i,false⟩=>yBe i
 |⟨i,true⟩=>z7a i
theorem yNk (i:SaI) (h:saddC.cnd i):yFu i:=by
 obtain⟨hp,hbl,hb⟩:i.s.fit:=h
 unfold yFu zGw rL aD zCv zCq xY dI
 simp only[zUa]
 have hml:(yS i.s.wh).length=i.s.wh.length:=by simp[yS]
 rw[hml]
 have out (e:i.inst<0∨i.s.books.length≤i.inst):MSt.addF i=(i.s,20):=by rw[MSt.addF,yRe e]
 refine⟨gV _ _,(lI i.s.wh i.id).isSome,_,yHp _ _,zI (fun c=>Cv.cnd.mk (fun d=> ?_) (fun d=> ?_)) (fun c=> ?_)⟩
 ·have d:¬i.inst<(i.s.books.length:Int):=by simpa using d
  rw[out (.inr (by omega))];(repeat'(first|exact rfl|exact trivial|assumption|apply And.intro|refine fun(_:Unit) (_:True)=>?_|refine Exists.intro () ?_|omega|(dsimp only;omega)))
 ·have d:i.inst<(i.s.books.length:Int):=by simpa using d
  have hn:¬(i.inst<0∨(i.s.books.length:Int)≤i.inst):=by omega
  refine Cv.cnd.mk (fun e=> ?_) (fun e=>zI (fun f=> ?_) (fun f=> ?_))
  ·rw[MSt.addF,yRd hn,yRe e];(repeat'(first|exact rfl|exact trivial|assumption|apply And.intro|refine fun(_:Unit) (_:True)=>?_|refine Exists.intro () ?_|omega|(dsimp only;omega)))
  ·rw[MSt.addF,yRd hn,yRd (by rw[e];decide),yRe (by omega)];(repeat'(first|exact rfl|exact trivial|assumption|apply And.intro|refine fun(_:Unit) (_:True)=>?_|refine Exists.intro () ?_|omega|(dsimp only;omega)))
  ·refine⟨⟨i.s.p,i.inst,i.price⟩,rfl,rfl,rfl,rfl,rfl,rfl,rfl,rfl,rfl,rfl,rfl,rfl,rfl,hp,fun _ _=>Cv.cnd.mk (fun g=> ?_) (fun g=> ?_)⟩
   ·have g:i.s.p.price i.inst i.price≠0:=by simpa using g
    rw[MSt.addF,yRd hn,yRd (by rw[e];decide),yRd (by omega),yRe g];(repeat'(first|exact rfl|exact trivial|assumption|apply And.intro|refine fun(_:Unit) (_:True)=>?_|refine Exists.intro () ?_|omega|(dsimp only;omega)))
   ·have g:i.s.p.price i.inst i.price=0:=by simpa using g
    obtain⟨x,hx⟩:=yD (l:=i.s.books) (i:=i.inst.toNat) (by omega)
    have hba:i.s.bookAt i.inst=x:=zR hx
    have ha:MSt.addF i=({i.s with books:=i.s.books.set i.inst.toNat (x.addF (zC i.sd) i.id i.price i.qty).1,wh:=if(x.addF (zC i.sd) i.id i.price i.qty).2=0 then zQu i.id i.inst i.s.wh else i.s.wh},(x.addF (zC i.sd) i.id i.price i.qty).2):=by
     rw[MSt.addF,yRd hn,yRd (by rw[e];decide),yRd (by omega),yRd (by simp[g])]
     simp only[hba]
    refine⟨⟨by omega,by omega⟩,by omega,x,hx,⟨⟨x,i.id,i.price,i.qty⟩,i.sd⟩,rfl,rfl,rfl,rfl,rfl,hb x (yRp hx),fun _ _=>⟨(x.addF (zC i.sd) i.id i.price i.qty).1,rfl,trivial,by omega,Cv.cnd.mk (fun z=>⟨gV _ _,?_⟩) (fun z=> ?_)⟩⟩
    ·have z:(x.addF (zC i.sd) i.id i.price i.qty).2=0:=by simpa using z
     rw[ha,z]
     simp only[if_true]
     (repeat'(first|exact rfl|exact trivial|assumption|apply And.intro|refine fun(_:Unit) (_:True)=>?_|refine Exists.intro () ?_|omega|(dsimp only;omega)))
    ·have z:¬(x.addF (zC i.sd) i.id i.price i.qty).2=0:=by simpa using z
     rw[ha,yRd z]
     (repeat'(first|exact rfl|exact trivial|assumption|apply And.intro|refine fun(_:Unit) (_:True)=>?_|refine Exists.intro () ?_|omega|(dsimp only;omega)))
 ·rw[out (.inl (by omega))];(repeat'(first|exact rfl|exact trivial|assumption|apply And.intro|refine fun(_:Unit) (_:True)=>?_|refine Exists.intro () ?_|omega|(dsimp only;omega)))
theorem yEh:saddC.ok Tryz.prog 156:=okw mixed (gokc p7 (gokc yDh gok0)) 1 (fun _=>[]) (fun _=>[]) [0] Tryz.func156 yNk
open Go Cv Go.Proofs
def r3prodC:Con:=con1 (List UInt8) (fun s=>[sV s]) (fun _=>[]) (fun s=>s.length≤1099511627776) (fun s=>yM (jJ s)) (fun _=>[])
def yEx (s:List UInt8):List SAnn:=[{ι:=Nat×Nat,slots:=fun x=>[(3,zA x.2),(7,.nm 0 0)],rows:=fun x=>[.iter (sb s) x.1]}]
def yFp:List (Nat×SAnn):=[(20,bj 29)]
def r5checkC:Con:=con1 Prd (fun p=>[prdV p]) (fun _=>[]) Prd.small (fun p=>zA p.check) (fun _=>[])
def z7n:List SAnn:=[{ι:=Nat,slots:=fun j=>[(3,zA j)],rows:=fun _=>[]},{ι:=Nat,slots:=fun j=>[(4,zA j)],rows:=fun _=>[]},{ι:=Nat,slots:=fun j=>[(5,zA j)],rows:=fun _=>[]}]
def z8n:List (Nat×SAnn):=[(12,bj 19),(32,bj 58),(40,bj 90),(68,bj 136),(96,bj 168),(104,bj 176),(112,bj 204)]
def r5countC:Con:=con1 Prd (fun p=>[prdV p]) (fun _=>[]) Prd.small (fun p=>zA p.count) (fun _=>[])
def r5legsC:Con:=con1 fX (fun i=>[prdV i.p,zA i.n]) (fun _=>[]) (fun i=>i.p.small) (fun i=> .tup [zA (i.p.legs i.n).1,zA (i.p.legs i.n).2.1,yM (i.p.legs i.n).2.2]) (fun _=>[])
def yDz (i:fX):List SAnn:=[{ι:=Nat,slots:=fun m=>[(8,zA (yH i.p.months.length m)),(9,zA m)],rows:=fun _=>[]},
 {ι:=Nat×Nat,slots:=fun m=>[(8,zA ((yH i.p.months.length m.1+m.2:Nat):Int)),(9,zA m.1),(10,zA ((m.1+1+m.2:Nat):Int))],rows:=fun _=>[]}]
def kN (x:Prd):Int:=2+zF x.months.length 0 3
def zT (x:Prd):Int:=1+zF x.tick 0 9
def kT (n:Nat):List Int:=(List.range n).map fun(i:Nat)=>10*(i:Int)+3
def qN (t:Int) (n:Nat):List Int:=(List.range n).map fun(i:Nat)=>t*(10+(i:Int))
def z8 (x:Prd):Prd:=⟨[206,169],kT (kN x).toNat,zT x,-20*zT x,100*zT x,zT x*(5+zF x.wide 0 60),1+zF x.rule 0 2,zF x.top 0 9,1+zF x.least 0 4,zF x.part 0 100,qN (zT x) (kN x).toNat⟩
@[reducible] def Prd.raw (x:Prd):Prop:=yU x.tick∧yU x.wide∧yU x.rule∧yU x.top∧yU x.least∧yU x.part∧x.months.length≤9223372036854775807
def kprodC:Con:=con1 Prd (fun x=>[prdV x]) (fun _=>[]) Prd.raw (fun x=>prdV (z8 x)) (fun _=>[])
def yQs (x:Prd) (w:Int) (j:Nat):List AObj:=[.cells [sV [206,169],.own 1,zA (zT x),zA (-20*zT x),zA (100*zT x),zA w,zA (1+zF x.rule 0 2),zA (zF x.top 0 9),zA (1+zF x.least 0 4),zA (zF x.part 0 100),.own 2] 26,.own 3 1 (iE (kT j)),.own 2 1 (iE (qN (zT x) j))]
def yOj (x:Prd):List AObj:=[.cells [sV [206,169],.d (.v (.slice none 0 0)),zA (zT x),zA (-20*zT x),zA (100*zT x),zA 0,zA (1+zF x.rule 0 2),zA (zF x.top 0 9),zA (1+zF x.least 0 4),zA (zF x.part 0 100),.d (.v (.slice none 0 0))] 26]
def yHr (x:Prd):List SAnn:=[{ι:=Nat,slots:=fun j=>[(5,.nm 0 0),(6,zA j)],rows:=fun j=>yQs x (zT x*(5+zF x.wide 0 60)) j}]
def yIy (x:Prd):List (Nat×SAnn):=[(12,{ι:=Unit,slots:=fun _=>[(5,.nm 0 0)],slots0:=fun _=>[],rows0:=fun _=>[],rows:=fun _=>yOj x})]
open Go Cv Go.Proofs
def bI (a:Bool→Prop) (b:Bool) (c:List UInt8) (d:Nat×Nat):Prop:=a b∧Sx.AObj.iter (sb c) (d.fst+(Utf8.decode (sb c) d.fst).snd)=Sx.AObj.iter (sb c) (d.fst+(Utf8.decode (sb c) d.fst).snd)
def x0 (a:List UInt8) (b:Nat×Nat):=(↑(Utf8.decode (sb a) b.fst).fst:Int)
def pV (a:List UInt8) (b:Nat×Nat) (c:Bool→Prop):Prop:=∃(d:Bool),d=!(x0 a b) !=930∧bI c d a b
def fP (a:Bool→Prop) (b:List UInt8) (c:Nat×Nat):Prop:=∃(d:Bool),d=!false∧bI a d b c
def zYq (s:List UInt8):Prop:=
 ∃(a:Nat×Nat),(↑a.snd:Int)=0∧sb s=sb s∧a.fst=0∧∃(b:Nat×Nat→Prop),∃(c:Nat×Nat→Nat),b a∧∀(d:Nat×Nat),b d→cnd (d.fst.blt (sb s).size) (∃(e:Bool),∃(f:Bool→Prop),cnd (decide ((x0 s d)≥65)) (cnd (decide ((x0 s d)≤90)) (∃(g:Bool),g=!true∧bI f g s d) (cnd (decide ((x0 s d)≥913)) (cnd (decide ((x0 s d)≤937)) (pV s d f) (fP f s d)) (fP f s d))) (cnd (decide ((x0 s d)≥913)) (cnd (decide ((x0 s d)≤937)) (pV s d f) (fP f s d)) (fP f s d))∧∀(g:Bool),f g→cnd g (∃(h:Unit),jJ s=false∧True) (gS d s b c)) (cnd (decide ((↑d.snd:Int)≥1)) (∃(e:Unit),jJ s=decide ((↑d.snd:Int)≤4)∧True) (∃(e:Unit),jJ s=false∧True))
def bX (a:Prd):Prop:=Sx.AObj.cells [V.d (vN a),V.own 0,V.d (dI a.tick),V.d (dI a.low),V.d (dI a.high),V.d (dI a.wide),V.d (dI a.rule),V.d (dI a.top),V.d (dI a.least),V.d (dI a.part),V.own ((0:Nat)+(1:Nat))] 26=Sx.AObj.cells [V.d (vN a),V.own 0,V.d (dI a.tick),V.d (dI a.low),V.d (dI a.high),V.d (dI a.wide),V.d (dI a.rule),V.d (dI a.top),V.d (dI a.least),V.d (dI a.part),V.own ((0:Nat)+(1:Nat))] 26∧dN a
def rJ (a:Nat) (b:Nat→Prop) (c:Nat→Nat) (d:Prd):Prop:=∃(e:Nat),(↑e:Int)=IntKind.i64.wrap ((↑a:Int)+1)∧b e∧c e<c a∧bX d
def pY (a:Bool→Prop) (b:Prd) (c:Nat) (d:Nat→Prop) (e:Nat→Nat):Prop:=∀(f:Bool),a f→cnd f (∃(g:Unit),b.check=1∧True) (rJ c d e b)
def qT (a:Bool→Prop) (b:Bool) (c:Prd):Prop:=a b∧bX c
def yT (a:Bool→Prop) (b:Prd):Prop:=∃(c:Bool),c=true∧qT a c b
def zQj (p:Prd):Prop:=
 ∃(a:List UInt8),sb a=sb p.code∧a.length≤1099511627776∧∀(b:Unit),True→cnd (!jJ a) (∃(c:Unit),p.check=12∧True) (∃(c:Bool),∃(d:Bool→Prop),cnd (decide ((xC p)<2)) (yT d p) (∃(e:Bool),e=decide ((xC p)>6)∧qT d e p)∧∀(e:Bool),d e→cnd e (∃(f:Unit),p.check=1∧True) (∃(f:Nat),(↑f:Int)=0∧∃(g:Nat→Prop),∃(h:Nat→Nat),g f∧∀(j:Nat),g j→cnd (decide ((↑j:Int)<(xC p))) (∃(k:Bool),∃(l:Bool→Prop),((0≤(↑j:Int)∧(↑j:Int)<(xC p))∧∃(m:Int),zE (iE p.months) (↑j:Int).toNat 0 1=some [dI m]∧cnd (decide (m<0)) (yT l p) ((0≤(↑j:Int)∧(↑j:Int)<(xC p))∧∃(n:Int),zE (iE p.months) (↑j:Int).toNat 0 1=some [dI n]∧cnd (decide (n>1199)) (yT l p) (cnd (decide ((↑j:Int)>0)) ((0≤IntKind.i64.wrap ((↑j:Int)-1)∧IntKind.i64.wrap ((↑j:Int)-1)<(xC p))∧∃(q:Int),zE (iE p.months) (IntKind.i64.wrap ((↑j:Int)-1)).toNat 0 1=some [dI q]∧(0≤(↑j:Int)∧(↑j:Int)<(xC p))∧∃(r:Int),zE (iE p.months) (↑j:Int).toNat 0 1=some [dI r]∧∃(s:Bool),s=decide (q≥r)∧qT l s p) (∃(q:Bool),q=false∧qT l q p))))∧pY l p j g h) (∃(k:Bool),∃(l:Bool→Prop),cnd (decide (p.tick<1)) (yT l p) (cnd (decide (p.tick>1000)) (yT l p) (IntKind.i64=IntKind.i64∧p.tick≠0∧cnd (p.low.tmod p.tick !=0) (yT l p) (IntKind.i64=IntKind.i64∧p.tick≠0∧cnd (p.high.tmod p.tick !=0) (yT l p) (IntKind.i64=IntKind.i64∧p.tick≠0∧∃(m:Bool),m=(p.wide.tmod p.tick !=0)∧qT l m p))))∧∀(m:Bool),l m→cnd m (∃(n:Unit),p.check=22∧True) (∃(n:Nat),(↑n:Int)=0∧∃(q:Nat→Prop),∃(r:Nat→Nat),q n∧∀(s:Nat),q s→cnd (decide ((↑s:Int)<(j6 p))) ((0≤(↑s:Int)∧(↑s:Int)<(j6 p))∧∃(t:Int),zE (iE p.settle) (↑s:Int).toNat 0 1=some [dI t]∧IntKind.i64=IntKind.i64∧p.tick≠0∧cnd (t.tmod p.tick !=0) (∃(u:Unit),p.check=22∧True) (rJ s q r p)) (∃(t:Bool),∃(u:Bool→Prop),cnd (decide (p.low<(-1000000))) (yT u p) (cnd (decide (p.low≥p.high)) (yT u p) (cnd (decide (p.high>1000000)) (yT u p) (cnd (decide (p.wide<0)) (yT u p) (∃(v:Bool),v=decide (p.wide>IntKind.i64.wrap (p.high-p.low))∧qT u v p))))∧∀(v:Bool),u v→cnd v (∃(w:Unit),p.check=23∧True) (cnd ((j6 p) !=(xC p)) (∃(w:Unit),p.check=1∧True) (∃(w:Nat),(↑w:Int)=0∧∃(x:Nat→Prop),∃(y:Nat→Nat),x w∧∀(z:Nat),x z→cnd (decide ((↑z:Int)<(j6 p))) (∃(a_1:Bool),∃(a_2:Bool→Prop),((0≤(↑z:Int)∧(↑z:Int)<(j6 p))∧∃(a_3:Int),zE (iE p.settle) (↑z:Int).toNat 0 1=some [dI a_3]∧cnd (decide (a_3<p.low)) (yT a_2 p) ((0≤(↑z:Int)∧(↑z:Int)<(j6 p))∧∃(a_4:Int),zE (iE p.settle) (↑z:Int).toNat 0 1=some [dI a_4]∧∃(a_5:Bool),a_5=decide (a_4>p.high)∧qT a_2 a_5 p))∧pY a_2 p z x y) (∃(a_1:Bool),∃(a_2:Bool→Prop),cnd (decide (p.rule<1)) (yT a_2 p) (∃(a_3:Bool),a_3=decide (p.rule>3)∧qT a_2 a_3 p)∧∀(a_3:Bool),a_2 a_3→cnd a_3 (∃(a_4:Unit),p.check=31∧True) (∃(a_4:Bool),∃(a_5:Bool→Prop),cnd (decide (p.top<0)) (yT a_5 p) (cnd (decide (p.top>1000000)) (yT a_5 p) (cnd (decide (p.least<1)) (yT a_5 p) (cnd (decide (p.least>1000)) (yT a_5 p) (cnd (decide (p.part<0)) (yT a_5 p) (∃(a_6:Bool),a_6=decide (p.part>100)∧qT a_5 a_6 p)))))∧∀(a_6:Bool),a_5 a_6→cnd a_6 (∃(a_7:Unit),p.check=24∧True) (∃(a_7:Unit),p.check=0∧True))))))))))
def zQx (p:Prd):Prop:=
 ∃(a:Prd),mC a p
def uY (a:fX) (b:Nat×Nat):=(↑(yH a.p.months.length b.fst+b.snd):Int)
def zYx (i:fX):Prop:=
 ∃(a:Prd),sb a.code=sb i.p.code∧iE a.months=iE i.p.months∧a.tick=i.p.tick∧a.low=i.p.low∧a.high=i.p.high∧a.wide=i.p.wide∧a.rule=i.p.rule∧a.top=i.p.top∧a.least=i.p.least∧a.part=i.p.part∧iE a.settle=iE i.p.settle∧(zY a)∧∀(b:Unit),True→cnd (a.check !=0) (hU i) (cnd (decide (i.n<0)) (hU i) (cnd (decide (i.n<(wC i))) (rU i) (∃(c:Nat),(vG i c)=(wC i)∧(↑c:Int)=0∧∃(d:Nat→Prop),∃(e:Nat→Nat),d c∧∀(f:Nat),d f→cnd (decide ((↑f:Int)<(wC i))) (∃(g:Nat×Nat),(uY i g)=(vG i f)∧(↑g.fst:Int)=(↑f:Int)∧(↑(g.fst+1+g.snd):Int)=IntKind.i64.wrap ((↑f:Int)+1)∧∃(h:Nat×Nat→Prop),∃(j:Nat×Nat→Nat),h g∧∀(k:Nat×Nat),h k→cnd (decide ((↑(k.fst+1+k.snd):Int)<(wC i))) (cnd ((uY i k)==i.n) (∃(l:Unit),(i.p.legs i.n).fst=(↑k.fst:Int)∧(i.p.legs i.n).snd.fst=(↑(k.fst+1+k.snd):Int)∧(i.p.legs i.n).snd.snd=true∧True) (∃(l:Nat×Nat),(uY i l)=IntKind.i64.wrap ((uY i k)+1)∧(↑l.fst:Int)=(↑k.fst:Int)∧(↑(l.fst+1+l.snd):Int)=IntKind.i64.wrap ((↑(k.fst+1+k.snd):Int)+1)∧h l∧j l<j k∧nP i)) (∃(l:Nat),(vG i l)=(uY i k)∧(↑l:Int)=IntKind.i64.wrap ((↑k.fst:Int)+1)∧zBq d l e f i)) (hU i))))
def yV (a:WiI):Prop:=((-9223372036854775808)≤a.n∧a.n≤9223372036854775807)∧(-1000000)≤a.lo∧a.lo≤a.hi∧a.hi≤1000000
def xV (a:WiI):=(1+zF a.n a.lo a.hi)
def qZ:=(D.v (Value.string (ByteArray.mk #[])))
def zBw (a:Prd):Prop:=Sx.AObj.cells (Sx.V.agg [V.d qZ,V.d (D.v (Value.slice none 0 0)),V.d (dI 0),V.d (dI 0),V.d (dI 0),V.d (dI 0),V.d (dI 0),V.d (dI 0),V.d (dI 0),V.d (dI 0),V.d (D.v (Value.slice none 0 0))]).cl 26=Sx.AObj.cells (Sx.V.agg [V.d qZ,V.d (D.v (Value.slice none 0 0)),V.d (dI 0),V.d (dI 0),V.d (dI 0),V.d (dI 0),V.d (dI 0),V.d (dI 0),V.d (dI 0),V.d (dI 0),V.d (D.v (Value.slice none 0 0))]).cl 26∧bX a
def zDr (a:Prd) (b:WiI) (c:WiI) (d:WiI) (e:WiI) (f:Unit→Prop):Prop:=∃(g:WiI),g.n=a.part∧g.lo=0∧g.hi=100∧(yV g)∧∀(h:Unit),True→∃(j:Unit),sb [(206:UInt8),(169:UInt8)]=ByteArray.mk #[(206:UInt8),(169:UInt8)]∧True∧zT a=IntKind.i64.wrap (xV b)∧(-20)*zT a=IntKind.i64.wrap ((-20)*IntKind.i64.wrap (xV b))∧100*zT a=IntKind.i64.wrap (100*IntKind.i64.wrap (xV b))∧(0:Int)=(0:Int)∧1+zF a.rule 0 2=IntKind.i64.wrap (xV c)∧zF a.top 0 9=zF d.n d.lo d.hi∧1+zF a.least 0 4=IntKind.i64.wrap (xV e)∧zF a.part 0 100=zF g.n g.lo g.hi∧True∧f j∧zBw a
def zCr (a:Prd) (b:WiI) (c:WiI) (d:WiI) (e:WiI) (f:Unit→Prop):Prop:=a.part=a.part∧zDr a b c d e f
def zCx (a:Prd) (b:WiI) (c:WiI) (d:WiI) (e:Unit→Prop):Prop:=a.part=a.part∧a.least=a.least∧∃(f:WiI),f.n=a.least∧f.lo=0∧f.hi=4∧(yV f)∧∀(g:Unit),True→zCr a b c d f e
def zDj (a:Prd) (b:WiI) (c:WiI) (d:Unit→Prop):Prop:=a.part=a.part∧a.least=a.least∧a.top=a.top∧∃(e:WiI),e.n=a.top∧e.lo=0∧e.hi=9∧(yV e)∧∀(f:Unit),True→zCx a b c e d
def z6t (x:Prd):Prop:=
 ∃(a:WiI),a.n=(xC x)∧a.lo=0∧a.hi=3∧(yV a)∧∀(b:Unit),True→∃(c:WiI),c.n=x.tick∧c.lo=0∧c.hi=9∧(yV c)∧∀(d:Unit),True→∃(e:Unit),∃(f:Unit→Prop),((∃(g:WiI),g.n=x.rule∧g.lo=0∧g.hi=2∧(yV g)∧∀(h:Unit),True→x.part=x.part∧x.least=x.least∧x.top=x.top∧(∃(j:WiI),j.n=x.top∧j.lo=0∧j.hi=9∧(yV j)∧∀(k:Unit),True→x.part=x.part∧x.least=x.least∧(∃(l:WiI),l.n=x.least∧l.lo=0∧l.hi=4∧(yV l)∧∀(m:Unit),True→x.part=x.part∧(zDr x c g j l f)∧zCr x c g j l f)∧zCx x c g j f)∧zDj x c g f)∧x.part=x.part∧x.least=x.least∧x.top=x.top∧x.rule=x.rule∧∃(g:WiI),g.n=x.rule∧g.lo=0∧g.hi=2∧(yV g)∧∀(h:Unit),True→zDj x c g f)∧∀(g:Unit),f g→∃(h:WiI),h.n=x.wide∧h.lo=0∧h.hi=60∧(yV h)∧∀(j:Unit),True→∃(k:Nat),(↑k:Int)=0∧sb [(206:UInt8),(169:UInt8)]=sb [(206:UInt8),(169:UInt8)]∧zT x=zT x∧(-20)*zT x=(-20)*zT x∧100*zT x=100*zT x∧zT x*(5+zF x.wide 0 60)=IntKind.i64.wrap (IntKind.i64.wrap (xV c)*IntKind.i64.wrap (5+zF h.n h.lo h.hi))∧1+zF x.rule 0 (2:Int)=(1:Int)+zF x.rule 0 2∧zF x.top 0 9=zF x.top 0 (9:Int)∧(1:Int)+zF x.least 0 (4:Int)=(1:Int)+zF x.least 0 4∧zF x.part 0 100=zF x.part 0 100∧iE (kT k)=[]∧iE (qN (zT x) k)=[]∧∃(l:Nat→Prop),∃(m:Nat→Nat),l k∧∀(n:Nat),l n→cnd (decide ((↑n:Int)<IntKind.i64.wrap (2+zF a.n a.lo a.hi))) (((iE (kT n)).length+1)*(8:Nat)≤(70368744177664:Nat)∧((iE (qN (zT x) n)).length+1)*(8:Nat)≤(70368744177664:Nat)∧∃(p:Nat),(↑p:Int)=IntKind.i64.wrap ((↑n:Int)+1)∧sb [(206:UInt8),(169:UInt8)]=sb [(206:UInt8),(169:UInt8)]∧zT x=zT x∧(-20)*zT x=(-20)*zT x∧100*zT x=100*zT x∧zT x*(5+zF x.wide 0 60)=zT x*(5+zF x.wide 0 60)∧1+zF x.rule 0 (2:Int)=(1:Int)+zF x.rule 0 2∧zF x.top 0 9=zF x.top 0 (9:Int)∧(1:Int)+zF x.least 0 (4:Int)=(1:Int)+zF x.least 0 4∧zF x.part 0 100=zF x.part 0 100∧iE (kT p)=iE (kT n)++[[dI (IntKind.i64.wrap (IntKind.i64.wrap (10*(↑n:Int))+3))]]∧iE (qN (zT x) p)=iE (qN (zT x) n)++[[dI (IntKind.i64.wrap (IntKind.i64.wrap (xV c)*IntKind.i64.wrap (10+(↑n:Int))))]]∧l p∧m p<m n∧zBw x) (∃(p:Unit),sb [(206:UInt8),(169:UInt8)]=sb [(206:UInt8),(169:UInt8)]∧iE (kT (kN x).toNat)=iE (kT n)∧zT x=zT x∧(-20)*zT x=(-20)*zT x∧100*zT x=100*zT x∧zT x*(5+zF x.wide 0 60)=zT x*(5+zF x.wide 0 60)∧1+zF x.rule 0 (2:Int)=(1:Int)+zF x.rule 0 2∧zF x.top 0 9=zF x.top 0 (9:Int)∧(1:Int)+zF x.least 0 (4:Int)=(1:Int)+zF x.least 0 4∧zF x.part 0 100=zF x.part 0 100∧iE (qN (zT x) (kN x).toNat)=iE (qN (zT x) n)∧True)
open Go Cv Go.Proofs
theorem yDn (s:List UInt8) (h:r3prodC.cnd s):zYq s:=by
 have h:s.length≤1099511627776:=h
 have hr:=zCz s
 unfold zYq fP pV x0 bI gS
 refine⟨(0,0),rfl,rfl,rfl,fun x=>x.1≤s.length∧x.2+(v7 s x.1).length=(qY s).length∧(qY s).all uI=((v7 s x.1).all fun y=>uI y.2),fun x=>s.length-x.1,⟨by omega,by rw[qY,yRg];simp,by rw[qY,List.all_map];rfl⟩,?_⟩
 rintro⟨p,n⟩ ⟨h1,h2,h3⟩
 dsimp only at h1 h2 h3 ⊢
 refine Cv.cnd.mk (fun hp=> ?_) (fun hp=> ?_)
 ·have hp:p<s.length:=by simpa[yUb]using hp
  have hw:=fZ s hp
  rw[kQ hp,yRt]at h2
  rw[kQ hp,List.all_cons]at h3
  generalize hc:(Utf8.decode (sb s) p).1=c at h2 h3 ⊢
  generalize hww:(Utf8.decode (sb s) p).2=w at h2 h3 hw ⊢
  dsimp only at h3
  have g0:∀b:Bool,(b=true→uI c=true)→(b=false→uI c=false)→b=uI c:=fun b e1 e2=>by cases b<;>simp_all
  refine⟨true,fun b=>b= !uI c,?_,fun b hb=> ?_⟩
  ·refine zI (fun c1=>zI (fun c2=>⟨_,rfl,?_,by(repeat'(first|exact trivial|exact rfl|apply And.intro))⟩) (fun c2=>zI (fun c3=>zI (fun c4=>⟨_,rfl,?_,by(repeat'(first|exact trivial|exact rfl|apply And.intro))⟩) (fun c4=>⟨_,rfl,?_,by(repeat'(first|exact trivial|exact rfl|apply And.intro))⟩)) (fun c3=>⟨_,rfl,?_,by(repeat'(first|exact trivial|exact rfl|apply And.intro))⟩))) (fun c1=>zI (fun c3=>zI (fun c4=>⟨_,rfl,?_,by(repeat'(first|exact trivial|exact rfl|apply And.intro))⟩) (fun c4=>⟨_,rfl,?_,by(repeat'(first|exact trivial|exact rfl|apply And.intro))⟩)) (fun c3=>⟨_,rfl,?_,by(repeat'(first|exact trivial|exact rfl|apply And.intro))⟩))
   all_goals congr 1
   all_goals refine g0 _ (fun e=> ?_) (fun e=> ?_)
   all_goals first|(simp[uI]at*;done)|(simp[uI]at*;omega)
  ·subst hb
   refine Cv.cnd.mk (fun e=>⟨(),?_,trivial⟩) (fun e=>⟨(p+w,n+1),?_,rfl,rfl,⟨hw.2,by(first|omega|(dsimp only;omega)),?_⟩,by(first|omega|(dsimp only;omega)),trivial⟩)
   ·have e:uI c=false:=by simpa using e
    rw[jJ,h3,e];rfl
   ·rw[w64 (by omega)];rfl
   ·have e:uI c=true:=by simpa using e
    rw[h3,e];rfl
 ·have hp:s.length≤p:=by have:=z0d hp;simpa using this
  rw[wZ hp]at h2 h3
  have h3:(qY s).all uI=true:=h3
  have hn:n=(qY s).length:=by simpa using h2
  have hne:(s=[])↔(qY s).length=0:=by
   constructor
   ·intro e;subst e;rfl
   ·intro e
    cases s with
    |nil=>rfl
    |cons b l=>
     rw[qY,yRg,kQ (by simp)]at e
     simp at e
  refine zI (fun c=>⟨(),?_,trivial⟩) (fun c=>⟨(),?_,trivial⟩)
  ·have:¬s=[]:=by rw[hne];omega
   rw[jJ,h3,yRu this,hn]
   simp only[yTu]
   congr 1
   simp only[eq_iff_iff];omega
  ·have:s=[]:=by rw[hne];omega
   rw[jJ,this];rfl
theorem z1t:r3prodC.ok Tryz.prog 144:=okw mixed gok0 0 (fun _=>yFp) (fun s=>yEx s) [] Tryz.func144 yDn
theorem m9:∀(l:List Int) (a:Int),l.foldl min a≤a∧∀x∈l,l.foldl min a≤x
 |[],a=>⟨yWy _,by simp⟩
 |b::l,a=>by
  obtain⟨h1,h2⟩:=m9 l (min a b)
  rw[yUy]
  refine⟨by omega,fun x hx=> ?_⟩
  rcases yRy.1 hx with rfl|hx
  ·omega
  ·exact h2 x hx
theorem mK:∀(l:List Int) (a:Int),a≤l.foldl max a∧∀x∈l,x≤l.foldl max a
 |[],a=>⟨yWy _,by simp⟩
 |b::l,a=>by
  obtain⟨h1,h2⟩:=mK l (max a b)
  rw[yUy]
  refine⟨by omega,fun x hx=> ?_⟩
  rcases yRy.1 hx with rfl|hx
  ·omega
  ·exact h2 x hx
theorem tR:∀(l:List Int) (a:Int),l.foldl min a=a∨l.foldl min a∈l
 |[],a=> .inl rfl
 |b::l,a=>by
  rw[yUy]
  rcases tR l (min a b)with h|h
  ·rcases Int.le_total a b with e|e
   ·left;rw[h];omega
   ·right;rw[h,show min a b=b by omega];exact yRj
  ·exact .inr (yRk _ h)
theorem tO:∀(l:List Int) (a:Int),l.foldl max a=a∨l.foldl max a∈l
 |[],a=> .inl rfl
 |b::l,a=>by
  rw[yUy]
  rcases tO l (max a b)with h|h
  ·rcases Int.le_total a b with e|e
   ·right;rw[h,show max a b=b by omega];exact yRj
   ·left;rw[h];omega
  ·exact .inr (yRk _ h)
theorem z0o {l:List Int} {x:Int} (h:x∈l):nM l≤x:=by
 cases l with
 |nil=>cases h
 |cons a l=>
  rw[nM,List.tail_cons,List.headD_cons]
  rcases yRy.1 h with rfl|h
  ·exact(m9 l x).1
  ·exact(m9 l a).2 x h
theorem z1f {l:List Int} {x:Int} (h:x∈l):x≤pD l:=by
 cases l with
 |nil=>cases h
 |cons a l=>
  rw[pD,List.tail_cons,List.headD_cons]
  rcases yRy.1 h with rfl|h
  ·exact(mK l x).1
  ·exact(mK l a).2 x h
theorem zRp {l:List Int} (h:l≠[]):nM l∈l:=by
 cases l with
 |nil=>exact absurd rfl h
 |cons a l=>
  rw[nM,List.tail_cons,List.headD_cons]
  rcases tR l a with h|h
  ·rw[h];exact yRj
  ·exact yRk _ h
theorem zRt {l:List Int} (h:l≠[]):pD l∈l:=by
 cases l with
 |nil=>exact absurd rfl h
 |cons a l=>
  rw[pD,List.tail_cons,List.headD_cons]
  rcases tO l a with h|h
  ·rw[h];exact yRj
  ·exact yRk _ h
theorem z6u (p:Prd) (h:r5checkC.cnd p):zQj p:=by
 obtain⟨h1,h2,h3⟩:p.small:=h
 unfold zQj yT qT pY rJ bX vN dN xC j6 dI
 simp only[yY]
 refine⟨p.code,rfl,h1,fun _ _=>Cv.cnd.mk (fun c1=>⟨(),by rw[Prd.check,yRe c1],trivial⟩) fun c1=> ?_⟩
 have c1:jJ p.code=true:=by simpa using c1
 have e1:p.check=if !xD p.months then 1 else if !x9 p then 22 else if qA p then 23 else if xE p then 1 else if qP p then 31 else if xW p then 24 else 0:=by
  rw[Prd.check,yRd (by simp[c1])]
 refine⟨true,fun b=>b=(decide (p.months.length<2)||decide (p.months.length>6)),zI (fun c=>⟨true,rfl,?_,by(repeat'(first|exact trivial|exact rfl|apply And.intro))⟩) (fun c=>⟨_,rfl,?_,by(repeat'(first|exact trivial|exact rfl|apply And.intro))⟩),fun b hb=> ?_⟩
 ·rw[yRu (show p.months.length<2 by omega)];rfl
 ·rw[yRo (show ¬p.months.length<2 by omega),yWr]
  congr 1;simp only[eq_iff_iff];omega
 subst hb
 refine Cv.cnd.mk (fun c2=> ?_) (fun c2=> ?_)
 ·have:xD p.months=false:=by
   simp only[Bool.or_eq_true,ySs]at c2
   rw[xD]
   rcases c2 with c2|c2
   ·rw[yRo (show ¬2≤p.months.length by omega)];simp
   ·rw[yRo (show ¬p.months.length≤6 by omega)];simp
  exact⟨(),by rw[e1,yRe (by rw[this];rfl)],trivial⟩
 have c2:2≤p.months.length∧p.months.length≤6:=by
  simp only[yUw,decide_eq_false_iff_not]at c2;omega
 have em:xD p.months=(List.range p.months.length).all (qH p.months):=by
  rw[xD,yRu c2.1,yRu c2.2];simp
 refine⟨0,rfl,fun j=>j≤p.months.length∧∀k<j,qH p.months k=true,fun j=>p.months.length-j,⟨by omega,fun k hk=>by omega⟩,?_⟩
 rintro j ⟨g1,g2⟩
 refine zI (fun hj=> ?_) (fun hj=> ?_)
 ·obtain⟨m,hm⟩:=yD (l:=p.months) (i:=j) (by omega)
  have hmj:p.months.getD j 0=m:=zR hm
  refine⟨true,fun b=>b= !qH p.months j,⟨⟨by omega,by omega⟩,m,elI hm,zI (fun c=>⟨true,rfl,?_,by(repeat'(first|exact trivial|exact rfl|apply And.intro))⟩) (fun c=>⟨⟨by omega,by omega⟩,m,elI hm,zI (fun d=>⟨true,rfl,?_,by(repeat'(first|exact trivial|exact rfl|apply And.intro))⟩) (fun d=>zI (fun e=> ?_) (fun e=>⟨false,rfl,?_,by(repeat'(first|exact trivial|exact rfl|apply And.intro))⟩))⟩)⟩,fun b hb=> ?_⟩
  ·rw[qH,hmj,yRo (show ¬0≤m by omega)];rfl
  ·rw[qH,hmj,yRo (show ¬m≤1199 by omega)];simp
  ·obtain⟨m',hm'⟩:=yD (l:=p.months) (i:=j-1) (by omega)
   rw[w64 (by omega),show((j:Int)-1).toNat=j-1 by omega]
   refine⟨⟨by omega,by omega⟩,m',elI hm',⟨by omega,by omega⟩,m,elI hm,_,rfl,?_,by(repeat'(first|exact trivial|exact rfl|apply And.intro))⟩
   rw[qH,hmj,zR hm',yRu (show 0≤m by omega),yRu (show m≤1199 by omega),yRo (show ¬j=0 by omega)]
   simp only[yTu,yWr]
   by_cases hlt:m'<m
   ·rw[yRu hlt,yRo (by omega)];rfl
   ·rw[yRo hlt,yRu (by omega)];rfl
  ·rw[qH,hmj,yRu (show 0≤m by omega),yRu (show m≤1199 by omega),yRu (show j=0 by omega)];rfl
  ·subst hb
   refine Cv.cnd.mk (fun c=>⟨(),?_,trivial⟩) (fun c=>⟨j+1,by rw[w64 (by omega)];rfl,⟨by omega,fun k hk=> ?_⟩,by(first|omega|(dsimp only;omega)),by(repeat'(first|exact trivial|exact rfl|apply And.intro))⟩)
   ·have c:qH p.months j=false:=by simpa using c
    rw[e1,yRe (by rw[em,zNb (k:=j) (by omega) c];rfl)]
   ·have c:qH p.months j=true:=by simpa using c
    rcases yTt k j with h|h
    ·exact g2 k h
    ·obtain rfl:k=j:=by omega
     exact c
 have em:xD p.months=true:=by rw[em];exact zRf fun k hk=>g2 k (by omega)
 have e2:p.check=if !x9 p then 22 else if qA p then 23 else if xE p then 1 else if qP p then 31 else if xW p then 24 else 0:=by
  rw[e1,yRd (by simp[em])]
 have et:x9 p=((decide (1≤p.tick) && decide (p.tick≤1000) && !qD p.tick p.low && !qD p.tick p.high && !qD p.tick p.wide) && !p.settle.any (qD p.tick)):=rfl
 refine⟨true,fun b=>b= !(decide (1≤p.tick) && decide (p.tick≤1000) && !qD p.tick p.low && !qD p.tick p.high && !qD p.tick p.wide),zI (fun d1=>⟨true,rfl,?_,by(repeat'(first|exact trivial|exact rfl|apply And.intro))⟩) (fun d1=>zI (fun d2=>⟨true,rfl,?_,by(repeat'(first|exact trivial|exact rfl|apply And.intro))⟩) (fun d2=>⟨trivial,by omega,Cv.cnd.mk (fun d3=>⟨true,rfl,?_,by(repeat'(first|exact trivial|exact rfl|apply And.intro))⟩) (fun d3=>⟨trivial,by omega,Cv.cnd.mk (fun d4=>⟨true,rfl,?_,by(repeat'(first|exact trivial|exact rfl|apply And.intro))⟩) (fun d4=>⟨trivial,by omega,_,rfl,?_,by(repeat'(first|exact trivial|exact rfl|apply And.intro))⟩)⟩)⟩)),fun b hb=> ?_⟩
 ·rw[yRo (show ¬1≤p.tick by omega)];rfl
 ·rw[yRo (show ¬p.tick≤1000 by omega)];simp
 ·have d3:qD p.tick p.low=true:=d3
  rw[d3];simp
 ·have d4:qD p.tick p.high=true:=d4
  rw[d4];simp
 ·have d3:qD p.tick p.low=false:=d3
  have d4:qD p.tick p.high=false:=d4
  rw[d3,d4,yRu (show 1≤p.tick by omega),yRu (show p.tick≤1000 by omega)]
  show qD p.tick p.wide=_
  simp
 subst hb
 refine Cv.cnd.mk (fun c3=> ?_) (fun c3=> ?_)
 ·have c3:(decide (1≤p.tick) && decide (p.tick≤1000) && !qD p.tick p.low && !qD p.tick p.high && !qD p.tick p.wide)=false:=by
   rw[yVo]at c3
   exact c3
  exact⟨(),by rw[e2,yRe (by rw[et,c3];rfl)],trivial⟩
 have c3:(decide (1≤p.tick) && decide (p.tick≤1000) && !qD p.tick p.low && !qD p.tick p.high && !qD p.tick p.wide)=true:=by simpa using c3
 have ht1:1≤p.tick:=by
  simp only[yRq,ySs]at c3;exact c3.1.1.1.1
 rw[c3,yTu]at et
 refine⟨0,rfl,fun j=>j≤p.settle.length∧∀k<j,∀x,p.settle[k]? =some x→qD p.tick x=false,fun j=>p.settle.length-j,⟨by omega,fun k hk=>by omega⟩,?_⟩
 rintro j ⟨g1,g2⟩
 refine zI (fun hj=> ?_) (fun hj=> ?_)
 ·obtain⟨m,hm⟩:=yD (l:=p.settle) (i:=j) (by omega)
  refine⟨⟨by omega,by omega⟩,m,elI hm,trivial,by omega,Cv.cnd.mk (fun c=>⟨(),?_,trivial⟩) (fun c=>⟨j+1,by rw[w64 (by omega)];rfl,⟨by omega,fun k hk x hx=> ?_⟩,by(first|omega|(dsimp only;omega)),by(repeat'(first|exact trivial|exact rfl|apply And.intro))⟩)⟩
  ·have c:qD p.tick m=true:=c
   have:p.settle.any (qD p.tick)=true:=by rw[List.any_eq_true];exact⟨m,yRp hm,c⟩
   rw[e2,yRe (by rw[et,this];rfl)]
  ·rcases yTt k j with h|h
   ·exact g2 k h x hx
   ·obtain rfl:k=j:=by omega
    rw[hm]at hx;cases hx;exact c
 have et:x9 p=true:=by
  rw[et]
  have:p.settle.any (qD p.tick)=false:=by
   rw[yWz]
   intro x hx
   obtain⟨k,hk⟩:=List.getElem?_of_mem hx
   rw[g2 k (by have:=(yRf.1 hk).1;omega) x hk];simp
  rw[this];rfl
 have e3:p.check=if qA p then 23 else if xE p then 1 else if qP p then 31 else if xW p then 24 else 0:=by
  rw[e2,yRd (by simp[et])]
 refine⟨true,fun b=>b=qA p,zI (fun d1=>⟨true,rfl,?_,by(repeat'(first|exact trivial|exact rfl|apply And.intro))⟩) (fun d1=>zI (fun d2=>⟨true,rfl,?_,by(repeat'(first|exact trivial|exact rfl|apply And.intro))⟩) (fun d2=>zI (fun d3=>⟨true,rfl,?_,by(repeat'(first|exact trivial|exact rfl|apply And.intro))⟩) (fun d3=>zI (fun d4=>⟨true,rfl,?_,by(repeat'(first|exact trivial|exact rfl|apply And.intro))⟩) (fun d4=>⟨_,rfl,?_,by(repeat'(first|exact trivial|exact rfl|apply And.intro))⟩)))),fun b hb=> ?_⟩
 ·simp[qA,d1]
 ·simp[qA,d2]
 ·simp[qA,d3]
 ·simp[qA,d4]
 ·rw[w64 (by omega)];simp[qA,d1,d2,d3,d4]
 subst hb
 refine Cv.cnd.mk (fun c4=>⟨(),by rw[e3,yRe c4],trivial⟩) (fun c4=> ?_)
 have e4:p.check=if xE p then 1 else if qP p then 31 else if xW p then 24 else 0:=by
  rw[e3,yRd (by simp[c4])]
 refine Cv.cnd.mk (fun d6=>⟨(),?_,trivial⟩) (fun d6=> ?_)
 ·have d6:¬(p.settle.length:Int)=p.months.length:=by simpa using d6
  rw[e4,yRe (by simp[xE];omega)]
 have d6:p.settle.length=p.months.length:=by
  have:(p.settle.length:Int)=p.months.length:=by simpa using d6
  omega
 have hne:p.settle≠[]:=by intro e;rw[e]at d6;simp at d6;omega
 refine⟨0,rfl,fun j=>j≤p.settle.length∧∀k<j,∀x,p.settle[k]? =some x→p.low≤x∧x≤p.high,fun j=>p.settle.length-j,⟨by omega,fun k hk=>by omega⟩,?_⟩
 rintro j ⟨g3,g4⟩
 refine zI (fun hj=> ?_) (fun hj=> ?_)
 ·obtain⟨m,hm⟩:=yD (l:=p.settle) (i:=j) (by omega)
  have hmm:=yRp hm
  refine⟨true,fun b=>b=(decide (m<p.low)||decide (m>p.high)),⟨⟨by omega,by omega⟩,m,elI hm,zI (fun c=>⟨true,rfl,?_,by(repeat'(first|exact trivial|exact rfl|apply And.intro))⟩) (fun c=>⟨⟨by omega,by omega⟩,m,elI hm,_,rfl,?_,by(repeat'(first|exact trivial|exact rfl|apply And.intro))⟩)⟩,fun b hb=> ?_⟩
  ·rw[yRu c];rfl
  ·rw[yRo c,yWr]
  ·subst hb
   refine Cv.cnd.mk (fun c=>⟨(),?_,trivial⟩) (fun c=>⟨j+1,by rw[w64 (by omega)];rfl,⟨by omega,fun k hk x hx=> ?_⟩,by(first|omega|(dsimp only;omega)),by(repeat'(first|exact trivial|exact rfl|apply And.intro))⟩)
   ·have l1:=z0o hmm
    have l2:=z1f hmm
    rw[e4,yRe (by
     simp only[Bool.or_eq_true,ySs]at c
     simp only[xE,Bool.or_eq_true,ySs]
     rcases c with c|c
     ·left;right;omega
     ·right;omega)]
   ·rcases yTt k j with h|h
    ·exact g4 k h x hx
    ·obtain rfl:k=j:=by omega
     rw[hm]at hx;cases hx
     simp only[yUw,decide_eq_false_iff_not]at c
     omega
 have hset:xE p=false:=by
  have all:∀x∈p.settle,p.low≤x∧x≤p.high:=fun x hx=>by
   obtain⟨k,hk⟩:=List.getElem?_of_mem hx
   exact g4 k (by have:=(yRf.1 hk).1;omega) x hk
  have a1:=all _ (zRp hne)
  have a2:=all _ (zRt hne)
  simp only[xE,yUw,decide_eq_false_iff_not]
  omega
 have e5:p.check=if qP p then 31 else if xW p then 24 else 0:=by
  rw[e4,yRd (by simp[hset])]
 refine⟨true,fun b=>b=qP p,zI (fun d1=>⟨true,rfl,?_,by(repeat'(first|exact trivial|exact rfl|apply And.intro))⟩) (fun d1=>⟨_,rfl,?_,by(repeat'(first|exact trivial|exact rfl|apply And.intro))⟩),fun b hb=> ?_⟩
 ·simp[qP,d1]
 ·simp[qP,d1]
 subst hb
 refine Cv.cnd.mk (fun c6=>⟨(),by rw[e5,yRe c6],trivial⟩) (fun c6=> ?_)
 have e6:p.check=if xW p then 24 else 0:=by rw[e5,yRd (by simp[c6])]
 refine⟨true,fun b=>b=xW p,zI (fun d1=>⟨true,rfl,?_,by(repeat'(first|exact trivial|exact rfl|apply And.intro))⟩) (fun d1=>zI (fun d2=>⟨true,rfl,?_,by(repeat'(first|exact trivial|exact rfl|apply And.intro))⟩) (fun d2=>zI (fun d3=>⟨true,rfl,?_,by(repeat'(first|exact trivial|exact rfl|apply And.intro))⟩) (fun d3=>zI (fun d4=>⟨true,rfl,?_,by(repeat'(first|exact trivial|exact rfl|apply And.intro))⟩) (fun d4=>zI (fun d5=>⟨true,rfl,?_,by(repeat'(first|exact trivial|exact rfl|apply And.intro))⟩) (fun d5=>⟨_,rfl,?_,by(repeat'(first|exact trivial|exact rfl|apply And.intro))⟩))))),fun b hb=> ?_⟩
 ·simp[xW,d1]
 ·simp[xW,d2]
 ·simp[xW,d3]
 ·simp[xW,d4]
 ·simp[xW,d5]
 ·simp[xW,d1,d2,d3,d4,d5]
 subst hb
 exact Cv.cnd.mk (fun c7=>⟨(),by rw[e6,yRe c7],trivial⟩) (fun c7=>⟨(),by rw[e6,yRd (by simp[c7])],trivial⟩)
theorem zIl:r5checkC.ok Tryz.prog 102:=okw mixed (gokc z1t gok0) 0 (fun _=>z8n) (fun _=>z7n) [] Tryz.func102 z6u
theorem aM {p:Prd} (h:p.check=0):p.count=p.months.length+p.months.length*(p.months.length-1) / 2:=by rw[Prd.count,yRe h]
theorem zJq {p:Prd} (h:p.check≠0):p.count=0:=by rw[Prd.count,yRd h]
theorem z6p (p:Prd) (h:r5countC.cnd p):zQx p:=by
 have hs:p.small:=h
 unfold zQx mC xC zY
 simp only[yY]
 refine⟨p,rfl,rfl,rfl,rfl,rfl,rfl,rfl,rfl,rfl,rfl,rfl,hs,fun _ _=>Cv.cnd.mk (fun c=>⟨(),?_,trivial⟩) (fun c=>⟨trivial,by decide,(),?_,trivial⟩)⟩
 ·rw[zJq (by simpa using c)];rfl
 ·have c:p.check=0:=by simpa using c
  have m6:=(kI c).m6
  have m2:=(kI c).m2
  rw[aM c]
  generalize p.months.length=n at*
  have:n=2∨n=3∨n=4∨n=5∨n=6:=by omega
  rcases this with rfl|rfl|rfl|rfl|rfl<;>decide
theorem zUy:r5countC.ok Tryz.prog 52:=okw mixed (gokc zIl gok0) 0 (fun _=>[]) (fun _=>[]) [] Tryz.func52 z6p
theorem yBf:∀n≤6,∀a<n,∀b<n-1-a,kC n (yH n a+b) n 0=((a:Int),((a+1+b:Nat):Int),true)∧yH n a+b<n+n*(n-1) / 2∧n≤yH n a+b:=by decide
theorem z1p:∀n≤6,yH n n=n+n*(n-1) / 2:=by decide
theorem yCa {p:Prd} (h:p.check=0) {a b:Nat} (ha:a<p.months.length) (hb:b<p.months.length-1-a):p.legs ((yH p.months.length a+b:Nat):Int)=((a:Int),((a+1+b:Nat):Int),true):=by
 obtain⟨h1,h2,h3⟩:=yBf _ (kI h).m6 a ha b hb
 rw[Prd.legs,yRd (by rw[aM h];omega),yRd (by omega),yRx]
 exact h1
theorem yCq (i:fX) (h:r5legsC.cnd i):zYx i:=by
 have hs:i.p.small:=h
 unfold zYx uY zBq nP wC vG rU hU zY dI
 simp only[yY]
 refine⟨i.p,rfl,rfl,rfl,rfl,rfl,rfl,rfl,rfl,rfl,rfl,rfl,hs,fun _ _=>Cv.cnd.mk (fun c=> ?_) (fun c=>zI (fun c1=> ?_) (fun c1=>zI (fun c2=> ?_) (fun c2=> ?_)))⟩
 ·rw[Prd.legs,yRe (by rw[zJq (by simpa using c)];omega)];(repeat'(first|exact rfl|exact trivial|assumption|apply And.intro|refine fun(_:Unit) (_:True)=>?_|refine Exists.intro () ?_|omega|(dsimp only;omega)))
 ·rw[Prd.legs,yRe (.inl c1)];(repeat'(first|exact rfl|exact trivial|assumption|apply And.intro|refine fun(_:Unit) (_:True)=>?_|refine Exists.intro () ?_|omega|(dsimp only;omega)))
 ·have c:i.p.check=0:=by simpa using c
  rw[Prd.legs,yRd (by rw[aM c];omega),yRe c2];(repeat'(first|exact rfl|exact trivial|assumption|apply And.intro|refine fun(_:Unit) (_:True)=>?_|refine Exists.intro () ?_|omega|(dsimp only;omega)))
 ·have c:i.p.check=0:=by simpa using c
  have m6:=(kI c).m6
  obtain⟨k,hk⟩:∃k:Nat,i.n=k:=⟨i.n.toNat,by omega⟩
  have sp:=fun(a b:Nat) ha hb=>yCa (p:=i.p) c (a:=a) (b:=b) ha hb
  have fe:=z1p _ m6
  have out:i.p.count≤k→i.p.legs (k:Int)=(0,0,false):=fun e=>by rw[Prd.legs,yRe (by omega)]
  rw[aM c,← fe]at out
  rw[hk]at c2 ⊢
  generalize hn:i.p.months.length=n at*
  refine⟨0,rfl,rfl,fun m=>m≤n∧yH n m≤k,fun m=>n-m,⟨by omega,by show n≤k;omega⟩,?_⟩
  rintro m ⟨g1,g2⟩
  have hf:=zJf m6 g1
  refine zI (fun c4=> ?_) (fun c4=> ?_)
  ·refine⟨(m,0),rfl,rfl,by rw[w64 (by omega)];simp,fun x=>x.1=m∧x.2≤n-1-m∧yH n m+x.2≤k,fun x=>n-1-m-x.2,⟨rfl,by(first|omega|(dsimp only;omega)),by(first|omega|(dsimp only;omega))⟩,?_⟩
   rintro⟨a,b⟩ ⟨g3,g4,g5⟩
   dsimp only at g3 g4 g5 ⊢
   subst g3
   refine zI (fun c5=>Cv.cnd.mk (fun e=> ?_) (fun e=> ?_)) (fun c5=> ?_)
   ·have e:((yH n a+b:Nat):Int)=(k:Int):=by simpa using e
    have:=sp a b (by omega) (by omega)
    rw[e]at this
    rw[this];(repeat'(first|exact rfl|exact trivial|assumption|apply And.intro|refine fun(_:Unit) (_:True)=>?_|refine Exists.intro () ?_|omega|(dsimp only;omega)))
   ·have e:¬((yH n a+b:Nat):Int)=(k:Int):=by simpa using e
    refine⟨(a,b+1),?_,rfl,?_,⟨rfl,by(first|omega|(dsimp only;omega)),by(first|omega|(dsimp only;omega))⟩,by(first|omega|(dsimp only;omega)),by(repeat'(first|exact trivial|exact rfl|apply And.intro))⟩
    ·rw[w64 (by omega)];dsimp only;omega
    ·rw[w64 (by omega)];dsimp only;omega
   ·refine⟨a+1,?_,by rw[w64 (by omega)];rfl,⟨by omega,?_⟩,by(first|omega|(dsimp only;omega)),by(repeat'(first|exact trivial|exact rfl|apply And.intro))⟩
    ·rw[yH];omega
    ·rw[yH];omega
  ·obtain rfl:m=n:=by omega
   rw[out g2];(repeat'(first|exact rfl|exact trivial|assumption|apply And.intro|refine fun(_:Unit) (_:True)=>?_|refine Exists.intro () ?_|omega|(dsimp only;omega)))
theorem z2i:r5legsC.ok Tryz.prog 53:=okw mixed (gokc zIl gok0) 0 (fun _=>[]) (fun i=>yDz i) [] Tryz.func53 yCq
theorem zBg (x:Prd):1≤zT x∧zT x≤10:=by
 have:=yP (n:=x.tick) (lo:=0) (hi:=9) (by omega)
 rw[zT];omega
theorem z5e (x:Prd):2≤kN x∧kN x≤5:=by
 have:=yP (n:=(x.months.length:Int)) (lo:=0) (hi:=3) (by omega)
 rw[kN];omega
theorem rN {a b m n:Int} (ha:0≤a∧a≤m) (hb:0≤b∧b≤n):0≤a*b∧a*b≤m*n:=by
 refine⟨yXb ha.1 hb.1,?_⟩
 exact Int.le_trans (Int.mul_le_mul_of_nonneg_right ha.2 hb.1) (yVq hb.2 (by omega))
theorem zPz (j:Nat):iE (kT (j+1))=iE (kT j)++[[D.v (.int .i64 (10*(j:Int)+3))]]:=by
 rw[kT,yVn,yRm,iE,yRm];rfl
theorem zOk (t:Int) (j:Nat):iE (qN t (j+1))=iE (qN t j)++[[D.v (.int .i64 (t*(10+(j:Int))))]]:=by
 rw[qN,yVn,yRm,iE,yRm];rfl
theorem pN (j:Nat):(kT j).length=j:=by simp[kT]
theorem bK (t:Int) (j:Nat):(qN t j).length=j:=by simp[qN]
theorem yJp (x:Prd) (h:kprodC.cnd x):z6t x:=by
 obtain⟨h1,h2,h3,h4,h5,h6,h7⟩:x.raw:=h
 have hw: -1000000≤(0:Int):=by decide
 have bt:=yP (n:=x.tick) (lo:=0) (hi:=9) (by omega)
 have bw:=yP (n:=x.wide) (lo:=0) (hi:=60) (by omega)
 have br:=yP (n:=x.rule) (lo:=0) (hi:=2) (by omega)
 have bl:=yP (n:=x.least) (lo:=0) (hi:=4) (by omega)
 have bn:=yP (n:=(x.months.length:Int)) (lo:=0) (hi:=3) (by omega)
 have kt:=zBg x
 have kn:=z5e x
 have w1:IntKind.i64.wrap (1+zF x.tick 0 9)=zT x:=w64 (by omega)
 have w2:IntKind.i64.wrap (-20*IntKind.i64.wrap (1+zF x.tick 0 9))= -20*zT x:=by rw[w1];exact w64 (by omega)
 have w3:IntKind.i64.wrap (100*IntKind.i64.wrap (1+zF x.tick 0 9))=100*zT x:=by rw[w1];exact w64 (by omega)
 have w4:IntKind.i64.wrap (1+zF x.rule 0 2)=1+zF x.rule 0 2:=w64 (by omega)
 have w5:IntKind.i64.wrap (1+zF x.least 0 4)=1+zF x.least 0 4:=w64 (by omega)
 have w6:IntKind.i64.wrap (2+zF x.months.length 0 3)=kN x:=w64 (by omega)
 have mb:=rN (a:=zT x) (b:=5+zF x.wide 0 60) (m:=10) (n:=65) (by omega) (by omega)
 have w7:IntKind.i64.wrap (IntKind.i64.wrap (1+zF x.tick 0 9)*IntKind.i64.wrap (5+zF x.wide 0 60))=zT x*(5+zF x.wide 0 60):=by
  rw[w1,w64 (x:=5+zF x.wide 0 60) (by omega)];exact w64 (by omega)
 unfold z6t zDj zCx zCr zDr zBw bX vN dN qZ xV yV xC dI
 simp only[yY]
 refine⟨⟨x.months.length,0,3⟩,rfl,rfl,rfl,⟨⟨by dsimp only;omega,by dsimp only;omega⟩,by dsimp only;omega,by dsimp only;omega,by dsimp only;omega⟩,fun _ _=>⟨⟨x.tick,0,9⟩,rfl,rfl,rfl,⟨h1,by dsimp only;omega,by dsimp only;omega,by dsimp only;omega⟩,fun _ _=> ?_⟩⟩
 dsimp only
 refine⟨(),fun _=>True,?_,fun _ _=> ?_⟩
 ·repeat'(first|exact trivial|exact rfl|exact w1.symm|exact w2.symm|exact w3.symm|exact w4.symm|exact w5.symm|apply And.intro|refine⟨⟨x.rule,0,2⟩,rfl,rfl,rfl,⟨h3,by dsimp only;omega,by dsimp only;omega,by dsimp only;omega⟩,fun _ _=> ?_⟩|refine⟨⟨x.top,0,9⟩,rfl,rfl,rfl,⟨h4,by dsimp only;omega,by dsimp only;omega,by dsimp only;omega⟩,fun _ _=> ?_⟩|refine⟨⟨x.least,0,4⟩,rfl,rfl,rfl,⟨h5,by dsimp only;omega,by dsimp only;omega,by dsimp only;omega⟩,fun _ _=> ?_⟩|refine⟨⟨x.part,0,100⟩,rfl,rfl,rfl,⟨h6,by dsimp only;omega,by dsimp only;omega,by dsimp only;omega⟩,fun _ _=> ?_⟩|refine⟨(),?_⟩)
 ·refine⟨⟨x.wide,0,60⟩,rfl,rfl,rfl,⟨h2,by dsimp only;omega,by dsimp only;omega,by dsimp only;omega⟩,fun _ _=> ?_⟩
  dsimp only
  rw[w7,w6]
  refine⟨0,by(first|exact rfl|exact trivial),by(first|exact rfl|exact trivial),by(first|exact rfl|exact trivial),by(first|exact rfl|exact trivial),by(first|exact rfl|exact trivial),by(first|exact rfl|exact trivial),by(first|exact rfl|exact trivial),by(first|exact rfl|exact trivial),by(first|exact rfl|exact trivial),by(first|exact rfl|exact trivial),by(first|exact rfl|exact trivial),by(first|exact rfl|exact trivial),fun j=>j≤(kN x).toNat,fun j=>(kN x).toNat-j,by omega,?_⟩
  intro j hj
  rw[pN,bK]
  refine zI (fun c=>⟨by omega,by omega,j+1,by rw[w64 (by omega)];rfl,by(first|exact rfl|exact trivial),by(first|exact rfl|exact trivial),by(first|exact rfl|exact trivial),by(first|exact rfl|exact trivial),by(first|exact rfl|exact trivial),by(first|exact rfl|exact trivial),by(first|exact rfl|exact trivial),by(first|exact rfl|exact trivial),by(first|exact rfl|exact trivial),?_,?_,by(first|omega|(dsimp only;omega)),by(first|omega|(dsimp only;omega)),by(repeat'(first|exact trivial|exact rfl|apply And.intro))⟩) (fun c=>⟨(),?_⟩)
  ·rw[zPz,w64 (x:=10*(j:Int)) (by omega),w64 (by omega)]
  ·have mj:=rN (a:=zT x) (b:=10+(j:Int)) (m:=10) (n:=20) (by omega) (by omega)
   rw[zOk,w1,w64 (x:=10+(j:Int)) (by omega),w64 (by omega)]
  ·have e:(kN x).toNat=j:=by omega
   rw[e];(repeat'(first|exact trivial|exact rfl|apply And.intro))
theorem kprod_ok:kprodC.ok Tryz.prog 20:=okw mixed (gokc within_ok gok0) 0 (fun x=>yIy x) (fun x=>yHr x) [] Tryz.func20 yJp
open Go Cv Go.Proofs
structure Cmd where
 kind:Int
 id:Int
 inst:Int
 side:Int
 price:Int
 qty:Int
 least:Int
 time:Int
 label:List UInt8
 deriving DecidableEq
@[reducible] def Cmd.cells (c:Cmd):List V:=[zA c.kind,zA c.id,zA c.inst,zA c.side,zA c.price,zA c.qty,zA c.least,zA c.time,sV c.label]
@[reducible] def zAa (c:Cmd):V:= .agg c.cells
def cmdE (c:Cmd):List D:=[.v (.int .i64 c.kind),.v (.int .i64 c.id),.v (.int .i64 c.inst),.v (.int .i64 c.side),.v (.int .i64 c.price),.v (.int .i64 c.qty),.v (.int .i64 c.least),.v (.int .i64 c.time),.v (.string (sb c.label))]
def zTm:Cmd:=⟨0,0,0,0,0,0,0,0,[]⟩
@[reducible] def Cmd.raw (c:Cmd):Prop:=yU c.kind∧yU c.id∧yU c.inst∧yU c.side∧yU c.price∧yU c.qty∧yU c.least∧yU c.time
structure TmI where
 p:Prd
 c:Cmd
 i:Int
def wY (c:Cmd):Int:=if 4<1+zF c.kind 0 8 then 1 else 1+zF c.kind 0 8
def yW (t:TmI):Cmd:=⟨wY t.c,1+zF t.c.id 0 30,zF t.c.inst 0 (t.p.count-1),1+zF t.c.side 0 1,t.p.tick*zF t.c.price 0 9,1+zF t.c.qty 0 11,0,0,[]⟩
def gI (c:Cmd):Int:=if c.time.tmod 5=3 then 3 else if c.time.tmod 5=2 then 2 else 1
def fH (c:Cmd) (q:Int):Int:=if c.least.tmod 4=1 then zF c.least 0 q else 0
def y9 (t:TmI):Cmd:=
 let h:=yW t
 if h.kind=1 then{h with id:=t.i+1,time:=gI t.c,least:=fH t.c h.qty,price:=if(t.p.legs h.inst).2.2=true then h.price-4*t.p.tick else h.price+8*t.p.tick}
 else{h with price:=if h.kind=4 then h.price+5*t.p.tick else h.price,side:=0,inst:=0}
def tameC:Con:=con1 TmI (fun t=>[prdV t.p,zAa t.c,zA t.i]) (fun _=>[]) (fun t=>t.p.check=0∧t.p.small∧t.c.raw∧0≤t.i∧t.i≤1000000) (fun t=>zAa (y9 t)) (fun _=>[])
def cj (k:Nat):Nat×SAnn:=(k,{ι:=Cmd,slots:=fun _=>[(7,.nm 0 0)],slots0:=fun _=>[(7,.nm 0 0)],rows0:=fun c=>[.cells c.cells 36],rows:=fun c=>[.cells c.cells 36]})
def yNx:List (Nat×SAnn):=[cj 14,cj 54,cj 62,cj 70]
end Sx
