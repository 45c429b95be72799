/- Texts of ours, one behind the other: a walk that the kernel reckons, and contracts of functions. No condition. -/
import Derived.Test.YtogkpgfggfbhaaaGreatX5
namespace Sx
set_option linter.unusedVariables false
set_option maxRecDepth 100000
open Go Cv Go.Proofs
def zRe (i:I3'):Prop:=
 cnd (i.side==1) (∃(a:Unit),btr i.side i.x i.y=decide (i.x>i.y)∧True) (∃(a:Unit),btr i.side i.x i.y=decide (i.x<i.y)∧True)
def z7a (s:Slot):Prop:=
 ∃(a:Unit),(!s.used)=!s.used∧True
def zOv (l:List Slot):Prop:=
 ∃(a:Nat),(↑a:Int)=0∧∃(b:Nat→Prop),∃(c:Nat→Nat),b a∧∀(d:Nat),b d→cnd (decide ((↑d:Int)<(↑(List.map zO l).length:Int))) ((0≤(↑d:Int)∧(↑d:Int)<(↑(List.map zO l).length:Int))∧∃(e:Bool),∃(f:Int),∃(g:Int),∃(h:Int),∃(j:Bool),∃(k:Int),∃(m:Int),∃(n:Int),zE (List.map zO l) (↑d:Int).toNat 0 8=some [D.v (.bool e),dI f,dI g,dI h,D.v (.bool j),dI k,dI m,dI n]∧∃(p:Slot),p.used=e∧p.n=f∧p.id=g∧p.qty=h∧p.top=j∧p.queue=k∧p.ahead=m∧p.back=n∧True∧∀(q:Unit),True→cnd (!p.used) (∃(r:Unit),qE l=(↑d:Int)∧List.map zO l=List.map zO l∧True) (∃(r:Nat),(↑r:Int)=IntKind.i64.wrap ((↑d:Int)+1)∧b r∧c r<c d∧AObj.own 305 8 (List.map zO l)=AObj.own 305 8 (List.map zO l))) (∃(e:Unit),qE l=(-1)∧List.map zO l=List.map zO l∧True)
def z5y (a:Arena):Prop:=
 ((List.map zM a.queues).length+1)*(32:Nat)≤(70368744177664:Nat)∧∃(b:Unit),(↑a.queues.length:Int)=IntKind.i64.wrap ((↑(List.map zM a.queues++[[dI (-1),dI (-1),dI 0,dI 0]]).length:Int)-1)∧a.free=a.free∧List.map zO a.slots=List.map zO a.slots∧List.map zM (a.queues++[dY])=List.map zM a.queues++[[dI (-1),dI (-1),dI 0,dI 0]]∧True
def rM (a:zZp):Prop:=∃(b:Unit),(if a.a.usedAt a.n=true then(0:Int)else(26:Int))=26∧(a.a.topF a.n a.t).free=a.a.free∧List.map zO (a.a.topF a.n a.t).slots=List.map zO a.a.slots∧List.map zM (a.a.topF a.n a.t).queues=List.map zM a.a.queues∧True
def yEc (i:zZp):Prop:=
 cnd (decide (i.n<0)) (rM i) (cnd (decide (i.n≥(↑(List.map zO i.a.slots).length:Int))) (rM i) ((0≤i.n∧i.n<(↑(List.map zO i.a.slots).length:Int))∧∃(a:Bool),zE (List.map zO i.a.slots) i.n.toNat ((0:Nat)+(0:Nat)) 1=some [D.v (.bool a)]∧cnd (!a) (rM i) ((0≤i.n∧i.n<(↑(List.map zO i.a.slots).length:Int))∧i.n.toNat<(List.map zO i.a.slots).length∧∃(b:Unit),(if i.a.usedAt i.n=true then(0:Int)else(26:Int))=0∧(i.a.topF i.n i.t).free=i.a.free∧List.map zO (i.a.topF i.n i.t).slots=z8 (List.map zO i.a.slots) i.n.toNat ((0:Nat)+(1:Nat)+3) [D.v (.bool i.t)]∧List.map zM (i.a.topF i.n i.t).queues=List.map zM i.a.queues∧True)))
def yB (a:PuI):=(a.a.push a.n a.id a.qty a.top)
def aN (a:PuI):Prop:=(yB a).fst.free=a.a.free∧List.map zO (yB a).fst.slots=List.map zO a.a.slots∧List.map zM (yB a).fst.queues=List.map zM a.a.queues∧True
def zCc (a:PuI):Prop:=∃(b:Unit),(yB a).snd.fst=0∧(yB a).snd.snd=26∧aN a
def zAj (a:PuI):Prop:=∃(b:Unit),(yB a).snd.fst=0∧(yB a).snd.snd=24∧aN a
def mK (a:PuI) (b:List Slot):=(z8 (z8 (List.map zM a.a.queues) a.n.toNat ((0:Nat)+(0:Nat)) [dI (qE b)]) a.n.toNat ((0:Nat)+(1:Nat)) [dI (qE b)])
def aJ (a:PuI) (b:List Slot) (c:Int):=(z8 (mK a b) a.n.toNat ((0:Nat)+(2:Nat)) [dI (IntKind.i64.wrap (c+a.qty))])
def mA (a:PuI) (b:List Slot):=(z8 (List.map zM a.a.queues) a.n.toNat ((0:Nat)+(1:Nat)) [dI (qE b)])
def mZ (a:PuI) (b:List Slot) (c:Int):=(z8 (mA a b) a.n.toNat ((0:Nat)+(2:Nat)) [dI (IntKind.i64.wrap (c+a.qty))])
def z5n (i:PuI):Prop:=
 cnd (decide (i.n≥0)) (cnd (!decide (i.n<(↑(List.map zM i.a.queues).length:Int))) (zCc i) (cnd (decide (i.qty<1)) (zAj i) (cnd (decide (i.qty>1000000)) (zAj i) (cnd (i.a.free==0) (∃(a:Unit),(yB i).snd.fst=0∧(yB i).snd.snd=13∧aN i) (∃(a:List Slot),List.map zO a=List.map zO i.a.slots∧a.length≤1000000∧∀(b:Unit),True→(0≤i.n∧i.n<(↑(List.map zM i.a.queues).length:Int))∧∃(c:Int),zE (List.map zM i.a.queues) i.n.toNat ((0:Nat)+(1:Nat)) 1=some [dI c]∧(0≤qE a∧qE a<(↑(List.map zO a).length:Int))∧(qE a).toNat<(List.map zO a).length∧∃(d:Int),zE (List.map zM i.a.queues) i.n.toNat ((0:Nat)+(1:Nat)) 1=some [dI d]∧cnd (d==(-1)) (i.n.toNat<(List.map zM i.a.queues).length∧i.n.toNat<(z8 (List.map zM i.a.queues) i.n.toNat ((0:Nat)+(0:Nat)) [dI (qE a)]).length∧∃(e:Int),zE (mK i a) i.n.toNat ((0:Nat)+(2:Nat)) 1=some [dI e]∧i.n.toNat<(mK i a).length∧∃(f:Int),zE (aJ i a e) i.n.toNat ((0:Nat)+(3:Nat)) 1=some [dI f]∧i.n.toNat<(aJ i a e).length∧∃(g:Unit),(yB i).snd.fst=qE a∧(yB i).snd.snd=0∧(yB i).fst.free=IntKind.i64.wrap (i.a.free-1)∧List.map zO (yB i).fst.slots=z8 (List.map zO a) (qE a).toNat 0 [D.v (.bool true),dI (qE a),dI i.id,dI i.qty,D.v (.bool i.top),dI i.n,dI c,dI (-1)]∧List.map zM (yB i).fst.queues=z8 (aJ i a e) i.n.toNat ((0:Nat)+(3:Nat)) [dI (IntKind.i64.wrap (f+1))]∧True) (∃(e:Int),zE (List.map zM i.a.queues) i.n.toNat ((0:Nat)+(1:Nat)) 1=some [dI e]∧(0≤e∧e<(↑(z8 (List.map zO a) (qE a).toNat 0 [D.v (.bool true),dI (qE a),dI i.id,dI i.qty,D.v (.bool i.top),dI i.n,dI c,dI (-1)]).length:Int))∧e.toNat<(z8 (List.map zO a) (qE a).toNat 0 [D.v (.bool true),dI (qE a),dI i.id,dI i.qty,D.v (.bool i.top),dI i.n,dI c,dI (-1)]).length∧i.n.toNat<(List.map zM i.a.queues).length∧∃(f:Int),zE (mA i a) i.n.toNat ((0:Nat)+(2:Nat)) 1=some [dI f]∧i.n.toNat<(mA i a).length∧∃(g:Int),zE (mZ i a f) i.n.toNat ((0:Nat)+(3:Nat)) 1=some [dI g]∧i.n.toNat<(mZ i a f).length∧∃(h:Unit),(yB i).snd.fst=qE a∧(yB i).snd.snd=0∧(yB i).fst.free=IntKind.i64.wrap (i.a.free-1)∧List.map zO (yB i).fst.slots=z8 (z8 (List.map zO a) (qE a).toNat 0 [D.v (.bool true),dI (qE a),dI i.id,dI i.qty,D.v (.bool i.top),dI i.n,dI c,dI (-1)]) e.toNat ((0:Nat)+(7:Nat)) [dI (qE a)]∧List.map zM (yB i).fst.queues=z8 (mZ i a f) i.n.toNat ((0:Nat)+(3:Nat)) [dI (IntKind.i64.wrap (g+1))]∧True)))))) (zCc i)
def xC (a:BkP):=(↑(zT 1 (a.b.rungs 1) a.price):Int)
def j7 (a:BkP):=(↑(List.map zB a.b.buys).length:Int)
def gB (a:BkP):Prop:=a.b.top1=a.b.top1∧a.b.top2=a.b.top2∧a.b.has1=a.b.has1∧a.b.has2=a.b.has2∧AObj.adt Arena 3 zF a.b.a=zP a.b 1∧List.map zB a.b.buys=List.map zB a.b.buys∧List.map zB a.b.sells=List.map zB a.b.sells∧atE a.b.at_=atE a.b.at_∧iE a.b.spare=iE a.b.spare∧True
def zAw (a:Nat) (b:BkP):Prop:=(0≤(↑a:Int)∧(↑a:Int)<(j7 b))∧∃(c:Int),zE (List.map zB b.b.buys) (↑a:Int).toNat ((0:Nat)+(0:Nat)) 1=some [dI c]∧∃(d:Unit),(xC b)=(↑a:Int)∧qG 1 (b.b.rungs 1) b.price=(c==b.price)∧gB b
def zBw (a:BkP) (b:Nat):Prop:=∃(c:Unit),(xC a)=(↑b:Int)∧qG 1 (a.b.rungs 1) a.price=false∧gB a
def aS (a:Nat) (b:Nat→Prop) (c:Nat→Nat) (d:BkP):Prop:=∃(e:Nat),(↑e:Int)=IntKind.i64.wrap ((↑a:Int)+1)∧b e∧c e<c a∧zP d.b 0=zP d.b 0∧zP d.b 1=zP d.b 1∧zP d.b 2=zP d.b 2∧zP d.b 3=zP d.b 3∧zP d.b 4=zP d.b 4∧zP d.b 5=zP d.b 5
def mQ (a:Nat) (b:BkP):=(decide ((↑a:Int)<(j7 b)))
def z8b (i:BkP):Prop:=
 ∃(a:Nat),(↑a:Int)=0∧∃(b:Nat→Prop),∃(c:Nat→Nat),b a∧∀(d:Nat),b d→cnd (mQ d i) ((0≤(↑d:Int)∧(↑d:Int)<(j7 i))∧∃(e:Int),zE (List.map zB i.b.buys) (↑d:Int).toNat ((0:Nat)+(0:Nat)) 1=some [dI e]∧∃(f:I3'),f.side=1∧f.x=e∧f.y=i.price∧True∧∀(g:Unit),True→cnd (btr f.side f.x f.y) (aS d b c i) (cnd (mQ d i) (zAw d i) (zBw i d))) (cnd (mQ d i) (zAw d i) (zBw i d))
def xE (a:BkP):=(↑(zT 2 (a.b.rungs 2) a.price):Int)
def jY (a:BkP):=(↑(List.map zB a.b.sells).length:Int)
def zBb (a:Nat) (b:BkP):Prop:=(0≤(↑a:Int)∧(↑a:Int)<(jY b))∧∃(c:Int),zE (List.map zB b.b.sells) (↑a:Int).toNat ((0:Nat)+(0:Nat)) 1=some [dI c]∧∃(d:Unit),(xE b)=(↑a:Int)∧qG 2 (b.b.rungs 2) b.price=(c==b.price)∧gB b
def zBl (a:BkP) (b:Nat):Prop:=∃(c:Unit),(xE a)=(↑b:Int)∧qG 2 (a.b.rungs 2) a.price=false∧gB a
def aM (a:Nat) (b:BkP):=(decide ((↑a:Int)<(jY b)))
def z2p (i:BkP):Prop:=
 ∃(a:Nat),(↑a:Int)=0∧∃(b:Nat→Prop),∃(c:Nat→Nat),b a∧∀(d:Nat),b d→cnd (aM d i) ((0≤(↑d:Int)∧(↑d:Int)<(jY i))∧∃(e:Int),zE (List.map zB i.b.sells) (↑d:Int).toNat ((0:Nat)+(0:Nat)) 1=some [dI e]∧∃(f:I3'),f.side=2∧f.x=e∧f.y=i.price∧True∧∀(g:Unit),True→cnd (btr f.side f.x f.y) (aS d b c i) (cnd (aM d i) (zBb d i) (zBl i d))) (cnd (aM d i) (zBb d i) (zBl i d))
def gC (a:LdI):Prop:=List.map zB a.b.buys=List.map zB a.b.buys∧List.map zB a.b.sells=List.map zB a.b.sells∧atE a.b.at_=atE a.b.at_∧iE a.b.spare=iE a.b.spare∧True
def mN (a:LdI):Prop:=∃(b:Unit),a.id=a.id∧a.b.top2=a.b.top2∧true=true∧a.b.has2=a.b.has2∧AObj.adt Arena 3 zF (a.b.untop 1)=zP a.b 1∧gC a
def eA (a:LdI) (b:Int) (c:Int) (d:Int) (e:Bool):Prop:=x5 (Value.int IntKind.i64 a.b.top1) (atE a.b.at_)=some [dI b,dI c,dI d]∧e=true∨x5 (Value.int IntKind.i64 a.b.top1) (atE a.b.at_)=none∧[dI b,dI c,dI d]=[dI 0,dI 0,dI 0]∧e=false
def tZ (a:LdI):Prop:=∀(b:Value×List D),b∈atE a.b.at_→like (Value.int IntKind.i64 a.b.top1) b.fst=true
def z3m (i:LdI):Prop:=
 cnd i.b.has1 ((tZ i)∧∃(a:Bool),∃(b:Int),∃(c:Int),∃(d:Int),(eA i b c d a)∧((tZ i)∧∃(e:Bool),∃(f:Int),∃(g:Int),∃(h:Int),(eA i f g h e)∧(f=b∧g=c∧h=d∧True)∧e=a∧True)∧i.b.top1=i.b.top1∧True∧cnd a (cnd (b==1) (∃(e:zZp),e.n=d∧e.t=false∧AObj.adt Arena 3 zF e.a=zP i.b 1∧e.a.slots.length≤1000000∧∀(f:Unit),True→∃(g:Unit),i.id=i.id∧i.b.top2=i.b.top2∧true=true∧i.b.has2=i.b.has2∧AObj.adt Arena 3 zF (i.b.untop 1)=AObj.adt Arena 3 zF (e.a.topF e.n e.t)∧gC i) (mN i)) (mN i)) (mN i)
def mX (a:LdI):Prop:=∃(b:Unit),a.b.top1=a.b.top1∧a.id=a.id∧a.b.has1=a.b.has1∧true=true∧AObj.adt Arena 3 zF (a.b.untop 2)=zP a.b 1∧gC a
def tV (a:LdI) (b:Int) (c:Int) (d:Int) (e:Bool):Prop:=x5 (Value.int IntKind.i64 a.b.top2) (atE a.b.at_)=some [dI b,dI c,dI d]∧e=true∨x5 (Value.int IntKind.i64 a.b.top2) (atE a.b.at_)=none∧[dI b,dI c,dI d]=[dI 0,dI 0,dI 0]∧e=false
def sZ (a:LdI):Prop:=∀(b:Value×List D),b∈atE a.b.at_→like (Value.int IntKind.i64 a.b.top2) b.fst=true
def z5p (i:LdI):Prop:=
 cnd i.b.has2 ((sZ i)∧∃(a:Bool),∃(b:Int),∃(c:Int),∃(d:Int),(tV i b c d a)∧((sZ i)∧∃(e:Bool),∃(f:Int),∃(g:Int),∃(h:Int),(tV i f g h e)∧(f=b∧g=c∧h=d∧True)∧e=a∧True)∧i.b.top2=i.b.top2∧True∧cnd a (cnd (b==2) (∃(e:zZp),e.n=d∧e.t=false∧AObj.adt Arena 3 zF e.a=zP i.b 1∧e.a.slots.length≤1000000∧∀(f:Unit),True→∃(g:Unit),i.b.top1=i.b.top1∧i.id=i.id∧i.b.has1=i.b.has1∧true=true∧AObj.adt Arena 3 zF (i.b.untop 2)=AObj.adt Arena 3 zF (e.a.topF e.n e.t)∧gC i) (mX i)) (mX i)) (mX i)
def xN (a:BkP):Prop:=(a.b.a.slots.length≤1000000∧a.b.a.queues.length≤1000000)∧a.b.buys.length≤1000000∧a.b.sells.length≤1000000∧a.b.spare.length≤1000000
def uA (a:BkP):Prop:=0≤(xC a)∧(xC a)<(j7 a)
def j9 (a:BkP):=((↑(iE a.b.spare).length:Int)-1)
def cO (a:BkP):Prop:=0≤IntKind.i64.wrap (j9 a)∧IntKind.i64.wrap (j9 a)≤(↑(iE a.b.spare).length:Int)
def cM (a:BkP):Prop:=0≤IntKind.i64.wrap (j9 a)∧IntKind.i64.wrap (j9 a)<(↑(iE a.b.spare).length:Int)
def uG (a:z1f):Prop:=a.i≤a.els.length∧(a.els.length+1)*(16:Nat)≤(70368744177664:Nat)
def uH (a:BkP):=(IntKind.i64.wrap (j9 a))
def zJ (a:BkP):=(a.b.queueF 1 a.price)
def zWr (i:BkP):Prop:=
 ∃(a:BkP),(1:Int)=(1:Int)∧a.price=i.price∧a.b.top1=i.b.top1∧a.b.top2=i.b.top2∧a.b.has1=i.b.has1∧a.b.has2=i.b.has2∧AObj.adt Arena 3 zF a.b.a=zP i.b 1∧List.map zB a.b.buys=List.map zB i.b.buys∧List.map zB a.b.sells=List.map zB i.b.sells∧atE a.b.at_=atE i.b.at_∧iE a.b.spare=iE i.b.spare∧(xN a)∧∀(b:Unit),True→cnd (qG 1 (a.b.rungs 1) a.price) ((uA a)∧∃(c:Int),zE (List.map zB a.b.buys) (xC a).toNat ((0:Nat)+(1:Nat)) 1=some [dI c]∧∃(d:Unit),(zJ i).snd=c∧(zJ i).fst.top1=a.b.top1∧(zJ i).fst.top2=a.b.top2∧(zJ i).fst.has1=a.b.has1∧(zJ i).fst.has2=a.b.has2∧AObj.adt Arena 3 zF (zJ i).fst.a=AObj.adt Arena 3 zF a.b.a∧List.map zB (zJ i).fst.sells=List.map zB a.b.sells∧atE (zJ i).fst.at_=atE a.b.at_∧List.map zB (zJ i).fst.buys=List.map zB a.b.buys∧iE (zJ i).fst.spare=iE a.b.spare∧True) (cnd (decide ((↑(iE a.b.spare).length:Int)>0)) ((cM a)∧∃(c:Int),zE (iE a.b.spare) (uH a).toNat 0 1=some [dI c]∧(cO a)∧True∧∃(d:z1f),(↑d.i:Int)=(xC a)∧d.els=List.map zB a.b.buys∧[d.el]=[[dI i.price,dI c]]∧(uG d)∧∀(e:Unit),True→∃(f:Unit),(zJ i).snd=c∧(zJ i).fst.top1=a.b.top1∧(zJ i).fst.top2=a.b.top2∧(zJ i).fst.has1=a.b.has1∧(zJ i).fst.has2=a.b.has2∧AObj.adt Arena 3 zF (zJ i).fst.a=AObj.adt Arena 3 zF a.b.a∧List.map zB (zJ i).fst.sells=List.map zB a.b.sells∧atE (zJ i).fst.at_=atE a.b.at_∧List.map zB (zJ i).fst.buys=List.take d.i d.els++d.el::List.drop d.i d.els∧iE (zJ i).fst.spare=List.take (uH a).toNat (iE a.b.spare)∧True) (∃(c:Arena),AObj.adt Arena 3 zF c=AObj.adt Arena 3 zF a.b.a∧c.queues.length≤1000000∧∀(d:Unit),True→True∧∃(e:z1f),(↑e.i:Int)=(xC a)∧e.els=List.map zB a.b.buys∧[e.el]=[[dI i.price,dI (↑c.queues.length:Int)]]∧(uG e)∧∀(f:Unit),True→∃(g:Unit),(zJ i).snd=(↑c.queues.length:Int)∧(zJ i).fst.top1=a.b.top1∧(zJ i).fst.top2=a.b.top2∧(zJ i).fst.has1=a.b.has1∧(zJ i).fst.has2=a.b.has2∧AObj.adt Arena 3 zF (zJ i).fst.a=AObj.adt Arena 3 zF c.openQ∧List.map zB (zJ i).fst.sells=List.map zB a.b.sells∧atE (zJ i).fst.at_=atE a.b.at_∧List.map zB (zJ i).fst.buys=List.take e.i e.els++e.el::List.drop e.i e.els∧iE (zJ i).fst.spare=iE a.b.spare∧True))
def vY (a:BkP):Prop:=0≤(xE a)∧(xE a)<(jY a)
def zK (a:BkP):=(a.b.queueF 2 a.price)
def zWo (i:BkP):Prop:=
 ∃(a:BkP),(2:Int)=(2:Int)∧a.price=i.price∧a.b.top1=i.b.top1∧a.b.top2=i.b.top2∧a.b.has1=i.b.has1∧a.b.has2=i.b.has2∧AObj.adt Arena 3 zF a.b.a=zP i.b 1∧List.map zB a.b.buys=List.map zB i.b.buys∧List.map zB a.b.sells=List.map zB i.b.sells∧atE a.b.at_=atE i.b.at_∧iE a.b.spare=iE i.b.spare∧(xN a)∧∀(b:Unit),True→cnd (qG 2 (a.b.rungs 2) a.price) ((vY a)∧∃(c:Int),zE (List.map zB a.b.sells) (xE a).toNat ((0:Nat)+(1:Nat)) 1=some [dI c]∧∃(d:Unit),(zK i).snd=c∧(zK i).fst.top1=a.b.top1∧(zK i).fst.top2=a.b.top2∧(zK i).fst.has1=a.b.has1∧(zK i).fst.has2=a.b.has2∧AObj.adt Arena 3 zF (zK i).fst.a=AObj.adt Arena 3 zF a.b.a∧List.map zB (zK i).fst.buys=List.map zB a.b.buys∧atE (zK i).fst.at_=atE a.b.at_∧List.map zB (zK i).fst.sells=List.map zB a.b.sells∧iE (zK i).fst.spare=iE a.b.spare∧True) (cnd (decide ((↑(iE a.b.spare).length:Int)>0)) ((cM a)∧∃(c:Int),zE (iE a.b.spare) (uH a).toNat 0 1=some [dI c]∧(cO a)∧True∧∃(d:z1f),(↑d.i:Int)=(xE a)∧d.els=List.map zB a.b.sells∧[d.el]=[[dI i.price,dI c]]∧(uG d)∧∀(e:Unit),True→∃(f:Unit),(zK i).snd=c∧(zK i).fst.top1=a.b.top1∧(zK i).fst.top2=a.b.top2∧(zK i).fst.has1=a.b.has1∧(zK i).fst.has2=a.b.has2∧AObj.adt Arena 3 zF (zK i).fst.a=AObj.adt Arena 3 zF a.b.a∧List.map zB (zK i).fst.buys=List.map zB a.b.buys∧atE (zK i).fst.at_=atE a.b.at_∧List.map zB (zK i).fst.sells=List.take d.i d.els++d.el::List.drop d.i d.els∧iE (zK i).fst.spare=List.take (uH a).toNat (iE a.b.spare)∧True) (∃(c:Arena),AObj.adt Arena 3 zF c=AObj.adt Arena 3 zF a.b.a∧c.queues.length≤1000000∧∀(d:Unit),True→True∧∃(e:z1f),(↑e.i:Int)=(xE a)∧e.els=List.map zB a.b.sells∧[e.el]=[[dI i.price,dI (↑c.queues.length:Int)]]∧(uG e)∧∀(f:Unit),True→∃(g:Unit),(zK i).snd=(↑c.queues.length:Int)∧(zK i).fst.top1=a.b.top1∧(zK i).fst.top2=a.b.top2∧(zK i).fst.has1=a.b.has1∧(zK i).fst.has2=a.b.has2∧AObj.adt Arena 3 zF (zK i).fst.a=AObj.adt Arena 3 zF c.openQ∧List.map zB (zK i).fst.buys=List.map zB a.b.buys∧atE (zK i).fst.at_=atE a.b.at_∧List.map zB (zK i).fst.sells=List.take e.i e.els++e.el::List.drop e.i e.els∧iE (zK i).fst.spare=iE a.b.spare∧True))
set_option linter.unusedSimpArgs false
open Go Cv Go.Proofs
theorem dW:bbetterC.ok Tryz.prog 71:=okw (V:=zRe) mixed gok0 0 (fun _=>[]) (fun _=>[]) [] Tryz.func71 fun(i:I3') _=>by
 unfold zRe
 refine Cv.cnd.mk (fun c=> ?_) (fun c=> ?_)
 ·have c:i.side=1:=by simpa using c
  rw[btr,yOi c];(repeat'(first|exact rfl|exact trivial|assumption|apply And.intro|refine fun(_:Unit) (_:True)=>?_|refine Exists.intro () ?_|omega|(dsimp only;omega)))
 ·have c:¬i.side=1:=by simpa using c
  rw[btr,yOh c];(repeat'(first|exact rfl|exact trivial|assumption|apply And.intro|refine fun(_:Unit) (_:True)=>?_|refine Exists.intro () ?_|omega|(dsimp only;omega)))
theorem z7r:pushFC.ok Tryz.prog 259:=okw (V:=z7a) mixed gok0 0 (fun _=>[]) (fun _=>[]) [] Tryz.func259 fun(s:Slot) _=>by
 unfold z7a;(repeat'(first|exact rfl|exact trivial|assumption|apply And.intro|refine fun(_:Unit) (_:True)=>?_|refine Exists.intro () ?_|omega|(dsimp only;omega)))
theorem yMm {l:List Slot} {k:Nat} {s:Slot} (h:l[k]? =some s):zE (l.map zO) k 0 8=some [D.v (.bool s.used),.v (.int .i64 s.n),.v (.int .i64 s.id),.v (.int .i64 s.qty),.v (.bool s.top),.v (.int .i64 s.queue),.v (.int .i64 s.ahead),.v (.int .i64 s.back)]:=elA h (by simp[zO]) rfl
theorem z6p (l:List Slot) (h:idxSlotC.cnd l):zOv l:=by
 have h:l.length≤1000000:=h
 unfold zOv dI
 simp only[yOm]
 refine⟨0,rfl,fun j=>j≤l.length∧∀k<j,∀x,l[k]? =some x→(!x.used)=false,fun j=>l.length-j,⟨by omega,fun k hk=>by omega⟩,?_⟩
 rintro j ⟨h3,h4⟩
 refine zI (fun hj=> ?_) (fun hj=> ?_)
 ·obtain⟨s,hs⟩:=z9 (l:=l) (i:=j) (by omega)
  refine⟨⟨by omega,by omega⟩,s.used,s.n,s.id,s.qty,s.top,s.queue,s.ahead,s.back,yMm hs,s,rfl,rfl,rfl,rfl,rfl,rfl,rfl,rfl,trivial,fun _ _=>Cv.cnd.mk (fun e=> ?_) (fun e=> ?_)⟩
  ·rw[qE,zBe hs e h4];(repeat'(first|exact rfl|exact trivial|assumption|apply And.intro|refine fun(_:Unit) (_:True)=>?_|refine Exists.intro () ?_|omega|(dsimp only;omega)))
  ·refine⟨j+1,by rw[w64 (by omega)];rfl,⟨by omega,fun k hk x hx=> ?_⟩,by(first|omega|(dsimp only;omega)),by(repeat'(first|exact trivial|exact rfl|apply And.intro))⟩
   rcases yRc k j with hk'|hk'
   ·exact h4 k hk' x hx
   ·obtain rfl:k=j:=by omega
    rw[hs]at hx;cases hx;exact e
 ·rw[qE,zAs fun k x hx=>h4 k (by have:=(yOj.1 hx).1;omega) x hx];(repeat'(first|exact rfl|exact trivial|assumption|apply And.intro|refine fun(_:Unit) (_:True)=>?_|refine Exists.intro () ?_|omega|(dsimp only;omega)))
theorem zSp:idxSlotC.ok Tryz.prog 258:=okw mixed (gokc z7r gok0) 0 (fun _=>[]) (fun l=>z6b l) [] Tryz.func258 z6p
theorem zPt:aopenC.ok Tryz.prog 260:=okw (V:=z5y) mixed gok0 0 (fun _=>[]) (fun _=>[]) [0] Tryz.func260 fun(a:Arena) h=>by
 have h:a.queues.length≤1000000:=h
 unfold z5y dI
 rw[yOl,yOm,w64 (by simp only[yOw,yRl];omega)]
 refine⟨by omega,(),?_,rfl,rfl,?_,trivial⟩
 ·simp
 ·rw[yOr];rfl
theorem gK {α:Type} {f:α→α}:∀{l:List α} {i:Nat} {x:α},l[i]? =some x→l.modify i f=l.set i (f x)
 |[],i,x,h=>by simp at h
 |a::l,0,x,h=>by simp at h;subst h;rfl
 |a::l,i+1,x,h=>by
  simp only[yQa]at h
  simp only[yTd,yTu,gK h]
theorem yA {α:Type} {f:α→List D} {l:List α} {i g:Nat} {x y:α} {ds:List D} (hi:l[i]? =some x) (hh:(f x).take g++(ds++(f x).drop (g+ds.length))=f y):z8 (l.map f) i g ds=(l.set i y).map f:=by
 have hlt:=(yOj.1 hi).1
 rw[z8,gK (by rw[yQf,hi];rfl),hh,List.map_set]
theorem wQ {α:Type} {l:List α} {i:Nat} {x y:α} (hi:l[i]? =some x):(l.set i y)[i]? =some y:=List.getElem?_set_self (yOj.1 hi).1
theorem zS {α:Type} {l:List α} {i:Nat} {x d:α} (h:l[i]? =some x):l.getD i d=x:=by rw[yOp,h];rfl
theorem yKz (i:zZp) (h:atopC.cnd i):yEc i:=by
 have h:i.a.slots.length≤1000000:=h
 unfold yEc rM
 simp only[yOm]
 have no (e:i.a.usedAt i.n=false):i.a.topF i.n i.t=i.a:=by rw[Arena.topF,yOh (by rw[e];decide)]
 refine zI (fun c=> ?_) (fun c=>zI (fun d=> ?_) (fun d=> ?_))
 ·have e:i.a.usedAt i.n=false:=by rw[Arena.usedAt,yPa (by omega),yRk]
  rw[no e,e];(repeat'(first|exact rfl|exact trivial|assumption|apply And.intro|refine fun(_:Unit) (_:True)=>?_|refine Exists.intro () ?_|omega|(dsimp only;omega)))
 ·have e:i.a.usedAt i.n=false:=by rw[Arena.usedAt,yPa (show ¬i.n<(i.a.slots.length:Int)by omega),yRk,ySx]
  rw[no e,e];(repeat'(first|exact rfl|exact trivial|assumption|apply And.intro|refine fun(_:Unit) (_:True)=>?_|refine Exists.intro () ?_|omega|(dsimp only;omega)))
 ·obtain⟨s,hs⟩:=z9 (l:=i.a.slots) (i:=i.n.toNat) (by omega)
  have eu:i.a.usedAt i.n=s.used:=by rw[Arena.usedAt,yPd (show 0≤i.n by omega),yPd (show i.n<(i.a.slots.length:Int)by omega),zS hs];simp
  refine⟨⟨by omega,by omega⟩,s.used,elA hs (by simp[zO]) rfl,Cv.cnd.mk (fun u=> ?_) (fun u=> ?_)⟩
  ·have e:i.a.usedAt i.n=false:=by rw[eu];simpa using u
   rw[no e,e];(repeat'(first|exact rfl|exact trivial|assumption|apply And.intro|refine fun(_:Unit) (_:True)=>?_|refine Exists.intro () ?_|omega|(dsimp only;omega)))
  ·have e:i.a.usedAt i.n=true:=by rw[eu];simpa using u
   have et:i.a.topF i.n i.t={i.a with slots:=i.a.slots.set i.n.toNat {s with top:=i.t}}:=by
    rw[Arena.topF,yOi e,gK hs]
   rw[et,e,yA hs (y:={s with top:=i.t}) rfl]
   refine⟨⟨by omega,by omega⟩,by omega,(),rfl,rfl,rfl,rfl,trivial⟩
theorem zYz:atopC.ok Tryz.prog 256:=okw mixed gok0 1 (fun _=>[]) (fun _=>[]) [0] Tryz.func256 yKz
theorem z5b {l:List Slot} (h:∃s∈l,s.used=false):∃k:Nat,qE l=k∧k<l.length:=by
 obtain⟨s,hs,hu⟩:=h
 cases hf:l.findIdx? fun s=> !s.used with
 |none=>
  rw[ySk]at hf
  have:=hf s hs
  rw[hu]at this;cases this
 |some k=>
  rw[yRj]at hf
  exact⟨k,by rw[qE,show(l.findIdx? fun s=> !s.used)=some k by rw[yRj];exact hf];rfl,hf.1⟩
theorem yIv (i:PuI) (h:apushC.cnd i):z5n i:=by
 obtain⟨h1,h2,h3⟩:i.a.fit:=h
 unfold z5n zAj zCc mZ mA aJ mK aN yB dI
 simp only[yOm]
 have out (e:i.n<0∨i.a.queues.length≤i.n):i.a.push i.n i.id i.qty i.top=(i.a,0,26):=by rw[Arena.push,yOi e]
 refine zI (fun c=>Cv.cnd.mk (fun d=> ?_) (fun d=> ?_)) (fun c=> ?_)
 ·have d:¬i.n<(i.a.queues.length:Int):=by simpa using d
  rw[out (.inr (by omega))];(repeat'(first|exact rfl|exact trivial|assumption|apply And.intro|refine fun(_:Unit) (_:True)=>?_|refine Exists.intro () ?_|omega|(dsimp only;omega)))
 ·have d:i.n<(i.a.queues.length:Int):=by simpa using d
  have hn:¬(i.n<0∨(i.a.queues.length:Int)≤i.n):=by omega
  refine zI (fun q1=> ?_) (fun q1=>zI (fun q2=> ?_) (fun q2=>Cv.cnd.mk (fun fr=> ?_) (fun fr=> ?_)))
  ·rw[Arena.push,yOh hn,yOi (.inl q1)];(repeat'(first|exact rfl|exact trivial|assumption|apply And.intro|refine fun(_:Unit) (_:True)=>?_|refine Exists.intro () ?_|omega|(dsimp only;omega)))
  ·rw[Arena.push,yOh hn,yOi (.inr q2)];(repeat'(first|exact rfl|exact trivial|assumption|apply And.intro|refine fun(_:Unit) (_:True)=>?_|refine Exists.intro () ?_|omega|(dsimp only;omega)))
  ·rw[Arena.push,yOh hn,yOh (by omega),yOi (by simpa using fr)];(repeat'(first|exact rfl|exact trivial|assumption|apply And.intro|refine fun(_:Unit) (_:True)=>?_|refine Exists.intro () ?_|omega|(dsimp only;omega)))
  ·have fr:i.a.free≠0:=by simpa using fr
   have ep:i.a.push i.n i.id i.qty i.top=(i.a.put i.n i.id i.qty i.top,qE i.a.slots,0):=by rw[Arena.push,yOh hn,yOh (by omega),yOh fr]
   obtain⟨k,hk,hkl⟩:=z5b (h2 fr)
   obtain⟨q,hq⟩:=z9 (l:=i.a.queues) (i:=i.n.toNat) (by omega)
   have hqm:=yOv hq
   have hl:=h3 q hqm
   obtain⟨s,hs⟩:=z9 hkl
   refine⟨i.a.slots,rfl,h1,fun _ _=>⟨⟨by omega,by omega⟩,q.last,elA hq (by simp[zM]) rfl,⟨by omega,by omega⟩,by rw[hk];exact hkl,q.last,elA hq (by simp[zM]) rfl,?_⟩⟩
   rw[ep]
   have eput:i.a.put i.n i.id i.qty i.top=⟨if q.last= -1 then i.a.slots.set k ⟨true,k,i.id,i.qty,i.top,i.n,q.last,-1⟩else(i.a.slots.set k ⟨true,k,i.id,i.qty,i.top,i.n,q.last,-1⟩).modify q.last.toNat fun s=>{s with back:=k},i.a.queues.set i.n.toNat ⟨if q.last= -1 then k else q.first,k,IntKind.i64.wrap (q.total+i.qty),IntKind.i64.wrap (q.count+1)⟩,IntKind.i64.wrap (i.a.free-1)⟩:=by
    simp only[Arena.put,zS hq,hk,yOz]
   rw[eput,hk]
   simp only[yOz]
   have es:z8 (List.map zO i.a.slots) k 0 [D.v (.bool true),D.v (.int .i64 k),D.v (.int .i64 i.id),D.v (.int .i64 i.qty),D.v (.bool i.top),D.v (.int .i64 i.n),D.v (.int .i64 q.last),D.v (.int .i64 (-1))]=List.map zO (i.a.slots.set k ⟨true,k,i.id,i.qty,i.top,i.n,q.last,-1⟩):=yA hs rfl
   rw[es]
   refine Cv.cnd.mk (fun e=> ?_) (fun e=> ?_)
   ·have e:q.last= -1:=by simpa using e
    have e1:z8 (List.map zM i.a.queues) i.n.toNat (0+0) [D.v (.int .i64 k)]=List.map zM (i.a.queues.set i.n.toNat {q with first:=k}):=yA hq rfl
    have g1:=wQ (y:={q with first:=(k:Int)}) hq
    have e2:z8 (List.map zM (i.a.queues.set i.n.toNat {q with first:=k})) i.n.toNat (0+1) [D.v (.int .i64 k)]=List.map zM (i.a.queues.set i.n.toNat {q with first:=k,last:=k}):=by
     rw[yA g1 (y:={q with first:=(k:Int),last:=(k:Int)}) rfl,ySe]
    have g2:=wQ (y:={q with first:=(k:Int),last:=(k:Int)}) hq
    have e3:z8 (List.map zM (i.a.queues.set i.n.toNat {q with first:=k,last:=k})) i.n.toNat (0+2) [D.v (.int .i64 (IntKind.i64.wrap (q.total+i.qty)))]=List.map zM (i.a.queues.set i.n.toNat {q with first:=k,last:=k,total:=IntKind.i64.wrap (q.total+i.qty)}):=by
     rw[yA g2 (y:={q with first:=(k:Int),last:=(k:Int),total:=IntKind.i64.wrap (q.total+i.qty)}) rfl,ySe]
    have g3:=wQ (y:={q with first:=(k:Int),last:=(k:Int),total:=IntKind.i64.wrap (q.total+i.qty)}) hq
    have e4:z8 (List.map zM (i.a.queues.set i.n.toNat {q with first:=k,last:=k,total:=IntKind.i64.wrap (q.total+i.qty)})) i.n.toNat (0+3) [D.v (.int .i64 (IntKind.i64.wrap (q.count+1)))]=List.map zM (i.a.queues.set i.n.toNat ⟨k,k,IntKind.i64.wrap (q.total+i.qty),IntKind.i64.wrap (q.count+1)⟩):=by
     rw[yA g3 (y:=⟨k,k,IntKind.i64.wrap (q.total+i.qty),IntKind.i64.wrap (q.count+1)⟩) rfl,ySe]
    rw[e1,e2]
    simp only[yOi e]
    refine⟨by omega,by simp only[yOm,yPo];omega,q.total,elA g2 (by simp[zM]) rfl,by simp only[yOm,yPo];omega,q.count,?_,by rw[e3];simp only[yOm,yPo];omega,(),?_⟩
    ·rw[e3];exact elA g3 (by simp[zM]) rfl
    ·rw[e3,e4];(repeat'(first|exact rfl|exact trivial|assumption|apply And.intro|refine fun(_:Unit) (_:True)=>?_|refine Exists.intro () ?_|omega|(dsimp only;omega)))
   ·have e:¬q.last= -1:=by simpa using e
    have hl:0≤q.last∧q.last<i.a.slots.length:=hl.resolve_left e
    have e2:z8 (List.map zM i.a.queues) i.n.toNat (0+1) [D.v (.int .i64 k)]=List.map zM (i.a.queues.set i.n.toNat {q with last:=k}):=yA hq rfl
    have g2:=wQ (y:={q with last:=(k:Int)}) hq
    have e3:z8 (List.map zM (i.a.queues.set i.n.toNat {q with last:=k})) i.n.toNat (0+2) [D.v (.int .i64 (IntKind.i64.wrap (q.total+i.qty)))]=List.map zM (i.a.queues.set i.n.toNat {q with last:=k,total:=IntKind.i64.wrap (q.total+i.qty)}):=by
     rw[yA g2 (y:={q with last:=(k:Int),total:=IntKind.i64.wrap (q.total+i.qty)}) rfl,ySe]
    have g3:=wQ (y:={q with last:=(k:Int),total:=IntKind.i64.wrap (q.total+i.qty)}) hq
    have e4:z8 (List.map zM (i.a.queues.set i.n.toNat {q with last:=k,total:=IntKind.i64.wrap (q.total+i.qty)})) i.n.toNat (0+3) [D.v (.int .i64 (IntKind.i64.wrap (q.count+1)))]=List.map zM (i.a.queues.set i.n.toNat ⟨q.first,k,IntKind.i64.wrap (q.total+i.qty),IntKind.i64.wrap (q.count+1)⟩):=by
     rw[yA g3 (y:=⟨q.first,k,IntKind.i64.wrap (q.total+i.qty),IntKind.i64.wrap (q.count+1)⟩) rfl,ySe]
    obtain⟨s2,hs2⟩:=z9 (l:=i.a.slots.set k ⟨true,k,i.id,i.qty,i.top,i.n,q.last,-1⟩) (i:=q.last.toNat) (by rw[yPo];omega)
    have e5:z8 (List.map zO (i.a.slots.set k ⟨true,k,i.id,i.qty,i.top,i.n,q.last,-1⟩)) q.last.toNat (0+7) [D.v (.int .i64 k)]=List.map zO ((i.a.slots.set k ⟨true,k,i.id,i.qty,i.top,i.n,q.last,-1⟩).modify q.last.toNat fun s=>{s with back:=k}):=by
     rw[yA hs2 (y:={s2 with back:=(k:Int)}) rfl,gK hs2]
    rw[e2]
    simp only[yOh e]
    refine⟨q.last,elA hq (by simp[zM]) rfl,⟨by omega,by simp only[yOm,yPo];omega⟩,by simp only[yOm,yPo];omega,by omega,q.total,elA g2 (by simp[zM]) rfl,by simp only[yOm,yPo];omega,q.count,?_,by rw[e3];simp only[yOm,yPo];omega,(),?_⟩
    ·rw[e3];exact elA g3 (by simp[zM]) rfl
    ·rw[e3,e4,e5];(repeat'(first|exact rfl|exact trivial|assumption|apply And.intro|refine fun(_:Unit) (_:True)=>?_|refine Exists.intro () ?_|omega|(dsimp only;omega)))
 ·rw[out (.inl (by omega))];(repeat'(first|exact rfl|exact trivial|assumption|apply And.intro|refine fun(_:Unit) (_:True)=>?_|refine Exists.intro () ?_|omega|(dsimp only;omega)))
theorem zPe:apushC.ok Tryz.prog 225:=okw mixed (gokc zSp gok0) 1 (fun _=>[]) (fun _=>[]) [0] Tryz.func225 yIv
theorem bQ {s price:Int}:∀{l:List y5} {j:Nat},j≤l.length→(∀k<j,∀r,l[k]? =some r→btr s r.price price=true)→(∀r,l[j]? =some r→btr s r.price price=false)→zT s l price=j
 |[],j,hj,_,_=>by
  obtain rfl:j=0:=by simpa using hj
  rfl
 |r::l,0,_,_,he=>by
  have:=he r rfl
  rw[zT,List.takeWhile_cons,this];rfl
 |r::l,j+1,hj,h,he=>by
  have h0:=h 0 (by omega) r rfl
  have ih:=bQ (l:=l) (j:=j) (by simpa using hj) (fun k hk x hx=>h (k+1) (by omega) x (by simpa using hx)) (fun x hx=>he x (by simpa using hx))
  rw[zT]at ih ⊢
  rw[List.takeWhile_cons,h0,yOi rfl,yOw,ih]
theorem eW (s price:Int) (l:List y5):zT s l price≤l.length:=(List.takeWhile_sublist _).length_le
theorem aE (b:Book):b.rungs 1=b.buys:=rfl
theorem mM (b:Book):b.rungs 2=b.sells:=rfl
theorem yIl (i:BkP) (h:find1C.cnd i):z8b i:=by
 obtain⟨_,h1,h2,_⟩:i.b.small:=h
 unfold z8b zBw zAw gB xC mQ j7 aS dI
 simp only[yOm,aE]
 refine⟨0,rfl,fun j=>j≤i.b.buys.length∧∀k<j,∀r,i.b.buys[k]? =some r→btr 1 r.price i.price=true,fun j=>i.b.buys.length-j,⟨by omega,fun k hk=>by omega⟩,?_⟩
 rintro j ⟨h3,h4⟩
 refine zI (fun hj=> ?_) (fun hj=> ?_)
 ·obtain⟨r,hr⟩:=z9 (l:=i.b.buys) (i:=j) (by omega)
  refine⟨⟨by omega,by omega⟩,r.price,elA hr (by simp[zB]) rfl,⟨1,r.price,i.price⟩,rfl,rfl,rfl,trivial,fun _ _=> ?_⟩
  dsimp only
  refine Cv.cnd.mk (fun e=>⟨j+1,by rw[w64 (by omega)];rfl,⟨by omega,fun k hk x hx=> ?_⟩,by(first|omega|(dsimp only;omega)),by(repeat'(first|exact trivial|exact rfl|apply And.intro))⟩) (fun e=>zI (fun _=> ?_) (fun c=>absurd hj c))
  ·rcases yRc k j with hk'|hk'
   ·exact h4 k hk' x hx
   ·obtain rfl:k=j:=by omega
    rw[hr]at hx;cases hx;exact e
  ·have en:zT 1 i.b.buys i.price=j:=bQ h3 h4 fun x hx=>by rw[hr]at hx;cases hx;exact e
   have eb:qG 1 i.b.buys i.price=(r.price==i.price):=by rw[qG,en,hr];exact(zPm _ _).symm
   refine⟨⟨by omega,by omega⟩,r.price,elA hr (by simp[zB]) rfl,(),by rw[en],eb,?_⟩
   (repeat'(first|exact trivial|exact rfl|apply And.intro))
 ·have en:zT 1 i.b.buys i.price=j:=bQ h3 h4 fun x hx=>by have:=(yOj.1 hx).1;omega
  have eb:qG 1 i.b.buys i.price=false:=by rw[qG,en,yPn (by omega)]
  refine zI (fun c=>absurd c hj) (fun _=>⟨(),by rw[en],eb,?_⟩)
  (repeat'(first|exact trivial|exact rfl|apply And.intro))
theorem zHn:find1C.ok Tryz.prog 228:=okw mixed (gokc dW gok0) 0 (fun _=>[]) (fun _=>yDy) [] Tryz.func228 yIl
theorem kH (l:List (Int×Place)) (k:Int):∀(p:Value×List D),p∈atE l→like (Value.int IntKind.i64 k) p.1=true:=by
 intro p hp
 obtain⟨x,_,rfl⟩:=yPm.1 hp
 rfl
theorem rS (k:Int):∀l:List (Int×Place),x5 (Value.int IntKind.i64 k) (atE l)=(pget l k).map zVs
 |[]=>rfl
 |(a,v)::l=>by
  have ih:=rS k l
  show(bif (keq .i64 .i64 && decide (k=a))then _ else x5 _ (atE l))=_
  by_cases h:k=a
  ·subst h;simp[pget,keq]
  ·have h':¬a=k:=fun e=>h e.symm
   rw[show(keq .i64 .i64 && decide (k=a))=false by simp[h],cond_false,ih]
   simp[pget,yTx,h']
def zCa:Place:=⟨0,0,0⟩
theorem zKj (l:List (Int×Place)) (k:Int):x5 (Value.int IntKind.i64 k) (atE l)=some [D.v (.int .i64 ((pget l k).getD zCa).side),D.v (.int .i64 ((pget l k).getD zCa).price),D.v (.int .i64 ((pget l k).getD zCa).slot)]∧(pget l k).isSome=true∨x5 (Value.int IntKind.i64 k) (atE l)=none∧[D.v (.int .i64 ((pget l k).getD zCa).side),D.v (.int .i64 ((pget l k).getD zCa).price),D.v (.int .i64 ((pget l k).getD zCa).slot)]=[D.v (.int .i64 0),D.v (.int .i64 0),D.v (.int .i64 0)]∧(pget l k).isSome=false:=by
 rw[rS]
 cases pget l k with
 |none=>exact .inr ⟨rfl,rfl,rfl⟩
 |some v=>exact .inl ⟨rfl,rfl⟩
theorem zNq (k:Int) (v:Place):∀l,wL (Value.int IntKind.i64 k) (zVs v) (atE l)=atE (aX k v l)
 |[]=>rfl
 |(a,b)::l=>by
  have ih:=zNq k v l
  show(bif (keq .i64 .i64 && decide (k=a))then _ else _::wL _ _ (atE l))=_
  rw[ih,aX]
  by_cases h:k=a
  ·subst h;simp[keq,atE]
  ·simp[h,atE]
theorem yGg (i:LdI) (h:lead1C.cnd i):z3m i:=by
 obtain⟨⟨ha,_⟩,h1,h2,_⟩:i.b.small:=h
 unfold z3m tZ eA mN gC dI
 have no (e:i.b.untop 1=i.b.a):AObj.adt Arena 3 zF (i.b.untop 1)=zP i.b 1:=by rw[e];rfl
 refine Cv.cnd.mk (fun c=> ?_) (fun c=>⟨(),?_⟩)
 ·have c:i.b.hasF 1=true:=c
  refine⟨kH _ _,(pget i.b.at_ i.b.top1).isSome,_,_,_,zKj _ _,⟨kH _ _,(pget i.b.at_ i.b.top1).isSome,_,_,_,zKj _ _,⟨rfl,rfl,rfl,trivial⟩,rfl,trivial⟩,rfl,trivial,Cv.cnd.mk (fun d=>Cv.cnd.mk (fun e=> ?_) (fun e=>⟨(),?_⟩)) (fun d=>⟨(),?_⟩)⟩
  ·obtain⟨o,ho⟩:=yTo.1 d
   have e:o.side=1:=by rw[ho]at e;simpa using e
   have eu:i.b.untop 1=i.b.a.topF o.slot false:=by
    have ht:pget i.b.at_ (i.b.topI 1)=some o:=ho
    rw[Book.untop,yOi c,ht];dsimp only;rw[yOi e]
   refine⟨⟨i.b.a,o.slot,false⟩,by rw[ho];rfl,rfl,rfl,ha,fun _ _=>⟨(),?_⟩⟩
   rw[eu];(repeat'(first|exact trivial|exact rfl|apply And.intro))
  ·obtain⟨o,ho⟩:=yTo.1 d
   have e:¬o.side=1:=by rw[ho]at e;simpa using e
   have ht:pget i.b.at_ (i.b.topI 1)=some o:=ho
   rw[no (by rw[Book.untop,yOi c,ht];dsimp only;rw[yOh e])];(repeat'(first|exact trivial|exact rfl|apply And.intro))
  ·have ht:pget i.b.at_ (i.b.topI 1)=none:=by
    show pget i.b.at_ i.b.top1=none
    simpa using d
   rw[no (by rw[Book.untop,yOi c,ht])];(repeat'(first|exact trivial|exact rfl|apply And.intro))
 ·have c:¬i.b.hasF 1=true:=by rw[show i.b.hasF 1=i.b.has1 from rfl,c];decide
  rw[no (by rw[Book.untop,yOh c])];(repeat'(first|exact trivial|exact rfl|apply And.intro))
theorem z7h:lead1C.ok Tryz.prog 224:=okw mixed (gokc zYz gok0) 0 (fun _=>[]) (fun _=>[]) [] Tryz.func224 yGg
theorem zSo {s price:Int} {l:List y5} (h:qG s l price=true):∃r,l[zT s l price]? =some r:=by
 rw[qG]at h
 split at h
 ·rename_i r hr;exact⟨r,hr⟩
 ·cases h
theorem z9l (i:BkP) (h:queue1C.cnd i):zWr i:=by
 obtain⟨⟨ha,_⟩,ha',h1,h2,h3⟩:i.b.fit:=h
 have hle:=eW 1 i.price i.b.buys
 unfold zWr zJ uH uG cM cO j9 uA j7 xN xC dI
 refine⟨i,rfl,rfl,rfl,rfl,rfl,rfl,rfl,rfl,rfl,rfl,rfl,⟨⟨ha,by omega⟩,by omega,by omega,by omega⟩,fun _ _=> ?_⟩
 simp only[yOm,y3,aE]
 refine Cv.cnd.mk (fun c=> ?_) (fun c=> ?_)
 ·obtain⟨r,hr⟩:=zSo c
  have hlt:=(yOj.1 hr).1
  have e:i.b.queueF 1 i.price=(i.b,r.queue):=by rw[Book.queueF,yOi (by rw[aE];exact c),aE,zS hr]
  rw[e]
  refine⟨⟨by omega,by omega⟩,r.queue,elA (by simpa using hr) (by simp[zB]) rfl,(),?_⟩
  (repeat'(first|exact trivial|exact rfl|apply And.intro))
 ·have e:i.b.queueF 1 i.price=({i.b with a:=i.b.newQ.2.2,buys:=i.b.ins 1 i.price,spare:=i.b.newQ.2.1},i.b.newQ.1):=by
   rw[Book.queueF,yOh (by rw[aE,c];decide),yOi rfl]
  have hins:List.map zB (i.b.ins 1 i.price)=List.take (zT 1 i.b.buys i.price) (List.map zB i.b.buys)++zB ⟨i.price,i.b.newQ.1⟩::List.drop (zT 1 i.b.buys i.price) (List.map zB i.b.buys):=by
   rw[Book.ins,aE,yOr,yOs,ySf,yTe]
  rw[e]
  refine zI (fun d=> ?_) (fun d=> ?_)
  ·have w:IntKind.i64.wrap ((i.b.spare.length:Int)-1)=((i.b.spare.length-1:Nat):Int):=by rw[w64 (by omega)];omega
   rw[w]
   simp only[yOz]
   obtain⟨q,hq⟩:=z9 (l:=i.b.spare) (i:=i.b.spare.length-1) (by omega)
   have eq:i.b.newQ=(q,i.b.spare.take (i.b.spare.length-1),i.b.a):=by rw[Book.newQ,yOh (by omega),zS hq]
   rw[eq]at hins ⊢
   refine⟨⟨by omega,by omega⟩,q,elI hq,⟨by omega,by omega⟩,trivial,⟨i.b.buys.map zB,zB ⟨i.price,q⟩,zT 1 i.b.buys i.price⟩,rfl,rfl,rfl,⟨by rw[yOm];exact hle,by rw[yOm];omega⟩,fun _ _=>⟨(),?_⟩⟩
   have hs:iE (i.b.spare.take (i.b.spare.length-1))=(iE i.b.spare).take (i.b.spare.length-1):=by simp only[iE,ySf]
   (repeat'(first|exact rfl|exact trivial|assumption|apply And.intro|refine fun(_:Unit) (_:True)=>?_|refine Exists.intro () ?_|omega|(dsimp only;omega)))
  ·have eq:i.b.newQ=((i.b.a.queues.length:Int),i.b.spare,i.b.a.openQ):=by rw[Book.newQ,yOi (by omega)]
   rw[eq]at hins ⊢
   refine⟨i.b.a,rfl,by omega,fun _ _=>⟨trivial,⟨i.b.buys.map zB,zB ⟨i.price,i.b.a.queues.length⟩,zT 1 i.b.buys i.price⟩,rfl,rfl,rfl,⟨by rw[yOm];exact hle,by rw[yOm];omega⟩,fun _ _=>⟨(),?_⟩⟩⟩
   (repeat'(first|exact rfl|exact trivial|assumption|apply And.intro|refine fun(_:Unit) (_:True)=>?_|refine Exists.intro () ?_|omega|(dsimp only;omega)))
theorem zBy:vA Tryz.prog 238=some (301,2,16,#[.int .i64 0,.int .i64 0]):=by kernel_rfl
theorem zWj:insRC.ok Tryz.prog 261:=
 insX_ok (tS:=238) (tI:=3) (fO:=279) (fR:=280) (z:= #[.int .i64 0,.int .i64 0]) mixed Tryz.func261 rfl (by kernel_rfl) (by kernel_rfl) (by kernel_rfl) (by kernel_rfl) zBy rfl (by decide) (by decide) (by kernel_rfl) Tryz.underlying3
  (z9p (tS:=238) (tB:=4) Tryz.func279 (by kernel_rfl) (by kernel_rfl) (by kernel_rfl) (by kernel_rfl) zBy) (fun s sn sk i v vn vk w R=>by kernel_rfl)
theorem z2g:queue1C.ok Tryz.prog 226:=okw mixed (gokc zHn (gokc zPt (gokc zWj gok0))) 0 (fun _=>[]) (fun _=>[]) [] Tryz.func226 z9l
theorem yFz (i:BkP) (h:find2C.cnd i):z2p i:=by
 obtain⟨_,h1,h2,_⟩:i.b.small:=h
 unfold z2p zBl zBb xE gB aM jY aS dI
 simp only[yOm,mM]
 refine⟨0,rfl,fun j=>j≤i.b.sells.length∧∀k<j,∀r,i.b.sells[k]? =some r→btr 2 r.price i.price=true,fun j=>i.b.sells.length-j,⟨by omega,fun k hk=>by omega⟩,?_⟩
 rintro j ⟨h3,h4⟩
 refine zI (fun hj=> ?_) (fun hj=> ?_)
 ·obtain⟨r,hr⟩:=z9 (l:=i.b.sells) (i:=j) (by omega)
  refine⟨⟨by omega,by omega⟩,r.price,elA hr (by simp[zB]) rfl,⟨2,r.price,i.price⟩,rfl,rfl,rfl,trivial,fun _ _=> ?_⟩
  dsimp only
  refine Cv.cnd.mk (fun e=>⟨j+1,by rw[w64 (by omega)];rfl,⟨by omega,fun k hk x hx=> ?_⟩,by(first|omega|(dsimp only;omega)),by(repeat'(first|exact trivial|exact rfl|apply And.intro))⟩) (fun e=>zI (fun _=> ?_) (fun c=>absurd hj c))
  ·rcases yRc k j with hk'|hk'
   ·exact h4 k hk' x hx
   ·obtain rfl:k=j:=by omega
    rw[hr]at hx;cases hx;exact e
  ·have en:zT 2 i.b.sells i.price=j:=bQ h3 h4 fun x hx=>by rw[hr]at hx;cases hx;exact e
   have eb:qG 2 i.b.sells i.price=(r.price==i.price):=by rw[qG,en,hr];exact(zPm _ _).symm
   refine⟨⟨by omega,by omega⟩,r.price,elA hr (by simp[zB]) rfl,(),by rw[en],eb,?_⟩
   (repeat'(first|exact trivial|exact rfl|apply And.intro))
 ·have en:zT 2 i.b.sells i.price=j:=bQ h3 h4 fun x hx=>by have:=(yOj.1 hx).1;omega
  have eb:qG 2 i.b.sells i.price=false:=by rw[qG,en,yPn (by omega)]
  refine zI (fun c=>absurd c hj) (fun _=>⟨(),by rw[en],eb,?_⟩)
  (repeat'(first|exact trivial|exact rfl|apply And.intro))
theorem zEo:find2C.ok Tryz.prog 228:=okw mixed (gokc dW gok0) 0 (fun _=>[]) (fun _=>yDy) [] Tryz.func228 yFz
theorem yFc (i:LdI) (h:lead2C.cnd i):z5p i:=by
 obtain⟨⟨ha,_⟩,h1,h2,_⟩:i.b.small:=h
 unfold z5p sZ tV mX gC dI
 have no (e:i.b.untop 2=i.b.a):AObj.adt Arena 3 zF (i.b.untop 2)=zP i.b 1:=by rw[e];rfl
 refine Cv.cnd.mk (fun c=> ?_) (fun c=>⟨(),?_⟩)
 ·have c:i.b.hasF 2=true:=c
  refine⟨kH _ _,(pget i.b.at_ i.b.top2).isSome,_,_,_,zKj _ _,⟨kH _ _,(pget i.b.at_ i.b.top2).isSome,_,_,_,zKj _ _,⟨rfl,rfl,rfl,trivial⟩,rfl,trivial⟩,rfl,trivial,Cv.cnd.mk (fun d=>Cv.cnd.mk (fun e=> ?_) (fun e=>⟨(),?_⟩)) (fun d=>⟨(),?_⟩)⟩
  ·obtain⟨o,ho⟩:=yTo.1 d
   have e:o.side=2:=by rw[ho]at e;simpa using e
   have eu:i.b.untop 2=i.b.a.topF o.slot false:=by
    have ht:pget i.b.at_ (i.b.topI 2)=some o:=ho
    rw[Book.untop,yOi c,ht];dsimp only;rw[yOi e]
   refine⟨⟨i.b.a,o.slot,false⟩,by rw[ho];rfl,rfl,rfl,ha,fun _ _=>⟨(),?_⟩⟩
   rw[eu];(repeat'(first|exact trivial|exact rfl|apply And.intro))
  ·obtain⟨o,ho⟩:=yTo.1 d
   have e:¬o.side=2:=by rw[ho]at e;simpa using e
   have ht:pget i.b.at_ (i.b.topI 2)=some o:=ho
   rw[no (by rw[Book.untop,yOi c,ht];dsimp only;rw[yOh e])];(repeat'(first|exact trivial|exact rfl|apply And.intro))
  ·have ht:pget i.b.at_ (i.b.topI 2)=none:=by
    show pget i.b.at_ i.b.top2=none
    simpa using d
   rw[no (by rw[Book.untop,yOi c,ht])];(repeat'(first|exact trivial|exact rfl|apply And.intro))
 ·have c:¬i.b.hasF 2=true:=by rw[show i.b.hasF 2=i.b.has2 from rfl,c];decide
  rw[no (by rw[Book.untop,yOh c])];(repeat'(first|exact trivial|exact rfl|apply And.intro))
theorem z7l:lead2C.ok Tryz.prog 224:=okw mixed (gokc zYz gok0) 0 (fun _=>[]) (fun _=>[]) [] Tryz.func224 yFc
theorem yBe (i:BkP) (h:queue2C.cnd i):zWo i:=by
 obtain⟨⟨ha,_⟩,ha',h1,h2,h3⟩:i.b.fit:=h
 have hle:=eW 2 i.price i.b.sells
 unfold zWo zK vY jY uH uG cM cO j9 xN xE dI
 refine⟨i,rfl,rfl,rfl,rfl,rfl,rfl,rfl,rfl,rfl,rfl,rfl,⟨⟨ha,by omega⟩,by omega,by omega,by omega⟩,fun _ _=> ?_⟩
 simp only[yOm,y3,mM]
 refine Cv.cnd.mk (fun c=> ?_) (fun c=> ?_)
 ·obtain⟨r,hr⟩:=zSo c
  have hlt:=(yOj.1 hr).1
  have e:i.b.queueF 2 i.price=(i.b,r.queue):=by rw[Book.queueF,yOi (by rw[mM];exact c),mM,zS hr]
  rw[e]
  refine⟨⟨by omega,by omega⟩,r.queue,elA (by simpa using hr) (by simp[zB]) rfl,(),?_⟩
  (repeat'(first|exact trivial|exact rfl|apply And.intro))
 ·have e:i.b.queueF 2 i.price=({i.b with a:=i.b.newQ.2.2,sells:=i.b.ins 2 i.price,spare:=i.b.newQ.2.1},i.b.newQ.1):=by
   rw[Book.queueF,yOh (by rw[mM,c];decide),yOh (by decide)]
  have hins:List.map zB (i.b.ins 2 i.price)=List.take (zT 2 i.b.sells i.price) (List.map zB i.b.sells)++zB ⟨i.price,i.b.newQ.1⟩::List.drop (zT 2 i.b.sells i.price) (List.map zB i.b.sells):=by
   rw[Book.ins,mM,yOr,yOs,ySf,yTe]
  rw[e]
  refine zI (fun d=> ?_) (fun d=> ?_)
  ·have w:IntKind.i64.wrap ((i.b.spare.length:Int)-1)=((i.b.spare.length-1:Nat):Int):=by rw[w64 (by omega)];omega
   rw[w]
   simp only[yOz]
   obtain⟨q,hq⟩:=z9 (l:=i.b.spare) (i:=i.b.spare.length-1) (by omega)
   have eq:i.b.newQ=(q,i.b.spare.take (i.b.spare.length-1),i.b.a):=by rw[Book.newQ,yOh (by omega),zS hq]
   rw[eq]at hins ⊢
   refine⟨⟨by omega,by omega⟩,q,elI hq,⟨by omega,by omega⟩,trivial,⟨i.b.sells.map zB,zB ⟨i.price,q⟩,zT 2 i.b.sells i.price⟩,rfl,rfl,rfl,⟨by rw[yOm];exact hle,by rw[yOm];omega⟩,fun _ _=>⟨(),?_⟩⟩
   have hs:iE (i.b.spare.take (i.b.spare.length-1))=(iE i.b.spare).take (i.b.spare.length-1):=by simp only[iE,ySf]
   (repeat'(first|exact rfl|exact trivial|assumption|apply And.intro|refine fun(_:Unit) (_:True)=>?_|refine Exists.intro () ?_|omega|(dsimp only;omega)))
  ·have eq:i.b.newQ=((i.b.a.queues.length:Int),i.b.spare,i.b.a.openQ):=by rw[Book.newQ,yOi (by omega)]
   rw[eq]at hins ⊢
   refine⟨i.b.a,rfl,by omega,fun _ _=>⟨trivial,⟨i.b.sells.map zB,zB ⟨i.price,i.b.a.queues.length⟩,zT 2 i.b.sells i.price⟩,rfl,rfl,rfl,⟨by rw[yOm];exact hle,by rw[yOm];omega⟩,fun _ _=>⟨(),?_⟩⟩⟩
   (repeat'(first|exact rfl|exact trivial|assumption|apply And.intro|refine fun(_:Unit) (_:True)=>?_|refine Exists.intro () ?_|omega|(dsimp only;omega)))
theorem zZg:queue2C.ok Tryz.prog 226:=okw mixed (gokc zEo (gokc zPt (gokc zWj gok0))) 0 (fun _=>[]) (fun _=>[]) [] Tryz.func226 yBe
open Go Cv Go.Proofs
structure BaI where
 b:Book
 id:Int
 price:Int
 qty:Int
def Book.leads (b:Book) (s price:Int):Bool:=match b.rungs s with
 |[]=>true
 |r::_=>btr s price r.price
def Book.led (b:Book) (id s price:Int):Book:=if b.leads s price=true then b.leadF id s else b
def Book.stand (b:Book) (s id price qty:Int):Book:=
 let b2:=(b.led id s price).queueF s price
 let x:=b2.1.a.push b2.2 id qty (b.leads s price)
 {b2.1 with a:=x.1,at_:=aX id ⟨s,price,x.2.1⟩ b2.1.at_}
def Book.addF (b:Book) (s id price qty:Int):Book×Int:=
 if qty<1∨1000000<qty then(b,24)else if(pget b.at_ id).isSome=true then(b,25)else if 250≤b.at_.length then(b,13)else(b.stand s id price qty,0)
def z2z (s:Int):Con:=con1 BaI (fun i=>[.nm 0 0,zA i.id,zA s,zA i.price,zA i.qty]) (fun i=>[z6 i.b]) (fun i=>i.b.fit) (fun i=>zA (i.b.addF s i.id i.price i.qty).2) (fun i=>[z6 (i.b.addF s i.id i.price i.qty).1])
def yDu:List (Nat×SAnn):=[(44,bj 14)]
def badd1C:Con:=z2z 1
def badd2C:Con:=z2z 2
structure BaJ where
 i:BaI
 s:Bool
def baddC:Con:=con1 BaJ (fun j=>[.nm 0 0,zA j.i.id,zA (zC j.s),zA j.i.price,zA j.i.qty]) (fun j=>[z6 j.i.b]) (fun j=>j.i.b.fit) (fun j=>zA (j.i.b.addF (zC j.s) j.i.id j.i.price j.i.qty).2) (fun j=>[z6 (j.i.b.addF (zC j.s) j.i.id j.i.price j.i.qty).1])
structure SaI where
 s:MSt
 inst:Int
 id:Int
 sd:Bool
 price:Int
 qty:Int
def MSt.bookAt (s:MSt) (n:Int):Book:=s.books.getD n.toNat book0
def MSt.addF (i:SaI):MSt×Int:=
 if i.inst<0∨i.s.books.length≤i.inst then(i.s,20)else if(tR i.s.wh i.id).isSome=true then(i.s,25)else if 250≤i.s.wh.length then(i.s,13)else if i.s.p.price i.inst i.price≠0 then(i.s,i.s.p.price i.inst i.price)
 else
  let x:=(i.s.bookAt i.inst).addF (zC i.sd) i.id i.price i.qty
  ({i.s with books:=i.s.books.set i.inst.toNat x.1,wh:=if x.2=0 then zOx i.id i.inst i.s.wh else i.s.wh},x.2)
@[reducible] def MSt.fit (s:MSt):Prop:=s.p.small∧s.books.length≤1000000∧∀b∈s.books,b.fit
def saddC:Con:=con1 SaI (fun i=>[.nm 0 0,zA i.inst,zA i.id,zA (zC i.sd),zA i.price,zA i.qty]) (fun i=>[zD i.s]) (fun i=>i.s.fit) (fun i=>zA (MSt.addF i).2) (fun i=>[zD (MSt.addF i).1])
open Go Cv Go.Proofs
def aZ (a:PuI):Prop:=a.a.slots.length≤1000000∧(a.a.free≠0→∃(b:Slot),b∈a.a.slots∧b.used=false)∧∀(b:gL),b∈a.a.queues→b.last=(-1)∨0≤b.last∧b.last<(↑a.a.slots.length:Int)
def yG (a:BaI):=(a.b.addF 1 a.id a.price a.qty)
def pV (a:BkP):Prop:=(a.b.a.slots.length≤1000000∧(a.b.a.free≠0→∃(b:Slot),b∈a.b.a.slots∧b.used=false)∧∀(b:gL),b∈a.b.a.queues→b.last=(-1)∨0≤b.last∧b.last<(↑a.b.a.slots.length:Int))∧a.b.a.queues.length≤100000∧a.b.buys.length≤100000∧a.b.sells.length≤100000∧a.b.spare.length≤100000
def zBo (a:BkP) (b:BaI) (c:Bool):Prop:=(pV a)∧∀(d:Unit),True→True∧∃(e:PuI),e.n=(zJ a).snd∧e.id=b.id∧e.qty=b.qty∧e.top=c∧AObj.adt Arena 3 zF e.a=AObj.adt Arena 3 zF (zJ a).fst.a∧(aZ e)∧∀(f:Unit),True→(∀(g:Value×List D),g∈atE (zJ a).fst.at_→like (Value.int IntKind.i64 b.id) g.fst=true)∧∃(g:Unit),(yG b).snd=0∧(yG b).fst.top1=(zJ a).fst.top1∧(yG b).fst.top2=(zJ a).fst.top2∧(yG b).fst.has1=(zJ a).fst.has1∧(yG b).fst.has2=(zJ a).fst.has2∧AObj.adt Arena 3 zF (yG b).fst.a=AObj.adt Arena 3 zF (yB e).fst∧List.map zB (yG b).fst.buys=List.map zB (zJ a).fst.buys∧List.map zB (yG b).fst.sells=List.map zB (zJ a).fst.sells∧atE (yG b).fst.at_=wL (Value.int IntKind.i64 b.id) [dI 1,dI b.price,dI ((yB e).snd.fst)] (atE (zJ a).fst.at_)∧iE (yG b).fst.spare=iE (zJ a).fst.spare∧True
def pN (a:Bool→Prop) (b:Bool) (c:Int) (d:Int) (e:Int) (f:BaI):Prop:=a b∧Sx.AObj.cells [V.d (dI c),V.d (dI d),V.d (dI e)] 235=Sx.AObj.cells [V.d (dI c),V.d (dI d),V.d (dI e)] 235∧Sx.AObj.cells (jD (qC 0 1 6) [V.nm 1 0,V.own 2,V.own 3,V.mp 4,zA f.b.top1,zA f.b.top2,V.own 5,yJ f.b.has1,yJ f.b.has2]) (244:TypeId)=Sx.AObj.cells (jD (qC 0 1 6) [V.nm 1 0,V.own 2,V.own 3,V.mp 4,zA f.b.top1,zA f.b.top2,V.own 5,yJ f.b.has1,yJ f.b.has2]) (244:TypeId)∧AObj.adt Arena 3 zF f.b.a=AObj.adt Arena 3 zF f.b.a∧AObj.own 301 2 (List.map zB f.b.buys)=AObj.own 301 2 (List.map zB f.b.buys)∧AObj.own 301 2 (List.map zB f.b.sells)=AObj.own 301 2 (List.map zB f.b.sells)∧Sx.AObj.map (atE f.b.at_)=Sx.AObj.map (atE f.b.at_)∧AObj.own 3 1 (iE f.b.spare)=AObj.own 3 1 (iE f.b.spare)
def pR (a:I3') (b:BaI) (c:Int) (d:Bool→Prop) (e:Int) (f:Int) (g:Int):Prop:=a.x=b.price∧a.y=c∧True∧∀(h:Unit),True→∃(j:Bool),j=btr a.side a.x a.y∧pN d j e f g b
def pP (a:Bool→Prop) (b:Int) (c:Int) (d:Int) (e:BaI):Prop:=∃(f:Bool),f=true∧pN a f b c d e
def b8 (a:BaI):Prop:=(yG a).fst.top1=a.b.top1∧(yG a).fst.top2=a.b.top2∧(yG a).fst.has1=a.b.has1∧(yG a).fst.has2=a.b.has2∧AObj.adt Arena 3 zF (yG a).fst.a=AObj.adt Arena 3 zF a.b.a∧List.map zB (yG a).fst.buys=List.map zB a.b.buys∧List.map zB (yG a).fst.sells=List.map zB a.b.sells∧atE (yG a).fst.at_=atE a.b.at_∧iE (yG a).fst.spare=iE a.b.spare∧True
def zBt (a:BaI):Prop:=∃(b:Unit),(yG a).snd=24∧b8 a
def aQ (a:BaI) (b:Int) (c:Int) (d:Int) (e:Bool):Prop:=x5 (Value.int IntKind.i64 a.id) (atE a.b.at_)=some [dI b,dI c,dI d]∧e=true∨x5 (Value.int IntKind.i64 a.id) (atE a.b.at_)=none∧[dI b,dI c,dI d]=[dI 0,dI 0,dI 0]∧e=false
def aR (a:LdI):Prop:=(a.b.a.slots.length≤1000000∧a.b.a.queues.length≤1000000)∧a.b.buys.length≤1000000∧a.b.sells.length≤1000000∧a.b.spare.length≤1000000
def z8q (i:BaI):Prop:=
 (∀(a:Value×List D),a∈atE i.b.at_→like (Value.int IntKind.i64 i.id) a.fst=true)∧∃(a:Bool),∃(b:Int),∃(c:Int),∃(d:Int),(aQ i b c d a)∧∃(e:Int),e=1∧True∧∀(f:Unit),True→cnd (!(j6 e)) (∃(g:Unit),(yG i).snd=21∧b8 i) (cnd (decide (i.qty<1)) (zBt i) (cnd (decide (i.qty>1000000)) (zBt i) (cnd a (∃(g:Unit),(yG i).snd=25∧b8 i) (cnd (decide ((↑(atE i.b.at_).length:Int)≥250)) (∃(g:Unit),(yG i).snd=13∧b8 i) (∃(g:Bool),∃(h:Bool→Prop),cnd ((↑(List.map zB i.b.buys).length:Int)==0) (pP h b c d i) (((0:Int)≤(0:Int)∧0<(↑(List.map zB i.b.buys).length:Int))∧∃(j:Int),zE (List.map zB i.b.buys) (Int.toNat 0) ((0:Nat)+(0:Nat)) 1=some [dI j]∧∃(k:I3'),k.side=1∧pR k i j h b c d)∧∀(j:Bool),h j→cnd j (∃(k:LdI),k.id=i.id∧(1:Int)=(1:Int)∧k.b.top1=i.b.top1∧k.b.top2=i.b.top2∧k.b.has1=i.b.has1∧k.b.has2=i.b.has2∧AObj.adt Arena 3 zF k.b.a=AObj.adt Arena 3 zF i.b.a∧List.map zB k.b.buys=List.map zB i.b.buys∧List.map zB k.b.sells=List.map zB i.b.sells∧atE k.b.at_=atE i.b.at_∧iE k.b.spare=iE i.b.spare∧(aR k)∧∀(l:Unit),True→∃(m:BkP),(1:Int)=(1:Int)∧m.price=i.price∧m.b.top1=k.id∧m.b.top2=k.b.top2∧m.b.has1=true∧m.b.has2=k.b.has2∧AObj.adt Arena 3 zF m.b.a=AObj.adt Arena 3 zF (k.b.untop 1)∧List.map zB m.b.buys=List.map zB k.b.buys∧List.map zB m.b.sells=List.map zB k.b.sells∧atE m.b.at_=atE k.b.at_∧iE m.b.spare=iE k.b.spare∧zBo m i j) (∃(k:BkP),(1:Int)=(1:Int)∧k.price=i.price∧k.b.top1=i.b.top1∧k.b.top2=i.b.top2∧k.b.has1=i.b.has1∧k.b.has2=i.b.has2∧AObj.adt Arena 3 zF k.b.a=AObj.adt Arena 3 zF i.b.a∧List.map zB k.b.buys=List.map zB i.b.buys∧List.map zB k.b.sells=List.map zB i.b.sells∧atE k.b.at_=atE i.b.at_∧iE k.b.spare=iE i.b.spare∧zBo k i j))))))
def yF (a:BaI):=(a.b.addF 2 a.id a.price a.qty)
def zAq (a:BkP) (b:BaI) (c:Bool):Prop:=(pV a)∧∀(d:Unit),True→True∧∃(e:PuI),e.n=(zK a).snd∧e.id=b.id∧e.qty=b.qty∧e.top=c∧AObj.adt Arena 3 zF e.a=AObj.adt Arena 3 zF (zK a).fst.a∧(aZ e)∧∀(f:Unit),True→(∀(g:Value×List D),g∈atE (zK a).fst.at_→like (Value.int IntKind.i64 b.id) g.fst=true)∧∃(g:Unit),(yF b).snd=0∧(yF b).fst.top1=(zK a).fst.top1∧(yF b).fst.top2=(zK a).fst.top2∧(yF b).fst.has1=(zK a).fst.has1∧(yF b).fst.has2=(zK a).fst.has2∧AObj.adt Arena 3 zF (yF b).fst.a=AObj.adt Arena 3 zF (yB e).fst∧List.map zB (yF b).fst.buys=List.map zB (zK a).fst.buys∧List.map zB (yF b).fst.sells=List.map zB (zK a).fst.sells∧atE (yF b).fst.at_=wL (Value.int IntKind.i64 b.id) [dI 2,dI b.price,dI ((yB e).snd.fst)] (atE (zK a).fst.at_)∧iE (yF b).fst.spare=iE (zK a).fst.spare∧True
def aA (a:BaI):Prop:=(yF a).fst.top1=a.b.top1∧(yF a).fst.top2=a.b.top2∧(yF a).fst.has1=a.b.has1∧(yF a).fst.has2=a.b.has2∧AObj.adt Arena 3 zF (yF a).fst.a=AObj.adt Arena 3 zF a.b.a∧List.map zB (yF a).fst.buys=List.map zB a.b.buys∧List.map zB (yF a).fst.sells=List.map zB a.b.sells∧atE (yF a).fst.at_=atE a.b.at_∧iE (yF a).fst.spare=iE a.b.spare∧True
def zAy (a:BaI):Prop:=∃(b:Unit),(yF a).snd=24∧aA a
def z3x (i:BaI):Prop:=
 (∀(a:Value×List D),a∈atE i.b.at_→like (Value.int IntKind.i64 i.id) a.fst=true)∧∃(a:Bool),∃(b:Int),∃(c:Int),∃(d:Int),(aQ i b c d a)∧∃(e:Int),e=2∧True∧∀(f:Unit),True→cnd (!(j6 e)) (∃(g:Unit),(yF i).snd=21∧aA i) (cnd (decide (i.qty<1)) (zAy i) (cnd (decide (i.qty>1000000)) (zAy i) (cnd a (∃(g:Unit),(yF i).snd=25∧aA i) (cnd (decide ((↑(atE i.b.at_).length:Int)≥250)) (∃(g:Unit),(yF i).snd=13∧aA i) (∃(g:Bool),∃(h:Bool→Prop),cnd ((↑(List.map zB i.b.sells).length:Int)==0) (pP h b c d i) (((0:Int)≤(0:Int)∧0<(↑(List.map zB i.b.sells).length:Int))∧∃(j:Int),zE (List.map zB i.b.sells) (Int.toNat 0) ((0:Nat)+(0:Nat)) 1=some [dI j]∧∃(k:I3'),k.side=2∧pR k i j h b c d)∧∀(j:Bool),h j→cnd j (∃(k:LdI),k.id=i.id∧(2:Int)=(2:Int)∧k.b.top1=i.b.top1∧k.b.top2=i.b.top2∧k.b.has1=i.b.has1∧k.b.has2=i.b.has2∧AObj.adt Arena 3 zF k.b.a=AObj.adt Arena 3 zF i.b.a∧List.map zB k.b.buys=List.map zB i.b.buys∧List.map zB k.b.sells=List.map zB i.b.sells∧atE k.b.at_=atE i.b.at_∧iE k.b.spare=iE i.b.spare∧(aR k)∧∀(l:Unit),True→∃(m:BkP),(2:Int)=(2:Int)∧m.price=i.price∧m.b.top1=k.b.top1∧m.b.top2=k.id∧m.b.has1=k.b.has1∧m.b.has2=true∧AObj.adt Arena 3 zF m.b.a=AObj.adt Arena 3 zF (k.b.untop 2)∧List.map zB m.b.buys=List.map zB k.b.buys∧List.map zB m.b.sells=List.map zB k.b.sells∧atE m.b.at_=atE k.b.at_∧iE m.b.spare=iE k.b.spare∧zAq m i j) (∃(k:BkP),(2:Int)=(2:Int)∧k.price=i.price∧k.b.top1=i.b.top1∧k.b.top2=i.b.top2∧k.b.has1=i.b.has1∧k.b.has2=i.b.has2∧AObj.adt Arena 3 zF k.b.a=AObj.adt Arena 3 zF i.b.a∧List.map zB k.b.buys=List.map zB i.b.buys∧List.map zB k.b.sells=List.map zB i.b.sells∧atE k.b.at_=atE i.b.at_∧iE k.b.spare=iE i.b.spare∧zAq k i j))))))
def zBa (a:SaI):Prop:=AObj.fro 1 (iE (MSt.addF a).fst.p.months)=AObj.fro 1 (iE a.s.p.months)∧AObj.fro 1 (iE (MSt.addF a).fst.p.settle)=AObj.fro 1 (iE a.s.p.settle)∧True
def zAz (a:SaI):Prop:=yN (MSt.addF a).fst.wh=yN a.s.wh∧zBa a
def pD (a:SaI):Prop:=sb (MSt.addF a).fst.p.code=sb a.s.p.code∧(MSt.addF a).fst.p.tick=a.s.p.tick∧(MSt.addF a).fst.p.low=a.s.p.low∧(MSt.addF a).fst.p.high=a.s.p.high∧(MSt.addF a).fst.p.wide=a.s.p.wide∧(MSt.addF a).fst.p.rule=a.s.p.rule∧(MSt.addF a).fst.p.top=a.s.p.top∧(MSt.addF a).fst.p.least=a.s.p.least∧(MSt.addF a).fst.p.part=a.s.p.part∧AObj.objs 184 Book 6 zP (MSt.addF a).fst.books none=AObj.objs 184 Book 6 zP a.s.books none∧zAz a
def zHl (a:SaI):Prop:=∃(b:Unit),(MSt.addF a).snd=20∧pD a
def bW (a:BaJ):=(a.i.b.addF (zC a.s) a.i.id a.i.price a.i.qty)
def yEm (i:SaI):Prop:=
 (∀(a:Value×List D),a∈yN i.s.wh→like (Value.int IntKind.i64 i.id) a.fst=true)∧∃(a:Bool),∃(b:Int),(x5 (Value.int IntKind.i64 i.id) (yN i.s.wh)=some [dI b]∧a=true∨x5 (Value.int IntKind.i64 i.id) (yN i.s.wh)=none∧[dI b]=[dI 0]∧a=false)∧cnd (decide (i.inst≥0)) (cnd (!decide (i.inst<(↑i.s.books.length:Int))) (zHl i) (cnd a (∃(c:Unit),(MSt.addF i).snd=25∧pD i) (cnd (decide ((↑(yN i.s.wh).length:Int)≥250)) (∃(c:Unit),(MSt.addF i).snd=13∧pD i) (∃(c:nA),sb c.p.code=sb i.s.p.code∧iE c.p.months=iE i.s.p.months∧c.p.tick=i.s.p.tick∧c.p.low=i.s.p.low∧c.p.high=i.s.p.high∧c.p.wide=i.s.p.wide∧c.p.rule=i.s.p.rule∧c.p.top=i.s.p.top∧c.p.least=i.s.p.least∧c.p.part=i.s.p.part∧iE c.p.settle=iE i.s.p.settle∧c.a=i.inst∧c.b=i.price∧(xM c)∧∀(d:Unit),True→cnd (c.p.price c.a c.b !=0) (∃(e:Unit),(MSt.addF i).snd=c.p.price c.a c.b∧pD i) ((0≤i.inst∧i.inst<(↑i.s.books.length:Int))∧i.inst.toNat<i.s.books.length∧∃(e:Book),i.s.books[i.inst.toNat]?=some e∧∃(f:BaJ),f.i.id=i.id∧zC f.s=zC i.sd∧f.i.price=i.price∧f.i.qty=i.qty∧z6 f.i.b=z6 e∧((f.i.b.a.slots.length≤1000000∧(f.i.b.a.free≠0→∃(g:Slot),g∈f.i.b.a.slots∧g.used=false)∧∀(g:gL),g∈f.i.b.a.queues→g.last=(-1)∨0≤g.last∧g.last<(↑f.i.b.a.slots.length:Int))∧f.i.b.a.queues.length≤100000∧f.i.b.buys.length≤100000∧f.i.b.sells.length≤100000∧f.i.b.spare.length≤100000)∧∀(g:Unit),True→∃(h:Book),z6 (bW f).fst=z6 h∧i.inst.toNat=i.inst.toNat∧i.inst.toNat<i.s.books.length∧cnd ((bW f).snd==0) ((∀(j:Value×List D),j∈yN i.s.wh→like (Value.int IntKind.i64 i.id) j.fst=true)∧∃(j:Unit),(MSt.addF i).snd=(bW f).snd∧sb (MSt.addF i).fst.p.code=sb i.s.p.code∧(MSt.addF i).fst.p.tick=i.s.p.tick∧(MSt.addF i).fst.p.low=i.s.p.low∧(MSt.addF i).fst.p.high=i.s.p.high∧(MSt.addF i).fst.p.wide=i.s.p.wide∧(MSt.addF i).fst.p.rule=i.s.p.rule∧(MSt.addF i).fst.p.top=i.s.p.top∧(MSt.addF i).fst.p.least=i.s.p.least∧(MSt.addF i).fst.p.part=i.s.p.part∧AObj.objs 184 Book 6 zP (MSt.addF i).fst.books none=AObj.objs 184 Book 6 zP (i.s.books.set i.inst.toNat h) none∧yN (MSt.addF i).fst.wh=wL (Value.int IntKind.i64 i.id) [dI i.inst] (yN i.s.wh)∧zBa i) (∃(j:Unit),(MSt.addF i).snd=(bW f).snd∧sb (MSt.addF i).fst.p.code=sb i.s.p.code∧(MSt.addF i).fst.p.tick=i.s.p.tick∧(MSt.addF i).fst.p.low=i.s.p.low∧(MSt.addF i).fst.p.high=i.s.p.high∧(MSt.addF i).fst.p.wide=i.s.p.wide∧(MSt.addF i).fst.p.rule=i.s.p.rule∧(MSt.addF i).fst.p.top=i.s.p.top∧(MSt.addF i).fst.p.least=i.s.p.least∧(MSt.addF i).fst.p.part=i.s.p.part∧AObj.objs 184 Book 6 zP (MSt.addF i).fst.books none=AObj.objs 184 Book 6 zP (i.s.books.set i.inst.toNat h) none∧zAz i)))))) (zHl i)
open Go Cv Go.Proofs
theorem zFk {α:Type} {f:α→α} {Q:α→Prop} (hf:∀x,Q x→Q (f x)):∀{l:List α} (i:Nat),(∃x∈l,Q x)→∃x∈l.modify i f,Q x
 |[],i,⟨x,hx,_⟩=>by cases hx
 |a::l,0,⟨x,hx,q⟩=>by
  rcases yPb.1 hx with rfl|hx
  ·exact⟨f x,yOn,hf x q⟩
  ·exact⟨x,yOo _ hx,q⟩
 |a::l,i+1,⟨x,hx,q⟩=>by
  rw[yTd]
  rcases yPb.1 hx with rfl|hx
  ·exact⟨x,yOn,q⟩
  ·obtain⟨y,hy,hq⟩:=zFk hf (l:=l) i ⟨x,hx,q⟩
   exact⟨y,yOo _ hy,hq⟩
theorem z8s {a:Arena} (h:a.fit) (n:Int) (t:Bool):(a.topF n t).fit:=by
 obtain⟨h1,h2,h3⟩:=h
 rw[Arena.topF]
 split
 ·refine⟨by simpa using h1,fun hf=> ?_,by simpa using h3⟩
  exact zFk (f:=fun s:Slot=>{s with top:=t}) (Q:=fun s=>s.used=false) (fun x hx=>hx) _ (h2 hf)
 ·exact⟨h1,h2,h3⟩
theorem z0a {b:Book} (h:b.a.fit) (s:Int):(b.untop s).fit:=by
 rw[Book.untop]
 repeat' split
 all_goals first|exact h|exact z8s h _ _
theorem z2c {a:Arena} (h:a.fit):a.openQ.fit:=by
 obtain⟨h1,h2,h3⟩:=h
 refine⟨h1,h2,fun q hq=> ?_⟩
 rcases yPi.1 hq with hq|hq
 ·exact h3 q hq
 ·rw[yPu.1 hq];exact .inl rfl
theorem zPz {b:Book} (h:b.a.fit):b.newQ.2.2.fit:=by
 rw[Book.newQ]
 split
 ·exact z2c h
 ·exact h
theorem aL {b:Book} (h:b.a.fit) (s p:Int):(b.queueF s p).1.a.fit:=by
 rw[Book.queueF]
 repeat' split
 ·exact h
 ·exact zPz h
 ·exact zPz h
theorem z0n (b:Book) (s:Int):(b.untop s).slots.length=b.a.slots.length∧(b.untop s).queues=b.a.queues:=by
 have ht:∀n t,(b.a.topF n t).slots.length=b.a.slots.length∧(b.a.topF n t).queues=b.a.queues:=by
  intro n t
  rw[Arena.topF]
  split
  ·exact⟨by simp,rfl⟩
  ·exact⟨rfl,rfl⟩
 rw[Book.untop]
 repeat' split
 all_goals first|exact⟨rfl,rfl⟩|exact ht _ _
theorem zKx {b:Book} (h:b.fit) (id s:Int):(b.leadF id s).fit:=by
 obtain⟨h1,h2,h3,h4,h5⟩:=h
 have hl:=z0n b s
 rw[Book.leadF]
 split
 all_goals exact⟨z0a h1 s,by rw[hl.2];exact h2,h3,h4,h5⟩
theorem zIx {b:Book} (h:b.fit):b.small:=by
 obtain⟨⟨h1,_⟩,h2,h3,h4,h5⟩:=h
 exact⟨⟨h1,by omega⟩,by omega,by omega,by omega⟩
theorem yIj (i:BaI) (h:badd1C.cnd i):z8q i:=by
 have hfit:i.b.fit:=h
 have hsm:=zIx hfit
 unfold z8q j6 zBt b8 pP pR pN zBo zJ pV yG aZ yB aR aQ dI
 have plc:∀(b:Book) (x:Int),wL (Value.int IntKind.i64 i.id) [D.v (.int .i64 1),D.v (.int .i64 i.price),D.v (.int .i64 x)] (atE b.at_)=atE (aX i.id ⟨1,i.price,x⟩ b.at_):=fun b x=>zNq i.id ⟨1,i.price,x⟩ b.at_
 refine⟨kH _ _,(pget i.b.at_ i.id).isSome,_,_,_,zKj _ _,1,rfl,trivial,fun _ _=> ?_⟩
 refine Cv.cnd.mk (fun c=>absurd c (by decide)) fun _=> ?_
 refine zI (fun c=> ?_) (fun c=>zI (fun d=> ?_) (fun d=> ?_))
 ·have ha:i.b.addF 1 i.id i.price i.qty=(i.b,24):=by rw[Book.addF,yOi (.inl c)]
  rw[ha];(repeat'(first|exact rfl|exact trivial|assumption|apply And.intro|refine fun(_:Unit) (_:True)=>?_|refine Exists.intro () ?_|omega|(dsimp only;omega)))
 ·have ha:i.b.addF 1 i.id i.price i.qty=(i.b,24):=by rw[Book.addF,yOi (.inr d)]
  rw[ha];(repeat'(first|exact rfl|exact trivial|assumption|apply And.intro|refine fun(_:Unit) (_:True)=>?_|refine Exists.intro () ?_|omega|(dsimp only;omega)))
 have hq:¬(i.qty<1∨1000000<i.qty):=by omega
 refine Cv.cnd.mk (fun e=> ?_) (fun e=> ?_)
 ·have ha:i.b.addF 1 i.id i.price i.qty=(i.b,25):=by rw[Book.addF,yOh hq,yOi e]
  rw[ha];(repeat'(first|exact rfl|exact trivial|assumption|apply And.intro|refine fun(_:Unit) (_:True)=>?_|refine Exists.intro () ?_|omega|(dsimp only;omega)))
 have hlen:(atE i.b.at_).length=i.b.at_.length:=by simp[atE]
 rw[hlen]
 refine zI (fun f=> ?_) (fun f=> ?_)
 ·have ha:i.b.addF 1 i.id i.price i.qty=(i.b,13):=by rw[Book.addF,yOh hq,yOh (by rw[e];decide),yOi (by omega)]
  rw[ha];(repeat'(first|exact rfl|exact trivial|assumption|apply And.intro|refine fun(_:Unit) (_:True)=>?_|refine Exists.intro () ?_|omega|(dsimp only;omega)))
 have ha:i.b.addF 1 i.id i.price i.qty=(i.b.stand 1 i.id i.price i.qty,0):=by rw[Book.addF,yOh hq,yOh (by rw[e];decide),yOh (by omega)]
 rw[ha]
 simp only[yOm]
 refine⟨true,fun x=>x=i.b.leads 1 i.price,Cv.cnd.mk (fun g=>⟨true,rfl,?_,by(repeat'(first|exact trivial|exact rfl|apply And.intro))⟩) (fun g=> ?_),fun x hx=> ?_⟩
 ·have:i.b.buys=[]:=yPj (by have:(i.b.buys.length:Int)=0:=(by simpa using g);omega)
  rw[Book.leads,aE,this]
 ·obtain⟨r,l,hl⟩:∃r l,i.b.buys=r::l:=by
   cases hb:i.b.buys with
   |nil=>rw[hb]at g;exact absurd g (by decide)
   |cons r l=>exact⟨r,l,rfl⟩
  refine⟨⟨by omega,by rw[hl,yOw];omega⟩,r.price,elA (x:=r) (by rw[hl];rfl) (by simp[zB]) rfl,⟨1,i.price,r.price⟩,rfl,rfl,rfl,trivial,fun _ _=>⟨_,rfl,?_,by(repeat'(first|exact trivial|exact rfl|apply And.intro))⟩⟩
  rw[Book.leads,aE,hl]
 subst hx
 refine Cv.cnd.mk (fun g=> ?_) (fun g=> ?_)
 ·have hled:i.b.led i.id 1 i.price=i.b.leadF i.id 1:=by rw[Book.led,yOi g]
  have hf1:=zKx hfit i.id 1
  have hst:i.b.stand 1 i.id i.price i.qty={((i.b.leadF i.id 1).queueF 1 i.price).1 with a:=(((i.b.leadF i.id 1).queueF 1 i.price).1.a.push ((i.b.leadF i.id 1).queueF 1 i.price).2 i.id i.qty (i.b.leads 1 i.price)).1,at_:=aX i.id ⟨1,i.price,(((i.b.leadF i.id 1).queueF 1 i.price).1.a.push ((i.b.leadF i.id 1).queueF 1 i.price).2 i.id i.qty (i.b.leads 1 i.price)).2.1⟩ ((i.b.leadF i.id 1).queueF 1 i.price).1.at_}:=by
   simp only[Book.stand,hled]
  refine⟨⟨i.b,i.id⟩,rfl,trivial,rfl,rfl,rfl,rfl,rfl,rfl,rfl,rfl,rfl,hsm,fun _ _=>⟨⟨i.b.leadF i.id 1,i.price⟩,trivial,rfl,rfl,rfl,rfl,rfl,rfl,rfl,rfl,rfl,rfl,hf1,fun _ _=>⟨trivial,?_⟩⟩⟩
  refine⟨⟨((i.b.leadF i.id 1).queueF 1 i.price).1.a,((i.b.leadF i.id 1).queueF 1 i.price).2,i.id,i.qty,i.b.leads 1 i.price⟩,rfl,rfl,rfl,rfl,rfl,aL hf1.1 1 i.price,fun _ _=>⟨kH _ _,(),?_⟩⟩
  dsimp only
  rw[hst,plc]
  (repeat'(first|exact rfl|exact trivial|assumption|apply And.intro|refine fun(_:Unit) (_:True)=>?_|refine Exists.intro () ?_|omega|(dsimp only;omega)))
 ·have hled:i.b.led i.id 1 i.price=i.b:=by rw[Book.led,yOh (by rw[g];decide)]
  have hst:i.b.stand 1 i.id i.price i.qty={(i.b.queueF 1 i.price).1 with a:=((i.b.queueF 1 i.price).1.a.push (i.b.queueF 1 i.price).2 i.id i.qty (i.b.leads 1 i.price)).1,at_:=aX i.id ⟨1,i.price,((i.b.queueF 1 i.price).1.a.push (i.b.queueF 1 i.price).2 i.id i.qty (i.b.leads 1 i.price)).2.1⟩ (i.b.queueF 1 i.price).1.at_}:=by
   simp only[Book.stand,hled]
  refine⟨⟨i.b,i.price⟩,trivial,rfl,rfl,rfl,rfl,rfl,rfl,rfl,rfl,rfl,rfl,hfit,fun _ _=>⟨trivial,?_⟩⟩
  refine⟨⟨(i.b.queueF 1 i.price).1.a,(i.b.queueF 1 i.price).2,i.id,i.qty,i.b.leads 1 i.price⟩,rfl,rfl,rfl,rfl,rfl,aL hfit.1 1 i.price,fun _ _=>⟨kH _ _,(),?_⟩⟩
  dsimp only
  rw[hst,plc]
  (repeat'(first|exact rfl|exact trivial|assumption|apply And.intro|refine fun(_:Unit) (_:True)=>?_|refine Exists.intro () ?_|omega|(dsimp only;omega)))
theorem z2u:badd1C.ok Tryz.prog 194:=okw mixed (gokc zBz (gokc dW (gokc z7h (gokc z2g (gokc zPe gok0))))) 0 (fun _=>yDu) (fun _=>[]) [0] Tryz.func194 yIj
theorem yEv (i:BaI) (h:badd2C.cnd i):z3x i:=by
 have hfit:i.b.fit:=h
 have hsm:=zIx hfit
 unfold z3x j6 zAy aA zAq zK yF pV aZ yB pP pR pN aR aQ dI
 have plc:∀(b:Book) (x:Int),wL (Value.int IntKind.i64 i.id) [D.v (.int .i64 2),D.v (.int .i64 i.price),D.v (.int .i64 x)] (atE b.at_)=atE (aX i.id ⟨2,i.price,x⟩ b.at_):=fun b x=>zNq i.id ⟨2,i.price,x⟩ b.at_
 refine⟨kH _ _,(pget i.b.at_ i.id).isSome,_,_,_,zKj _ _,2,rfl,trivial,fun _ _=> ?_⟩
 refine Cv.cnd.mk (fun c=>absurd c (by decide)) fun _=> ?_
 refine zI (fun c=> ?_) (fun c=>zI (fun d=> ?_) (fun d=> ?_))
 ·have ha:i.b.addF 2 i.id i.price i.qty=(i.b,24):=by rw[Book.addF,yOi (.inl c)]
  rw[ha];(repeat'(first|exact rfl|exact trivial|assumption|apply And.intro|refine fun(_:Unit) (_:True)=>?_|refine Exists.intro () ?_|omega|(dsimp only;omega)))
 ·have ha:i.b.addF 2 i.id i.price i.qty=(i.b,24):=by rw[Book.addF,yOi (.inr d)]
  rw[ha];(repeat'(first|exact rfl|exact trivial|assumption|apply And.intro|refine fun(_:Unit) (_:True)=>?_|refine Exists.intro () ?_|omega|(dsimp only;omega)))
 have hq:¬(i.qty<1∨1000000<i.qty):=by omega
 refine Cv.cnd.mk (fun e=> ?_) (fun e=> ?_)
 ·have ha:i.b.addF 2 i.id i.price i.qty=(i.b,25):=by rw[Book.addF,yOh hq,yOi e]
  rw[ha];(repeat'(first|exact rfl|exact trivial|assumption|apply And.intro|refine fun(_:Unit) (_:True)=>?_|refine Exists.intro () ?_|omega|(dsimp only;omega)))
 have hlen:(atE i.b.at_).length=i.b.at_.length:=by simp[atE]
 rw[hlen]
 refine zI (fun f=> ?_) (fun f=> ?_)
 ·have ha:i.b.addF 2 i.id i.price i.qty=(i.b,13):=by rw[Book.addF,yOh hq,yOh (by rw[e];decide),yOi (by omega)]
  rw[ha];(repeat'(first|exact rfl|exact trivial|assumption|apply And.intro|refine fun(_:Unit) (_:True)=>?_|refine Exists.intro () ?_|omega|(dsimp only;omega)))
 have ha:i.b.addF 2 i.id i.price i.qty=(i.b.stand 2 i.id i.price i.qty,0):=by rw[Book.addF,yOh hq,yOh (by rw[e];decide),yOh (by omega)]
 rw[ha]
 simp only[yOm]
 refine⟨true,fun x=>x=i.b.leads 2 i.price,Cv.cnd.mk (fun g=>⟨true,rfl,?_,by(repeat'(first|exact trivial|exact rfl|apply And.intro))⟩) (fun g=> ?_),fun x hx=> ?_⟩
 ·have:i.b.sells=[]:=yPj (by have:(i.b.sells.length:Int)=0:=(by simpa using g);omega)
  rw[Book.leads,mM,this]
 ·obtain⟨r,l,hl⟩:∃r l,i.b.sells=r::l:=by
   cases hb:i.b.sells with
   |nil=>rw[hb]at g;exact absurd g (by decide)
   |cons r l=>exact⟨r,l,rfl⟩
  refine⟨⟨by omega,by rw[hl,yOw];omega⟩,r.price,elA (x:=r) (by rw[hl];rfl) (by simp[zB]) rfl,⟨2,i.price,r.price⟩,rfl,rfl,rfl,trivial,fun _ _=>⟨_,rfl,?_,by(repeat'(first|exact trivial|exact rfl|apply And.intro))⟩⟩
  rw[Book.leads,mM,hl]
 subst hx
 refine Cv.cnd.mk (fun g=> ?_) (fun g=> ?_)
 ·have hled:i.b.led i.id 2 i.price=i.b.leadF i.id 2:=by rw[Book.led,yOi g]
  have hf1:=zKx hfit i.id 2
  have hst:i.b.stand 2 i.id i.price i.qty={((i.b.leadF i.id 2).queueF 2 i.price).1 with a:=(((i.b.leadF i.id 2).queueF 2 i.price).1.a.push ((i.b.leadF i.id 2).queueF 2 i.price).2 i.id i.qty (i.b.leads 2 i.price)).1,at_:=aX i.id ⟨2,i.price,(((i.b.leadF i.id 2).queueF 2 i.price).1.a.push ((i.b.leadF i.id 2).queueF 2 i.price).2 i.id i.qty (i.b.leads 2 i.price)).2.1⟩ ((i.b.leadF i.id 2).queueF 2 i.price).1.at_}:=by
   simp only[Book.stand,hled]
  refine⟨⟨i.b,i.id⟩,rfl,trivial,rfl,rfl,rfl,rfl,rfl,rfl,rfl,rfl,rfl,hsm,fun _ _=>⟨⟨i.b.leadF i.id 2,i.price⟩,trivial,rfl,rfl,rfl,rfl,rfl,rfl,rfl,rfl,rfl,rfl,hf1,fun _ _=>⟨trivial,?_⟩⟩⟩
  refine⟨⟨((i.b.leadF i.id 2).queueF 2 i.price).1.a,((i.b.leadF i.id 2).queueF 2 i.price).2,i.id,i.qty,i.b.leads 2 i.price⟩,rfl,rfl,rfl,rfl,rfl,aL hf1.1 2 i.price,fun _ _=>⟨kH _ _,(),?_⟩⟩
  dsimp only
  rw[hst,plc]
  (repeat'(first|exact rfl|exact trivial|assumption|apply And.intro|refine fun(_:Unit) (_:True)=>?_|refine Exists.intro () ?_|omega|(dsimp only;omega)))
 ·have hled:i.b.led i.id 2 i.price=i.b:=by rw[Book.led,yOh (by rw[g];decide)]
  have hst:i.b.stand 2 i.id i.price i.qty={(i.b.queueF 2 i.price).1 with a:=((i.b.queueF 2 i.price).1.a.push (i.b.queueF 2 i.price).2 i.id i.qty (i.b.leads 2 i.price)).1,at_:=aX i.id ⟨2,i.price,((i.b.queueF 2 i.price).1.a.push (i.b.queueF 2 i.price).2 i.id i.qty (i.b.leads 2 i.price)).2.1⟩ (i.b.queueF 2 i.price).1.at_}:=by
   simp only[Book.stand,hled]
  refine⟨⟨i.b,i.price⟩,trivial,rfl,rfl,rfl,rfl,rfl,rfl,rfl,rfl,rfl,rfl,hfit,fun _ _=>⟨trivial,?_⟩⟩
  refine⟨⟨(i.b.queueF 2 i.price).1.a,(i.b.queueF 2 i.price).2,i.id,i.qty,i.b.leads 2 i.price⟩,rfl,rfl,rfl,rfl,rfl,aL hfit.1 2 i.price,fun _ _=>⟨kH _ _,(),?_⟩⟩
  dsimp only
  rw[hst,plc]
  (repeat'(first|exact rfl|exact trivial|assumption|apply And.intro|refine fun(_:Unit) (_:True)=>?_|refine Exists.intro () ?_|omega|(dsimp only;omega)))
theorem z3q:badd2C.ok Tryz.prog 194:=okw mixed (gokc zBz (gokc dW (gokc z7l (gokc zZg (gokc zPe gok0))))) 0 (fun _=>yDu) (fun _=>[]) [0] Tryz.func194 yEv
theorem yBo:baddC.ok Tryz.prog 194:=fun j=>match j with
 |⟨i,false⟩=>z2u i
 |⟨i,true⟩=>z3q i
theorem yKd (i:SaI) (h:saddC.cnd i):yEm i:=by
 obtain⟨hp,hbl,hb⟩:i.s.fit:=h
 unfold yEm zHl pD bW zAz zBa xM dI
 simp only[zRb]
 have hml:(yN i.s.wh).length=i.s.wh.length:=by simp[yN]
 rw[hml]
 have out (e:i.inst<0∨i.s.books.length≤i.inst):MSt.addF i=(i.s,20):=by rw[MSt.addF,yOi e]
 refine⟨u7 _ _,(tR i.s.wh i.id).isSome,_,yGy _ _,zI (fun c=>Cv.cnd.mk (fun d=> ?_) (fun d=> ?_)) (fun c=> ?_)⟩
 ·have d:¬i.inst<(i.s.books.length:Int):=by simpa using d
  rw[out (.inr (by omega))];(repeat'(first|exact rfl|exact trivial|assumption|apply And.intro|refine fun(_:Unit) (_:True)=>?_|refine Exists.intro () ?_|omega|(dsimp only;omega)))
 ·have d:i.inst<(i.s.books.length:Int):=by simpa using d
  have hn:¬(i.inst<0∨(i.s.books.length:Int)≤i.inst):=by omega
  refine Cv.cnd.mk (fun e=> ?_) (fun e=>zI (fun f=> ?_) (fun f=> ?_))
  ·rw[MSt.addF,yOh hn,yOi e];(repeat'(first|exact rfl|exact trivial|assumption|apply And.intro|refine fun(_:Unit) (_:True)=>?_|refine Exists.intro () ?_|omega|(dsimp only;omega)))
  ·rw[MSt.addF,yOh hn,yOh (by rw[e];decide),yOi (by omega)];(repeat'(first|exact rfl|exact trivial|assumption|apply And.intro|refine fun(_:Unit) (_:True)=>?_|refine Exists.intro () ?_|omega|(dsimp only;omega)))
  ·refine⟨⟨i.s.p,i.inst,i.price⟩,rfl,rfl,rfl,rfl,rfl,rfl,rfl,rfl,rfl,rfl,rfl,rfl,rfl,hp,fun _ _=>Cv.cnd.mk (fun g=> ?_) (fun g=> ?_)⟩
   ·have g:i.s.p.price i.inst i.price≠0:=by simpa using g
    rw[MSt.addF,yOh hn,yOh (by rw[e];decide),yOh (by omega),yOi g];(repeat'(first|exact rfl|exact trivial|assumption|apply And.intro|refine fun(_:Unit) (_:True)=>?_|refine Exists.intro () ?_|omega|(dsimp only;omega)))
   ·have g:i.s.p.price i.inst i.price=0:=by simpa using g
    obtain⟨x,hx⟩:=z9 (l:=i.s.books) (i:=i.inst.toNat) (by omega)
    have hba:i.s.bookAt i.inst=x:=zS hx
    have ha:MSt.addF i=({i.s with books:=i.s.books.set i.inst.toNat (x.addF (zC i.sd) i.id i.price i.qty).1,wh:=if(x.addF (zC i.sd) i.id i.price i.qty).2=0 then zOx i.id i.inst i.s.wh else i.s.wh},(x.addF (zC i.sd) i.id i.price i.qty).2):=by
     rw[MSt.addF,yOh hn,yOh (by rw[e];decide),yOh (by omega),yOh (by simp[g])]
     simp only[hba]
    refine⟨⟨by omega,by omega⟩,by omega,x,hx,⟨⟨x,i.id,i.price,i.qty⟩,i.sd⟩,rfl,rfl,rfl,rfl,rfl,hb x (yOv hx),fun _ _=>⟨(x.addF (zC i.sd) i.id i.price i.qty).1,rfl,trivial,by omega,Cv.cnd.mk (fun z=>⟨u7 _ _,?_⟩) (fun z=> ?_)⟩⟩
    ·have z:(x.addF (zC i.sd) i.id i.price i.qty).2=0:=by simpa using z
     rw[ha,z]
     simp only[if_true]
     (repeat'(first|exact rfl|exact trivial|assumption|apply And.intro|refine fun(_:Unit) (_:True)=>?_|refine Exists.intro () ?_|omega|(dsimp only;omega)))
    ·have z:¬(x.addF (zC i.sd) i.id i.price i.qty).2=0:=by simpa using z
     rw[ha,yOh z]
     (repeat'(first|exact rfl|exact trivial|assumption|apply And.intro|refine fun(_:Unit) (_:True)=>?_|refine Exists.intro () ?_|omega|(dsimp only;omega)))
 ·rw[out (.inl (by omega))];(repeat'(first|exact rfl|exact trivial|assumption|apply And.intro|refine fun(_:Unit) (_:True)=>?_|refine Exists.intro () ?_|omega|(dsimp only;omega)))
theorem yDd:saddC.ok Tryz.prog 156:=okw mixed (gokc nQ (gokc yBo gok0)) 1 (fun _=>[]) (fun _=>[]) [0] Tryz.func156 yKd
open Go Cv Go.Proofs
open Go Cv Go.Proofs
open Go Cv Go.Proofs
theorem a8:∀(l:List Int) (a:Int),l.foldl min a≤a∧∀x∈l,l.foldl min a≤x
 |[],a=>⟨yUa _,by simp⟩
 |b::l,a=>by
  obtain⟨h1,h2⟩:=a8 l (min a b)
  rw[yTc]
  refine⟨by omega,fun x hx=> ?_⟩
  rcases yPb.1 hx with rfl|hx
  ·omega
  ·exact h2 x hx
theorem m4:∀(l:List Int) (a:Int),a≤l.foldl max a∧∀x∈l,x≤l.foldl max a
 |[],a=>⟨yUa _,by simp⟩
 |b::l,a=>by
  obtain⟨h1,h2⟩:=m4 l (max a b)
  rw[yTc]
  refine⟨by omega,fun x hx=> ?_⟩
  rcases yPb.1 hx with rfl|hx
  ·omega
  ·exact h2 x hx
theorem yCn {l:List Int} {x:Int} (h:x∈l):nS l≤x:=by
 cases l with
 |nil=>cases h
 |cons a l=>
  rw[nS,List.tail_cons,List.headD_cons]
  rcases yPb.1 h with rfl|h
  ·exact(a8 l x).1
  ·exact(a8 l a).2 x h
theorem yBs {l:List Int} {x:Int} (h:x∈l):x≤r9 l:=by
 cases l with
 |nil=>cases h
 |cons a l=>
  rw[r9,List.tail_cons,List.headD_cons]
  rcases yPb.1 h with rfl|h
  ·exact(m4 l x).1
  ·exact(m4 l a).2 x h
open Go Cv Go.Proofs
structure Cmd where
 kind:Int
 id:Int
 inst:Int
 side:Int
 price:Int
 qty:Int
 least:Int
 time:Int
 label:List UInt8
 deriving DecidableEq
@[reducible] def Cmd.cells (c:Cmd):List V:=[zA c.kind,zA c.id,zA c.inst,zA c.side,zA c.price,zA c.qty,zA c.least,zA c.time,sV c.label]
@[reducible] def zDg (c:Cmd):V:= .agg c.cells
def cmdE (c:Cmd):List D:=[.v (.int .i64 c.kind),.v (.int .i64 c.id),.v (.int .i64 c.inst),.v (.int .i64 c.side),.v (.int .i64 c.price),.v (.int .i64 c.qty),.v (.int .i64 c.least),.v (.int .i64 c.time),.v (.string (sb c.label))]
def zLw:Cmd:=⟨0,0,0,0,0,0,0,0,[]⟩
@[reducible] def Cmd.raw (c:Cmd):Prop:=yQ c.kind∧yQ c.id∧yQ c.inst∧yQ c.side∧yQ c.price∧yQ c.qty∧yQ c.least∧yQ c.time
end Sx
