/- Texts of ours, one behind the other: a walk that the kernel reckons, and contracts of functions. No condition. -/
import Derived.Test.YtogkpgfggfbhaaaGreatX5
namespace Sx
set_option linter.unusedVariables false
set_option maxRecDepth 100000
open Go Cv Go.Proofs
def zVg (i:I3'):Prop:=
 cnd (i.side==1) (∃(a:Unit),btr i.side i.x i.y=decide (i.x>i.y)∧True) (∃(a:Unit),btr i.side i.x i.y=decide (i.x<i.y)∧True)
def yEf (s:Slot):Prop:=
 ∃(a:Unit),(!s.used)=!s.used∧True
def zTw (l:List Slot):Prop:=
 ∃(a:Nat),(↑a:Int)=0∧∃(b:Nat→Prop),∃(c:Nat→Nat),b a∧∀(d:Nat),b d→cnd (decide ((↑d:Int)<(↑(List.map zR l).length:Int))) ((0≤(↑d:Int)∧(↑d:Int)<(↑(List.map zR l).length:Int))∧∃(e:Bool),∃(f:Int),∃(g:Int),∃(h:Int),∃(j:Bool),∃(k:Int),∃(m:Int),∃(n:Int),zF (List.map zR l) (↑d:Int).toNat 0 8=some [D.v (.bool e),dI f,dI g,dI h,D.v (.bool j),dI k,dI m,dI n]∧∃(p:Slot),p.used=e∧p.n=f∧p.id=g∧p.qty=h∧p.top=j∧p.queue=k∧p.ahead=m∧p.back=n∧True∧∀(q:Unit),True→cnd (!p.used) (∃(r:Unit),kK l=(↑d:Int)∧List.map zR l=List.map zR l∧True) (∃(r:Nat),(↑r:Int)=IntKind.i64.wrap ((↑d:Int)+1)∧b r∧c r<c d∧AObj.own 305 8 (List.map zR l)=AObj.own 305 8 (List.map zR l))) (∃(e:Unit),kK l=(-1)∧List.map zR l=List.map zR l∧True)
def yDk (a:Arena):Prop:=
 ((List.map zP a.queues).length+1)*(32:Nat)≤(70368744177664:Nat)∧∃(b:Unit),(↑a.queues.length:Int)=IntKind.i64.wrap ((↑(List.map zP a.queues++[[dI (-1),dI (-1),dI 0,dI 0]]).length:Int)-1)∧a.free=a.free∧List.map zR a.slots=List.map zR a.slots∧List.map zP (a.queues++[bU])=List.map zP a.queues++[[dI (-1),dI (-1),dI 0,dI 0]]∧True
def eC (a:z7e):Prop:=∃(b:Unit),(if a.a.usedAt a.n=true then(0:Int)else(26:Int))=26∧(a.a.topF a.n a.t).free=a.a.free∧List.map zR (a.a.topF a.n a.t).slots=List.map zR a.a.slots∧List.map zP (a.a.topF a.n a.t).queues=List.map zP a.a.queues∧True
def yLk (i:z7e):Prop:=
 cnd (decide (i.n<0)) (eC i) (cnd (decide (i.n≥(↑(List.map zR i.a.slots).length:Int))) (eC i) ((0≤i.n∧i.n<(↑(List.map zR i.a.slots).length:Int))∧∃(a:Bool),zF (List.map zR i.a.slots) i.n.toNat ((0:Nat)+(0:Nat)) 1=some [D.v (.bool a)]∧cnd (!a) (eC i) ((0≤i.n∧i.n<(↑(List.map zR i.a.slots).length:Int))∧i.n.toNat<(List.map zR i.a.slots).length∧∃(b:Unit),(if i.a.usedAt i.n=true then(0:Int)else(26:Int))=0∧(i.a.topF i.n i.t).free=i.a.free∧List.map zR (i.a.topF i.n i.t).slots=yE (List.map zR i.a.slots) i.n.toNat ((0:Nat)+(1:Nat)+3) [D.v (.bool i.t)]∧List.map zP (i.a.topF i.n i.t).queues=List.map zP i.a.queues∧True)))
def yG (a:PuI):=(a.a.push a.n a.id a.qty a.top)
def pH (a:PuI):Prop:=(yG a).fst.free=a.a.free∧List.map zR (yG a).fst.slots=List.map zR a.a.slots∧List.map zP (yG a).fst.queues=List.map zP a.a.queues∧True
def l6 (a:PuI):Prop:=∃(b:Unit),(yG a).snd.fst=0∧(yG a).snd.snd=26∧pH a
def l5 (a:PuI):Prop:=∃(b:Unit),(yG a).snd.fst=0∧(yG a).snd.snd=24∧pH a
def pI (a:PuI) (b:List Slot):=(yE (yE (List.map zP a.a.queues) a.n.toNat ((0:Nat)+(0:Nat)) [dI (kK b)]) a.n.toNat ((0:Nat)+(1:Nat)) [dI (kK b)])
def p9 (a:PuI) (b:List Slot) (c:Int):=(yE (pI a b) a.n.toNat ((0:Nat)+(2:Nat)) [dI (IntKind.i64.wrap (c+a.qty))])
def nI (a:PuI) (b:List Slot):=(yE (List.map zP a.a.queues) a.n.toNat ((0:Nat)+(1:Nat)) [dI (kK b)])
def pV (a:PuI) (b:List Slot) (c:Int):=(yE (nI a b) a.n.toNat ((0:Nat)+(2:Nat)) [dI (IntKind.i64.wrap (c+a.qty))])
def yCx (i:PuI):Prop:=
 cnd (decide (i.n≥0)) (cnd (!decide (i.n<(↑(List.map zP i.a.queues).length:Int))) (l6 i) (cnd (decide (i.qty<1)) (l5 i) (cnd (decide (i.qty>1000000)) (l5 i) (cnd (i.a.free==0) (∃(a:Unit),(yG i).snd.fst=0∧(yG i).snd.snd=13∧pH i) (∃(a:List Slot),List.map zR a=List.map zR i.a.slots∧a.length≤1000000∧∀(b:Unit),True→(0≤i.n∧i.n<(↑(List.map zP i.a.queues).length:Int))∧∃(c:Int),zF (List.map zP i.a.queues) i.n.toNat ((0:Nat)+(1:Nat)) 1=some [dI c]∧(0≤kK a∧kK a<(↑(List.map zR a).length:Int))∧(kK a).toNat<(List.map zR a).length∧∃(d:Int),zF (List.map zP i.a.queues) i.n.toNat ((0:Nat)+(1:Nat)) 1=some [dI d]∧cnd (d==(-1)) (i.n.toNat<(List.map zP i.a.queues).length∧i.n.toNat<(yE (List.map zP i.a.queues) i.n.toNat ((0:Nat)+(0:Nat)) [dI (kK a)]).length∧∃(e:Int),zF (pI i a) i.n.toNat ((0:Nat)+(2:Nat)) 1=some [dI e]∧i.n.toNat<(pI i a).length∧∃(f:Int),zF (p9 i a e) i.n.toNat ((0:Nat)+(3:Nat)) 1=some [dI f]∧i.n.toNat<(p9 i a e).length∧∃(g:Unit),(yG i).snd.fst=kK a∧(yG i).snd.snd=0∧(yG i).fst.free=IntKind.i64.wrap (i.a.free-1)∧List.map zR (yG i).fst.slots=yE (List.map zR a) (kK a).toNat 0 [D.v (.bool true),dI (kK a),dI i.id,dI i.qty,D.v (.bool i.top),dI i.n,dI c,dI (-1)]∧List.map zP (yG i).fst.queues=yE (p9 i a e) i.n.toNat ((0:Nat)+(3:Nat)) [dI (IntKind.i64.wrap (f+1))]∧True) (∃(e:Int),zF (List.map zP i.a.queues) i.n.toNat ((0:Nat)+(1:Nat)) 1=some [dI e]∧(0≤e∧e<(↑(yE (List.map zR a) (kK a).toNat 0 [D.v (.bool true),dI (kK a),dI i.id,dI i.qty,D.v (.bool i.top),dI i.n,dI c,dI (-1)]).length:Int))∧e.toNat<(yE (List.map zR a) (kK a).toNat 0 [D.v (.bool true),dI (kK a),dI i.id,dI i.qty,D.v (.bool i.top),dI i.n,dI c,dI (-1)]).length∧i.n.toNat<(List.map zP i.a.queues).length∧∃(f:Int),zF (nI i a) i.n.toNat ((0:Nat)+(2:Nat)) 1=some [dI f]∧i.n.toNat<(nI i a).length∧∃(g:Int),zF (pV i a f) i.n.toNat ((0:Nat)+(3:Nat)) 1=some [dI g]∧i.n.toNat<(pV i a f).length∧∃(h:Unit),(yG i).snd.fst=kK a∧(yG i).snd.snd=0∧(yG i).fst.free=IntKind.i64.wrap (i.a.free-1)∧List.map zR (yG i).fst.slots=yE (yE (List.map zR a) (kK a).toNat 0 [D.v (.bool true),dI (kK a),dI i.id,dI i.qty,D.v (.bool i.top),dI i.n,dI c,dI (-1)]) e.toNat ((0:Nat)+(7:Nat)) [dI (kK a)]∧List.map zP (yG i).fst.queues=yE (pV i a f) i.n.toNat ((0:Nat)+(3:Nat)) [dI (IntKind.i64.wrap (g+1))]∧True)))))) (l6 i)
def xW (a:BkP):=(↑(zV 1 (a.b.rungs 1) a.price):Int)
def vM (a:BkP):=(↑(List.map zC a.b.buys).length:Int)
def f9 (a:BkP):Prop:=a.b.top1=a.b.top1∧a.b.top2=a.b.top2∧a.b.has1=a.b.has1∧a.b.has2=a.b.has2∧AObj.adt Arena 3 zH a.b.a=zS a.b 1∧List.map zC a.b.buys=List.map zC a.b.buys∧List.map zC a.b.sells=List.map zC a.b.sells∧atE a.b.at_=atE a.b.at_∧iE a.b.spare=iE a.b.spare∧True
def zFm (a:Nat) (b:BkP):Prop:=(0≤(↑a:Int)∧(↑a:Int)<(vM b))∧∃(c:Int),zF (List.map zC b.b.buys) (↑a:Int).toNat ((0:Nat)+(0:Nat)) 1=some [dI c]∧∃(d:Unit),(xW b)=(↑a:Int)∧kJ 1 (b.b.rungs 1) b.price=(c==b.price)∧f9 b
def lD (a:BkP) (b:Nat):Prop:=∃(c:Unit),(xW a)=(↑b:Int)∧kJ 1 (a.b.rungs 1) a.price=false∧f9 a
def pY (a:Nat) (b:Nat→Prop) (c:Nat→Nat) (d:BkP):Prop:=∃(e:Nat),(↑e:Int)=IntKind.i64.wrap ((↑a:Int)+1)∧b e∧c e<c a∧zS d.b 0=zS d.b 0∧zS d.b 1=zS d.b 1∧zS d.b 2=zS d.b 2∧zS d.b 3=zS d.b 3∧zS d.b 4=zS d.b 4∧zS d.b 5=zS d.b 5
def nJ (a:Nat) (b:BkP):=(decide ((↑a:Int)<(vM b)))
def z8m (i:BkP):Prop:=
 ∃(a:Nat),(↑a:Int)=0∧∃(b:Nat→Prop),∃(c:Nat→Nat),b a∧∀(d:Nat),b d→cnd (nJ d i) ((0≤(↑d:Int)∧(↑d:Int)<(vM i))∧∃(e:Int),zF (List.map zC i.b.buys) (↑d:Int).toNat ((0:Nat)+(0:Nat)) 1=some [dI e]∧∃(f:I3'),f.side=1∧f.x=e∧f.y=i.price∧True∧∀(g:Unit),True→cnd (btr f.side f.x f.y) (pY d b c i) (cnd (nJ d i) (zFm d i) (lD i d))) (cnd (nJ d i) (zFm d i) (lD i d))
def xZ (a:BkP):=(↑(zV 2 (a.b.rungs 2) a.price):Int)
def v7 (a:BkP):=(↑(List.map zC a.b.sells).length:Int)
def zFj (a:Nat) (b:BkP):Prop:=(0≤(↑a:Int)∧(↑a:Int)<(v7 b))∧∃(c:Int),zF (List.map zC b.b.sells) (↑a:Int).toNat ((0:Nat)+(0:Nat)) 1=some [dI c]∧∃(d:Unit),(xZ b)=(↑a:Int)∧kJ 2 (b.b.rungs 2) b.price=(c==b.price)∧f9 b
def zAk (a:BkP) (b:Nat):Prop:=∃(c:Unit),(xZ a)=(↑b:Int)∧kJ 2 (a.b.rungs 2) a.price=false∧f9 a
def pA (a:Nat) (b:BkP):=(decide ((↑a:Int)<(v7 b)))
def z8z (i:BkP):Prop:=
 ∃(a:Nat),(↑a:Int)=0∧∃(b:Nat→Prop),∃(c:Nat→Nat),b a∧∀(d:Nat),b d→cnd (pA d i) ((0≤(↑d:Int)∧(↑d:Int)<(v7 i))∧∃(e:Int),zF (List.map zC i.b.sells) (↑d:Int).toNat ((0:Nat)+(0:Nat)) 1=some [dI e]∧∃(f:I3'),f.side=2∧f.x=e∧f.y=i.price∧True∧∀(g:Unit),True→cnd (btr f.side f.x f.y) (pY d b c i) (cnd (pA d i) (zFj d i) (zAk i d))) (cnd (pA d i) (zFj d i) (zAk i d))
def dB (a:LdI):Prop:=List.map zC a.b.buys=List.map zC a.b.buys∧List.map zC a.b.sells=List.map zC a.b.sells∧atE a.b.at_=atE a.b.at_∧iE a.b.spare=iE a.b.spare∧True
def nS (a:LdI):Prop:=∃(b:Unit),a.id=a.id∧a.b.top2=a.b.top2∧true=true∧a.b.has2=a.b.has2∧AObj.adt Arena 3 zH (a.b.untop 1)=zS a.b 1∧dB a
def lS (a:LdI) (b:Int) (c:Int) (d:Int) (e:Bool):Prop:=qY (Value.int IntKind.i64 a.b.top1) (atE a.b.at_)=some [dI b,dI c,dI d]∧e=true∨qY (Value.int IntKind.i64 a.b.top1) (atE a.b.at_)=none∧[dI b,dI c,dI d]=[dI 0,dI 0,dI 0]∧e=false
def lO (a:LdI):Prop:=∀(b:Value×List D),b∈atE a.b.at_→like (Value.int IntKind.i64 a.b.top1) b.fst=true
def yFc (i:LdI):Prop:=
 cnd i.b.has1 ((lO i)∧∃(a:Bool),∃(b:Int),∃(c:Int),∃(d:Int),(lS i b c d a)∧((lO i)∧∃(e:Bool),∃(f:Int),∃(g:Int),∃(h:Int),(lS i f g h e)∧(f=b∧g=c∧h=d∧True)∧e=a∧True)∧i.b.top1=i.b.top1∧True∧cnd a (cnd (b==1) (∃(e:z7e),e.n=d∧e.t=false∧AObj.adt Arena 3 zH e.a=zS i.b 1∧e.a.slots.length≤1000000∧∀(f:Unit),True→∃(g:Unit),i.id=i.id∧i.b.top2=i.b.top2∧true=true∧i.b.has2=i.b.has2∧AObj.adt Arena 3 zH (i.b.untop 1)=AObj.adt Arena 3 zH (e.a.topF e.n e.t)∧dB i) (nS i)) (nS i)) (nS i)
def pN (a:LdI):Prop:=∃(b:Unit),a.b.top1=a.b.top1∧a.id=a.id∧a.b.has1=a.b.has1∧true=true∧AObj.adt Arena 3 zH (a.b.untop 2)=zS a.b 1∧dB a
def lQ (a:LdI) (b:Int) (c:Int) (d:Int) (e:Bool):Prop:=qY (Value.int IntKind.i64 a.b.top2) (atE a.b.at_)=some [dI b,dI c,dI d]∧e=true∨qY (Value.int IntKind.i64 a.b.top2) (atE a.b.at_)=none∧[dI b,dI c,dI d]=[dI 0,dI 0,dI 0]∧e=false
def zBa (a:LdI):Prop:=∀(b:Value×List D),b∈atE a.b.at_→like (Value.int IntKind.i64 a.b.top2) b.fst=true
def yBu (i:LdI):Prop:=
 cnd i.b.has2 ((zBa i)∧∃(a:Bool),∃(b:Int),∃(c:Int),∃(d:Int),(lQ i b c d a)∧((zBa i)∧∃(e:Bool),∃(f:Int),∃(g:Int),∃(h:Int),(lQ i f g h e)∧(f=b∧g=c∧h=d∧True)∧e=a∧True)∧i.b.top2=i.b.top2∧True∧cnd a (cnd (b==2) (∃(e:z7e),e.n=d∧e.t=false∧AObj.adt Arena 3 zH e.a=zS i.b 1∧e.a.slots.length≤1000000∧∀(f:Unit),True→∃(g:Unit),i.b.top1=i.b.top1∧i.id=i.id∧i.b.has1=i.b.has1∧true=true∧AObj.adt Arena 3 zH (i.b.untop 2)=AObj.adt Arena 3 zH (e.a.topF e.n e.t)∧dB i) (pN i)) (pN i)) (pN i)
def x9 (a:BkP):Prop:=(a.b.a.slots.length≤1000000∧a.b.a.queues.length≤1000000)∧a.b.buys.length≤1000000∧a.b.sells.length≤1000000∧a.b.spare.length≤1000000
def gM (a:BkP):Prop:=0≤(xW a)∧(xW a)<(vM a)
def vJ (a:BkP):=((↑(iE a.b.spare).length:Int)-1)
def aP (a:BkP):Prop:=0≤IntKind.i64.wrap (vJ a)∧IntKind.i64.wrap (vJ a)≤(↑(iE a.b.spare).length:Int)
def aQ (a:BkP):Prop:=0≤IntKind.i64.wrap (vJ a)∧IntKind.i64.wrap (vJ a)<(↑(iE a.b.spare).length:Int)
def gW (a:z7d):Prop:=a.i≤a.els.length∧(a.els.length+1)*(16:Nat)≤(70368744177664:Nat)
def gX (a:BkP):=(IntKind.i64.wrap (vJ a))
def zO (a:BkP):=(a.b.queueF 1 a.price)
def z2u (i:BkP):Prop:=
 ∃(a:BkP),(1:Int)=(1:Int)∧a.price=i.price∧a.b.top1=i.b.top1∧a.b.top2=i.b.top2∧a.b.has1=i.b.has1∧a.b.has2=i.b.has2∧AObj.adt Arena 3 zH a.b.a=zS i.b 1∧List.map zC a.b.buys=List.map zC i.b.buys∧List.map zC a.b.sells=List.map zC i.b.sells∧atE a.b.at_=atE i.b.at_∧iE a.b.spare=iE i.b.spare∧(x9 a)∧∀(b:Unit),True→cnd (kJ 1 (a.b.rungs 1) a.price) ((gM a)∧∃(c:Int),zF (List.map zC a.b.buys) (xW a).toNat ((0:Nat)+(1:Nat)) 1=some [dI c]∧∃(d:Unit),(zO i).snd=c∧(zO i).fst.top1=a.b.top1∧(zO i).fst.top2=a.b.top2∧(zO i).fst.has1=a.b.has1∧(zO i).fst.has2=a.b.has2∧AObj.adt Arena 3 zH (zO i).fst.a=AObj.adt Arena 3 zH a.b.a∧List.map zC (zO i).fst.sells=List.map zC a.b.sells∧atE (zO i).fst.at_=atE a.b.at_∧List.map zC (zO i).fst.buys=List.map zC a.b.buys∧iE (zO i).fst.spare=iE a.b.spare∧True) (cnd (decide ((↑(iE a.b.spare).length:Int)>0)) ((aQ a)∧∃(c:Int),zF (iE a.b.spare) (gX a).toNat 0 1=some [dI c]∧(aP a)∧True∧∃(d:z7d),(↑d.i:Int)=(xW a)∧d.els=List.map zC a.b.buys∧[d.el]=[[dI i.price,dI c]]∧(gW d)∧∀(e:Unit),True→∃(f:Unit),(zO i).snd=c∧(zO i).fst.top1=a.b.top1∧(zO i).fst.top2=a.b.top2∧(zO i).fst.has1=a.b.has1∧(zO i).fst.has2=a.b.has2∧AObj.adt Arena 3 zH (zO i).fst.a=AObj.adt Arena 3 zH a.b.a∧List.map zC (zO i).fst.sells=List.map zC a.b.sells∧atE (zO i).fst.at_=atE a.b.at_∧List.map zC (zO i).fst.buys=List.take d.i d.els++d.el::List.drop d.i d.els∧iE (zO i).fst.spare=List.take (gX a).toNat (iE a.b.spare)∧True) (∃(c:Arena),AObj.adt Arena 3 zH c=AObj.adt Arena 3 zH a.b.a∧c.queues.length≤1000000∧∀(d:Unit),True→True∧∃(e:z7d),(↑e.i:Int)=(xW a)∧e.els=List.map zC a.b.buys∧[e.el]=[[dI i.price,dI (↑c.queues.length:Int)]]∧(gW e)∧∀(f:Unit),True→∃(g:Unit),(zO i).snd=(↑c.queues.length:Int)∧(zO i).fst.top1=a.b.top1∧(zO i).fst.top2=a.b.top2∧(zO i).fst.has1=a.b.has1∧(zO i).fst.has2=a.b.has2∧AObj.adt Arena 3 zH (zO i).fst.a=AObj.adt Arena 3 zH c.openQ∧List.map zC (zO i).fst.sells=List.map zC a.b.sells∧atE (zO i).fst.at_=atE a.b.at_∧List.map zC (zO i).fst.buys=List.take e.i e.els++e.el::List.drop e.i e.els∧iE (zO i).fst.spare=iE a.b.spare∧True))
def gN (a:BkP):Prop:=0≤(xZ a)∧(xZ a)<(v7 a)
def zN (a:BkP):=(a.b.queueF 2 a.price)
def z1t (i:BkP):Prop:=
 ∃(a:BkP),(2:Int)=(2:Int)∧a.price=i.price∧a.b.top1=i.b.top1∧a.b.top2=i.b.top2∧a.b.has1=i.b.has1∧a.b.has2=i.b.has2∧AObj.adt Arena 3 zH a.b.a=zS i.b 1∧List.map zC a.b.buys=List.map zC i.b.buys∧List.map zC a.b.sells=List.map zC i.b.sells∧atE a.b.at_=atE i.b.at_∧iE a.b.spare=iE i.b.spare∧(x9 a)∧∀(b:Unit),True→cnd (kJ 2 (a.b.rungs 2) a.price) ((gN a)∧∃(c:Int),zF (List.map zC a.b.sells) (xZ a).toNat ((0:Nat)+(1:Nat)) 1=some [dI c]∧∃(d:Unit),(zN i).snd=c∧(zN i).fst.top1=a.b.top1∧(zN i).fst.top2=a.b.top2∧(zN i).fst.has1=a.b.has1∧(zN i).fst.has2=a.b.has2∧AObj.adt Arena 3 zH (zN i).fst.a=AObj.adt Arena 3 zH a.b.a∧List.map zC (zN i).fst.buys=List.map zC a.b.buys∧atE (zN i).fst.at_=atE a.b.at_∧List.map zC (zN i).fst.sells=List.map zC a.b.sells∧iE (zN i).fst.spare=iE a.b.spare∧True) (cnd (decide ((↑(iE a.b.spare).length:Int)>0)) ((aQ a)∧∃(c:Int),zF (iE a.b.spare) (gX a).toNat 0 1=some [dI c]∧(aP a)∧True∧∃(d:z7d),(↑d.i:Int)=(xZ a)∧d.els=List.map zC a.b.sells∧[d.el]=[[dI i.price,dI c]]∧(gW d)∧∀(e:Unit),True→∃(f:Unit),(zN i).snd=c∧(zN i).fst.top1=a.b.top1∧(zN i).fst.top2=a.b.top2∧(zN i).fst.has1=a.b.has1∧(zN i).fst.has2=a.b.has2∧AObj.adt Arena 3 zH (zN i).fst.a=AObj.adt Arena 3 zH a.b.a∧List.map zC (zN i).fst.buys=List.map zC a.b.buys∧atE (zN i).fst.at_=atE a.b.at_∧List.map zC (zN i).fst.sells=List.take d.i d.els++d.el::List.drop d.i d.els∧iE (zN i).fst.spare=List.take (gX a).toNat (iE a.b.spare)∧True) (∃(c:Arena),AObj.adt Arena 3 zH c=AObj.adt Arena 3 zH a.b.a∧c.queues.length≤1000000∧∀(d:Unit),True→True∧∃(e:z7d),(↑e.i:Int)=(xZ a)∧e.els=List.map zC a.b.sells∧[e.el]=[[dI i.price,dI (↑c.queues.length:Int)]]∧(gW e)∧∀(f:Unit),True→∃(g:Unit),(zN i).snd=(↑c.queues.length:Int)∧(zN i).fst.top1=a.b.top1∧(zN i).fst.top2=a.b.top2∧(zN i).fst.has1=a.b.has1∧(zN i).fst.has2=a.b.has2∧AObj.adt Arena 3 zH (zN i).fst.a=AObj.adt Arena 3 zH c.openQ∧List.map zC (zN i).fst.buys=List.map zC a.b.buys∧atE (zN i).fst.at_=atE a.b.at_∧List.map zC (zN i).fst.sells=List.take e.i e.els++e.el::List.drop e.i e.els∧iE (zN i).fst.spare=iE a.b.spare∧True))
set_option linter.unusedSimpArgs false
open Go Cv Go.Proofs
theorem aC:bbetterC.ok Tryz.prog 71:=okw (V:=zVg) mixed gok0 0 (fun _=>[]) (fun _=>[]) [] Tryz.func71 fun(i:I3') _=>by
 unfold zVg
 refine Cv.cnd.mk (fun c=> ?_) (fun c=> ?_)
 ·have c:i.side=1:=by simpa using c
  rw[btr,yWm c];(repeat'(first|exact rfl|exact trivial|assumption|apply And.intro|refine fun(_:Unit) (_:True)=>?_|refine Exists.intro () ?_|omega|(dsimp only;omega)))
 ·have c:¬i.side=1:=by simpa using c
  rw[btr,yWl c];(repeat'(first|exact rfl|exact trivial|assumption|apply And.intro|refine fun(_:Unit) (_:True)=>?_|refine Exists.intro () ?_|omega|(dsimp only;omega)))
theorem z9c:pushFC.ok Tryz.prog 259:=okw (V:=yEf) mixed gok0 0 (fun _=>[]) (fun _=>[]) [] Tryz.func259 fun(s:Slot) _=>by
 unfold yEf;(repeat'(first|exact rfl|exact trivial|assumption|apply And.intro|refine fun(_:Unit) (_:True)=>?_|refine Exists.intro () ?_|omega|(dsimp only;omega)))
theorem yUy {l:List Slot} {k:Nat} {s:Slot} (h:l[k]? =some s):zF (l.map zR) k 0 8=some [D.v (.bool s.used),.v (.int .i64 s.n),.v (.int .i64 s.id),.v (.int .i64 s.qty),.v (.bool s.top),.v (.int .i64 s.queue),.v (.int .i64 s.ahead),.v (.int .i64 s.back)]:=elA h (by simp[zR]) rfl
theorem yGa (l:List Slot) (h:idxSlotC.cnd l):zTw l:=by
 have h:l.length≤1000000:=h
 unfold zTw dI
 simp only[yWo]
 refine⟨0,rfl,fun j=>j≤l.length∧∀k<j,∀x,l[k]? =some x→(!x.used)=false,fun j=>l.length-j,⟨by omega,fun k hk=>by omega⟩,?_⟩
 rintro j ⟨h3,h4⟩
 refine zJ (fun hj=> ?_) (fun hj=> ?_)
 ·obtain⟨s,hs⟩:=yA (l:=l) (i:=j) (by omega)
  refine⟨⟨by omega,by omega⟩,s.used,s.n,s.id,s.qty,s.top,s.queue,s.ahead,s.back,yUy hs,s,rfl,rfl,rfl,rfl,rfl,rfl,rfl,rfl,trivial,fun _ _=>Cv.cnd.mk (fun e=> ?_) (fun e=> ?_)⟩
  ·rw[kK,zFa hs e h4];(repeat'(first|exact rfl|exact trivial|assumption|apply And.intro|refine fun(_:Unit) (_:True)=>?_|refine Exists.intro () ?_|omega|(dsimp only;omega)))
  ·refine⟨j+1,by rw[w64 (by omega)];rfl,⟨by omega,fun k hk x hx=> ?_⟩,by(first|omega|(dsimp only;omega)),by(repeat'(first|exact trivial|exact rfl|apply And.intro))⟩
   rcases yZa k j with hk'|hk'
   ·exact h4 k hk' x hx
   ·obtain rfl:k=j:=by omega
    rw[hs]at hx;cases hx;exact e
 ·rw[kK,zDu fun k x hx=>h4 k (by have:=(yWn.1 hx).1;omega) x hx];(repeat'(first|exact rfl|exact trivial|assumption|apply And.intro|refine fun(_:Unit) (_:True)=>?_|refine Exists.intro () ?_|omega|(dsimp only;omega)))
theorem z0h:idxSlotC.ok Tryz.prog 258:=okw mixed (gokc z9c gok0) 0 (fun _=>[]) (fun l=>z9l l) [] Tryz.func258 yGa
theorem zXd:aopenC.ok Tryz.prog 260:=okw (V:=yDk) mixed gok0 0 (fun _=>[]) (fun _=>[]) [0] Tryz.func260 fun(a:Arena) h=>by
 have h:a.queues.length≤1000000:=h
 unfold yDk dI
 rw[yWs,yWo,w64 (by simp only[yXa,yZe];omega)]
 refine⟨by omega,(),?_,rfl,rfl,?_,trivial⟩
 ·simp
 ·rw[yWw];rfl
theorem dL {α:Type} {f:α→α}:∀{l:List α} {i:Nat} {x:α},l[i]? =some x→l.modify i f=l.set i (f x)
 |[],i,x,h=>by simp at h
 |a::l,0,x,h=>by simp at h;subst h;rfl
 |a::l,i+1,x,h=>by
  simp only[yYf]at h
  simp only[y1x,y0y,dL h]
theorem yF {α:Type} {f:α→List D} {l:List α} {i g:Nat} {x y:α} {ds:List D} (hi:l[i]? =some x) (hh:(f x).take g++(ds++(f x).drop (g+ds.length))=f y):yE (l.map f) i g ds=(l.set i y).map f:=by
 have hlt:=(yWn.1 hi).1
 rw[yE,dL (by rw[yYj,hi];rfl),hh,List.map_set]
theorem uJ {α:Type} {l:List α} {i:Nat} {x y:α} (hi:l[i]? =some x):(l.set i y)[i]? =some y:=List.getElem?_set_self (yWn.1 hi).1
theorem zK {α:Type} {l:List α} {i:Nat} {x d:α} (h:l[i]? =some x):l.getD i d=x:=by rw[yWt,h];rfl
theorem yRq (i:z7e) (h:atopC.cnd i):yLk i:=by
 have h:i.a.slots.length≤1000000:=h
 unfold yLk eC
 simp only[yWo]
 have no (e:i.a.usedAt i.n=false):i.a.topF i.n i.t=i.a:=by rw[Arena.topF,yWl (by rw[e];decide)]
 refine zJ (fun c=> ?_) (fun c=>zJ (fun d=> ?_) (fun d=> ?_))
 ·have e:i.a.usedAt i.n=false:=by rw[Arena.usedAt,yWy (by omega),yZq]
  rw[no e,e];(repeat'(first|exact rfl|exact trivial|assumption|apply And.intro|refine fun(_:Unit) (_:True)=>?_|refine Exists.intro () ?_|omega|(dsimp only;omega)))
 ·have e:i.a.usedAt i.n=false:=by rw[Arena.usedAt,yWy (show ¬i.n<(i.a.slots.length:Int)by omega),yZq,y1s]
  rw[no e,e];(repeat'(first|exact rfl|exact trivial|assumption|apply And.intro|refine fun(_:Unit) (_:True)=>?_|refine Exists.intro () ?_|omega|(dsimp only;omega)))
 ·obtain⟨s,hs⟩:=yA (l:=i.a.slots) (i:=i.n.toNat) (by omega)
  have eu:i.a.usedAt i.n=s.used:=by rw[Arena.usedAt,yXf (show 0≤i.n by omega),yXf (show i.n<(i.a.slots.length:Int)by omega),zK hs];simp
  refine⟨⟨by omega,by omega⟩,s.used,elA hs (by simp[zR]) rfl,Cv.cnd.mk (fun u=> ?_) (fun u=> ?_)⟩
  ·have e:i.a.usedAt i.n=false:=by rw[eu];simpa using u
   rw[no e,e];(repeat'(first|exact rfl|exact trivial|assumption|apply And.intro|refine fun(_:Unit) (_:True)=>?_|refine Exists.intro () ?_|omega|(dsimp only;omega)))
  ·have e:i.a.usedAt i.n=true:=by rw[eu];simpa using u
   have et:i.a.topF i.n i.t={i.a with slots:=i.a.slots.set i.n.toNat {s with top:=i.t}}:=by
    rw[Arena.topF,yWm e,dL hs]
   rw[et,e,yF hs (y:={s with top:=i.t}) rfl]
   refine⟨⟨by omega,by omega⟩,by omega,(),rfl,rfl,rfl,rfl,trivial⟩
theorem z3g:atopC.ok Tryz.prog 256:=okw mixed gok0 1 (fun _=>[]) (fun _=>[]) [0] Tryz.func256 yRq
theorem z9i {l:List Slot} (h:∃s∈l,s.used=false):∃k:Nat,kK l=k∧k<l.length:=by
 obtain⟨s,hs,hu⟩:=h
 cases hf:l.findIdx? fun s=> !s.used with
 |none=>
  rw[y1d]at hf
  have:=hf s hs
  rw[hu]at this;cases this
 |some k=>
  rw[yZp]at hf
  exact⟨k,by rw[kK,show(l.findIdx? fun s=> !s.used)=some k by rw[yZp];exact hf];rfl,hf.1⟩
theorem yMs (i:PuI) (h:apushC.cnd i):yCx i:=by
 obtain⟨h1,h2,h3⟩:i.a.fit:=h
 unfold yCx pV nI p9 pI l5 l6 pH yG dI
 simp only[yWo]
 have out (e:i.n<0∨i.a.queues.length≤i.n):i.a.push i.n i.id i.qty i.top=(i.a,0,26):=by rw[Arena.push,yWm e]
 refine zJ (fun c=>Cv.cnd.mk (fun d=> ?_) (fun d=> ?_)) (fun c=> ?_)
 ·have d:¬i.n<(i.a.queues.length:Int):=by simpa using d
  rw[out (.inr (by omega))];(repeat'(first|exact rfl|exact trivial|assumption|apply And.intro|refine fun(_:Unit) (_:True)=>?_|refine Exists.intro () ?_|omega|(dsimp only;omega)))
 ·have d:i.n<(i.a.queues.length:Int):=by simpa using d
  have hn:¬(i.n<0∨(i.a.queues.length:Int)≤i.n):=by omega
  refine zJ (fun q1=> ?_) (fun q1=>zJ (fun q2=> ?_) (fun q2=>Cv.cnd.mk (fun fr=> ?_) (fun fr=> ?_)))
  ·rw[Arena.push,yWl hn,yWm (.inl q1)];(repeat'(first|exact rfl|exact trivial|assumption|apply And.intro|refine fun(_:Unit) (_:True)=>?_|refine Exists.intro () ?_|omega|(dsimp only;omega)))
  ·rw[Arena.push,yWl hn,yWm (.inr q2)];(repeat'(first|exact rfl|exact trivial|assumption|apply And.intro|refine fun(_:Unit) (_:True)=>?_|refine Exists.intro () ?_|omega|(dsimp only;omega)))
  ·rw[Arena.push,yWl hn,yWl (by omega),yWm (by simpa using fr)];(repeat'(first|exact rfl|exact trivial|assumption|apply And.intro|refine fun(_:Unit) (_:True)=>?_|refine Exists.intro () ?_|omega|(dsimp only;omega)))
  ·have fr:i.a.free≠0:=by simpa using fr
   have ep:i.a.push i.n i.id i.qty i.top=(i.a.put i.n i.id i.qty i.top,kK i.a.slots,0):=by rw[Arena.push,yWl hn,yWl (by omega),yWl fr]
   obtain⟨k,hk,hkl⟩:=z9i (h2 fr)
   obtain⟨q,hq⟩:=yA (l:=i.a.queues) (i:=i.n.toNat) (by omega)
   have hqm:=yWv hq
   have hl:=h3 q hqm
   obtain⟨s,hs⟩:=yA hkl
   refine⟨i.a.slots,rfl,h1,fun _ _=>⟨⟨by omega,by omega⟩,q.last,elA hq (by simp[zP]) rfl,⟨by omega,by omega⟩,by rw[hk];exact hkl,q.last,elA hq (by simp[zP]) rfl,?_⟩⟩
   rw[ep]
   have eput:i.a.put i.n i.id i.qty i.top=⟨if q.last= -1 then i.a.slots.set k ⟨true,k,i.id,i.qty,i.top,i.n,q.last,-1⟩else(i.a.slots.set k ⟨true,k,i.id,i.qty,i.top,i.n,q.last,-1⟩).modify q.last.toNat fun s=>{s with back:=k},i.a.queues.set i.n.toNat ⟨if q.last= -1 then k else q.first,k,IntKind.i64.wrap (q.total+i.qty),IntKind.i64.wrap (q.count+1)⟩,IntKind.i64.wrap (i.a.free-1)⟩:=by
    simp only[Arena.put,zK hq,hk,yXc]
   rw[eput,hk]
   simp only[yXc]
   have es:yE (List.map zR i.a.slots) k 0 [D.v (.bool true),D.v (.int .i64 k),D.v (.int .i64 i.id),D.v (.int .i64 i.qty),D.v (.bool i.top),D.v (.int .i64 i.n),D.v (.int .i64 q.last),D.v (.int .i64 (-1))]=List.map zR (i.a.slots.set k ⟨true,k,i.id,i.qty,i.top,i.n,q.last,-1⟩):=yF hs rfl
   rw[es]
   refine Cv.cnd.mk (fun e=> ?_) (fun e=> ?_)
   ·have e:q.last= -1:=by simpa using e
    have e1:yE (List.map zP i.a.queues) i.n.toNat (0+0) [D.v (.int .i64 k)]=List.map zP (i.a.queues.set i.n.toNat {q with first:=k}):=yF hq rfl
    have g1:=uJ (y:={q with first:=(k:Int)}) hq
    have e2:yE (List.map zP (i.a.queues.set i.n.toNat {q with first:=k})) i.n.toNat (0+1) [D.v (.int .i64 k)]=List.map zP (i.a.queues.set i.n.toNat {q with first:=k,last:=k}):=by
     rw[yF g1 (y:={q with first:=(k:Int),last:=(k:Int)}) rfl,y0t]
    have g2:=uJ (y:={q with first:=(k:Int),last:=(k:Int)}) hq
    have e3:yE (List.map zP (i.a.queues.set i.n.toNat {q with first:=k,last:=k})) i.n.toNat (0+2) [D.v (.int .i64 (IntKind.i64.wrap (q.total+i.qty)))]=List.map zP (i.a.queues.set i.n.toNat {q with first:=k,last:=k,total:=IntKind.i64.wrap (q.total+i.qty)}):=by
     rw[yF g2 (y:={q with first:=(k:Int),last:=(k:Int),total:=IntKind.i64.wrap (q.total+i.qty)}) rfl,y0t]
    have g3:=uJ (y:={q with first:=(k:Int),last:=(k:Int),total:=IntKind.i64.wrap (q.total+i.qty)}) hq
    have e4:yE (List.map zP (i.a.queues.set i.n.toNat {q with first:=k,last:=k,total:=IntKind.i64.wrap (q.total+i.qty)})) i.n.toNat (0+3) [D.v (.int .i64 (IntKind.i64.wrap (q.count+1)))]=List.map zP (i.a.queues.set i.n.toNat ⟨k,k,IntKind.i64.wrap (q.total+i.qty),IntKind.i64.wrap (q.count+1)⟩):=by
     rw[yF g3 (y:=⟨k,k,IntKind.i64.wrap (q.total+i.qty),IntKind.i64.wrap (q.count+1)⟩) rfl,y0t]
    rw[e1,e2]
    simp only[yWm e]
    refine⟨by omega,by simp only[yWo,yXv];omega,q.total,elA g2 (by simp[zP]) rfl,by simp only[yWo,yXv];omega,q.count,?_,by rw[e3];simp only[yWo,yXv];omega,(),?_⟩
    ·rw[e3];exact elA g3 (by simp[zP]) rfl
    ·rw[e3,e4];(repeat'(first|exact rfl|exact trivial|assumption|apply And.intro|refine fun(_:Unit) (_:True)=>?_|refine Exists.intro () ?_|omega|(dsimp only;omega)))
   ·have e:¬q.last= -1:=by simpa using e
    have hl:0≤q.last∧q.last<i.a.slots.length:=hl.resolve_left e
    have e2:yE (List.map zP i.a.queues) i.n.toNat (0+1) [D.v (.int .i64 k)]=List.map zP (i.a.queues.set i.n.toNat {q with last:=k}):=yF hq rfl
    have g2:=uJ (y:={q with last:=(k:Int)}) hq
    have e3:yE (List.map zP (i.a.queues.set i.n.toNat {q with last:=k})) i.n.toNat (0+2) [D.v (.int .i64 (IntKind.i64.wrap (q.total+i.qty)))]=List.map zP (i.a.queues.set i.n.toNat {q with last:=k,total:=IntKind.i64.wrap (q.total+i.qty)}):=by
     rw[yF g2 (y:={q with last:=(k:Int),total:=IntKind.i64.wrap (q.total+i.qty)}) rfl,y0t]
    have g3:=uJ (y:={q with last:=(k:Int),total:=IntKind.i64.wrap (q.total+i.qty)}) hq
    have e4:yE (List.map zP (i.a.queues.set i.n.toNat {q with last:=k,total:=IntKind.i64.wrap (q.total+i.qty)})) i.n.toNat (0+3) [D.v (.int .i64 (IntKind.i64.wrap (q.count+1)))]=List.map zP (i.a.queues.set i.n.toNat ⟨q.first,k,IntKind.i64.wrap (q.total+i.qty),IntKind.i64.wrap (q.count+1)⟩):=by
     rw[yF g3 (y:=⟨q.first,k,IntKind.i64.wrap (q.total+i.qty),IntKind.i64.wrap (q.count+1)⟩) rfl,y0t]
    obtain⟨s2,hs2⟩:=yA (l:=i.a.slots.set k ⟨true,k,i.id,i.qty,i.top,i.n,q.last,-1⟩) (i:=q.last.toNat) (by rw[yXv];omega)
    have e5:yE (List.map zR (i.a.slots.set k ⟨true,k,i.id,i.qty,i.top,i.n,q.last,-1⟩)) q.last.toNat (0+7) [D.v (.int .i64 k)]=List.map zR ((i.a.slots.set k ⟨true,k,i.id,i.qty,i.top,i.n,q.last,-1⟩).modify q.last.toNat fun s=>{s with back:=k}):=by
     rw[yF hs2 (y:={s2 with back:=(k:Int)}) rfl,dL hs2]
    rw[e2]
    simp only[yWl e]
    refine⟨q.last,elA hq (by simp[zP]) rfl,⟨by omega,by simp only[yWo,yXv];omega⟩,by simp only[yWo,yXv];omega,by omega,q.total,elA g2 (by simp[zP]) rfl,by simp only[yWo,yXv];omega,q.count,?_,by rw[e3];simp only[yWo,yXv];omega,(),?_⟩
    ·rw[e3];exact elA g3 (by simp[zP]) rfl
    ·rw[e3,e4,e5];(repeat'(first|exact rfl|exact trivial|assumption|apply And.intro|refine fun(_:Unit) (_:True)=>?_|refine Exists.intro () ?_|omega|(dsimp only;omega)))
 ·rw[out (.inl (by omega))];(repeat'(first|exact rfl|exact trivial|assumption|apply And.intro|refine fun(_:Unit) (_:True)=>?_|refine Exists.intro () ?_|omega|(dsimp only;omega)))
theorem zUh:apushC.ok Tryz.prog 225:=okw mixed (gokc z0h gok0) 1 (fun _=>[]) (fun _=>[]) [0] Tryz.func225 yMs
theorem mO {s price:Int}:∀{l:List xM} {j:Nat},j≤l.length→(∀k<j,∀r,l[k]? =some r→btr s r.price price=true)→(∀r,l[j]? =some r→btr s r.price price=false)→zV s l price=j
 |[],j,hj,_,_=>by
  obtain rfl:j=0:=by simpa using hj
  rfl
 |r::l,0,_,_,he=>by
  have:=he r rfl
  rw[zV,List.takeWhile_cons,this];rfl
 |r::l,j+1,hj,h,he=>by
  have h0:=h 0 (by omega) r rfl
  have ih:=mO (l:=l) (j:=j) (by simpa using hj) (fun k hk x hx=>h (k+1) (by omega) x (by simpa using hx)) (fun x hx=>he x (by simpa using hx))
  rw[zV]at ih ⊢
  rw[List.takeWhile_cons,h0,yWm rfl,yXa,ih]
theorem zBn (s price:Int) (l:List xM):zV s l price≤l.length:=(List.takeWhile_sublist _).length_le
theorem nM (b:Book):b.rungs 1=b.buys:=rfl
theorem nW (b:Book):b.rungs 2=b.sells:=rfl
theorem yOt (i:BkP) (h:find1C.cnd i):z8m i:=by
 obtain⟨_,h1,h2,_⟩:i.b.small:=h
 unfold z8m zFm nJ vM pY lD f9 xW dI
 simp only[yWo,nM]
 refine⟨0,rfl,fun j=>j≤i.b.buys.length∧∀k<j,∀r,i.b.buys[k]? =some r→btr 1 r.price i.price=true,fun j=>i.b.buys.length-j,⟨by omega,fun k hk=>by omega⟩,?_⟩
 rintro j ⟨h3,h4⟩
 refine zJ (fun hj=> ?_) (fun hj=> ?_)
 ·obtain⟨r,hr⟩:=yA (l:=i.b.buys) (i:=j) (by omega)
  refine⟨⟨by omega,by omega⟩,r.price,elA hr (by simp[zC]) rfl,⟨1,r.price,i.price⟩,rfl,rfl,rfl,trivial,fun _ _=> ?_⟩
  dsimp only
  refine Cv.cnd.mk (fun e=>⟨j+1,by rw[w64 (by omega)];rfl,⟨by omega,fun k hk x hx=> ?_⟩,by(first|omega|(dsimp only;omega)),by(repeat'(first|exact trivial|exact rfl|apply And.intro))⟩) (fun e=>zJ (fun _=> ?_) (fun c=>absurd hj c))
  ·rcases yZa k j with hk'|hk'
   ·exact h4 k hk' x hx
   ·obtain rfl:k=j:=by omega
    rw[hr]at hx;cases hx;exact e
  ·have en:zV 1 i.b.buys i.price=j:=mO h3 h4 fun x hx=>by rw[hr]at hx;cases hx;exact e
   have eb:kJ 1 i.b.buys i.price=(r.price==i.price):=by rw[kJ,en,hr];exact(zVe _ _).symm
   refine⟨⟨by omega,by omega⟩,r.price,elA hr (by simp[zC]) rfl,(),by rw[en],eb,?_⟩
   (repeat'(first|exact trivial|exact rfl|apply And.intro))
 ·have en:zV 1 i.b.buys i.price=j:=mO h3 h4 fun x hx=>by have:=(yWn.1 hx).1;omega
  have eb:kJ 1 i.b.buys i.price=false:=by rw[kJ,en,yXm (by omega)]
  refine zJ (fun c=>absurd c hj) (fun _=>⟨(),by rw[en],eb,?_⟩)
  (repeat'(first|exact trivial|exact rfl|apply And.intro))
theorem zKg:find1C.ok Tryz.prog 228:=okw mixed (gokc aC gok0) 0 (fun _=>[]) (fun _=>yKp) [] Tryz.func228 yOt
theorem jU (l:List (Int×Place)) (k:Int):∀(p:Value×List D),p∈atE l→like (Value.int IntKind.i64 k) p.1=true:=by
 intro p hp
 obtain⟨x,_,rfl⟩:=yXl.1 hp
 rfl
theorem eB (k:Int):∀l:List (Int×Place),qY (Value.int IntKind.i64 k) (atE l)=(pget l k).map zYi
 |[]=>rfl
 |(a,v)::l=>by
  have ih:=eB k l
  show(bif (keq .i64 .i64 && decide (k=a))then _ else qY _ (atE l))=_
  by_cases h:k=a
  ·subst h;simp[pget,keq]
  ·have h':¬a=k:=fun e=>h e.symm
   rw[show(keq .i64 .i64 && decide (k=a))=false by simp[h],cond_false,ih]
   simp[pget,y2k,h']
def zFp:Place:=⟨0,0,0⟩
theorem zNj (l:List (Int×Place)) (k:Int):qY (Value.int IntKind.i64 k) (atE l)=some [D.v (.int .i64 ((pget l k).getD zFp).side),D.v (.int .i64 ((pget l k).getD zFp).price),D.v (.int .i64 ((pget l k).getD zFp).slot)]∧(pget l k).isSome=true∨qY (Value.int IntKind.i64 k) (atE l)=none∧[D.v (.int .i64 ((pget l k).getD zFp).side),D.v (.int .i64 ((pget l k).getD zFp).price),D.v (.int .i64 ((pget l k).getD zFp).slot)]=[D.v (.int .i64 0),D.v (.int .i64 0),D.v (.int .i64 0)]∧(pget l k).isSome=false:=by
 rw[eB]
 cases pget l k with
 |none=>exact .inr ⟨rfl,rfl,rfl⟩
 |some v=>exact .inl ⟨rfl,rfl⟩
theorem zPz (k:Int) (v:Place):∀l,uC (Value.int IntKind.i64 k) (zYi v) (atE l)=atE (nT k v l)
 |[]=>rfl
 |(a,b)::l=>by
  have ih:=zPz k v l
  show(bif (keq .i64 .i64 && decide (k=a))then _ else _::uC _ _ (atE l))=_
  rw[ih,nT]
  by_cases h:k=a
  ·subst h;simp[keq,atE]
  ·simp[h,atE]
theorem yPw (i:LdI) (h:lead1C.cnd i):yFc i:=by
 obtain⟨⟨ha,_⟩,h1,h2,_⟩:i.b.small:=h
 unfold yFc lO lS nS dB dI
 have no (e:i.b.untop 1=i.b.a):AObj.adt Arena 3 zH (i.b.untop 1)=zS i.b 1:=by rw[e];rfl
 refine Cv.cnd.mk (fun c=> ?_) (fun c=>⟨(),?_⟩)
 ·have c:i.b.hasF 1=true:=c
  refine⟨jU _ _,(pget i.b.at_ i.b.top1).isSome,_,_,_,zNj _ _,⟨jU _ _,(pget i.b.at_ i.b.top1).isSome,_,_,_,zNj _ _,⟨rfl,rfl,rfl,trivial⟩,rfl,trivial⟩,rfl,trivial,Cv.cnd.mk (fun d=>Cv.cnd.mk (fun e=> ?_) (fun e=>⟨(),?_⟩)) (fun d=>⟨(),?_⟩)⟩
  ·obtain⟨o,ho⟩:=y2g.1 d
   have e:o.side=1:=by rw[ho]at e;simpa using e
   have eu:i.b.untop 1=i.b.a.topF o.slot false:=by
    have ht:pget i.b.at_ (i.b.topI 1)=some o:=ho
    rw[Book.untop,yWm c,ht];dsimp only;rw[yWm e]
   refine⟨⟨i.b.a,o.slot,false⟩,by rw[ho];rfl,rfl,rfl,ha,fun _ _=>⟨(),?_⟩⟩
   rw[eu];(repeat'(first|exact trivial|exact rfl|apply And.intro))
  ·obtain⟨o,ho⟩:=y2g.1 d
   have e:¬o.side=1:=by rw[ho]at e;simpa using e
   have ht:pget i.b.at_ (i.b.topI 1)=some o:=ho
   rw[no (by rw[Book.untop,yWm c,ht];dsimp only;rw[yWl e])];(repeat'(first|exact trivial|exact rfl|apply And.intro))
  ·have ht:pget i.b.at_ (i.b.topI 1)=none:=by
    show pget i.b.at_ i.b.top1=none
    simpa using d
   rw[no (by rw[Book.untop,yWm c,ht])];(repeat'(first|exact trivial|exact rfl|apply And.intro))
 ·have c:¬i.b.hasF 1=true:=by rw[show i.b.hasF 1=i.b.has1 from rfl,c];decide
  rw[no (by rw[Book.untop,yWl c])];(repeat'(first|exact trivial|exact rfl|apply And.intro))
theorem yBk:lead1C.ok Tryz.prog 224:=okw mixed (gokc z3g gok0) 0 (fun _=>[]) (fun _=>[]) [] Tryz.func224 yPw
theorem zWb {s price:Int} {l:List xM} (h:kJ s l price=true):∃r,l[zV s l price]? =some r:=by
 rw[kJ]at h
 split at h
 ·rename_i r hr;exact⟨r,hr⟩
 ·cases h
theorem yIz (i:BkP) (h:queue1C.cnd i):z2u i:=by
 obtain⟨⟨ha,_⟩,ha',h1,h2,h3⟩:i.b.fit:=h
 have hle:=zBn 1 i.price i.b.buys
 unfold z2u zO gX gW aQ aP vJ gM vM x9 xW dI
 refine⟨i,rfl,rfl,rfl,rfl,rfl,rfl,rfl,rfl,rfl,rfl,rfl,⟨⟨ha,by omega⟩,by omega,by omega,by omega⟩,fun _ _=> ?_⟩
 simp only[yWo,y5,nM]
 refine Cv.cnd.mk (fun c=> ?_) (fun c=> ?_)
 ·obtain⟨r,hr⟩:=zWb c
  have hlt:=(yWn.1 hr).1
  have e:i.b.queueF 1 i.price=(i.b,r.queue):=by rw[Book.queueF,yWm (by rw[nM];exact c),nM,zK hr]
  rw[e]
  refine⟨⟨by omega,by omega⟩,r.queue,elA (by simpa using hr) (by simp[zC]) rfl,(),?_⟩
  (repeat'(first|exact trivial|exact rfl|apply And.intro))
 ·have e:i.b.queueF 1 i.price=({i.b with a:=i.b.newQ.2.2,buys:=i.b.ins 1 i.price,spare:=i.b.newQ.2.1},i.b.newQ.1):=by
   rw[Book.queueF,yWl (by rw[nM,c];decide),yWm rfl]
  have hins:List.map zC (i.b.ins 1 i.price)=List.take (zV 1 i.b.buys i.price) (List.map zC i.b.buys)++zC ⟨i.price,i.b.newQ.1⟩::List.drop (zV 1 i.b.buys i.price) (List.map zC i.b.buys):=by
   rw[Book.ins,nM,yWw,yWu,y0u,y1y]
  rw[e]
  refine zJ (fun d=> ?_) (fun d=> ?_)
  ·have w:IntKind.i64.wrap ((i.b.spare.length:Int)-1)=((i.b.spare.length-1:Nat):Int):=by rw[w64 (by omega)];omega
   rw[w]
   simp only[yXc]
   obtain⟨q,hq⟩:=yA (l:=i.b.spare) (i:=i.b.spare.length-1) (by omega)
   have eq:i.b.newQ=(q,i.b.spare.take (i.b.spare.length-1),i.b.a):=by rw[Book.newQ,yWl (by omega),zK hq]
   rw[eq]at hins ⊢
   refine⟨⟨by omega,by omega⟩,q,elI hq,⟨by omega,by omega⟩,trivial,⟨i.b.buys.map zC,zC ⟨i.price,q⟩,zV 1 i.b.buys i.price⟩,rfl,rfl,rfl,⟨by rw[yWo];exact hle,by rw[yWo];omega⟩,fun _ _=>⟨(),?_⟩⟩
   have hs:iE (i.b.spare.take (i.b.spare.length-1))=(iE i.b.spare).take (i.b.spare.length-1):=by simp only[iE,y0u]
   (repeat'(first|exact rfl|exact trivial|assumption|apply And.intro|refine fun(_:Unit) (_:True)=>?_|refine Exists.intro () ?_|omega|(dsimp only;omega)))
  ·have eq:i.b.newQ=((i.b.a.queues.length:Int),i.b.spare,i.b.a.openQ):=by rw[Book.newQ,yWm (by omega)]
   rw[eq]at hins ⊢
   refine⟨i.b.a,rfl,by omega,fun _ _=>⟨trivial,⟨i.b.buys.map zC,zC ⟨i.price,i.b.a.queues.length⟩,zV 1 i.b.buys i.price⟩,rfl,rfl,rfl,⟨by rw[yWo];exact hle,by rw[yWo];omega⟩,fun _ _=>⟨(),?_⟩⟩⟩
   (repeat'(first|exact rfl|exact trivial|assumption|apply And.intro|refine fun(_:Unit) (_:True)=>?_|refine Exists.intro () ?_|omega|(dsimp only;omega)))
theorem zFn:uZ Tryz.prog 238=some (301,2,16,#[.int .i64 0,.int .i64 0]):=by kernel_rfl
theorem z2r:insRC.ok Tryz.prog 261:=
 insX_ok (tS:=238) (tI:=3) (fO:=279) (fR:=280) (z:= #[.int .i64 0,.int .i64 0]) mixed Tryz.func261 rfl (by kernel_rfl) (by kernel_rfl) (by kernel_rfl) (by kernel_rfl) zFn rfl (by decide) (by decide) (by kernel_rfl) Tryz.underlying3
  (yIp (tS:=238) (tB:=4) Tryz.func279 (by kernel_rfl) (by kernel_rfl) (by kernel_rfl) (by kernel_rfl) zFn) (fun s sn sk i v vn vk w R=>by kernel_rfl)
theorem z6w:queue1C.ok Tryz.prog 226:=okw mixed (gokc zKg (gokc zXd (gokc z2r gok0))) 0 (fun _=>[]) (fun _=>[]) [] Tryz.func226 yIz
theorem yOb (i:BkP) (h:find2C.cnd i):z8z i:=by
 obtain⟨_,h1,h2,_⟩:i.b.small:=h
 unfold z8z zFj pA v7 zAk xZ f9 pY dI
 simp only[yWo,nW]
 refine⟨0,rfl,fun j=>j≤i.b.sells.length∧∀k<j,∀r,i.b.sells[k]? =some r→btr 2 r.price i.price=true,fun j=>i.b.sells.length-j,⟨by omega,fun k hk=>by omega⟩,?_⟩
 rintro j ⟨h3,h4⟩
 refine zJ (fun hj=> ?_) (fun hj=> ?_)
 ·obtain⟨r,hr⟩:=yA (l:=i.b.sells) (i:=j) (by omega)
  refine⟨⟨by omega,by omega⟩,r.price,elA hr (by simp[zC]) rfl,⟨2,r.price,i.price⟩,rfl,rfl,rfl,trivial,fun _ _=> ?_⟩
  dsimp only
  refine Cv.cnd.mk (fun e=>⟨j+1,by rw[w64 (by omega)];rfl,⟨by omega,fun k hk x hx=> ?_⟩,by(first|omega|(dsimp only;omega)),by(repeat'(first|exact trivial|exact rfl|apply And.intro))⟩) (fun e=>zJ (fun _=> ?_) (fun c=>absurd hj c))
  ·rcases yZa k j with hk'|hk'
   ·exact h4 k hk' x hx
   ·obtain rfl:k=j:=by omega
    rw[hr]at hx;cases hx;exact e
  ·have en:zV 2 i.b.sells i.price=j:=mO h3 h4 fun x hx=>by rw[hr]at hx;cases hx;exact e
   have eb:kJ 2 i.b.sells i.price=(r.price==i.price):=by rw[kJ,en,hr];exact(zVe _ _).symm
   refine⟨⟨by omega,by omega⟩,r.price,elA hr (by simp[zC]) rfl,(),by rw[en],eb,?_⟩
   (repeat'(first|exact trivial|exact rfl|apply And.intro))
 ·have en:zV 2 i.b.sells i.price=j:=mO h3 h4 fun x hx=>by have:=(yWn.1 hx).1;omega
  have eb:kJ 2 i.b.sells i.price=false:=by rw[kJ,en,yXm (by omega)]
  refine zJ (fun c=>absurd c hj) (fun _=>⟨(),by rw[en],eb,?_⟩)
  (repeat'(first|exact trivial|exact rfl|apply And.intro))
theorem zMg:find2C.ok Tryz.prog 228:=okw mixed (gokc aC gok0) 0 (fun _=>[]) (fun _=>yKp) [] Tryz.func228 yOb
theorem yQl (i:LdI) (h:lead2C.cnd i):yBu i:=by
 obtain⟨⟨ha,_⟩,h1,h2,_⟩:i.b.small:=h
 unfold yBu zBa lQ pN dB dI
 have no (e:i.b.untop 2=i.b.a):AObj.adt Arena 3 zH (i.b.untop 2)=zS i.b 1:=by rw[e];rfl
 refine Cv.cnd.mk (fun c=> ?_) (fun c=>⟨(),?_⟩)
 ·have c:i.b.hasF 2=true:=c
  refine⟨jU _ _,(pget i.b.at_ i.b.top2).isSome,_,_,_,zNj _ _,⟨jU _ _,(pget i.b.at_ i.b.top2).isSome,_,_,_,zNj _ _,⟨rfl,rfl,rfl,trivial⟩,rfl,trivial⟩,rfl,trivial,Cv.cnd.mk (fun d=>Cv.cnd.mk (fun e=> ?_) (fun e=>⟨(),?_⟩)) (fun d=>⟨(),?_⟩)⟩
  ·obtain⟨o,ho⟩:=y2g.1 d
   have e:o.side=2:=by rw[ho]at e;simpa using e
   have eu:i.b.untop 2=i.b.a.topF o.slot false:=by
    have ht:pget i.b.at_ (i.b.topI 2)=some o:=ho
    rw[Book.untop,yWm c,ht];dsimp only;rw[yWm e]
   refine⟨⟨i.b.a,o.slot,false⟩,by rw[ho];rfl,rfl,rfl,ha,fun _ _=>⟨(),?_⟩⟩
   rw[eu];(repeat'(first|exact trivial|exact rfl|apply And.intro))
  ·obtain⟨o,ho⟩:=y2g.1 d
   have e:¬o.side=2:=by rw[ho]at e;simpa using e
   have ht:pget i.b.at_ (i.b.topI 2)=some o:=ho
   rw[no (by rw[Book.untop,yWm c,ht];dsimp only;rw[yWl e])];(repeat'(first|exact trivial|exact rfl|apply And.intro))
  ·have ht:pget i.b.at_ (i.b.topI 2)=none:=by
    show pget i.b.at_ i.b.top2=none
    simpa using d
   rw[no (by rw[Book.untop,yWm c,ht])];(repeat'(first|exact trivial|exact rfl|apply And.intro))
 ·have c:¬i.b.hasF 2=true:=by rw[show i.b.hasF 2=i.b.has2 from rfl,c];decide
  rw[no (by rw[Book.untop,yWl c])];(repeat'(first|exact trivial|exact rfl|apply And.intro))
theorem z9q:lead2C.ok Tryz.prog 224:=okw mixed (gokc z3g gok0) 0 (fun _=>[]) (fun _=>[]) [] Tryz.func224 yQl
theorem yHs (i:BkP) (h:queue2C.cnd i):z1t i:=by
 obtain⟨⟨ha,_⟩,ha',h1,h2,h3⟩:i.b.fit:=h
 have hle:=zBn 2 i.price i.b.sells
 unfold z1t zN gN v7 gX gW aQ aP vJ x9 xZ dI
 refine⟨i,rfl,rfl,rfl,rfl,rfl,rfl,rfl,rfl,rfl,rfl,rfl,⟨⟨ha,by omega⟩,by omega,by omega,by omega⟩,fun _ _=> ?_⟩
 simp only[yWo,y5,nW]
 refine Cv.cnd.mk (fun c=> ?_) (fun c=> ?_)
 ·obtain⟨r,hr⟩:=zWb c
  have hlt:=(yWn.1 hr).1
  have e:i.b.queueF 2 i.price=(i.b,r.queue):=by rw[Book.queueF,yWm (by rw[nW];exact c),nW,zK hr]
  rw[e]
  refine⟨⟨by omega,by omega⟩,r.queue,elA (by simpa using hr) (by simp[zC]) rfl,(),?_⟩
  (repeat'(first|exact trivial|exact rfl|apply And.intro))
 ·have e:i.b.queueF 2 i.price=({i.b with a:=i.b.newQ.2.2,sells:=i.b.ins 2 i.price,spare:=i.b.newQ.2.1},i.b.newQ.1):=by
   rw[Book.queueF,yWl (by rw[nW,c];decide),yWl (by decide)]
  have hins:List.map zC (i.b.ins 2 i.price)=List.take (zV 2 i.b.sells i.price) (List.map zC i.b.sells)++zC ⟨i.price,i.b.newQ.1⟩::List.drop (zV 2 i.b.sells i.price) (List.map zC i.b.sells):=by
   rw[Book.ins,nW,yWw,yWu,y0u,y1y]
  rw[e]
  refine zJ (fun d=> ?_) (fun d=> ?_)
  ·have w:IntKind.i64.wrap ((i.b.spare.length:Int)-1)=((i.b.spare.length-1:Nat):Int):=by rw[w64 (by omega)];omega
   rw[w]
   simp only[yXc]
   obtain⟨q,hq⟩:=yA (l:=i.b.spare) (i:=i.b.spare.length-1) (by omega)
   have eq:i.b.newQ=(q,i.b.spare.take (i.b.spare.length-1),i.b.a):=by rw[Book.newQ,yWl (by omega),zK hq]
   rw[eq]at hins ⊢
   refine⟨⟨by omega,by omega⟩,q,elI hq,⟨by omega,by omega⟩,trivial,⟨i.b.sells.map zC,zC ⟨i.price,q⟩,zV 2 i.b.sells i.price⟩,rfl,rfl,rfl,⟨by rw[yWo];exact hle,by rw[yWo];omega⟩,fun _ _=>⟨(),?_⟩⟩
   have hs:iE (i.b.spare.take (i.b.spare.length-1))=(iE i.b.spare).take (i.b.spare.length-1):=by simp only[iE,y0u]
   (repeat'(first|exact rfl|exact trivial|assumption|apply And.intro|refine fun(_:Unit) (_:True)=>?_|refine Exists.intro () ?_|omega|(dsimp only;omega)))
  ·have eq:i.b.newQ=((i.b.a.queues.length:Int),i.b.spare,i.b.a.openQ):=by rw[Book.newQ,yWm (by omega)]
   rw[eq]at hins ⊢
   refine⟨i.b.a,rfl,by omega,fun _ _=>⟨trivial,⟨i.b.sells.map zC,zC ⟨i.price,i.b.a.queues.length⟩,zV 2 i.b.sells i.price⟩,rfl,rfl,rfl,⟨by rw[yWo];exact hle,by rw[yWo];omega⟩,fun _ _=>⟨(),?_⟩⟩⟩
   (repeat'(first|exact rfl|exact trivial|assumption|apply And.intro|refine fun(_:Unit) (_:True)=>?_|refine Exists.intro () ?_|omega|(dsimp only;omega)))
theorem z8i:queue2C.ok Tryz.prog 226:=okw mixed (gokc zMg (gokc zXd (gokc z2r gok0))) 0 (fun _=>[]) (fun _=>[]) [] Tryz.func226 yHs
open Go Cv Go.Proofs
structure BaI where
 b:Book
 id:Int
 price:Int
 qty:Int
def Book.leads (b:Book) (s price:Int):Bool:=match b.rungs s with
 |[]=>true
 |r::_=>btr s price r.price
def Book.led (b:Book) (id s price:Int):Book:=if b.leads s price=true then b.leadF id s else b
def Book.stand (b:Book) (s id price qty:Int):Book:=
 let b2:=(b.led id s price).queueF s price
 let x:=b2.1.a.push b2.2 id qty (b.leads s price)
 {b2.1 with a:=x.1,at_:=nT id ⟨s,price,x.2.1⟩ b2.1.at_}
def Book.addF (b:Book) (s id price qty:Int):Book×Int:=
 if qty<1∨1000000<qty then(b,24)else if(pget b.at_ id).isSome=true then(b,25)else if 250≤b.at_.length then(b,13)else(b.stand s id price qty,0)
def yCp (s:Int):Con:=con1 BaI (fun i=>[.nm 0 0,zA i.id,zA s,zA i.price,zA i.qty]) (fun i=>[yB i.b]) (fun i=>i.b.fit) (fun i=>zA (i.b.addF s i.id i.price i.qty).2) (fun i=>[yB (i.b.addF s i.id i.price i.qty).1])
def yKt:List (Nat×SAnn):=[(44,bj 14)]
def badd1C:Con:=yCp 1
def badd2C:Con:=yCp 2
structure BaJ where
 i:BaI
 s:Bool
def baddC:Con:=con1 BaJ (fun j=>[.nm 0 0,zA j.i.id,zA (zB j.s),zA j.i.price,zA j.i.qty]) (fun j=>[yB j.i.b]) (fun j=>j.i.b.fit) (fun j=>zA (j.i.b.addF (zB j.s) j.i.id j.i.price j.i.qty).2) (fun j=>[yB (j.i.b.addF (zB j.s) j.i.id j.i.price j.i.qty).1])
structure SaI where
 s:MSt
 inst:Int
 id:Int
 sd:Bool
 price:Int
 qty:Int
def MSt.bookAt (s:MSt) (n:Int):Book:=s.books.getD n.toNat book0
def MSt.addF (i:SaI):MSt×Int:=
 if i.inst<0∨i.s.books.length≤i.inst then(i.s,20)else if(lT i.s.wh i.id).isSome=true then(i.s,25)else if 250≤i.s.wh.length then(i.s,13)else if i.s.p.price i.inst i.price≠0 then(i.s,i.s.p.price i.inst i.price)
 else
  let x:=(i.s.bookAt i.inst).addF (zB i.sd) i.id i.price i.qty
  ({i.s with books:=i.s.books.set i.inst.toNat x.1,wh:=if x.2=0 then zUu i.id i.inst i.s.wh else i.s.wh},x.2)
@[reducible] def MSt.fit (s:MSt):Prop:=s.p.small∧s.books.length≤1000000∧∀b∈s.books,b.fit
def saddC:Con:=con1 SaI (fun i=>[.nm 0 0,zA i.inst,zA i.id,zA (zB i.sd),zA i.price,zA i.qty]) (fun i=>[zE i.s]) (fun i=>i.s.fit) (fun i=>zA (MSt.addF i).2) (fun i=>[zE (MSt.addF i).1])
open Go Cv Go.Proofs
def nB (a:BkP):Prop:=(a.b.a.slots.length≤1000000∧(a.b.a.free≠0→∃(b:Slot),b∈a.b.a.slots∧b.used=false)∧∀(b:dW),b∈a.b.a.queues→b.last=(-1)∨0≤b.last∧b.last<(↑a.b.a.slots.length:Int))∧a.b.a.queues.length≤100000∧a.b.buys.length≤100000∧a.b.sells.length≤100000∧a.b.spare.length≤100000
def nU (a:PuI):Prop:=a.a.slots.length≤1000000∧(a.a.free≠0→∃(b:Slot),b∈a.a.slots∧b.used=false)∧∀(b:dW),b∈a.a.queues→b.last=(-1)∨0≤b.last∧b.last<(↑a.a.slots.length:Int)
def yN (a:BaI):=(a.b.addF 1 a.id a.price a.qty)
def zDz (a:BkP) (b:BaI) (c:Bool):Prop:=(nB a)∧∀(d:Unit),True→True∧∃(e:PuI),e.n=(zO a).snd∧e.id=b.id∧e.qty=b.qty∧e.top=c∧AObj.adt Arena 3 zH e.a=AObj.adt Arena 3 zH (zO a).fst.a∧(nU e)∧∀(f:Unit),True→(∀(g:Value×List D),g∈atE (zO a).fst.at_→like (Value.int IntKind.i64 b.id) g.fst=true)∧∃(g:Unit),(yN b).snd=0∧(yN b).fst.top1=(zO a).fst.top1∧(yN b).fst.top2=(zO a).fst.top2∧(yN b).fst.has1=(zO a).fst.has1∧(yN b).fst.has2=(zO a).fst.has2∧AObj.adt Arena 3 zH (yN b).fst.a=AObj.adt Arena 3 zH (yG e).fst∧List.map zC (yN b).fst.buys=List.map zC (zO a).fst.buys∧List.map zC (yN b).fst.sells=List.map zC (zO a).fst.sells∧atE (yN b).fst.at_=uC (Value.int IntKind.i64 b.id) [dI 1,dI b.price,dI ((yG e).snd.fst)] (atE (zO a).fst.at_)∧iE (yN b).fst.spare=iE (zO a).fst.spare∧True
def eR (a:Bool→Prop) (b:Bool) (c:Int) (d:Int) (e:Int) (f:BaI):Prop:=a b∧Sx.AObj.cells [V.d (dI c),V.d (dI d),V.d (dI e)] 235=Sx.AObj.cells [V.d (dI c),V.d (dI d),V.d (dI e)] 235∧Sx.AObj.cells (jT (kG 0 1 6) [V.nm 1 0,V.own 2,V.own 3,V.mp 4,zA f.b.top1,zA f.b.top2,V.own 5,yL f.b.has1,yL f.b.has2]) (244:TypeId)=Sx.AObj.cells (jT (kG 0 1 6) [V.nm 1 0,V.own 2,V.own 3,V.mp 4,zA f.b.top1,zA f.b.top2,V.own 5,yL f.b.has1,yL f.b.has2]) (244:TypeId)∧AObj.adt Arena 3 zH f.b.a=AObj.adt Arena 3 zH f.b.a∧AObj.own 301 2 (List.map zC f.b.buys)=AObj.own 301 2 (List.map zC f.b.buys)∧AObj.own 301 2 (List.map zC f.b.sells)=AObj.own 301 2 (List.map zC f.b.sells)∧Sx.AObj.map (atE f.b.at_)=Sx.AObj.map (atE f.b.at_)∧AObj.own 3 1 (iE f.b.spare)=AObj.own 3 1 (iE f.b.spare)
def tD (a:I3') (b:BaI) (c:Int) (d:Bool→Prop) (e:Int) (f:Int) (g:Int):Prop:=a.x=b.price∧a.y=c∧True∧∀(h:Unit),True→∃(j:Bool),j=btr a.side a.x a.y∧eR d j e f g b
def eK (a:Bool→Prop) (b:Int) (c:Int) (d:Int) (e:BaI):Prop:=∃(f:Bool),f=true∧eR a f b c d e
def aY (a:BaI):Prop:=(yN a).fst.top1=a.b.top1∧(yN a).fst.top2=a.b.top2∧(yN a).fst.has1=a.b.has1∧(yN a).fst.has2=a.b.has2∧AObj.adt Arena 3 zH (yN a).fst.a=AObj.adt Arena 3 zH a.b.a∧List.map zC (yN a).fst.buys=List.map zC a.b.buys∧List.map zC (yN a).fst.sells=List.map zC a.b.sells∧atE (yN a).fst.at_=atE a.b.at_∧iE (yN a).fst.spare=iE a.b.spare∧True
def zEq (a:BaI):Prop:=∃(b:Unit),(yN a).snd=24∧aY a
def nQ (a:BaI) (b:Int) (c:Int) (d:Int) (e:Bool):Prop:=qY (Value.int IntKind.i64 a.id) (atE a.b.at_)=some [dI b,dI c,dI d]∧e=true∨qY (Value.int IntKind.i64 a.id) (atE a.b.at_)=none∧[dI b,dI c,dI d]=[dI 0,dI 0,dI 0]∧e=false
def p7 (a:LdI):Prop:=(a.b.a.slots.length≤1000000∧a.b.a.queues.length≤1000000)∧a.b.buys.length≤1000000∧a.b.sells.length≤1000000∧a.b.spare.length≤1000000
def yBm (i:BaI):Prop:=
 (∀(a:Value×List D),a∈atE i.b.at_→like (Value.int IntKind.i64 i.id) a.fst=true)∧∃(a:Bool),∃(b:Int),∃(c:Int),∃(d:Int),(nQ i b c d a)∧∃(e:Int),e=1∧True∧∀(f:Unit),True→cnd (!(vW e)) (∃(g:Unit),(yN i).snd=21∧aY i) (cnd (decide (i.qty<1)) (zEq i) (cnd (decide (i.qty>1000000)) (zEq i) (cnd a (∃(g:Unit),(yN i).snd=25∧aY i) (cnd (decide ((↑(atE i.b.at_).length:Int)≥250)) (∃(g:Unit),(yN i).snd=13∧aY i) (∃(g:Bool),∃(h:Bool→Prop),cnd ((↑(List.map zC i.b.buys).length:Int)==0) (eK h b c d i) (((0:Int)≤(0:Int)∧0<(↑(List.map zC i.b.buys).length:Int))∧∃(j:Int),zF (List.map zC i.b.buys) (Int.toNat 0) ((0:Nat)+(0:Nat)) 1=some [dI j]∧∃(k:I3'),k.side=1∧tD k i j h b c d)∧∀(j:Bool),h j→cnd j (∃(k:LdI),k.id=i.id∧(1:Int)=(1:Int)∧k.b.top1=i.b.top1∧k.b.top2=i.b.top2∧k.b.has1=i.b.has1∧k.b.has2=i.b.has2∧AObj.adt Arena 3 zH k.b.a=AObj.adt Arena 3 zH i.b.a∧List.map zC k.b.buys=List.map zC i.b.buys∧List.map zC k.b.sells=List.map zC i.b.sells∧atE k.b.at_=atE i.b.at_∧iE k.b.spare=iE i.b.spare∧(p7 k)∧∀(l:Unit),True→∃(m:BkP),(1:Int)=(1:Int)∧m.price=i.price∧m.b.top1=k.id∧m.b.top2=k.b.top2∧m.b.has1=true∧m.b.has2=k.b.has2∧AObj.adt Arena 3 zH m.b.a=AObj.adt Arena 3 zH (k.b.untop 1)∧List.map zC m.b.buys=List.map zC k.b.buys∧List.map zC m.b.sells=List.map zC k.b.sells∧atE m.b.at_=atE k.b.at_∧iE m.b.spare=iE k.b.spare∧zDz m i j) (∃(k:BkP),(1:Int)=(1:Int)∧k.price=i.price∧k.b.top1=i.b.top1∧k.b.top2=i.b.top2∧k.b.has1=i.b.has1∧k.b.has2=i.b.has2∧AObj.adt Arena 3 zH k.b.a=AObj.adt Arena 3 zH i.b.a∧List.map zC k.b.buys=List.map zC i.b.buys∧List.map zC k.b.sells=List.map zC i.b.sells∧atE k.b.at_=atE i.b.at_∧iE k.b.spare=iE i.b.spare∧zDz k i j))))))
def yM (a:BaI):=(a.b.addF 2 a.id a.price a.qty)
def zDt (a:BkP) (b:BaI) (c:Bool):Prop:=(nB a)∧∀(d:Unit),True→True∧∃(e:PuI),e.n=(zN a).snd∧e.id=b.id∧e.qty=b.qty∧e.top=c∧AObj.adt Arena 3 zH e.a=AObj.adt Arena 3 zH (zN a).fst.a∧(nU e)∧∀(f:Unit),True→(∀(g:Value×List D),g∈atE (zN a).fst.at_→like (Value.int IntKind.i64 b.id) g.fst=true)∧∃(g:Unit),(yM b).snd=0∧(yM b).fst.top1=(zN a).fst.top1∧(yM b).fst.top2=(zN a).fst.top2∧(yM b).fst.has1=(zN a).fst.has1∧(yM b).fst.has2=(zN a).fst.has2∧AObj.adt Arena 3 zH (yM b).fst.a=AObj.adt Arena 3 zH (yG e).fst∧List.map zC (yM b).fst.buys=List.map zC (zN a).fst.buys∧List.map zC (yM b).fst.sells=List.map zC (zN a).fst.sells∧atE (yM b).fst.at_=uC (Value.int IntKind.i64 b.id) [dI 2,dI b.price,dI ((yG e).snd.fst)] (atE (zN a).fst.at_)∧iE (yM b).fst.spare=iE (zN a).fst.spare∧True
def mD (a:BaI):Prop:=(yM a).fst.top1=a.b.top1∧(yM a).fst.top2=a.b.top2∧(yM a).fst.has1=a.b.has1∧(yM a).fst.has2=a.b.has2∧AObj.adt Arena 3 zH (yM a).fst.a=AObj.adt Arena 3 zH a.b.a∧List.map zC (yM a).fst.buys=List.map zC a.b.buys∧List.map zC (yM a).fst.sells=List.map zC a.b.sells∧atE (yM a).fst.at_=atE a.b.at_∧iE (yM a).fst.spare=iE a.b.spare∧True
def zEk (a:BaI):Prop:=∃(b:Unit),(yM a).snd=24∧mD a
def yGb (i:BaI):Prop:=
 (∀(a:Value×List D),a∈atE i.b.at_→like (Value.int IntKind.i64 i.id) a.fst=true)∧∃(a:Bool),∃(b:Int),∃(c:Int),∃(d:Int),(nQ i b c d a)∧∃(e:Int),e=2∧True∧∀(f:Unit),True→cnd (!(vW e)) (∃(g:Unit),(yM i).snd=21∧mD i) (cnd (decide (i.qty<1)) (zEk i) (cnd (decide (i.qty>1000000)) (zEk i) (cnd a (∃(g:Unit),(yM i).snd=25∧mD i) (cnd (decide ((↑(atE i.b.at_).length:Int)≥250)) (∃(g:Unit),(yM i).snd=13∧mD i) (∃(g:Bool),∃(h:Bool→Prop),cnd ((↑(List.map zC i.b.sells).length:Int)==0) (eK h b c d i) (((0:Int)≤(0:Int)∧0<(↑(List.map zC i.b.sells).length:Int))∧∃(j:Int),zF (List.map zC i.b.sells) (Int.toNat 0) ((0:Nat)+(0:Nat)) 1=some [dI j]∧∃(k:I3'),k.side=2∧tD k i j h b c d)∧∀(j:Bool),h j→cnd j (∃(k:LdI),k.id=i.id∧(2:Int)=(2:Int)∧k.b.top1=i.b.top1∧k.b.top2=i.b.top2∧k.b.has1=i.b.has1∧k.b.has2=i.b.has2∧AObj.adt Arena 3 zH k.b.a=AObj.adt Arena 3 zH i.b.a∧List.map zC k.b.buys=List.map zC i.b.buys∧List.map zC k.b.sells=List.map zC i.b.sells∧atE k.b.at_=atE i.b.at_∧iE k.b.spare=iE i.b.spare∧(p7 k)∧∀(l:Unit),True→∃(m:BkP),(2:Int)=(2:Int)∧m.price=i.price∧m.b.top1=k.b.top1∧m.b.top2=k.id∧m.b.has1=k.b.has1∧m.b.has2=true∧AObj.adt Arena 3 zH m.b.a=AObj.adt Arena 3 zH (k.b.untop 2)∧List.map zC m.b.buys=List.map zC k.b.buys∧List.map zC m.b.sells=List.map zC k.b.sells∧atE m.b.at_=atE k.b.at_∧iE m.b.spare=iE k.b.spare∧zDt m i j) (∃(k:BkP),(2:Int)=(2:Int)∧k.price=i.price∧k.b.top1=i.b.top1∧k.b.top2=i.b.top2∧k.b.has1=i.b.has1∧k.b.has2=i.b.has2∧AObj.adt Arena 3 zH k.b.a=AObj.adt Arena 3 zH i.b.a∧List.map zC k.b.buys=List.map zC i.b.buys∧List.map zC k.b.sells=List.map zC i.b.sells∧atE k.b.at_=atE i.b.at_∧iE k.b.spare=iE i.b.spare∧zDt k i j))))))
def zFw (a:SaI):Prop:=AObj.fro 1 (iE (MSt.addF a).fst.p.months)=AObj.fro 1 (iE a.s.p.months)∧AObj.fro 1 (iE (MSt.addF a).fst.p.settle)=AObj.fro 1 (iE a.s.p.settle)∧True
def zFd (a:SaI):Prop:=yU (MSt.addF a).fst.wh=yU a.s.wh∧zFw a
def sA (a:SaI):Prop:=sb (MSt.addF a).fst.p.code=sb a.s.p.code∧(MSt.addF a).fst.p.tick=a.s.p.tick∧(MSt.addF a).fst.p.low=a.s.p.low∧(MSt.addF a).fst.p.high=a.s.p.high∧(MSt.addF a).fst.p.wide=a.s.p.wide∧(MSt.addF a).fst.p.rule=a.s.p.rule∧(MSt.addF a).fst.p.top=a.s.p.top∧(MSt.addF a).fst.p.least=a.s.p.least∧(MSt.addF a).fst.p.part=a.s.p.part∧AObj.objs 184 Book 6 zS (MSt.addF a).fst.books none=AObj.objs 184 Book 6 zS a.s.books none∧zFd a
def zIo (a:SaI):Prop:=∃(b:Unit),(MSt.addF a).snd=20∧sA a
def mF (a:BaJ):=(a.i.b.addF (zB a.s) a.i.id a.i.price a.i.qty)
def yLu (i:SaI):Prop:=
 (∀(a:Value×List D),a∈yU i.s.wh→like (Value.int IntKind.i64 i.id) a.fst=true)∧∃(a:Bool),∃(b:Int),(qY (Value.int IntKind.i64 i.id) (yU i.s.wh)=some [dI b]∧a=true∨qY (Value.int IntKind.i64 i.id) (yU i.s.wh)=none∧[dI b]=[dI 0]∧a=false)∧cnd (decide (i.inst≥0)) (cnd (!decide (i.inst<(↑i.s.books.length:Int))) (zIo i) (cnd a (∃(c:Unit),(MSt.addF i).snd=25∧sA i) (cnd (decide ((↑(yU i.s.wh).length:Int)≥250)) (∃(c:Unit),(MSt.addF i).snd=13∧sA i) (∃(c:rJ),sb c.p.code=sb i.s.p.code∧iE c.p.months=iE i.s.p.months∧c.p.tick=i.s.p.tick∧c.p.low=i.s.p.low∧c.p.high=i.s.p.high∧c.p.wide=i.s.p.wide∧c.p.rule=i.s.p.rule∧c.p.top=i.s.p.top∧c.p.least=i.s.p.least∧c.p.part=i.s.p.part∧iE c.p.settle=iE i.s.p.settle∧c.a=i.inst∧c.b=i.price∧(x7 c)∧∀(d:Unit),True→cnd (c.p.price c.a c.b !=0) (∃(e:Unit),(MSt.addF i).snd=c.p.price c.a c.b∧sA i) ((0≤i.inst∧i.inst<(↑i.s.books.length:Int))∧i.inst.toNat<i.s.books.length∧∃(e:Book),i.s.books[i.inst.toNat]?=some e∧∃(f:BaJ),f.i.id=i.id∧zB f.s=zB i.sd∧f.i.price=i.price∧f.i.qty=i.qty∧yB f.i.b=yB e∧((f.i.b.a.slots.length≤1000000∧(f.i.b.a.free≠0→∃(g:Slot),g∈f.i.b.a.slots∧g.used=false)∧∀(g:dW),g∈f.i.b.a.queues→g.last=(-1)∨0≤g.last∧g.last<(↑f.i.b.a.slots.length:Int))∧f.i.b.a.queues.length≤100000∧f.i.b.buys.length≤100000∧f.i.b.sells.length≤100000∧f.i.b.spare.length≤100000)∧∀(g:Unit),True→∃(h:Book),yB (mF f).fst=yB h∧i.inst.toNat=i.inst.toNat∧i.inst.toNat<i.s.books.length∧cnd ((mF f).snd==0) ((∀(j:Value×List D),j∈yU i.s.wh→like (Value.int IntKind.i64 i.id) j.fst=true)∧∃(j:Unit),(MSt.addF i).snd=(mF f).snd∧sb (MSt.addF i).fst.p.code=sb i.s.p.code∧(MSt.addF i).fst.p.tick=i.s.p.tick∧(MSt.addF i).fst.p.low=i.s.p.low∧(MSt.addF i).fst.p.high=i.s.p.high∧(MSt.addF i).fst.p.wide=i.s.p.wide∧(MSt.addF i).fst.p.rule=i.s.p.rule∧(MSt.addF i).fst.p.top=i.s.p.top∧(MSt.addF i).fst.p.least=i.s.p.least∧(MSt.addF i).fst.p.part=i.s.p.part∧AObj.objs 184 Book 6 zS (MSt.addF i).fst.books none=AObj.objs 184 Book 6 zS (i.s.books.set i.inst.toNat h) none∧yU (MSt.addF i).fst.wh=uC (Value.int IntKind.i64 i.id) [dI i.inst] (yU i.s.wh)∧zFw i) (∃(j:Unit),(MSt.addF i).snd=(mF f).snd∧sb (MSt.addF i).fst.p.code=sb i.s.p.code∧(MSt.addF i).fst.p.tick=i.s.p.tick∧(MSt.addF i).fst.p.low=i.s.p.low∧(MSt.addF i).fst.p.high=i.s.p.high∧(MSt.addF i).fst.p.wide=i.s.p.wide∧(MSt.addF i).fst.p.rule=i.s.p.rule∧(MSt.addF i).fst.p.top=i.s.p.top∧(MSt.addF i).fst.p.least=i.s.p.least∧(MSt.addF i).fst.p.part=i.s.p.part∧AObj.objs 184 Book 6 zS (MSt.addF i).fst.books none=AObj.objs 184 Book 6 zS (i.s.books.set i.inst.toNat h) none∧zFd i)))))) (zIo i)
open Go Cv Go.Proofs
theorem zJl {α:Type} {f:α→α} {Q:α→Prop} (hf:∀x,Q x→Q (f x)):∀{l:List α} (i:Nat),(∃x∈l,Q x)→∃x∈l.modify i f,Q x
 |[],i,⟨x,hx,_⟩=>by cases hx
 |a::l,0,⟨x,hx,q⟩=>by
  rcases yXd.1 hx with rfl|hx
  ·exact⟨f x,yWq,hf x q⟩
  ·exact⟨x,yWr _ hx,q⟩
 |a::l,i+1,⟨x,hx,q⟩=>by
  rw[y1x]
  rcases yXd.1 hx with rfl|hx
  ·exact⟨x,yWq,q⟩
  ·obtain⟨y,hy,hq⟩:=zJl hf (l:=l) i ⟨x,hx,q⟩
   exact⟨y,yWr _ hy,hq⟩
theorem yAm {a:Arena} (h:a.fit) (n:Int) (t:Bool):(a.topF n t).fit:=by
 obtain⟨h1,h2,h3⟩:=h
 rw[Arena.topF]
 split
 ·refine⟨by simpa using h1,fun hf=> ?_,by simpa using h3⟩
  exact zJl (f:=fun s:Slot=>{s with top:=t}) (Q:=fun s=>s.used=false) (fun x hx=>hx) _ (h2 hf)
 ·exact⟨h1,h2,h3⟩
theorem z5n {b:Book} (h:b.a.fit) (s:Int):(b.untop s).fit:=by
 rw[Book.untop]
 repeat' split
 all_goals first|exact h|exact yAm h _ _
theorem z5h {a:Arena} (h:a.fit):a.openQ.fit:=by
 obtain⟨h1,h2,h3⟩:=h
 refine⟨h1,h2,fun q hq=> ?_⟩
 rcases yXo.1 hq with hq|hq
 ·exact h3 q hq
 ·rw[yXz.1 hq];exact .inl rfl
theorem zTe {b:Book} (h:b.a.fit):b.newQ.2.2.fit:=by
 rw[Book.newQ]
 split
 ·exact z5h h
 ·exact h
theorem pU {b:Book} (h:b.a.fit) (s p:Int):(b.queueF s p).1.a.fit:=by
 rw[Book.queueF]
 repeat' split
 ·exact h
 ·exact zTe h
 ·exact zTe h
theorem z7w (b:Book) (s:Int):(b.untop s).slots.length=b.a.slots.length∧(b.untop s).queues=b.a.queues:=by
 have ht:∀n t,(b.a.topF n t).slots.length=b.a.slots.length∧(b.a.topF n t).queues=b.a.queues:=by
  intro n t
  rw[Arena.topF]
  split
  ·exact⟨by simp,rfl⟩
  ·exact⟨rfl,rfl⟩
 rw[Book.untop]
 repeat' split
 all_goals first|exact⟨rfl,rfl⟩|exact ht _ _
theorem zPw {b:Book} (h:b.fit) (id s:Int):(b.leadF id s).fit:=by
 obtain⟨h1,h2,h3,h4,h5⟩:=h
 have hl:=z7w b s
 rw[Book.leadF]
 split
 all_goals exact⟨z5n h1 s,by rw[hl.2];exact h2,h3,h4,h5⟩
theorem zOd {b:Book} (h:b.fit):b.small:=by
 obtain⟨⟨h1,_⟩,h2,h3,h4,h5⟩:=h
 exact⟨⟨h1,by omega⟩,by omega,by omega,by omega⟩
theorem yQj (i:BaI) (h:badd1C.cnd i):yBm i:=by
 have hfit:i.b.fit:=h
 have hsm:=zOd hfit
 unfold yBm vW zEq aY eK tD eR zDz zO nU nB yG yN p7 nQ dI
 have plc:∀(b:Book) (x:Int),uC (Value.int IntKind.i64 i.id) [D.v (.int .i64 1),D.v (.int .i64 i.price),D.v (.int .i64 x)] (atE b.at_)=atE (nT i.id ⟨1,i.price,x⟩ b.at_):=fun b x=>zPz i.id ⟨1,i.price,x⟩ b.at_
 refine⟨jU _ _,(pget i.b.at_ i.id).isSome,_,_,_,zNj _ _,1,rfl,trivial,fun _ _=> ?_⟩
 refine Cv.cnd.mk (fun c=>absurd c (by decide)) fun _=> ?_
 refine zJ (fun c=> ?_) (fun c=>zJ (fun d=> ?_) (fun d=> ?_))
 ·have ha:i.b.addF 1 i.id i.price i.qty=(i.b,24):=by rw[Book.addF,yWm (.inl c)]
  rw[ha];(repeat'(first|exact rfl|exact trivial|assumption|apply And.intro|refine fun(_:Unit) (_:True)=>?_|refine Exists.intro () ?_|omega|(dsimp only;omega)))
 ·have ha:i.b.addF 1 i.id i.price i.qty=(i.b,24):=by rw[Book.addF,yWm (.inr d)]
  rw[ha];(repeat'(first|exact rfl|exact trivial|assumption|apply And.intro|refine fun(_:Unit) (_:True)=>?_|refine Exists.intro () ?_|omega|(dsimp only;omega)))
 have hq:¬(i.qty<1∨1000000<i.qty):=by omega
 refine Cv.cnd.mk (fun e=> ?_) (fun e=> ?_)
 ·have ha:i.b.addF 1 i.id i.price i.qty=(i.b,25):=by rw[Book.addF,yWl hq,yWm e]
  rw[ha];(repeat'(first|exact rfl|exact trivial|assumption|apply And.intro|refine fun(_:Unit) (_:True)=>?_|refine Exists.intro () ?_|omega|(dsimp only;omega)))
 have hlen:(atE i.b.at_).length=i.b.at_.length:=by simp[atE]
 rw[hlen]
 refine zJ (fun f=> ?_) (fun f=> ?_)
 ·have ha:i.b.addF 1 i.id i.price i.qty=(i.b,13):=by rw[Book.addF,yWl hq,yWl (by rw[e];decide),yWm (by omega)]
  rw[ha];(repeat'(first|exact rfl|exact trivial|assumption|apply And.intro|refine fun(_:Unit) (_:True)=>?_|refine Exists.intro () ?_|omega|(dsimp only;omega)))
 have ha:i.b.addF 1 i.id i.price i.qty=(i.b.stand 1 i.id i.price i.qty,0):=by rw[Book.addF,yWl hq,yWl (by rw[e];decide),yWl (by omega)]
 rw[ha]
 simp only[yWo]
 refine⟨true,fun x=>x=i.b.leads 1 i.price,Cv.cnd.mk (fun g=>⟨true,rfl,?_,by(repeat'(first|exact trivial|exact rfl|apply And.intro))⟩) (fun g=> ?_),fun x hx=> ?_⟩
 ·have:i.b.buys=[]:=yXr (by have:(i.b.buys.length:Int)=0:=(by simpa using g);omega)
  rw[Book.leads,nM,this]
 ·obtain⟨r,l,hl⟩:∃r l,i.b.buys=r::l:=by
   cases hb:i.b.buys with
   |nil=>rw[hb]at g;exact absurd g (by decide)
   |cons r l=>exact⟨r,l,rfl⟩
  refine⟨⟨by omega,by rw[hl,yXa];omega⟩,r.price,elA (x:=r) (by rw[hl];rfl) (by simp[zC]) rfl,⟨1,i.price,r.price⟩,rfl,rfl,rfl,trivial,fun _ _=>⟨_,rfl,?_,by(repeat'(first|exact trivial|exact rfl|apply And.intro))⟩⟩
  rw[Book.leads,nM,hl]
 subst hx
 refine Cv.cnd.mk (fun g=> ?_) (fun g=> ?_)
 ·have hled:i.b.led i.id 1 i.price=i.b.leadF i.id 1:=by rw[Book.led,yWm g]
  have hf1:=zPw hfit i.id 1
  have hst:i.b.stand 1 i.id i.price i.qty={((i.b.leadF i.id 1).queueF 1 i.price).1 with a:=(((i.b.leadF i.id 1).queueF 1 i.price).1.a.push ((i.b.leadF i.id 1).queueF 1 i.price).2 i.id i.qty (i.b.leads 1 i.price)).1,at_:=nT i.id ⟨1,i.price,(((i.b.leadF i.id 1).queueF 1 i.price).1.a.push ((i.b.leadF i.id 1).queueF 1 i.price).2 i.id i.qty (i.b.leads 1 i.price)).2.1⟩ ((i.b.leadF i.id 1).queueF 1 i.price).1.at_}:=by
   simp only[Book.stand,hled]
  refine⟨⟨i.b,i.id⟩,rfl,trivial,rfl,rfl,rfl,rfl,rfl,rfl,rfl,rfl,rfl,hsm,fun _ _=>⟨⟨i.b.leadF i.id 1,i.price⟩,trivial,rfl,rfl,rfl,rfl,rfl,rfl,rfl,rfl,rfl,rfl,hf1,fun _ _=>⟨trivial,?_⟩⟩⟩
  refine⟨⟨((i.b.leadF i.id 1).queueF 1 i.price).1.a,((i.b.leadF i.id 1).queueF 1 i.price).2,i.id,i.qty,i.b.leads 1 i.price⟩,rfl,rfl,rfl,rfl,rfl,pU hf1.1 1 i.price,fun _ _=>⟨jU _ _,(),?_⟩⟩
  dsimp only
  rw[hst,plc]
  (repeat'(first|exact rfl|exact trivial|assumption|apply And.intro|refine fun(_:Unit) (_:True)=>?_|refine Exists.intro () ?_|omega|(dsimp only;omega)))
 ·have hled:i.b.led i.id 1 i.price=i.b:=by rw[Book.led,yWl (by rw[g];decide)]
  have hst:i.b.stand 1 i.id i.price i.qty={(i.b.queueF 1 i.price).1 with a:=((i.b.queueF 1 i.price).1.a.push (i.b.queueF 1 i.price).2 i.id i.qty (i.b.leads 1 i.price)).1,at_:=nT i.id ⟨1,i.price,((i.b.queueF 1 i.price).1.a.push (i.b.queueF 1 i.price).2 i.id i.qty (i.b.leads 1 i.price)).2.1⟩ (i.b.queueF 1 i.price).1.at_}:=by
   simp only[Book.stand,hled]
  refine⟨⟨i.b,i.price⟩,trivial,rfl,rfl,rfl,rfl,rfl,rfl,rfl,rfl,rfl,rfl,hfit,fun _ _=>⟨trivial,?_⟩⟩
  refine⟨⟨(i.b.queueF 1 i.price).1.a,(i.b.queueF 1 i.price).2,i.id,i.qty,i.b.leads 1 i.price⟩,rfl,rfl,rfl,rfl,rfl,pU hfit.1 1 i.price,fun _ _=>⟨jU _ _,(),?_⟩⟩
  dsimp only
  rw[hst,plc]
  (repeat'(first|exact rfl|exact trivial|assumption|apply And.intro|refine fun(_:Unit) (_:True)=>?_|refine Exists.intro () ?_|omega|(dsimp only;omega)))
theorem yCa:badd1C.ok Tryz.prog 194:=okw mixed (gokc zEv (gokc aC (gokc yBk (gokc z6w (gokc zUh gok0))))) 0 (fun _=>yKt) (fun _=>[]) [0] Tryz.func194 yQj
theorem yNv (i:BaI) (h:badd2C.cnd i):yGb i:=by
 have hfit:i.b.fit:=h
 have hsm:=zOd hfit
 unfold yGb vW zEk mD zDt zN nU nB yG yM eK tD eR p7 nQ dI
 have plc:∀(b:Book) (x:Int),uC (Value.int IntKind.i64 i.id) [D.v (.int .i64 2),D.v (.int .i64 i.price),D.v (.int .i64 x)] (atE b.at_)=atE (nT i.id ⟨2,i.price,x⟩ b.at_):=fun b x=>zPz i.id ⟨2,i.price,x⟩ b.at_
 refine⟨jU _ _,(pget i.b.at_ i.id).isSome,_,_,_,zNj _ _,2,rfl,trivial,fun _ _=> ?_⟩
 refine Cv.cnd.mk (fun c=>absurd c (by decide)) fun _=> ?_
 refine zJ (fun c=> ?_) (fun c=>zJ (fun d=> ?_) (fun d=> ?_))
 ·have ha:i.b.addF 2 i.id i.price i.qty=(i.b,24):=by rw[Book.addF,yWm (.inl c)]
  rw[ha];(repeat'(first|exact rfl|exact trivial|assumption|apply And.intro|refine fun(_:Unit) (_:True)=>?_|refine Exists.intro () ?_|omega|(dsimp only;omega)))
 ·have ha:i.b.addF 2 i.id i.price i.qty=(i.b,24):=by rw[Book.addF,yWm (.inr d)]
  rw[ha];(repeat'(first|exact rfl|exact trivial|assumption|apply And.intro|refine fun(_:Unit) (_:True)=>?_|refine Exists.intro () ?_|omega|(dsimp only;omega)))
 have hq:¬(i.qty<1∨1000000<i.qty):=by omega
 refine Cv.cnd.mk (fun e=> ?_) (fun e=> ?_)
 ·have ha:i.b.addF 2 i.id i.price i.qty=(i.b,25):=by rw[Book.addF,yWl hq,yWm e]
  rw[ha];(repeat'(first|exact rfl|exact trivial|assumption|apply And.intro|refine fun(_:Unit) (_:True)=>?_|refine Exists.intro () ?_|omega|(dsimp only;omega)))
 have hlen:(atE i.b.at_).length=i.b.at_.length:=by simp[atE]
 rw[hlen]
 refine zJ (fun f=> ?_) (fun f=> ?_)
 ·have ha:i.b.addF 2 i.id i.price i.qty=(i.b,13):=by rw[Book.addF,yWl hq,yWl (by rw[e];decide),yWm (by omega)]
  rw[ha];(repeat'(first|exact rfl|exact trivial|assumption|apply And.intro|refine fun(_:Unit) (_:True)=>?_|refine Exists.intro () ?_|omega|(dsimp only;omega)))
 have ha:i.b.addF 2 i.id i.price i.qty=(i.b.stand 2 i.id i.price i.qty,0):=by rw[Book.addF,yWl hq,yWl (by rw[e];decide),yWl (by omega)]
 rw[ha]
 simp only[yWo]
 refine⟨true,fun x=>x=i.b.leads 2 i.price,Cv.cnd.mk (fun g=>⟨true,rfl,?_,by(repeat'(first|exact trivial|exact rfl|apply And.intro))⟩) (fun g=> ?_),fun x hx=> ?_⟩
 ·have:i.b.sells=[]:=yXr (by have:(i.b.sells.length:Int)=0:=(by simpa using g);omega)
  rw[Book.leads,nW,this]
 ·obtain⟨r,l,hl⟩:∃r l,i.b.sells=r::l:=by
   cases hb:i.b.sells with
   |nil=>rw[hb]at g;exact absurd g (by decide)
   |cons r l=>exact⟨r,l,rfl⟩
  refine⟨⟨by omega,by rw[hl,yXa];omega⟩,r.price,elA (x:=r) (by rw[hl];rfl) (by simp[zC]) rfl,⟨2,i.price,r.price⟩,rfl,rfl,rfl,trivial,fun _ _=>⟨_,rfl,?_,by(repeat'(first|exact trivial|exact rfl|apply And.intro))⟩⟩
  rw[Book.leads,nW,hl]
 subst hx
 refine Cv.cnd.mk (fun g=> ?_) (fun g=> ?_)
 ·have hled:i.b.led i.id 2 i.price=i.b.leadF i.id 2:=by rw[Book.led,yWm g]
  have hf1:=zPw hfit i.id 2
  have hst:i.b.stand 2 i.id i.price i.qty={((i.b.leadF i.id 2).queueF 2 i.price).1 with a:=(((i.b.leadF i.id 2).queueF 2 i.price).1.a.push ((i.b.leadF i.id 2).queueF 2 i.price).2 i.id i.qty (i.b.leads 2 i.price)).1,at_:=nT i.id ⟨2,i.price,(((i.b.leadF i.id 2).queueF 2 i.price).1.a.push ((i.b.leadF i.id 2).queueF 2 i.price).2 i.id i.qty (i.b.leads 2 i.price)).2.1⟩ ((i.b.leadF i.id 2).queueF 2 i.price).1.at_}:=by
   simp only[Book.stand,hled]
  refine⟨⟨i.b,i.id⟩,rfl,trivial,rfl,rfl,rfl,rfl,rfl,rfl,rfl,rfl,rfl,hsm,fun _ _=>⟨⟨i.b.leadF i.id 2,i.price⟩,trivial,rfl,rfl,rfl,rfl,rfl,rfl,rfl,rfl,rfl,rfl,hf1,fun _ _=>⟨trivial,?_⟩⟩⟩
  refine⟨⟨((i.b.leadF i.id 2).queueF 2 i.price).1.a,((i.b.leadF i.id 2).queueF 2 i.price).2,i.id,i.qty,i.b.leads 2 i.price⟩,rfl,rfl,rfl,rfl,rfl,pU hf1.1 2 i.price,fun _ _=>⟨jU _ _,(),?_⟩⟩
  dsimp only
  rw[hst,plc]
  (repeat'(first|exact rfl|exact trivial|assumption|apply And.intro|refine fun(_:Unit) (_:True)=>?_|refine Exists.intro () ?_|omega|(dsimp only;omega)))
 ·have hled:i.b.led i.id 2 i.price=i.b:=by rw[Book.led,yWl (by rw[g];decide)]
  have hst:i.b.stand 2 i.id i.price i.qty={(i.b.queueF 2 i.price).1 with a:=((i.b.queueF 2 i.price).1.a.push (i.b.queueF 2 i.price).2 i.id i.qty (i.b.leads 2 i.price)).1,at_:=nT i.id ⟨2,i.price,((i.b.queueF 2 i.price).1.a.push (i.b.queueF 2 i.price).2 i.id i.qty (i.b.leads 2 i.price)).2.1⟩ (i.b.queueF 2 i.price).1.at_}:=by
   simp only[Book.stand,hled]
  refine⟨⟨i.b,i.price⟩,trivial,rfl,rfl,rfl,rfl,rfl,rfl,rfl,rfl,rfl,rfl,hfit,fun _ _=>⟨trivial,?_⟩⟩
  refine⟨⟨(i.b.queueF 2 i.price).1.a,(i.b.queueF 2 i.price).2,i.id,i.qty,i.b.leads 2 i.price⟩,rfl,rfl,rfl,rfl,rfl,pU hfit.1 2 i.price,fun _ _=>⟨jU _ _,(),?_⟩⟩
  dsimp only
  rw[hst,plc]
  (repeat'(first|exact rfl|exact trivial|assumption|apply And.intro|refine fun(_:Unit) (_:True)=>?_|refine Exists.intro () ?_|omega|(dsimp only;omega)))
theorem z8o:badd2C.ok Tryz.prog 194:=okw mixed (gokc zEv (gokc aC (gokc z9q (gokc z8i (gokc zUh gok0))))) 0 (fun _=>yKt) (fun _=>[]) [0] Tryz.func194 yNv
theorem yJa:baddC.ok Tryz.prog 194:=fun j=>match j with
 |⟨i,false⟩=>yCa i
 |⟨i,true⟩=>z8o i
theorem yTm (i:SaI) (h:saddC.cnd i):yLu i:=by
 obtain⟨hp,hbl,hb⟩:i.s.fit:=h
 unfold yLu zIo sA mF zFd zFw x7 dI
 simp only[zUj]
 have hml:(yU i.s.wh).length=i.s.wh.length:=by simp[yU]
 rw[hml]
 have out (e:i.inst<0∨i.s.books.length≤i.inst):MSt.addF i=(i.s,20):=by rw[MSt.addF,yWm e]
 refine⟨dD _ _,(lT i.s.wh i.id).isSome,_,yNk _ _,zJ (fun c=>Cv.cnd.mk (fun d=> ?_) (fun d=> ?_)) (fun c=> ?_)⟩
 ·have d:¬i.inst<(i.s.books.length:Int):=by simpa using d
  rw[out (.inr (by omega))];(repeat'(first|exact rfl|exact trivial|assumption|apply And.intro|refine fun(_:Unit) (_:True)=>?_|refine Exists.intro () ?_|omega|(dsimp only;omega)))
 ·have d:i.inst<(i.s.books.length:Int):=by simpa using d
  have hn:¬(i.inst<0∨(i.s.books.length:Int)≤i.inst):=by omega
  refine Cv.cnd.mk (fun e=> ?_) (fun e=>zJ (fun f=> ?_) (fun f=> ?_))
  ·rw[MSt.addF,yWl hn,yWm e];(repeat'(first|exact rfl|exact trivial|assumption|apply And.intro|refine fun(_:Unit) (_:True)=>?_|refine Exists.intro () ?_|omega|(dsimp only;omega)))
  ·rw[MSt.addF,yWl hn,yWl (by rw[e];decide),yWm (by omega)];(repeat'(first|exact rfl|exact trivial|assumption|apply And.intro|refine fun(_:Unit) (_:True)=>?_|refine Exists.intro () ?_|omega|(dsimp only;omega)))
  ·refine⟨⟨i.s.p,i.inst,i.price⟩,rfl,rfl,rfl,rfl,rfl,rfl,rfl,rfl,rfl,rfl,rfl,rfl,rfl,hp,fun _ _=>Cv.cnd.mk (fun g=> ?_) (fun g=> ?_)⟩
   ·have g:i.s.p.price i.inst i.price≠0:=by simpa using g
    rw[MSt.addF,yWl hn,yWl (by rw[e];decide),yWl (by omega),yWm g];(repeat'(first|exact rfl|exact trivial|assumption|apply And.intro|refine fun(_:Unit) (_:True)=>?_|refine Exists.intro () ?_|omega|(dsimp only;omega)))
   ·have g:i.s.p.price i.inst i.price=0:=by simpa using g
    obtain⟨x,hx⟩:=yA (l:=i.s.books) (i:=i.inst.toNat) (by omega)
    have hba:i.s.bookAt i.inst=x:=zK hx
    have ha:MSt.addF i=({i.s with books:=i.s.books.set i.inst.toNat (x.addF (zB i.sd) i.id i.price i.qty).1,wh:=if(x.addF (zB i.sd) i.id i.price i.qty).2=0 then zUu i.id i.inst i.s.wh else i.s.wh},(x.addF (zB i.sd) i.id i.price i.qty).2):=by
     rw[MSt.addF,yWl hn,yWl (by rw[e];decide),yWl (by omega),yWl (by simp[g])]
     simp only[hba]
    refine⟨⟨by omega,by omega⟩,by omega,x,hx,⟨⟨x,i.id,i.price,i.qty⟩,i.sd⟩,rfl,rfl,rfl,rfl,rfl,hb x (yWv hx),fun _ _=>⟨(x.addF (zB i.sd) i.id i.price i.qty).1,rfl,trivial,by omega,Cv.cnd.mk (fun z=>⟨dD _ _,?_⟩) (fun z=> ?_)⟩⟩
    ·have z:(x.addF (zB i.sd) i.id i.price i.qty).2=0:=by simpa using z
     rw[ha,z]
     simp only[if_true]
     (repeat'(first|exact rfl|exact trivial|assumption|apply And.intro|refine fun(_:Unit) (_:True)=>?_|refine Exists.intro () ?_|omega|(dsimp only;omega)))
    ·have z:¬(x.addF (zB i.sd) i.id i.price i.qty).2=0:=by simpa using z
     rw[ha,yWl z]
     (repeat'(first|exact rfl|exact trivial|assumption|apply And.intro|refine fun(_:Unit) (_:True)=>?_|refine Exists.intro () ?_|omega|(dsimp only;omega)))
 ·rw[out (.inl (by omega))];(repeat'(first|exact rfl|exact trivial|assumption|apply And.intro|refine fun(_:Unit) (_:True)=>?_|refine Exists.intro () ?_|omega|(dsimp only;omega)))
theorem yGy:saddC.ok Tryz.prog 156:=okw mixed (gokc sR (gokc yJa gok0)) 1 (fun _=>[]) (fun _=>[]) [0] Tryz.func156 yTm
open Go Cv Go.Proofs
def r3prodC:Con:=con1 (List UInt8) (fun s=>[sV s]) (fun _=>[]) (fun s=>s.length≤1099511627776) (fun s=>yL (wB s)) (fun _=>[])
def yJw (s:List UInt8):List SAnn:=[{ι:=Nat×Nat,slots:=fun x=>[(3,zA x.2),(7,.nm 0 0)],rows:=fun x=>[.iter (sb s) x.1]}]
def yIl:List (Nat×SAnn):=[(20,bj 29)]
def r5checkC:Con:=con1 Prd (fun p=>[prdV p]) (fun _=>[]) Prd.small (fun p=>zA p.check) (fun _=>[])
def yCi:List SAnn:=[{ι:=Nat,slots:=fun j=>[(3,zA j)],rows:=fun _=>[]},{ι:=Nat,slots:=fun j=>[(4,zA j)],rows:=fun _=>[]},{ι:=Nat,slots:=fun j=>[(5,zA j)],rows:=fun _=>[]}]
def yEe:List (Nat×SAnn):=[(12,bj 19),(32,bj 58),(40,bj 90),(68,bj 136),(96,bj 168),(104,bj 176),(112,bj 204)]
def r5countC:Con:=con1 Prd (fun p=>[prdV p]) (fun _=>[]) Prd.small (fun p=>zA p.count) (fun _=>[])
def r5legsC:Con:=con1 dZ (fun i=>[prdV i.p,zA i.n]) (fun _=>[]) (fun i=>i.p.small) (fun i=> .tup [zA (i.p.legs i.n).1,zA (i.p.legs i.n).2.1,yL (i.p.legs i.n).2.2]) (fun _=>[])
def yIf (i:dZ):List SAnn:=[{ι:=Nat,slots:=fun m=>[(8,zA (yH i.p.months.length m)),(9,zA m)],rows:=fun _=>[]},
 {ι:=Nat×Nat,slots:=fun m=>[(8,zA ((yH i.p.months.length m.1+m.2:Nat):Int)),(9,zA m.1),(10,zA ((m.1+1+m.2:Nat):Int))],rows:=fun _=>[]}]
def kN (x:Prd):Int:=2+zG x.months.length 0 3
def zU (x:Prd):Int:=1+zG x.tick 0 9
def jI (n:Nat):List Int:=(List.range n).map fun(i:Nat)=>10*(i:Int)+3
def kD (t:Int) (n:Nat):List Int:=(List.range n).map fun(i:Nat)=>t*(10+(i:Int))
def yC (x:Prd):Prd:=⟨[206,169],jI (kN x).toNat,zU x,-20*zU x,100*zU x,zU x*(5+zG x.wide 0 60),1+zG x.rule 0 2,zG x.top 0 9,1+zG x.least 0 4,zG x.part 0 100,kD (zU x) (kN x).toNat⟩
@[reducible] def Prd.raw (x:Prd):Prop:=yV x.tick∧yV x.wide∧yV x.rule∧yV x.top∧yV x.least∧yV x.part∧x.months.length≤9223372036854775807
def kprodC:Con:=con1 Prd (fun x=>[prdV x]) (fun _=>[]) Prd.raw (fun x=>prdV (yC x)) (fun _=>[])
def yVc (x:Prd) (w:Int) (j:Nat):List AObj:=[.cells [sV [206,169],.own 1,zA (zU x),zA (-20*zU x),zA (100*zU x),zA w,zA (1+zG x.rule 0 2),zA (zG x.top 0 9),zA (1+zG x.least 0 4),zA (zG x.part 0 100),.own 2] 26,.own 3 1 (iE (jI j)),.own 2 1 (iE (kD (zU x) j))]
def yTn (x:Prd):List AObj:=[.cells [sV [206,169],.d (.v (.slice none 0 0)),zA (zU x),zA (-20*zU x),zA (100*zU x),zA 0,zA (1+zG x.rule 0 2),zA (zG x.top 0 9),zA (1+zG x.least 0 4),zA (zG x.part 0 100),.d (.v (.slice none 0 0))] 26]
def yPz (x:Prd):List SAnn:=[{ι:=Nat,slots:=fun j=>[(5,.nm 0 0),(6,zA j)],rows:=fun j=>yVc x (zU x*(5+zG x.wide 0 60)) j}]
def yRg (x:Prd):List (Nat×SAnn):=[(12,{ι:=Unit,slots:=fun _=>[(5,.nm 0 0)],slots0:=fun _=>[],rows0:=fun _=>[],rows:=fun _=>yTn x})]
open Go Cv Go.Proofs
def aT (a:Bool→Prop) (b:Bool) (c:List UInt8) (d:Nat×Nat):Prop:=a b∧Sx.AObj.iter (sb c) (d.fst+(Utf8.decode (sb c) d.fst).snd)=Sx.AObj.iter (sb c) (d.fst+(Utf8.decode (sb c) d.fst).snd)
def qA (a:List UInt8) (b:Nat×Nat):=(↑(Utf8.decode (sb a) b.fst).fst:Int)
def sJ (a:List UInt8) (b:Nat×Nat) (c:Bool→Prop):Prop:=∃(d:Bool),d=!(qA a b) !=930∧aT c d a b
def dY (a:Bool→Prop) (b:List UInt8) (c:Nat×Nat):Prop:=∃(d:Bool),d=!false∧aT a d b c
def z4y (s:List UInt8):Prop:=
 ∃(a:Nat×Nat),(↑a.snd:Int)=0∧sb s=sb s∧a.fst=0∧∃(b:Nat×Nat→Prop),∃(c:Nat×Nat→Nat),b a∧∀(d:Nat×Nat),b d→cnd (d.fst.blt (sb s).size) (∃(e:Bool),∃(f:Bool→Prop),cnd (decide ((qA s d)≥65)) (cnd (decide ((qA s d)≤90)) (∃(g:Bool),g=!true∧aT f g s d) (cnd (decide ((qA s d)≥913)) (cnd (decide ((qA s d)≤937)) (sJ s d f) (dY f s d)) (dY f s d))) (cnd (decide ((qA s d)≥913)) (cnd (decide ((qA s d)≤937)) (sJ s d f) (dY f s d)) (dY f s d))∧∀(g:Bool),f g→cnd g (∃(h:Unit),wB s=false∧True) (dH d s b c)) (cnd (decide ((↑d.snd:Int)≥1)) (∃(e:Unit),wB s=decide ((↑d.snd:Int)≤4)∧True) (∃(e:Unit),wB s=false∧True))
def mG (a:Prd):Prop:=Sx.AObj.cells [V.d (uP a),V.own 0,V.d (dI a.tick),V.d (dI a.low),V.d (dI a.high),V.d (dI a.wide),V.d (dI a.rule),V.d (dI a.top),V.d (dI a.least),V.d (dI a.part),V.own ((0:Nat)+(1:Nat))] 26=Sx.AObj.cells [V.d (uP a),V.own 0,V.d (dI a.tick),V.d (dI a.low),V.d (dI a.high),V.d (dI a.wide),V.d (dI a.rule),V.d (dI a.top),V.d (dI a.least),V.d (dI a.part),V.own ((0:Nat)+(1:Nat))] 26∧cY a
def rT (a:Nat) (b:Nat→Prop) (c:Nat→Nat) (d:Prd):Prop:=∃(e:Nat),(↑e:Int)=IntKind.i64.wrap ((↑a:Int)+1)∧b e∧c e<c a∧mG d
def rW (a:Bool→Prop) (b:Prd) (c:Nat) (d:Nat→Prop) (e:Nat→Nat):Prop:=∀(f:Bool),a f→cnd f (∃(g:Unit),b.check=1∧True) (rT c d e b)
def kH (a:Bool→Prop) (b:Bool) (c:Prd):Prop:=a b∧mG c
def yW (a:Bool→Prop) (b:Prd):Prop:=∃(c:Bool),c=true∧kH a c b
def zUv (p:Prd):Prop:=
 ∃(a:List UInt8),sb a=sb p.code∧a.length≤1099511627776∧∀(b:Unit),True→cnd (!wB a) (∃(c:Unit),p.check=12∧True) (∃(c:Bool),∃(d:Bool→Prop),cnd (decide ((xH p)<2)) (yW d p) (∃(e:Bool),e=decide ((xH p)>6)∧kH d e p)∧∀(e:Bool),d e→cnd e (∃(f:Unit),p.check=1∧True) (∃(f:Nat),(↑f:Int)=0∧∃(g:Nat→Prop),∃(h:Nat→Nat),g f∧∀(j:Nat),g j→cnd (decide ((↑j:Int)<(xH p))) (∃(k:Bool),∃(l:Bool→Prop),((0≤(↑j:Int)∧(↑j:Int)<(xH p))∧∃(m:Int),zF (iE p.months) (↑j:Int).toNat 0 1=some [dI m]∧cnd (decide (m<0)) (yW l p) ((0≤(↑j:Int)∧(↑j:Int)<(xH p))∧∃(n:Int),zF (iE p.months) (↑j:Int).toNat 0 1=some [dI n]∧cnd (decide (n>1199)) (yW l p) (cnd (decide ((↑j:Int)>0)) ((0≤IntKind.i64.wrap ((↑j:Int)-1)∧IntKind.i64.wrap ((↑j:Int)-1)<(xH p))∧∃(q:Int),zF (iE p.months) (IntKind.i64.wrap ((↑j:Int)-1)).toNat 0 1=some [dI q]∧(0≤(↑j:Int)∧(↑j:Int)<(xH p))∧∃(r:Int),zF (iE p.months) (↑j:Int).toNat 0 1=some [dI r]∧∃(s:Bool),s=decide (q≥r)∧kH l s p) (∃(q:Bool),q=false∧kH l q p))))∧rW l p j g h) (∃(k:Bool),∃(l:Bool→Prop),cnd (decide (p.tick<1)) (yW l p) (cnd (decide (p.tick>1000)) (yW l p) (IntKind.i64=IntKind.i64∧p.tick≠0∧cnd (p.low.tmod p.tick !=0) (yW l p) (IntKind.i64=IntKind.i64∧p.tick≠0∧cnd (p.high.tmod p.tick !=0) (yW l p) (IntKind.i64=IntKind.i64∧p.tick≠0∧∃(m:Bool),m=(p.wide.tmod p.tick !=0)∧kH l m p))))∧∀(m:Bool),l m→cnd m (∃(n:Unit),p.check=22∧True) (∃(n:Nat),(↑n:Int)=0∧∃(q:Nat→Prop),∃(r:Nat→Nat),q n∧∀(s:Nat),q s→cnd (decide ((↑s:Int)<(wL p))) ((0≤(↑s:Int)∧(↑s:Int)<(wL p))∧∃(t:Int),zF (iE p.settle) (↑s:Int).toNat 0 1=some [dI t]∧IntKind.i64=IntKind.i64∧p.tick≠0∧cnd (t.tmod p.tick !=0) (∃(u:Unit),p.check=22∧True) (rT s q r p)) (∃(t:Bool),∃(u:Bool→Prop),cnd (decide (p.low<(-1000000))) (yW u p) (cnd (decide (p.low≥p.high)) (yW u p) (cnd (decide (p.high>1000000)) (yW u p) (cnd (decide (p.wide<0)) (yW u p) (∃(v:Bool),v=decide (p.wide>IntKind.i64.wrap (p.high-p.low))∧kH u v p))))∧∀(v:Bool),u v→cnd v (∃(w:Unit),p.check=23∧True) (cnd ((wL p) !=(xH p)) (∃(w:Unit),p.check=1∧True) (∃(w:Nat),(↑w:Int)=0∧∃(x:Nat→Prop),∃(y:Nat→Nat),x w∧∀(z:Nat),x z→cnd (decide ((↑z:Int)<(wL p))) (∃(a_1:Bool),∃(a_2:Bool→Prop),((0≤(↑z:Int)∧(↑z:Int)<(wL p))∧∃(a_3:Int),zF (iE p.settle) (↑z:Int).toNat 0 1=some [dI a_3]∧cnd (decide (a_3<p.low)) (yW a_2 p) ((0≤(↑z:Int)∧(↑z:Int)<(wL p))∧∃(a_4:Int),zF (iE p.settle) (↑z:Int).toNat 0 1=some [dI a_4]∧∃(a_5:Bool),a_5=decide (a_4>p.high)∧kH a_2 a_5 p))∧rW a_2 p z x y) (∃(a_1:Bool),∃(a_2:Bool→Prop),cnd (decide (p.rule<1)) (yW a_2 p) (∃(a_3:Bool),a_3=decide (p.rule>3)∧kH a_2 a_3 p)∧∀(a_3:Bool),a_2 a_3→cnd a_3 (∃(a_4:Unit),p.check=31∧True) (∃(a_4:Bool),∃(a_5:Bool→Prop),cnd (decide (p.top<0)) (yW a_5 p) (cnd (decide (p.top>1000000)) (yW a_5 p) (cnd (decide (p.least<1)) (yW a_5 p) (cnd (decide (p.least>1000)) (yW a_5 p) (cnd (decide (p.part<0)) (yW a_5 p) (∃(a_6:Bool),a_6=decide (p.part>100)∧kH a_5 a_6 p)))))∧∀(a_6:Bool),a_5 a_6→cnd a_6 (∃(a_7:Unit),p.check=24∧True) (∃(a_7:Unit),p.check=0∧True))))))))))
def zVr (p:Prd):Prop:=
 ∃(a:Prd),nX a p
def g8 (a:dZ) (b:Nat×Nat):=(↑(yH a.p.months.length b.fst+b.snd):Int)
def z2h (i:dZ):Prop:=
 ∃(a:Prd),sb a.code=sb i.p.code∧iE a.months=iE i.p.months∧a.tick=i.p.tick∧a.low=i.p.low∧a.high=i.p.high∧a.wide=i.p.wide∧a.rule=i.p.rule∧a.top=i.p.top∧a.least=i.p.least∧a.part=i.p.part∧iE a.settle=iE i.p.settle∧(z8 a)∧∀(b:Unit),True→cnd (a.check !=0) (g7 i) (cnd (decide (i.n<0)) (g7 i) (cnd (decide (i.n<(wU i))) (tQ i) (∃(c:Nat),(uD i c)=(wU i)∧(↑c:Int)=0∧∃(d:Nat→Prop),∃(e:Nat→Nat),d c∧∀(f:Nat),d f→cnd (decide ((↑f:Int)<(wU i))) (∃(g:Nat×Nat),(g8 i g)=(uD i f)∧(↑g.fst:Int)=(↑f:Int)∧(↑(g.fst+1+g.snd):Int)=IntKind.i64.wrap ((↑f:Int)+1)∧∃(h:Nat×Nat→Prop),∃(j:Nat×Nat→Nat),h g∧∀(k:Nat×Nat),h k→cnd (decide ((↑(k.fst+1+k.snd):Int)<(wU i))) (cnd ((g8 i k)==i.n) (∃(l:Unit),(i.p.legs i.n).fst=(↑k.fst:Int)∧(i.p.legs i.n).snd.fst=(↑(k.fst+1+k.snd):Int)∧(i.p.legs i.n).snd.snd=true∧True) (∃(l:Nat×Nat),(g8 i l)=IntKind.i64.wrap ((g8 i k)+1)∧(↑l.fst:Int)=(↑k.fst:Int)∧(↑(l.fst+1+l.snd):Int)=IntKind.i64.wrap ((↑(k.fst+1+k.snd):Int)+1)∧h l∧j l<j k∧pZ i)) (∃(l:Nat),(uD i l)=(g8 i k)∧(↑l:Int)=IntKind.i64.wrap ((↑k.fst:Int)+1)∧zBg d l e f i)) (g7 i))))
def yY (a:WiI):Prop:=((-9223372036854775808)≤a.n∧a.n≤9223372036854775807)∧(-1000000)≤a.lo∧a.lo≤a.hi∧a.hi≤1000000
def x4 (a:WiI):=(1+zG a.n a.lo a.hi)
def kR:=(D.v (Value.string (ByteArray.mk #[])))
def zFz (a:Prd):Prop:=Sx.AObj.cells (Sx.V.agg [V.d kR,V.d (D.v (Value.slice none 0 0)),V.d (dI 0),V.d (dI 0),V.d (dI 0),V.d (dI 0),V.d (dI 0),V.d (dI 0),V.d (dI 0),V.d (dI 0),V.d (D.v (Value.slice none 0 0))]).cl 26=Sx.AObj.cells (Sx.V.agg [V.d kR,V.d (D.v (Value.slice none 0 0)),V.d (dI 0),V.d (dI 0),V.d (dI 0),V.d (dI 0),V.d (dI 0),V.d (dI 0),V.d (dI 0),V.d (dI 0),V.d (D.v (Value.slice none 0 0))]).cl 26∧mG a
def zEh (a:Prd) (b:WiI) (c:WiI) (d:WiI) (e:WiI) (f:Unit→Prop):Prop:=∃(g:WiI),g.n=a.part∧g.lo=0∧g.hi=100∧(yY g)∧∀(h:Unit),True→∃(j:Unit),sb [(206:UInt8),(169:UInt8)]=ByteArray.mk #[(206:UInt8),(169:UInt8)]∧True∧zU a=IntKind.i64.wrap (x4 b)∧(-20)*zU a=IntKind.i64.wrap ((-20)*IntKind.i64.wrap (x4 b))∧100*zU a=IntKind.i64.wrap (100*IntKind.i64.wrap (x4 b))∧(0:Int)=(0:Int)∧1+zG a.rule 0 2=IntKind.i64.wrap (x4 c)∧zG a.top 0 9=zG d.n d.lo d.hi∧1+zG a.least 0 4=IntKind.i64.wrap (x4 e)∧zG a.part 0 100=zG g.n g.lo g.hi∧True∧f j∧zFz a
def zGd (a:Prd) (b:WiI) (c:WiI) (d:WiI) (e:WiI) (f:Unit→Prop):Prop:=a.part=a.part∧zEh a b c d e f
def zFk (a:Prd) (b:WiI) (c:WiI) (d:WiI) (e:Unit→Prop):Prop:=a.part=a.part∧a.least=a.least∧∃(f:WiI),f.n=a.least∧f.lo=0∧f.hi=4∧(yY f)∧∀(g:Unit),True→zGd a b c d f e
def zFe (a:Prd) (b:WiI) (c:WiI) (d:Unit→Prop):Prop:=a.part=a.part∧a.least=a.least∧a.top=a.top∧∃(e:WiI),e.n=a.top∧e.lo=0∧e.hi=9∧(yY e)∧∀(f:Unit),True→zFk a b c e d
def yDs (x:Prd):Prop:=
 ∃(a:WiI),a.n=(xH x)∧a.lo=0∧a.hi=3∧(yY a)∧∀(b:Unit),True→∃(c:WiI),c.n=x.tick∧c.lo=0∧c.hi=9∧(yY c)∧∀(d:Unit),True→∃(e:Unit),∃(f:Unit→Prop),((∃(g:WiI),g.n=x.rule∧g.lo=0∧g.hi=2∧(yY g)∧∀(h:Unit),True→x.part=x.part∧x.least=x.least∧x.top=x.top∧(∃(j:WiI),j.n=x.top∧j.lo=0∧j.hi=9∧(yY j)∧∀(k:Unit),True→x.part=x.part∧x.least=x.least∧(∃(l:WiI),l.n=x.least∧l.lo=0∧l.hi=4∧(yY l)∧∀(m:Unit),True→x.part=x.part∧(zEh x c g j l f)∧zGd x c g j l f)∧zFk x c g j f)∧zFe x c g f)∧x.part=x.part∧x.least=x.least∧x.top=x.top∧x.rule=x.rule∧∃(g:WiI),g.n=x.rule∧g.lo=0∧g.hi=2∧(yY g)∧∀(h:Unit),True→zFe x c g f)∧∀(g:Unit),f g→∃(h:WiI),h.n=x.wide∧h.lo=0∧h.hi=60∧(yY h)∧∀(j:Unit),True→∃(k:Nat),(↑k:Int)=0∧sb [(206:UInt8),(169:UInt8)]=sb [(206:UInt8),(169:UInt8)]∧zU x=zU x∧(-20)*zU x=(-20)*zU x∧100*zU x=100*zU x∧zU x*(5+zG x.wide 0 60)=IntKind.i64.wrap (IntKind.i64.wrap (x4 c)*IntKind.i64.wrap (5+zG h.n h.lo h.hi))∧1+zG x.rule 0 (2:Int)=(1:Int)+zG x.rule 0 2∧zG x.top 0 9=zG x.top 0 (9:Int)∧(1:Int)+zG x.least 0 (4:Int)=(1:Int)+zG x.least 0 4∧zG x.part 0 100=zG x.part 0 100∧iE (jI k)=[]∧iE (kD (zU x) k)=[]∧∃(l:Nat→Prop),∃(m:Nat→Nat),l k∧∀(n:Nat),l n→cnd (decide ((↑n:Int)<IntKind.i64.wrap (2+zG a.n a.lo a.hi))) (((iE (jI n)).length+1)*(8:Nat)≤(70368744177664:Nat)∧((iE (kD (zU x) n)).length+1)*(8:Nat)≤(70368744177664:Nat)∧∃(p:Nat),(↑p:Int)=IntKind.i64.wrap ((↑n:Int)+1)∧sb [(206:UInt8),(169:UInt8)]=sb [(206:UInt8),(169:UInt8)]∧zU x=zU x∧(-20)*zU x=(-20)*zU x∧100*zU x=100*zU x∧zU x*(5+zG x.wide 0 60)=zU x*(5+zG x.wide 0 60)∧1+zG x.rule 0 (2:Int)=(1:Int)+zG x.rule 0 2∧zG x.top 0 9=zG x.top 0 (9:Int)∧(1:Int)+zG x.least 0 (4:Int)=(1:Int)+zG x.least 0 4∧zG x.part 0 100=zG x.part 0 100∧iE (jI p)=iE (jI n)++[[dI (IntKind.i64.wrap (IntKind.i64.wrap (10*(↑n:Int))+3))]]∧iE (kD (zU x) p)=iE (kD (zU x) n)++[[dI (IntKind.i64.wrap (IntKind.i64.wrap (x4 c)*IntKind.i64.wrap (10+(↑n:Int))))]]∧l p∧m p<m n∧zFz x) (∃(p:Unit),sb [(206:UInt8),(169:UInt8)]=sb [(206:UInt8),(169:UInt8)]∧iE (jI (kN x).toNat)=iE (jI n)∧zU x=zU x∧(-20)*zU x=(-20)*zU x∧100*zU x=100*zU x∧zU x*(5+zG x.wide 0 60)=zU x*(5+zG x.wide 0 60)∧1+zG x.rule 0 (2:Int)=(1:Int)+zG x.rule 0 2∧zG x.top 0 9=zG x.top 0 (9:Int)∧(1:Int)+zG x.least 0 (4:Int)=(1:Int)+zG x.least 0 4∧zG x.part 0 100=zG x.part 0 100∧iE (kD (zU x) (kN x).toNat)=iE (kD (zU x) n)∧True)
open Go Cv Go.Proofs
theorem yIw (s:List UInt8) (h:r3prodC.cnd s):z4y s:=by
 have h:s.length≤1099511627776:=h
 have hr:=zEc s
 unfold z4y dY sJ qA aT dH
 refine⟨(0,0),rfl,rfl,rfl,fun x=>x.1≤s.length∧x.2+(uV s x.1).length=(kL s).length∧(kL s).all hY=((uV s x.1).all fun y=>hY y.2),fun x=>s.length-x.1,⟨by omega,by rw[kL,yWo];simp,by rw[kL,List.all_map];rfl⟩,?_⟩
 rintro⟨p,n⟩ ⟨h1,h2,h3⟩
 dsimp only at h1 h2 h3 ⊢
 refine Cv.cnd.mk (fun hp=> ?_) (fun hp=> ?_)
 ·have hp:p<s.length:=by simpa[yZl]using hp
  have hw:=cC s hp
  rw[jD hp,yXa]at h2
  rw[jD hp,List.all_cons]at h3
  generalize hc:(Utf8.decode (sb s) p).1=c at h2 h3 ⊢
  generalize hww:(Utf8.decode (sb s) p).2=w at h2 h3 hw ⊢
  dsimp only at h3
  have g0:∀b:Bool,(b=true→hY c=true)→(b=false→hY c=false)→b=hY c:=fun b e1 e2=>by cases b<;>simp_all
  refine⟨true,fun b=>b= !hY c,?_,fun b hb=> ?_⟩
  ·refine zJ (fun c1=>zJ (fun c2=>⟨_,rfl,?_,by(repeat'(first|exact trivial|exact rfl|apply And.intro))⟩) (fun c2=>zJ (fun c3=>zJ (fun c4=>⟨_,rfl,?_,by(repeat'(first|exact trivial|exact rfl|apply And.intro))⟩) (fun c4=>⟨_,rfl,?_,by(repeat'(first|exact trivial|exact rfl|apply And.intro))⟩)) (fun c3=>⟨_,rfl,?_,by(repeat'(first|exact trivial|exact rfl|apply And.intro))⟩))) (fun c1=>zJ (fun c3=>zJ (fun c4=>⟨_,rfl,?_,by(repeat'(first|exact trivial|exact rfl|apply And.intro))⟩) (fun c4=>⟨_,rfl,?_,by(repeat'(first|exact trivial|exact rfl|apply And.intro))⟩)) (fun c3=>⟨_,rfl,?_,by(repeat'(first|exact trivial|exact rfl|apply And.intro))⟩))
   all_goals congr 1
   all_goals refine g0 _ (fun e=> ?_) (fun e=> ?_)
   all_goals first|(simp[hY]at*;done)|(simp[hY]at*;omega)
  ·subst hb
   refine Cv.cnd.mk (fun e=>⟨(),?_,trivial⟩) (fun e=>⟨(p+w,n+1),?_,rfl,rfl,⟨hw.2,by(first|omega|(dsimp only;omega)),?_⟩,by(first|omega|(dsimp only;omega)),trivial⟩)
   ·have e:hY c=false:=by simpa using e
    rw[wB,h3,e];rfl
   ·rw[w64 (by omega)];rfl
   ·have e:hY c=true:=by simpa using e
    rw[h3,e];rfl
 ·have hp:s.length≤p:=by have:=z1i hp;simpa using this
  rw[vO hp]at h2 h3
  have h3:(kL s).all hY=true:=h3
  have hn:n=(kL s).length:=by simpa using h2
  have hne:(s=[])↔(kL s).length=0:=by
   constructor
   ·intro e;subst e;rfl
   ·intro e
    cases s with
    |nil=>rfl
    |cons b l=>
     rw[kL,yWo,jD (by simp)]at e
     simp at e
  refine zJ (fun c=>⟨(),?_,trivial⟩) (fun c=>⟨(),?_,trivial⟩)
  ·have:¬s=[]:=by rw[hne];omega
   rw[wB,h3,yXf this,hn]
   simp only[yZd]
   congr 1
   simp only[eq_iff_iff];omega
  ·have:s=[]:=by rw[hne];omega
   rw[wB,this];rfl
theorem z7n:r3prodC.ok Tryz.prog 144:=okw mixed gok0 0 (fun _=>yIl) (fun s=>yJw s) [] Tryz.func144 yIw
theorem nD:∀(l:List Int) (a:Int),l.foldl min a≤a∧∀x∈l,l.foldl min a≤x
 |[],a=>⟨y2l _,by simp⟩
 |b::l,a=>by
  obtain⟨h1,h2⟩:=nD l (min a b)
  rw[y0n]
  refine⟨by omega,fun x hx=> ?_⟩
  rcases yXd.1 hx with rfl|hx
  ·omega
  ·exact h2 x hx
theorem nN:∀(l:List Int) (a:Int),a≤l.foldl max a∧∀x∈l,x≤l.foldl max a
 |[],a=>⟨y2l _,by simp⟩
 |b::l,a=>by
  obtain⟨h1,h2⟩:=nN l (max a b)
  rw[y0n]
  refine⟨by omega,fun x hx=> ?_⟩
  rcases yXd.1 hx with rfl|hx
  ·omega
  ·exact h2 x hx
theorem eZ:∀(l:List Int) (a:Int),l.foldl min a=a∨l.foldl min a∈l
 |[],a=> .inl rfl
 |b::l,a=>by
  rw[y0n]
  rcases eZ l (min a b)with h|h
  ·rcases Int.le_total a b with e|e
   ·left;rw[h];omega
   ·right;rw[h,show min a b=b by omega];exact yWq
  ·exact .inr (yWr _ h)
theorem lC:∀(l:List Int) (a:Int),l.foldl max a=a∨l.foldl max a∈l
 |[],a=> .inl rfl
 |b::l,a=>by
  rw[y0n]
  rcases lC l (max a b)with h|h
  ·rcases Int.le_total a b with e|e
   ·right;rw[h,show max a b=b by omega];exact yWq
   ·left;rw[h];omega
  ·exact .inr (yWr _ h)
theorem z2z {l:List Int} {x:Int} (h:x∈l):p8 l≤x:=by
 cases l with
 |nil=>cases h
 |cons a l=>
  rw[p8,List.tail_cons,List.headD_cons]
  rcases yXd.1 h with rfl|h
  ·exact(nD l x).1
  ·exact(nD l a).2 x h
theorem z4v {l:List Int} {x:Int} (h:x∈l):x≤rH l:=by
 cases l with
 |nil=>cases h
 |cons a l=>
  rw[rH,List.tail_cons,List.headD_cons]
  rcases yXd.1 h with rfl|h
  ·exact(nN l x).1
  ·exact(nN l a).2 x h
theorem zWl {l:List Int} (h:l≠[]):p8 l∈l:=by
 cases l with
 |nil=>exact absurd rfl h
 |cons a l=>
  rw[p8,List.tail_cons,List.headD_cons]
  rcases eZ l a with h|h
  ·rw[h];exact yWq
  ·exact yWr _ h
theorem zTr {l:List Int} (h:l≠[]):rH l∈l:=by
 cases l with
 |nil=>exact absurd rfl h
 |cons a l=>
  rw[rH,List.tail_cons,List.headD_cons]
  rcases lC l a with h|h
  ·rw[h];exact yWq
  ·exact yWr _ h
theorem yBz (p:Prd) (h:r5checkC.cnd p):zUv p:=by
 obtain⟨h1,h2,h3⟩:p.small:=h
 unfold zUv yW kH rW rT mG uP cY xH wL dI
 simp only[y5]
 refine⟨p.code,rfl,h1,fun _ _=>Cv.cnd.mk (fun c1=>⟨(),by rw[Prd.check,yWm c1],trivial⟩) fun c1=> ?_⟩
 have c1:wB p.code=true:=by simpa using c1
 have e1:p.check=if !xI p.months then 1 else if !qJ p then 22 else if qK p then 23 else if xJ p then 1 else if kF p then 31 else if x3 p then 24 else 0:=by
  rw[Prd.check,yWl (by simp[c1])]
 refine⟨true,fun b=>b=(decide (p.months.length<2)||decide (p.months.length>6)),zJ (fun c=>⟨true,rfl,?_,by(repeat'(first|exact trivial|exact rfl|apply And.intro))⟩) (fun c=>⟨_,rfl,?_,by(repeat'(first|exact trivial|exact rfl|apply And.intro))⟩),fun b hb=> ?_⟩
 ·rw[yXf (show p.months.length<2 by omega)];rfl
 ·rw[yWy (show ¬p.months.length<2 by omega),y2i]
  congr 1;simp only[eq_iff_iff];omega
 subst hb
 refine Cv.cnd.mk (fun c2=> ?_) (fun c2=> ?_)
 ·have:xI p.months=false:=by
   simp only[Bool.or_eq_true,yXy]at c2
   rw[xI]
   rcases c2 with c2|c2
   ·rw[yWy (show ¬2≤p.months.length by omega)];simp
   ·rw[yWy (show ¬p.months.length≤6 by omega)];simp
  exact⟨(),by rw[e1,yWm (by rw[this];rfl)],trivial⟩
 have c2:2≤p.months.length∧p.months.length≤6:=by
  simp only[y0l,decide_eq_false_iff_not]at c2;omega
 have em:xI p.months=(List.range p.months.length).all (qR p.months):=by
  rw[xI,yXf c2.1,yXf c2.2];simp
 refine⟨0,rfl,fun j=>j≤p.months.length∧∀k<j,qR p.months k=true,fun j=>p.months.length-j,⟨by omega,fun k hk=>by omega⟩,?_⟩
 rintro j ⟨g1,g2⟩
 refine zJ (fun hj=> ?_) (fun hj=> ?_)
 ·obtain⟨m,hm⟩:=yA (l:=p.months) (i:=j) (by omega)
  have hmj:p.months.getD j 0=m:=zK hm
  refine⟨true,fun b=>b= !qR p.months j,⟨⟨by omega,by omega⟩,m,elI hm,zJ (fun c=>⟨true,rfl,?_,by(repeat'(first|exact trivial|exact rfl|apply And.intro))⟩) (fun c=>⟨⟨by omega,by omega⟩,m,elI hm,zJ (fun d=>⟨true,rfl,?_,by(repeat'(first|exact trivial|exact rfl|apply And.intro))⟩) (fun d=>zJ (fun e=> ?_) (fun e=>⟨false,rfl,?_,by(repeat'(first|exact trivial|exact rfl|apply And.intro))⟩))⟩)⟩,fun b hb=> ?_⟩
  ·rw[qR,hmj,yWy (show ¬0≤m by omega)];rfl
  ·rw[qR,hmj,yWy (show ¬m≤1199 by omega)];simp
  ·obtain⟨m',hm'⟩:=yA (l:=p.months) (i:=j-1) (by omega)
   rw[w64 (by omega),show((j:Int)-1).toNat=j-1 by omega]
   refine⟨⟨by omega,by omega⟩,m',elI hm',⟨by omega,by omega⟩,m,elI hm,_,rfl,?_,by(repeat'(first|exact trivial|exact rfl|apply And.intro))⟩
   rw[qR,hmj,zK hm',yXf (show 0≤m by omega),yXf (show m≤1199 by omega),yWy (show ¬j=0 by omega)]
   simp only[yZd,y2i]
   by_cases hlt:m'<m
   ·rw[yXf hlt,yWy (by omega)];rfl
   ·rw[yWy hlt,yXf (by omega)];rfl
  ·rw[qR,hmj,yXf (show 0≤m by omega),yXf (show m≤1199 by omega),yXf (show j=0 by omega)];rfl
  ·subst hb
   refine Cv.cnd.mk (fun c=>⟨(),?_,trivial⟩) (fun c=>⟨j+1,by rw[w64 (by omega)];rfl,⟨by omega,fun k hk=> ?_⟩,by(first|omega|(dsimp only;omega)),by(repeat'(first|exact trivial|exact rfl|apply And.intro))⟩)
   ·have c:qR p.months j=false:=by simpa using c
    rw[e1,yWm (by rw[em,zOn (k:=j) (by omega) c];rfl)]
   ·have c:qR p.months j=true:=by simpa using c
    rcases yZa k j with h|h
    ·exact g2 k h
    ·obtain rfl:k=j:=by omega
     exact c
 have em:xI p.months=true:=by rw[em];exact zWh fun k hk=>g2 k (by omega)
 have e2:p.check=if !qJ p then 22 else if qK p then 23 else if xJ p then 1 else if kF p then 31 else if x3 p then 24 else 0:=by
  rw[e1,yWl (by simp[em])]
 have et:qJ p=((decide (1≤p.tick) && decide (p.tick≤1000) && !qP p.tick p.low && !qP p.tick p.high && !qP p.tick p.wide) && !p.settle.any (qP p.tick)):=rfl
 refine⟨true,fun b=>b= !(decide (1≤p.tick) && decide (p.tick≤1000) && !qP p.tick p.low && !qP p.tick p.high && !qP p.tick p.wide),zJ (fun d1=>⟨true,rfl,?_,by(repeat'(first|exact trivial|exact rfl|apply And.intro))⟩) (fun d1=>zJ (fun d2=>⟨true,rfl,?_,by(repeat'(first|exact trivial|exact rfl|apply And.intro))⟩) (fun d2=>⟨trivial,by omega,Cv.cnd.mk (fun d3=>⟨true,rfl,?_,by(repeat'(first|exact trivial|exact rfl|apply And.intro))⟩) (fun d3=>⟨trivial,by omega,Cv.cnd.mk (fun d4=>⟨true,rfl,?_,by(repeat'(first|exact trivial|exact rfl|apply And.intro))⟩) (fun d4=>⟨trivial,by omega,_,rfl,?_,by(repeat'(first|exact trivial|exact rfl|apply And.intro))⟩)⟩)⟩)),fun b hb=> ?_⟩
 ·rw[yWy (show ¬1≤p.tick by omega)];rfl
 ·rw[yWy (show ¬p.tick≤1000 by omega)];simp
 ·have d3:qP p.tick p.low=true:=d3
  rw[d3];simp
 ·have d4:qP p.tick p.high=true:=d4
  rw[d4];simp
 ·have d3:qP p.tick p.low=false:=d3
  have d4:qP p.tick p.high=false:=d4
  rw[d3,d4,yXf (show 1≤p.tick by omega),yXf (show p.tick≤1000 by omega)]
  show qP p.tick p.wide=_
  simp
 subst hb
 refine Cv.cnd.mk (fun c3=> ?_) (fun c3=> ?_)
 ·have c3:(decide (1≤p.tick) && decide (p.tick≤1000) && !qP p.tick p.low && !qP p.tick p.high && !qP p.tick p.wide)=false:=by
   rw[y1k]at c3
   exact c3
  exact⟨(),by rw[e2,yWm (by rw[et,c3];rfl)],trivial⟩
 have c3:(decide (1≤p.tick) && decide (p.tick≤1000) && !qP p.tick p.low && !qP p.tick p.high && !qP p.tick p.wide)=true:=by simpa using c3
 have ht1:1≤p.tick:=by
  simp only[yWz,yXy]at c3;exact c3.1.1.1.1
 rw[c3,yZd]at et
 refine⟨0,rfl,fun j=>j≤p.settle.length∧∀k<j,∀x,p.settle[k]? =some x→qP p.tick x=false,fun j=>p.settle.length-j,⟨by omega,fun k hk=>by omega⟩,?_⟩
 rintro j ⟨g1,g2⟩
 refine zJ (fun hj=> ?_) (fun hj=> ?_)
 ·obtain⟨m,hm⟩:=yA (l:=p.settle) (i:=j) (by omega)
  refine⟨⟨by omega,by omega⟩,m,elI hm,trivial,by omega,Cv.cnd.mk (fun c=>⟨(),?_,trivial⟩) (fun c=>⟨j+1,by rw[w64 (by omega)];rfl,⟨by omega,fun k hk x hx=> ?_⟩,by(first|omega|(dsimp only;omega)),by(repeat'(first|exact trivial|exact rfl|apply And.intro))⟩)⟩
  ·have c:qP p.tick m=true:=c
   have:p.settle.any (qP p.tick)=true:=by rw[List.any_eq_true];exact⟨m,yWv hm,c⟩
   rw[e2,yWm (by rw[et,this];rfl)]
  ·rcases yZa k j with h|h
   ·exact g2 k h x hx
   ·obtain rfl:k=j:=by omega
    rw[hm]at hx;cases hx;exact c
 have et:qJ p=true:=by
  rw[et]
  have:p.settle.any (qP p.tick)=false:=by
   rw[y2n]
   intro x hx
   obtain⟨k,hk⟩:=y1i hx
   rw[g2 k (by have:=(yWn.1 hk).1;omega) x hk];simp
  rw[this];rfl
 have e3:p.check=if qK p then 23 else if xJ p then 1 else if kF p then 31 else if x3 p then 24 else 0:=by
  rw[e2,yWl (by simp[et])]
 refine⟨true,fun b=>b=qK p,zJ (fun d1=>⟨true,rfl,?_,by(repeat'(first|exact trivial|exact rfl|apply And.intro))⟩) (fun d1=>zJ (fun d2=>⟨true,rfl,?_,by(repeat'(first|exact trivial|exact rfl|apply And.intro))⟩) (fun d2=>zJ (fun d3=>⟨true,rfl,?_,by(repeat'(first|exact trivial|exact rfl|apply And.intro))⟩) (fun d3=>zJ (fun d4=>⟨true,rfl,?_,by(repeat'(first|exact trivial|exact rfl|apply And.intro))⟩) (fun d4=>⟨_,rfl,?_,by(repeat'(first|exact trivial|exact rfl|apply And.intro))⟩)))),fun b hb=> ?_⟩
 ·simp[qK,d1]
 ·simp[qK,d2]
 ·simp[qK,d3]
 ·simp[qK,d4]
 ·rw[w64 (by omega)];simp[qK,d1,d2,d3,d4]
 subst hb
 refine Cv.cnd.mk (fun c4=>⟨(),by rw[e3,yWm c4],trivial⟩) (fun c4=> ?_)
 have e4:p.check=if xJ p then 1 else if kF p then 31 else if x3 p then 24 else 0:=by
  rw[e3,yWl (by simp[c4])]
 refine Cv.cnd.mk (fun d6=>⟨(),?_,trivial⟩) (fun d6=> ?_)
 ·have d6:¬(p.settle.length:Int)=p.months.length:=by simpa using d6
  rw[e4,yWm (by simp[xJ];omega)]
 have d6:p.settle.length=p.months.length:=by
  have:(p.settle.length:Int)=p.months.length:=by simpa using d6
  omega
 have hne:p.settle≠[]:=by intro e;rw[e]at d6;simp at d6;omega
 refine⟨0,rfl,fun j=>j≤p.settle.length∧∀k<j,∀x,p.settle[k]? =some x→p.low≤x∧x≤p.high,fun j=>p.settle.length-j,⟨by omega,fun k hk=>by omega⟩,?_⟩
 rintro j ⟨g3,g4⟩
 refine zJ (fun hj=> ?_) (fun hj=> ?_)
 ·obtain⟨m,hm⟩:=yA (l:=p.settle) (i:=j) (by omega)
  have hmm:=yWv hm
  refine⟨true,fun b=>b=(decide (m<p.low)||decide (m>p.high)),⟨⟨by omega,by omega⟩,m,elI hm,zJ (fun c=>⟨true,rfl,?_,by(repeat'(first|exact trivial|exact rfl|apply And.intro))⟩) (fun c=>⟨⟨by omega,by omega⟩,m,elI hm,_,rfl,?_,by(repeat'(first|exact trivial|exact rfl|apply And.intro))⟩)⟩,fun b hb=> ?_⟩
  ·rw[yXf c];rfl
  ·rw[yWy c,y2i]
  ·subst hb
   refine Cv.cnd.mk (fun c=>⟨(),?_,trivial⟩) (fun c=>⟨j+1,by rw[w64 (by omega)];rfl,⟨by omega,fun k hk x hx=> ?_⟩,by(first|omega|(dsimp only;omega)),by(repeat'(first|exact trivial|exact rfl|apply And.intro))⟩)
   ·have l1:=z2z hmm
    have l2:=z4v hmm
    rw[e4,yWm (by
     simp only[Bool.or_eq_true,yXy]at c
     simp only[xJ,Bool.or_eq_true,yXy]
     rcases c with c|c
     ·left;right;omega
     ·right;omega)]
   ·rcases yZa k j with h|h
    ·exact g4 k h x hx
    ·obtain rfl:k=j:=by omega
     rw[hm]at hx;cases hx
     simp only[y0l,decide_eq_false_iff_not]at c
     omega
 have hset:xJ p=false:=by
  have all:∀x∈p.settle,p.low≤x∧x≤p.high:=fun x hx=>by
   obtain⟨k,hk⟩:=y1i hx
   exact g4 k (by have:=(yWn.1 hk).1;omega) x hk
  have a1:=all _ (zWl hne)
  have a2:=all _ (zTr hne)
  simp only[xJ,y0l,decide_eq_false_iff_not]
  omega
 have e5:p.check=if kF p then 31 else if x3 p then 24 else 0:=by
  rw[e4,yWl (by simp[hset])]
 refine⟨true,fun b=>b=kF p,zJ (fun d1=>⟨true,rfl,?_,by(repeat'(first|exact trivial|exact rfl|apply And.intro))⟩) (fun d1=>⟨_,rfl,?_,by(repeat'(first|exact trivial|exact rfl|apply And.intro))⟩),fun b hb=> ?_⟩
 ·simp[kF,d1]
 ·simp[kF,d1]
 subst hb
 refine Cv.cnd.mk (fun c6=>⟨(),by rw[e5,yWm c6],trivial⟩) (fun c6=> ?_)
 have e6:p.check=if x3 p then 24 else 0:=by rw[e5,yWl (by simp[c6])]
 refine⟨true,fun b=>b=x3 p,zJ (fun d1=>⟨true,rfl,?_,by(repeat'(first|exact trivial|exact rfl|apply And.intro))⟩) (fun d1=>zJ (fun d2=>⟨true,rfl,?_,by(repeat'(first|exact trivial|exact rfl|apply And.intro))⟩) (fun d2=>zJ (fun d3=>⟨true,rfl,?_,by(repeat'(first|exact trivial|exact rfl|apply And.intro))⟩) (fun d3=>zJ (fun d4=>⟨true,rfl,?_,by(repeat'(first|exact trivial|exact rfl|apply And.intro))⟩) (fun d4=>zJ (fun d5=>⟨true,rfl,?_,by(repeat'(first|exact trivial|exact rfl|apply And.intro))⟩) (fun d5=>⟨_,rfl,?_,by(repeat'(first|exact trivial|exact rfl|apply And.intro))⟩))))),fun b hb=> ?_⟩
 ·simp[x3,d1]
 ·simp[x3,d2]
 ·simp[x3,d3]
 ·simp[x3,d4]
 ·simp[x3,d5]
 ·simp[x3,d1,d2,d3,d4,d5]
 subst hb
 exact Cv.cnd.mk (fun c7=>⟨(),by rw[e6,yWm c7],trivial⟩) (fun c7=>⟨(),by rw[e6,yWl (by simp[c7])],trivial⟩)
theorem zKc:r5checkC.ok Tryz.prog 102:=okw mixed (gokc z7n gok0) 0 (fun _=>yEe) (fun _=>yCi) [] Tryz.func102 yBz
theorem cW {p:Prd} (h:p.check=0):p.count=p.months.length+p.months.length*(p.months.length-1) / 2:=by rw[Prd.count,yWm h]
theorem zKh {p:Prd} (h:p.check≠0):p.count=0:=by rw[Prd.count,yWl h]
theorem yCt (p:Prd) (h:r5countC.cnd p):zVr p:=by
 have hs:p.small:=h
 unfold zVr nX xH z8
 simp only[y5]
 refine⟨p,rfl,rfl,rfl,rfl,rfl,rfl,rfl,rfl,rfl,rfl,rfl,hs,fun _ _=>Cv.cnd.mk (fun c=>⟨(),?_,trivial⟩) (fun c=>⟨trivial,by decide,(),?_,trivial⟩)⟩
 ·rw[zKh (by simpa using c)];rfl
 ·have c:p.check=0:=by simpa using c
  have m6:=(kP c).m6
  have m2:=(kP c).m2
  rw[cW c]
  generalize p.months.length=n at*
  have:n=2∨n=3∨n=4∨n=5∨n=6:=by omega
  rcases this with rfl|rfl|rfl|rfl|rfl<;>decide
theorem zYk:r5countC.ok Tryz.prog 52:=okw mixed (gokc zKc gok0) 0 (fun _=>[]) (fun _=>[]) [] Tryz.func52 yCt
theorem zTm:∀n≤6,∀a<n,∀b<n-1-a,kI n (yH n a+b) n 0=((a:Int),((a+1+b:Nat):Int),true)∧yH n a+b<n+n*(n-1) / 2∧n≤yH n a+b:=by decide
theorem z7m:∀n≤6,yH n n=n+n*(n-1) / 2:=by decide
theorem z1v {p:Prd} (h:p.check=0) {a b:Nat} (ha:a<p.months.length) (hb:b<p.months.length-1-a):p.legs ((yH p.months.length a+b:Nat):Int)=((a:Int),((a+1+b:Nat):Int),true):=by
 obtain⟨h1,h2,h3⟩:=zTm _ (kP h).m6 a ha b hb
 rw[Prd.legs,yWl (by rw[cW h];omega),yWl (by omega),yXc]
 exact h1
theorem yJx (i:dZ) (h:r5legsC.cnd i):z2h i:=by
 have hs:i.p.small:=h
 unfold z2h g8 zBg pZ wU uD tQ g7 z8 dI
 simp only[y5]
 refine⟨i.p,rfl,rfl,rfl,rfl,rfl,rfl,rfl,rfl,rfl,rfl,rfl,hs,fun _ _=>Cv.cnd.mk (fun c=> ?_) (fun c=>zJ (fun c1=> ?_) (fun c1=>zJ (fun c2=> ?_) (fun c2=> ?_)))⟩
 ·rw[Prd.legs,yWm (by rw[zKh (by simpa using c)];omega)];(repeat'(first|exact rfl|exact trivial|assumption|apply And.intro|refine fun(_:Unit) (_:True)=>?_|refine Exists.intro () ?_|omega|(dsimp only;omega)))
 ·rw[Prd.legs,yWm (.inl c1)];(repeat'(first|exact rfl|exact trivial|assumption|apply And.intro|refine fun(_:Unit) (_:True)=>?_|refine Exists.intro () ?_|omega|(dsimp only;omega)))
 ·have c:i.p.check=0:=by simpa using c
  rw[Prd.legs,yWl (by rw[cW c];omega),yWm c2];(repeat'(first|exact rfl|exact trivial|assumption|apply And.intro|refine fun(_:Unit) (_:True)=>?_|refine Exists.intro () ?_|omega|(dsimp only;omega)))
 ·have c:i.p.check=0:=by simpa using c
  have m6:=(kP c).m6
  obtain⟨k,hk⟩:∃k:Nat,i.n=k:=⟨i.n.toNat,by omega⟩
  have sp:=fun(a b:Nat) ha hb=>z1v (p:=i.p) c (a:=a) (b:=b) ha hb
  have fe:=z7m _ m6
  have out:i.p.count≤k→i.p.legs (k:Int)=(0,0,false):=fun e=>by rw[Prd.legs,yWm (by omega)]
  rw[cW c,← fe]at out
  rw[hk]at c2 ⊢
  generalize hn:i.p.months.length=n at*
  refine⟨0,rfl,rfl,fun m=>m≤n∧yH n m≤k,fun m=>n-m,⟨by omega,by show n≤k;omega⟩,?_⟩
  rintro m ⟨g1,g2⟩
  have hf:=zMc m6 g1
  refine zJ (fun c4=> ?_) (fun c4=> ?_)
  ·refine⟨(m,0),rfl,rfl,by rw[w64 (by omega)];simp,fun x=>x.1=m∧x.2≤n-1-m∧yH n m+x.2≤k,fun x=>n-1-m-x.2,⟨rfl,by(first|omega|(dsimp only;omega)),by(first|omega|(dsimp only;omega))⟩,?_⟩
   rintro⟨a,b⟩ ⟨g3,g4,g5⟩
   dsimp only at g3 g4 g5 ⊢
   subst g3
   refine zJ (fun c5=>Cv.cnd.mk (fun e=> ?_) (fun e=> ?_)) (fun c5=> ?_)
   ·have e:((yH n a+b:Nat):Int)=(k:Int):=by simpa using e
    have:=sp a b (by omega) (by omega)
    rw[e]at this
    rw[this];(repeat'(first|exact rfl|exact trivial|assumption|apply And.intro|refine fun(_:Unit) (_:True)=>?_|refine Exists.intro () ?_|omega|(dsimp only;omega)))
   ·have e:¬((yH n a+b:Nat):Int)=(k:Int):=by simpa using e
    refine⟨(a,b+1),?_,rfl,?_,⟨rfl,by(first|omega|(dsimp only;omega)),by(first|omega|(dsimp only;omega))⟩,by(first|omega|(dsimp only;omega)),by(repeat'(first|exact trivial|exact rfl|apply And.intro))⟩
    ·rw[w64 (by omega)];dsimp only;omega
    ·rw[w64 (by omega)];dsimp only;omega
   ·refine⟨a+1,?_,by rw[w64 (by omega)];rfl,⟨by omega,?_⟩,by(first|omega|(dsimp only;omega)),by(repeat'(first|exact trivial|exact rfl|apply And.intro))⟩
    ·rw[yH];omega
    ·rw[yH];omega
  ·obtain rfl:m=n:=by omega
   rw[out g2];(repeat'(first|exact rfl|exact trivial|assumption|apply And.intro|refine fun(_:Unit) (_:True)=>?_|refine Exists.intro () ?_|omega|(dsimp only;omega)))
theorem z7p:r5legsC.ok Tryz.prog 53:=okw mixed (gokc zKc gok0) 0 (fun _=>[]) (fun i=>yIf i) [] Tryz.func53 yJx
theorem zCo (x:Prd):1≤zU x∧zU x≤10:=by
 have:=yS (n:=x.tick) (lo:=0) (hi:=9) (by omega)
 rw[zU];omega
theorem yEl (x:Prd):2≤kN x∧kN x≤5:=by
 have:=yS (n:=(x.months.length:Int)) (lo:=0) (hi:=3) (by omega)
 rw[kN];omega
theorem sS {a b m n:Int} (ha:0≤a∧a≤m) (hb:0≤b∧b≤n):0≤a*b∧a*b≤m*n:=by
 refine⟨y2p ha.1 hb.1,?_⟩
 exact Int.le_trans (Int.mul_le_mul_of_nonneg_right ha.2 hb.1) (y1m hb.2 (by omega))
theorem zSw (j:Nat):iE (jI (j+1))=iE (jI j)++[[D.v (.int .i64 (10*(j:Int)+3))]]:=by
 rw[jI,y1j,yWw,iE,yWw];rfl
theorem zRl (t:Int) (j:Nat):iE (kD t (j+1))=iE (kD t j)++[[D.v (.int .i64 (t*(10+(j:Int))))]]:=by
 rw[kD,y1j,yWw,iE,yWw];rfl
theorem rU (j:Nat):(jI j).length=j:=by simp[jI]
theorem aO (t:Int) (j:Nat):(kD t j).length=j:=by simp[kD]
theorem yMg (x:Prd) (h:kprodC.cnd x):yDs x:=by
 obtain⟨h1,h2,h3,h4,h5,h6,h7⟩:x.raw:=h
 have hw: -1000000≤(0:Int):=by decide
 have bt:=yS (n:=x.tick) (lo:=0) (hi:=9) (by omega)
 have bw:=yS (n:=x.wide) (lo:=0) (hi:=60) (by omega)
 have br:=yS (n:=x.rule) (lo:=0) (hi:=2) (by omega)
 have bl:=yS (n:=x.least) (lo:=0) (hi:=4) (by omega)
 have bn:=yS (n:=(x.months.length:Int)) (lo:=0) (hi:=3) (by omega)
 have kt:=zCo x
 have kn:=yEl x
 have w1:IntKind.i64.wrap (1+zG x.tick 0 9)=zU x:=w64 (by omega)
 have w2:IntKind.i64.wrap (-20*IntKind.i64.wrap (1+zG x.tick 0 9))= -20*zU x:=by rw[w1];exact w64 (by omega)
 have w3:IntKind.i64.wrap (100*IntKind.i64.wrap (1+zG x.tick 0 9))=100*zU x:=by rw[w1];exact w64 (by omega)
 have w4:IntKind.i64.wrap (1+zG x.rule 0 2)=1+zG x.rule 0 2:=w64 (by omega)
 have w5:IntKind.i64.wrap (1+zG x.least 0 4)=1+zG x.least 0 4:=w64 (by omega)
 have w6:IntKind.i64.wrap (2+zG x.months.length 0 3)=kN x:=w64 (by omega)
 have mb:=sS (a:=zU x) (b:=5+zG x.wide 0 60) (m:=10) (n:=65) (by omega) (by omega)
 have w7:IntKind.i64.wrap (IntKind.i64.wrap (1+zG x.tick 0 9)*IntKind.i64.wrap (5+zG x.wide 0 60))=zU x*(5+zG x.wide 0 60):=by
  rw[w1,w64 (x:=5+zG x.wide 0 60) (by omega)];exact w64 (by omega)
 unfold yDs zFe zFk zGd zEh zFz mG uP cY kR x4 yY xH dI
 simp only[y5]
 refine⟨⟨x.months.length,0,3⟩,rfl,rfl,rfl,⟨⟨by dsimp only;omega,by dsimp only;omega⟩,by dsimp only;omega,by dsimp only;omega,by dsimp only;omega⟩,fun _ _=>⟨⟨x.tick,0,9⟩,rfl,rfl,rfl,⟨h1,by dsimp only;omega,by dsimp only;omega,by dsimp only;omega⟩,fun _ _=> ?_⟩⟩
 dsimp only
 refine⟨(),fun _=>True,?_,fun _ _=> ?_⟩
 ·repeat'(first|exact trivial|exact rfl|exact w1.symm|exact w2.symm|exact w3.symm|exact w4.symm|exact w5.symm|apply And.intro|refine⟨⟨x.rule,0,2⟩,rfl,rfl,rfl,⟨h3,by dsimp only;omega,by dsimp only;omega,by dsimp only;omega⟩,fun _ _=> ?_⟩|refine⟨⟨x.top,0,9⟩,rfl,rfl,rfl,⟨h4,by dsimp only;omega,by dsimp only;omega,by dsimp only;omega⟩,fun _ _=> ?_⟩|refine⟨⟨x.least,0,4⟩,rfl,rfl,rfl,⟨h5,by dsimp only;omega,by dsimp only;omega,by dsimp only;omega⟩,fun _ _=> ?_⟩|refine⟨⟨x.part,0,100⟩,rfl,rfl,rfl,⟨h6,by dsimp only;omega,by dsimp only;omega,by dsimp only;omega⟩,fun _ _=> ?_⟩|refine⟨(),?_⟩)
 ·refine⟨⟨x.wide,0,60⟩,rfl,rfl,rfl,⟨h2,by dsimp only;omega,by dsimp only;omega,by dsimp only;omega⟩,fun _ _=> ?_⟩
  dsimp only
  rw[w7,w6]
  refine⟨0,by(first|exact rfl|exact trivial),by(first|exact rfl|exact trivial),by(first|exact rfl|exact trivial),by(first|exact rfl|exact trivial),by(first|exact rfl|exact trivial),by(first|exact rfl|exact trivial),by(first|exact rfl|exact trivial),by(first|exact rfl|exact trivial),by(first|exact rfl|exact trivial),by(first|exact rfl|exact trivial),by(first|exact rfl|exact trivial),by(first|exact rfl|exact trivial),fun j=>j≤(kN x).toNat,fun j=>(kN x).toNat-j,by omega,?_⟩
  intro j hj
  rw[rU,aO]
  refine zJ (fun c=>⟨by omega,by omega,j+1,by rw[w64 (by omega)];rfl,by(first|exact rfl|exact trivial),by(first|exact rfl|exact trivial),by(first|exact rfl|exact trivial),by(first|exact rfl|exact trivial),by(first|exact rfl|exact trivial),by(first|exact rfl|exact trivial),by(first|exact rfl|exact trivial),by(first|exact rfl|exact trivial),by(first|exact rfl|exact trivial),?_,?_,by(first|omega|(dsimp only;omega)),by(first|omega|(dsimp only;omega)),by(repeat'(first|exact trivial|exact rfl|apply And.intro))⟩) (fun c=>⟨(),?_⟩)
  ·rw[zSw,w64 (x:=10*(j:Int)) (by omega),w64 (by omega)]
  ·have mj:=sS (a:=zU x) (b:=10+(j:Int)) (m:=10) (n:=20) (by omega) (by omega)
   rw[zRl,w1,w64 (x:=10+(j:Int)) (by omega),w64 (by omega)]
  ·have e:(kN x).toNat=j:=by omega
   rw[e];(repeat'(first|exact trivial|exact rfl|apply And.intro))
theorem kprod_ok:kprodC.ok Tryz.prog 20:=okw mixed (gokc within_ok gok0) 0 (fun x=>yRg x) (fun x=>yPz x) [] Tryz.func20 yMg
open Go Cv Go.Proofs
structure Cmd where
 kind:Int
 id:Int
 inst:Int
 side:Int
 price:Int
 qty:Int
 least:Int
 time:Int
 label:List UInt8
 deriving DecidableEq
@[reducible] def Cmd.cells (c:Cmd):List V:=[zA c.kind,zA c.id,zA c.inst,zA c.side,zA c.price,zA c.qty,zA c.least,zA c.time,sV c.label]
@[reducible] def zCy (c:Cmd):V:= .agg c.cells
def cmdE (c:Cmd):List D:=[.v (.int .i64 c.kind),.v (.int .i64 c.id),.v (.int .i64 c.inst),.v (.int .i64 c.side),.v (.int .i64 c.price),.v (.int .i64 c.qty),.v (.int .i64 c.least),.v (.int .i64 c.time),.v (.string (sb c.label))]
def zNa:Cmd:=⟨0,0,0,0,0,0,0,0,[]⟩
@[reducible] def Cmd.raw (c:Cmd):Prop:=yV c.kind∧yV c.id∧yV c.inst∧yV c.side∧yV c.price∧yV c.qty∧yV c.least∧yV c.time
structure TmI where
 p:Prd
 c:Cmd
 i:Int
def vU (c:Cmd):Int:=if 4<1+zG c.kind 0 8 then 1 else 1+zG c.kind 0 8
def yZ (t:TmI):Cmd:=⟨vU t.c,1+zG t.c.id 0 30,zG t.c.inst 0 (t.p.count-1),1+zG t.c.side 0 1,t.p.tick*zG t.c.price 0 9,1+zG t.c.qty 0 11,0,0,[]⟩
def fE (c:Cmd):Int:=if c.time.tmod 5=3 then 3 else if c.time.tmod 5=2 then 2 else 1
def dN (c:Cmd) (q:Int):Int:=if c.least.tmod 4=1 then zG c.least 0 q else 0
def xK (t:TmI):Cmd:=
 let h:=yZ t
 if h.kind=1 then{h with id:=t.i+1,time:=fE t.c,least:=dN t.c h.qty,price:=if(t.p.legs h.inst).2.2=true then h.price-4*t.p.tick else h.price+8*t.p.tick}
 else{h with price:=if h.kind=4 then h.price+5*t.p.tick else h.price,side:=0,inst:=0}
def tameC:Con:=con1 TmI (fun t=>[prdV t.p,zCy t.c,zA t.i]) (fun _=>[]) (fun t=>t.p.check=0∧t.p.small∧t.c.raw∧0≤t.i∧t.i≤1000000) (fun t=>zCy (xK t)) (fun _=>[])
def cj (k:Nat):Nat×SAnn:=(k,{ι:=Cmd,slots:=fun _=>[(7,.nm 0 0)],slots0:=fun _=>[(7,.nm 0 0)],rows0:=fun c=>[.cells c.cells 36],rows:=fun c=>[.cells c.cells 36]})
def ySb:List (Nat×SAnn):=[cj 14,cj 54,cj 62,cj 70]
end Sx
