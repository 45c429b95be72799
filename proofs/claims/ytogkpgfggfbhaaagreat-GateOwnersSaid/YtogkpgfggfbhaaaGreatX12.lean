/- Texts of ours, one behind the other: a walk that the kernel reckons, and contracts of functions. No condition. -/
import Derived.Test.YtogkpgfggfbhaaaGreatX11
namespace Sx
set_option linter.unusedVariables false
set_option maxRecDepth 100000
open Go Cv Go.Proofs
def fA (a:GdI):Prop:=(a.g.m.Rep a.p a.B a.U∧BOk a.p a.B)∧a.b.length≤1099511627776∧a.X=fP a.p a.B a.U a.g.W a.s a.b
def jL (a:GdI):=(↑(List.map wY a.X.O).length:Int)
def wK (a:GdI):Prop:=(0:Int)≤(0:Int)∧0<(jL a)
def zXi (u:Unit):Prop:=
 ∃(a:Int),a=1∧True∧∀(b:Unit),True→∃(c:Prd),sb c.code=sb [(67:UInt8),(76:UInt8)]∧iE c.months=iE [(320:Int),(321:Int),(323:Int)]∧c.tick=5∧c.low=0∧c.high=1000∧c.wide=200∧c.rule=a∧c.top=4∧c.least=2∧c.part=40∧iE c.settle=iE [(500:Int),(505:Int),(490:Int)]∧(z8 c)∧(∀(d:Unit),c.check=0→(1:Nat)≤(7:Nat)∧∃(e:GdI),e.s=0∧bE e.b=[[D.v (.int .u8 114)],[D.v (.int .u8 117)],[D.v (.int .u8 98)],[D.v (.int .u8 98)],[D.v (.int .u8 105)],[D.v (.int .u8 115)],[D.v (.int .u8 104)]]∧GtR e.g=GtR (Gt.mk (Mkt.mk c (cD c) []) [])∧(fA e)∧∀(f:Mkt),f.Rep e.p e.X.B e.X.U→∃(g:Cmd),g.kind=1∧g.id=7∧g.inst=0∧g.side=1∧g.price=5∧g.qty=3∧g.least=0∧g.time=1∧sb g.label=ByteArray.mk #[]∧(g.label=[]∧g.right=0)∧∀(h:Unit),True→∃(j:GdI),j.s=3∧bE j.b=bE g.enc∧GtR j.g=GtR (Gt.mk f e.X.W)∧(fA j)∧∀(k:Mkt),k.Rep j.p j.X.B j.X.U→∃(l:GtI),l.s=7∧GtR l.g=GtR (Gt.mk k j.X.W)∧True∧∀(m:Unit),True→cnd ((jL e)==1) ((wK e)∧∃(n:Int),zF (List.map wY e.X.O) (Int.toNat 0) ((0:Nat)+(1:Nat)+0) 1=some [dI n]∧cnd (n==2) ((wK e)∧∃(p:Int),zF (List.map wY e.X.O) (Int.toNat 0) ((0:Nat)+(1:Nat)+7) 1=some [dI p]∧cnd (p==31) (cnd ((jL j)==1) ((wK j)∧∃(q:Int),zF (List.map wY j.X.O) (Int.toNat 0) ((0:Nat)+(0:Nat)) 1=some [dI q]∧cnd (q==3) ((wK j)∧∃(r:Int),zF (List.map wY j.X.O) (Int.toNat 0) ((0:Nat)+(1:Nat)+0) 1=some [dI r]∧cnd (r==1) (cnd ((xG l.g.W l.s).fst==3) (cnd (xG l.g.W l.s).snd (∃(s:GtI),s.s=3∧GtR s.g=GtR l.g∧(s.g.m.Rep s.p s.B s.U∧BOk s.p s.B)∧∀(t:Unit),True→∃(v:Unit),true=((↑(eX s.B s.g.W s.s):Int)==1)∧True) (∃(s:Unit),true=false∧True)) (∃(s:Unit),true=false∧True)) (∃(s:Unit),true=false∧True)) (∃(r:Unit),true=false∧True)) (∃(q:Unit),true=false∧True)) (∃(q:Unit),true=false∧True)) (∃(p:Unit),true=false∧True)) (∃(n:Unit),true=false∧True))∧∀(d:Unit),c.check≠0→∃(e:Unit),true=false∧True
def cQ (a:MfI):=(D.v (.bool (zI a.B a.id).snd.fst.top))
def cK (a:MfI):=(dI ((zI a.B a.id).snd.fst.price))
def cP (a:MfI):=(dI ((zI a.B a.id).snd.fst.side))
def cL (a:MfI):=(dI ((zI a.B a.id).snd.fst.qty))
def cM (a:MfI):=(dI ((zI a.B a.id).snd.fst.id))
def zZe (a:AgI):Prop:=Sx.AObj.cells [V.d (D.v (Value.string (sb a.x.code))),V.own 0,V.d (dI a.x.tick),V.d (dI a.x.low),V.d (dI a.x.high),V.d (dI a.x.wide),V.d (dI a.x.rule),V.d (dI a.x.top),V.d (dI a.x.least),V.d (dI a.x.part),V.own ((0:Nat)+(1:Nat))] 26=Sx.AObj.cells [V.d (D.v (Value.string (sb a.x.code))),V.own 0,V.d (dI a.x.tick),V.d (dI a.x.low),V.d (dI a.x.high),V.d (dI a.x.wide),V.d (dI a.x.rule),V.d (dI a.x.top),V.d (dI a.x.least),V.d (dI a.x.part),V.own ((0:Nat)+(1:Nat))] 26∧AObj.fro 1 (iE a.x.settle)=AObj.fro 1 (iE a.x.settle)∧AObj.fro 1 (iE a.x.months)=AObj.fro 1 (iE a.x.months)
def zQs (a:Prd) (b:AgI):Prop:=Sx.AObj.cells (jT (zCf ((0:Nat)+(1:Nat)+(1:Nat)+(1:Nat)) (kE [] 0 []) 3) [sV a.code,V.own 1,zA a.tick,zA a.low,zA a.high,zA a.wide,zA a.rule,zA a.top,zA a.least,zA a.part,V.own 2]) (26:TypeId)=Sx.AObj.cells (jT (zCf ((0:Nat)+(1:Nat)+(1:Nat)+(1:Nat)) (kE [] 0 []) 3) [sV a.code,V.own 1,zA a.tick,zA a.low,zA a.high,zA a.wide,zA a.rule,zA a.top,zA a.least,zA a.part,V.own 2]) (26:TypeId)∧AObj.fro 1 (iE a.months)=AObj.fro 1 (iE a.months)∧AObj.fro 1 (iE a.settle)=AObj.fro 1 (iE a.settle)∧zZe b
def z0l (a:Cmd) (b:Prd) (c:AgI):Prop:=Sx.AObj.cells (jT (zCf ((0:Nat)+(1:Nat)+(1:Nat)+(1:Nat)+3+((1:Nat)-(0:Nat))+(1:Nat)+(0:Nat)+((0:Nat)-(0:Nat))) (kE [] 0 []) 1) a.cells) (36:TypeId)=Sx.AObj.cells (jT (zCf ((0:Nat)+(1:Nat)+(1:Nat)+(1:Nat)+3+((1:Nat)-(0:Nat))+(1:Nat)+(0:Nat)+((0:Nat)-(0:Nat))) (kE [] 0 []) 1) a.cells) (36:TypeId)∧zQs b c
def zXt (a:GdI) (b:MfI) (c:Cmd) (d:Prd) (e:AgI):Prop:=AObj.own z0n 9 (List.map wY a.X.O)=AObj.own z0n 9 (List.map wY a.X.O)∧Sx.AObj.cells [V.d (cM b),V.d (cP b),V.d (cK b),V.d (cL b),V.d (cQ b)] 56=Sx.AObj.cells [V.d (cM b),V.d (cP b),V.d (cK b),V.d (cL b),V.d (cQ b)] 56∧qC b.m=qC b.m∧z0l c d e
def zQe (a:Bool→Prop) (b:Bool) (c:GtI) (d:GdI) (e:MfI) (f:Cmd) (g:Prd) (h:AgI):Prop:=a b∧GtR c.g=GtR c.g∧zXt d e f g h
def zZt (a:Bool→Prop) (b:GtI) (c:GdI) (d:MfI) (e:Cmd) (f:Prd) (g:AgI):Prop:=∃(h:Bool),h=true∧zQe a h b c d e f g
def tC (a:Nat) (b:GdI):Prop:=0≤(↑a:Int)∧(↑a:Int)<(jL b)
def yEy (a:Nat) (b:GdI) (c:GtI) (d:Bool→Prop) (e:MfI) (f:Cmd) (g:Prd) (h:AgI):Prop:=(tC a b)∧∃(j:Int),zF (List.map wY b.X.O) (↑a:Int).toNat ((0:Nat)+(1:Nat)+0) 1=some [dI j]∧cnd (j !=2) (cnd (!(xG c.g.W c.s).snd) (zZt d c b e f g h) ((tC a b)∧∃(k:Int),zF (List.map wY b.X.O) (↑a:Int).toNat ((0:Nat)+(0:Nat)) 1=some [dI k]∧∃(l:Bool),l=((xG c.g.W c.s).fst !=k)∧zQe d l c b e f g h)) (∃(k:Bool),k=false∧zQe d k c b e f g h)
def zSj (a:zD×Bool):=(jT (zCf ((0:Nat)+(1:Nat)+(1:Nat)+(1:Nat)+3+((1:Nat)-(0:Nat))+(1:Nat)+(0:Nat)+((0:Nat)-(0:Nat))+1+((0:Nat)-(0:Nat))+((1:Nat)-(1:Nat))+((2:Nat)-(1:Nat))+((1:Nat)-(1:Nat))+1+((2:Nat)-(1:Nat))+0+((1:Nat)-(1:Nat))+(1:Nat)+(0:Nat)+0) (kE [] 0 []) 1) (zQj a.fst).cl)
def zYt (a:GdI) (b:MfI) (c:Cmd) (d:Prd) (e:AgI):Prop:=AObj.own z0n 9 (List.map wY a.X.O)=AObj.own z0n 9 (List.map wY a.X.O)∧Sx.AObj.cells [V.d (cM b),V.d (cP b),V.d (cK b),V.d (cL b),V.d (cQ b)] 56=Sx.AObj.cells [V.d (cM b),V.d (cP b),V.d (cK b),V.d (cL b),V.d (cQ b)] 56∧z0l c d e
def zYw (a:MfI) (b:Mkt) (c:GdI) (d:MfI) (e:Cmd) (f:Prd) (g:AgI):Prop:=Sx.AObj.cells [V.d (cM a),V.d (cP a),V.d (cK a),V.d (cL a),V.d (cQ a)] 56=Sx.AObj.cells [V.d (cM a),V.d (cP a),V.d (cK a),V.d (cL a),V.d (cQ a)] 56∧qC a.m=qC a.m∧GtR (Gt.mk b c.X.W)=GtR (Gt.mk b c.X.W)∧zYt c d e f g
def yDi (a:Bool→Prop) (b:Bool) (c:zD×Bool) (d:MfI) (e:Mkt) (f:GdI) (g:MfI) (h:Cmd) (j:Prd) (k:AgI):Prop:=a b∧Sx.AObj.cells (zSj c) (56:TypeId)=Sx.AObj.cells (zSj c) (56:TypeId)∧zYw d e f g h j k
def z3d (a:Bool→Prop) (b:zD×Bool) (c:MfI) (d:Mkt) (e:GdI) (f:MfI) (g:Cmd) (h:Prd) (j:AgI):Prop:=∃(k:Bool),k=true∧yDi a k b c d e f g h j
def zYa (a:Cmd) (b:GtI) (c:zD×Bool→Prop) (d:MfI) (e:Mkt) (f:GdI) (g:MfI) (h:Prd) (j:AgI):Prop:=∃(k:MfI),k.id=a.id∧qC k.m=qC b.g.m∧(k.m.Rep k.p k.B k.U∧BOk k.p k.B)∧∀(l:Unit),True→∃(m:zD×Bool),m.snd=(zI k.B k.id).snd.snd∧m.fst.id=(zI k.B k.id).snd.fst.id∧m.fst.side=(zI k.B k.id).snd.fst.side∧m.fst.price=(zI k.B k.id).snd.fst.price∧m.fst.qty=(zI k.B k.id).snd.fst.qty∧m.fst.top=(zI k.B k.id).snd.fst.top∧c m∧Sx.AObj.cells [V.d (cM d),V.d (cP d),V.d (cK d),V.d (cL d),V.d (cQ d)] 56=Sx.AObj.cells [V.d (cM d),V.d (cP d),V.d (cK d),V.d (cL d),V.d (cQ d)] 56∧qC d.m=qC d.m∧GtR b.g=GtR (Gt.mk e f.X.W)∧zYt f g a h j
def z1f (a:Cmd) (b:GtI) (c:zD×Bool→Prop) (d:MfI) (e:Mkt) (f:GdI) (g:MfI) (h:Prd) (j:AgI):Prop:=a.id=a.id∧zYa a b c d e f g h j
def zZi (a:GkJ) (b:Prd) (c:AgI):Prop:=GtR a.g=GtR a.g∧zQs b c
def zYc (a:Prd) (b:Int) (c:Int) (d:Int) (e:Int) (f:Int) (g:Int) (h:Int) (j:Int) (k:ByteArray) (l:GkJ) (m:Cmd→Prop) (n:AgI):Prop:=∃(p:TmI),sb p.p.code=sb a.code∧iE p.p.months=iE a.months∧p.p.tick=a.tick∧p.p.low=a.low∧p.p.high=a.high∧p.p.wide=a.wide∧p.p.rule=a.rule∧p.p.top=a.top∧p.p.least=a.least∧p.p.part=a.part∧iE p.p.settle=iE a.settle∧p.c.kind=b∧p.c.id=c∧p.c.inst=d∧p.c.side=e∧p.c.price=f∧p.c.qty=g∧p.c.least=h∧p.c.time=j∧sb p.c.label=k∧p.i=(↑l.k:Int)∧(p.p.check=0∧(p.p.code.length≤1099511627776∧p.p.months.length≤1099511627776∧p.p.settle.length≤1099511627776)∧(((-9223372036854775808)≤p.c.kind∧p.c.kind≤9223372036854775807)∧((-9223372036854775808)≤p.c.id∧p.c.id≤9223372036854775807)∧((-9223372036854775808)≤p.c.inst∧p.c.inst≤9223372036854775807)∧((-9223372036854775808)≤p.c.side∧p.c.side≤9223372036854775807)∧((-9223372036854775808)≤p.c.price∧p.c.price≤9223372036854775807)∧((-9223372036854775808)≤p.c.qty∧p.c.qty≤9223372036854775807)∧((-9223372036854775808)≤p.c.least∧p.c.least≤9223372036854775807)∧(-9223372036854775808)≤p.c.time∧p.c.time≤9223372036854775807)∧0≤p.i∧p.i≤1000000)∧∀(q:Unit),True→∃(r:Cmd),r.kind=(xK p).kind∧r.id=(xK p).id∧r.inst=(xK p).inst∧r.side=(xK p).side∧r.price=(xK p).price∧r.qty=(xK p).qty∧r.least=(xK p).least∧r.time=(xK p).time∧sb r.label=sb (xK p).label∧m r∧zZi l a n
def zIu (a:Bool→Prop) (b:Bool) (c:MfI) (d:Mkt) (e:GdI) (f:MfI) (g:Cmd) (h:Prd) (j:AgI):Prop:=a b∧zYw c d e f g h j
def zZg (a:Bool→Prop) (b:MfI) (c:Mkt) (d:GdI) (e:MfI) (f:Cmd) (g:Prd) (h:AgI):Prop:=∃(j:Bool),j=true∧zIu a j b c d e f g h
def zZa (a:GkJ) (b:Mkt) (c:GdI) (d:GkJ→Prop) (e:GkJ→Nat) (f:Prd) (g:AgI):Prop:=∃(h:GkJ),(↑h.k:Int)=IntKind.i64.wrap ((↑a.k:Int)+1)∧GtR h.g=GtR (Gt.mk b c.X.W)∧d h∧e h<e a∧zQs f g
def z1g (a:Bool→Prop) (b:Bool) (c:GkJ) (d:Prd) (e:AgI):Prop:=a b∧zZi c d e
def Vgo (i:AgI):Prop:=
 ∃(a:Prd),∃(b:Prd→Prop),(∃(c:Prd),sb c.code=sb i.x.code∧iE c.months=iE i.x.months∧c.tick=i.x.tick∧c.low=i.x.low∧c.high=i.x.high∧c.wide=i.x.wide∧c.rule=i.x.rule∧c.top=i.x.top∧c.least=i.x.least∧c.part=i.x.part∧iE c.settle=iE i.x.settle∧(((-9223372036854775808)≤c.tick∧c.tick≤9223372036854775807)∧((-9223372036854775808)≤c.wide∧c.wide≤9223372036854775807)∧((-9223372036854775808)≤c.rule∧c.rule≤9223372036854775807)∧((-9223372036854775808)≤c.top∧c.top≤9223372036854775807)∧((-9223372036854775808)≤c.least∧c.least≤9223372036854775807)∧((-9223372036854775808)≤c.part∧c.part≤9223372036854775807)∧c.months.length≤9223372036854775807)∧∀(d:Unit),True→∃(e:Prd),sb e.code=sb [(206:UInt8),(169:UInt8)]∧e.tick=zU c∧e.low=(-20)*zU c∧e.high=100*zU c∧e.wide=zU c*(5+zG c.wide 0 60)∧e.rule=1+zG c.rule 0 2∧e.top=zG c.top 0 9∧e.least=1+zG c.least 0 4∧e.part=zG c.part 0 100∧AObj.fro 1 (iE e.months)=AObj.fro 1 (iE (jI (kN c).toNat))∧AObj.fro 1 (iE e.settle)=AObj.fro 1 (iE (kD (zU c) (kN c).toNat))∧b e∧zZe i)∧∀(c:Prd),b c→∃(d:Prd),sb d.code=sb c.code∧iE d.months=iE c.months∧d.tick=c.tick∧d.low=c.low∧d.high=c.high∧d.wide=c.wide∧d.rule=c.rule∧d.top=c.top∧d.least=c.least∧d.part=c.part∧iE d.settle=iE c.settle∧(z8 d)∧(∀(e:Unit),d.check=0→∃(f:GkJ),(↑f.k:Int)=0∧GtR f.g=GtR (Gt.mk (Mkt.mk d (cD d) []) [])∧∃(g:GkJ→Prop),∃(h:GkJ→Nat),g f∧∀(j:GkJ),g j→∃(k:Bool),∃(l:Bool→Prop),cnd (decide ((↑j.k:Int)<(↑(List.map gaskE i.l).length:Int))) (∃(m:Bool),m=decide ((↑j.k:Int)<50)∧z1g l m j c i) (∃(m:Bool),m=false∧z1g l m j c i)∧∀(m:Bool),l m→cnd m ((0≤(↑j.k:Int)∧(↑j.k:Int)<(↑(List.map gaskE i.l).length:Int))∧∃(n:Int),zF (List.map gaskE i.l) (↑j.k:Int).toNat ((0:Nat)+(0:Nat)) 1=some [dI n]∧∃(p:WiI),p.n=n∧p.lo=0∧p.hi=3∧(yY p)∧∀(q:Unit),True→∃(r:Cmd),∃(s:Cmd→Prop),((0≤(↑j.k:Int)∧(↑j.k:Int)<(↑(List.map gaskE i.l).length:Int))∧∃(t:Int),∃(u:Int),∃(v:Int),∃(w:Int),∃(x:Int),∃(y:Int),∃(z:Int),∃(a_1:Int),∃(a_2:ByteArray),zF (List.map gaskE i.l) (↑j.k:Int).toNat ((0:Nat)+(1:Nat)) 9=some [dI t,dI u,dI v,dI w,dI x,dI y,dI z,dI a_1,D.v (Value.string a_2)]∧(zYc c t u v w x y z a_1 a_2 j s i)∧True∧(sb c.code=sb c.code∧True∧c.tick=c.tick∧c.low=c.low∧c.high=c.high∧c.wide=c.wide∧c.rule=c.rule∧c.top=c.top∧c.least=c.least∧c.part=c.part∧True∧True)∧zYc c t u v w x y z a_1 a_2 j s i)∧∀(t:Cmd),s t→∃(u:Cmd),u.kind=t.kind∧u.id=t.id∧u.inst=t.inst∧u.side=t.side∧u.price=t.price∧u.qty=t.qty∧u.least=t.least∧u.time=t.time∧sb u.label=sb t.label∧(u.label=[]∧u.right=0)∧∀(v:Unit),True→∃(w:GtI),w.s=t.id∧GtR w.g=GtR j.g∧True∧∀(x:Unit),True→∃(y:GtI),GtR y.g=GtR w.g∧(y.g.m.Rep y.p y.B y.U∧BOk y.p y.B)∧∀(z:Unit),True→∃(a_1:MfI),a_1.id=t.id∧qC a_1.m=qC y.g.m∧(a_1.m.Rep a_1.p a_1.B a_1.U∧BOk a_1.p a_1.B)∧∀(a_2:Unit),True→∃(a_3:GdI),a_3.s=zG p.n p.lo p.hi∧bE a_3.b=bE u.enc∧GtR a_3.g=GtR y.g∧(fA a_3)∧∀(a_4:Mkt),a_4.Rep a_3.p a_3.X.B a_3.X.U→∃(a_5:Nat),(↑a_5:Int)=0∧∃(a_6:Nat→Prop),∃(a_7:Nat→Nat),a_6 a_5∧∀(a_8:Nat),a_6 a_8→cnd (decide ((↑a_8:Int)<(jL a_3))) ((tC a_8 a_3)∧∃(a_9:Int),zF (List.map wY a_3.X.O) (↑a_8:Int).toNat ((0:Nat)+(1:Nat)+1) 1=some [dI a_9]∧∃(a_10:GtI),a_10.s=a_9∧GtR a_10.g=GtR (Gt.mk a_4 a_3.X.W)∧True∧∀(a_11:Unit),True→∃(a_12:Bool),∃(a_13:Bool→Prop),((tC a_8 a_3)∧∃(a_14:Int),zF (List.map wY a_3.X.O) (↑a_8:Int).toNat ((0:Nat)+(1:Nat)+0) 1=some [dI a_14]∧cnd (a_14==2) ((tC a_8 a_3)∧∃(a_15:Int),zF (List.map wY a_3.X.O) (↑a_8:Int).toNat ((0:Nat)+(0:Nat)) 1=some [dI a_15]∧cnd (a_15 !=zG p.n p.lo p.hi) (zZt a_13 a_10 a_3 a_1 t c i) (yEy a_8 a_3 a_10 a_13 a_1 t c i)) (yEy a_8 a_3 a_10 a_13 a_1 t c i))∧∀(a_14:Bool),a_13 a_14→cnd a_14 (∃(a_15:Unit),true=false∧True) (∃(a_15:Nat),(↑a_15:Int)=IntKind.i64.wrap ((↑a_8:Int)+1)∧a_6 a_15∧a_7 a_15<a_7 a_8∧GtR a_10.g=GtR (Gt.mk a_4 a_3.X.W)∧zXt a_3 a_1 t c i)) (∃(a_9:MfI),a_9.id=t.id∧qC a_9.m=qC a_1.m∧(a_9.m.Rep a_9.p a_9.B a_9.U∧BOk a_9.p a_9.B)∧∀(a_10:Unit),True→∃(a_11:Bool),∃(a_12:Bool→Prop),cnd (!((zI a_1.B a_1.id).snd.fst.id==(zI a_9.B a_9.id).snd.fst.id && ((zI a_1.B a_1.id).snd.fst.side==(zI a_9.B a_9.id).snd.fst.side && ((zI a_1.B a_1.id).snd.fst.price==(zI a_9.B a_9.id).snd.fst.price && ((zI a_1.B a_1.id).snd.fst.qty==(zI a_9.B a_9.id).snd.fst.qty && ((zI a_1.B a_1.id).snd.fst.top==(zI a_9.B a_9.id).snd.fst.top && true)))))) (zZg a_12 a_9 a_4 a_3 a_1 t c i) (∃(a_13:Bool),a_13=!(zI a_1.B a_1.id).snd.snd==(zI a_9.B a_9.id).snd.snd∧zIu a_12 a_13 a_9 a_4 a_3 a_1 t c i)∧∀(a_13:Bool),a_12 a_13→cnd a_13 (∃(a_14:Unit),true=false∧True) (∃(a_14:Bool),∃(a_15:Bool→Prop),cnd (t.kind==1) (zZg a_15 a_9 a_4 a_3 a_1 t c i) (cnd (xG w.g.W w.s).snd (∃(a_16:Bool),a_16=((xG w.g.W w.s).fst==zG p.n p.lo p.hi)∧zIu a_15 a_16 a_9 a_4 a_3 a_1 t c i) (∃(a_16:Bool),a_16=false∧zIu a_15 a_16 a_9 a_4 a_3 a_1 t c i))∧∀(a_16:Bool),a_15 a_16→cnd a_16 (zZa j a_4 a_3 g h c i) (∃(a_17:zD×Bool),∃(a_18:zD×Bool→Prop),((∃(a_19:GtI),GtR a_19.g=GtR (Gt.mk a_4 a_3.X.W)∧(a_19.g.m.Rep a_19.p a_19.B a_19.U∧BOk a_19.p a_19.B)∧∀(a_20:Unit),True→t.id=t.id∧(zYa t a_19 a_18 a_9 a_4 a_3 a_1 c i)∧z1f t a_19 a_18 a_9 a_4 a_3 a_1 c i)∧t.id=t.id∧∃(a_19:GtI),GtR a_19.g=GtR (Gt.mk a_4 a_3.X.W)∧(a_19.g.m.Rep a_19.p a_19.B a_19.U∧BOk a_19.p a_19.B)∧∀(a_20:Unit),True→z1f t a_19 a_18 a_9 a_4 a_3 a_1 c i)∧∀(a_19:zD×Bool),a_18 a_19→∃(a_20:Bool),∃(a_21:Bool→Prop),cnd ((jL a_3) !=1) (z3d a_21 a_19 a_9 a_4 a_3 a_1 t c i) ((wK a_3)∧∃(a_22:Int),zF (List.map wY a_3.X.O) (Int.toNat 0) ((0:Nat)+(1:Nat)+7) 1=some [dI a_22]∧cnd (a_22 !=26) (z3d a_21 a_19 a_9 a_4 a_3 a_1 t c i) (cnd (!(a_19.fst.id==(zI a_1.B a_1.id).snd.fst.id && (a_19.fst.side==(zI a_1.B a_1.id).snd.fst.side && (a_19.fst.price==(zI a_1.B a_1.id).snd.fst.price && (a_19.fst.qty==(zI a_1.B a_1.id).snd.fst.qty && (a_19.fst.top==(zI a_1.B a_1.id).snd.fst.top && true)))))) (z3d a_21 a_19 a_9 a_4 a_3 a_1 t c i) (∃(a_23:Bool),a_23=!a_19.snd==(zI a_1.B a_1.id).snd.snd∧yDi a_21 a_23 a_19 a_9 a_4 a_3 a_1 t c i)))∧∀(a_22:Bool),a_21 a_22→cnd a_22 (∃(a_23:Unit),true=false∧True) (zZa j a_4 a_3 g h c i))))) (∃(n:Unit),True∧∀(p:Unit),True→∃(q:Unit),true=true∧True))∧∀(e:Unit),d.check≠0→∃(f:Unit),true=false∧True
theorem eqgo (i:AgI):Vgo i=walk Tryz.prog ([(20,kprodC),(14,newGC),(17,withinC),(21,tameC),(15,r6encC),(22,gownerC),(23,gmktC),(24,mfindC),(16,gdoC),(19,known18C)]) 0 (goJ) (goA) [] Tryz.f4 (Tryz.f4.body.getD .skip) (goC.pat i) (goC.pre i) (goC.alts i):=by kernel_rfl
set_option linter.unusedSimpArgs false
open Go Cv Go.Proofs
theorem z1h {c:Cmd} (h:c.right=0):c.enc.length≤1099511627776:=by
 have e:c.enc=lob c.kind::(le c.id 8++c.tail):=by rw[Cmd.enc,yWl (by simp[h])]
 have ht:c.tail.length≤300:=by
  rw[Cmd.tail]
  split
  ·simp only[yXa,yWs,vZ,sU,yXi];omega
  split
  ·rw[vZ];omega
  split
  ·rw[yWs,vZ,vZ];omega
  ·exact yYe _
 rw[e,yXa,yWs,vZ];omega
theorem zRf {p:Prd} {B:List (List zD)} (h:BWf p B) (U:List Int) {W:List (Int×Int)} {s:Int} {b:List UInt8}:BOk p (fP p B U W s b).B:=by
 rw[fP]
 split
 ·exact h.ok
 split
 ·exact h.ok
 rw[dS]
 split
 ·exact h.ok
 split
 ·exact h.ok
 ·exact yNa h U _
def kb18:Cmd:=⟨1,7,0,1,5,3,0,1,[]⟩
def kG1:GtX:=fP (cI 1) (List.replicate (cI 1).count []) [] [] 0 [114,117,98,98,105,115,104]
def kG2:GtX:=fP (cI 1) kG1.B kG1.U kG1.W 3 kb18.enc
theorem yVy:kG1.O=[(0,⟨2,0,0,0,0,0,0,31⟩)]:=by kernel_rfl
theorem yVk:kG2.O=[(3,⟨1,7,0,1,5,3,3,0⟩)]:=by kernel_rfl
theorem yVa:xG kG2.W 7=(3,true):=by kernel_rfl
theorem yVu:eX kG2.B kG2.W 3=1:=by kernel_rfl
theorem yDo (u:Unit) (h:known18C.cnd u):zXi u:=by
 have hc:(cI 1).check=0:=by decide+kernel
 have hp:(cI 1).small:=by refine⟨?_,?_,?_⟩<;>decide
 have hB0:=BOk.new hc hp
 have hM0:=z1l (cI 1)
 have hB1:BOk (cI 1) kG1.B:=zRf (hM0.s.wf hB0) _
 have hr:kb18.right=0:=by decide+kernel
 unfold zXi wK jL fA z8 dI
 refine⟨1,rfl,trivial,fun _ _=>⟨cI 1,rfl,rfl,rfl,rfl,rfl,rfl,rfl,rfl,rfl,rfl,rfl,hp,fun _ _=>⟨by decide,⟨⟨mk0 (cI 1),[]⟩,cI 1,List.replicate (cI 1).count [],[],0,[114,117,98,98,105,115,104],kG1⟩,rfl,rfl,rfl,⟨⟨hM0,hB0⟩,by dsimp only;decide,by dsimp only;rw[kG1]⟩,fun o1 ho1=>⟨kb18,rfl,rfl,rfl,rfl,rfl,rfl,rfl,rfl,rfl,⟨rfl,hr⟩,fun _ _=> ?_⟩⟩,fun _ hx=>absurd hc hx⟩⟩
 have hB2:BOk (cI 1) kG2.B:=zRf (ho1.s.wf hB1) _
 refine⟨⟨⟨o1,kG1.W⟩,cI 1,kG1.B,kG1.U,3,kb18.enc,kG2⟩,rfl,rfl,rfl,⟨⟨ho1,hB1⟩,z1h hr,by dsimp only;rw[kG2]⟩,fun o2 ho2=> ?_⟩
 dsimp only at ho2 ⊢
 rw[yVy,yVk]
 refine⟨⟨⟨o2,kG2.W⟩,cI 1,kG2.B,kG2.U,7⟩,rfl,rfl,trivial,fun _ _=> ?_⟩
 dsimp only
 rw[yVa]
 refine Cv.cnd.mk (fun _=>⟨⟨by decide,by decide⟩,_,rfl,Cv.cnd.mk (fun _=>⟨⟨by decide,by decide⟩,_,rfl,Cv.cnd.mk (fun _=>Cv.cnd.mk (fun _=>⟨⟨by decide,by decide⟩,_,rfl,Cv.cnd.mk (fun _=>⟨⟨by decide,by decide⟩,_,rfl,Cv.cnd.mk (fun _=>Cv.cnd.mk (fun _=>Cv.cnd.mk (fun _=>⟨⟨⟨o2,kG2.W⟩,cI 1,kG2.B,kG2.U,3⟩,rfl,rfl,⟨ho2,hB2⟩,fun _ _=>⟨(),?_,trivial⟩⟩) (fun e=>absurd e (by decide))) (fun e=>absurd e (by decide))) (fun e=>absurd e (by decide))⟩) (fun e=>absurd e (by decide))⟩) (fun e=>absurd e (by decide))) (fun e=>absurd e (by decide))⟩) (fun e=>absurd e (by decide))⟩) (fun e=>absurd e (by decide))
 dsimp only
 rw[yVu];rfl
theorem known18_ok:known18C.ok Tryz.prog 19:=okw mixed (gokc yDv (gokc newG_ok (gokc gdo_ok (gokc r6enc_ok (gokc gowner_ok (gokc yCr gok0)))))) 0 (fun _=>[]) (fun _=>[]) [] Tryz.func19 yDo
open Go Cv Go.Proofs
theorem yWa {l:List AskM} {k:Nat} {a:AskM} (h:l[k]? =some a):zF (l.map gaskE) k 0 1=some [D.v (.int .i64 a.s)]∧
 zF (l.map gaskE) k 1 9=some [D.v (.int .i64 a.c.kind),.v (.int .i64 a.c.id),.v (.int .i64 a.c.inst),.v (.int .i64 a.c.side),.v (.int .i64 a.c.price),.v (.int .i64 a.c.qty),.v (.int .i64 a.c.least),.v (.int .i64 a.c.time),.v (.string (sb a.c.label))]:=
 ⟨elA h (by simp[gaskE,cmdE]) rfl,elA h (by simp[gaskE,cmdE]) rfl⟩
theorem elO {O:List (Int×Rep)} {k:Nat} {o:Int×Rep} (h:O[k]? =some o):zF (O.map wY) k 0 1=some [D.v (.int .i64 o.1)]∧zF (O.map wY) k 1 1=some [D.v (.int .i64 o.2.kind)]∧zF (O.map wY) k 2 1=some [D.v (.int .i64 o.2.id)]:=
 ⟨elA h (by simp[wY,xN]) rfl,elA h (by simp[wY,xN]) rfl,elA h (by simp[wY,xN]) rfl⟩
theorem yIx {t:TmI} (h:0≤t.i∧t.i≤1000000):1≤(xK t).id∧(xK t).id≤1099511627776:=by
 have:0≤zG t.c.id 0 30∧zG t.c.id 0 30≤30:=by rw[zG];omega
 rw[xK]
 split
 ·dsimp only;omega
 ·simp only[yZ];omega
theorem yOa {x:Prd} {c:Cmd} {k:Nat} (hk:k≤1000000):(xK ⟨yC x,c,k⟩).right=0:=by
 have:=zXs x c k (xK ⟨yC x,c,k⟩).id (yIx (by dsimp only;omega))
 exact this
theorem yGu (n:Nat):Acc (List.replicate n []) []:=by
 intro L hL o ho
 rw[yZr hL]at ho
 cases ho
theorem yJy (n:Nat):qQ (List.replicate n [])≤250:=by rw[qQ,List.map_replicate];simp
theorem yEw (D:Int→Prop) (n:Nat):Fits D ⟨fun _=>0,fun _=>0⟩ (List.replicate n []):=by
 refine⟨fun x=>(zMl fun L hL o ho=>by rw[yZr hL]at ho;cases ho).symm,?_,?_⟩
 ·intro k L hL o ho
  rw[yZr (yWv hL)]at ho
  cases ho
 ·intro L hL o ho
  rw[yZr hL]at ho
  cases ho
theorem zNs (s:Int):∀(R:List Rep) (W:List (Int×Int)),(hP s W R).2.length=R.length
 |[],_=>rfl
 |r::R,W=>by rw[hP];dsimp only;rw[yXa,zNs s R,yXa]
theorem yCh {p:Prd} {B:List (List zD)} (h:BWf p B) (U:List Int) {W:List (Int×Int)} {s:Int} {b:List UInt8}:(fP p B U W s b).O.length≤9223372036854775806:=by
 have h1:∀x y:Int,(zKq B U W s x y).O.length≤9223372036854775806:=fun x y=>by
  show 1≤9223372036854775806
  omega
 rw[fP]
 split
 ·exact h1 _ _
 split
 ·exact h1 _ _
 rw[dS]
 split
 ·exact h1 _ _
 split
 ·exact h1 _ _
 ·dsimp only
  rw[zNs]
  exact yYw (z2a h U _) (by omega)
theorem vgo (i:AgI) (h:goC.cnd i):Vgo i:=by
 obtain⟨hraw,hok,-,hlen,-⟩:i.x.raw∧(∀a∈i.l,a.ok)∧(∀a∈i.q,a.ok)∧i.l.length≤9223372036854775807∧i.q.length≤9223372036854775807:=h
 have hc:=sM i.x
 have hs:=zTv i.x
 have hml:(List.map gaskE i.l).length=i.l.length:=yWo _
 unfold Vgo yY wK fA z3d yDi zSj z1g zZa zZg zIu zYw zYc zZi z1f zYa zYt yEy tC jL zZt zQe zXt z0l zQs zZe cM cL cP cK cQ z8 dI
 rw[hml]
 refine⟨yC i.x,fun y=>y=yC i.x,⟨i.x,rfl,rfl,rfl,rfl,rfl,rfl,rfl,rfl,rfl,rfl,rfl,hraw,fun _ _=>⟨yC i.x,rfl,rfl,rfl,rfl,rfl,rfl,rfl,rfl,rfl,rfl,rfl,rfl,by(repeat'(first|exact trivial|exact rfl|apply And.intro))⟩⟩,?_⟩
 rintro _ rfl
 refine⟨yC i.x,rfl,rfl,rfl,rfl,rfl,rfl,rfl,rfl,rfl,rfl,rfl,hs,fun _ _=> ?_,fun _ hne=>absurd hc hne⟩
 refine⟨⟨⟨mk0 (yC i.x),[]⟩,0⟩,rfl,rfl,fun j=>(j.k≤50∧j.k≤i.l.length)∧∃B U S,j.g.m.Rep (yC i.x) B U∧BOk (yC i.x) B∧Acc B U∧qQ B≤250∧Fits (Own j.g.W) S B,fun j=>50-j.k,⟨⟨yYe _,yYe _⟩,_,_,_,z1l _,BOk.new hc hs,yGu _,yJy _,yEw _ _⟩,?_⟩
 rintro⟨⟨m,W⟩,k⟩ ⟨⟨hk1,hk2⟩,B,U,S,hM,hB,hA,hn,hF⟩
 dsimp only at hk1 hk2 hM hF ⊢
 refine⟨true,fun b=>b=decide (k<i.l.length∧k<50),zJ (fun c=>⟨_,rfl,decide_eq_decide.2 ⟨fun x=>⟨by omega,by omega⟩,fun x=>by omega⟩,by(repeat'(first|exact trivial|exact rfl|apply And.intro))⟩) (fun c=>⟨_,rfl,(yWy (by omega)).symm,by(repeat'(first|exact trivial|exact rfl|apply And.intro))⟩),?_⟩
 rintro _ rfl
 refine zJ (fun hb=> ?_) (fun _=>⟨(),trivial,fun _ _=>⟨(),rfl,trivial⟩⟩)
 obtain⟨hb1,hb2⟩:=hb
 obtain⟨a,ha⟩:=yA (l:=i.l) (i:=k) hb1
 obtain⟨e1,e2⟩:=yWa ha
 obtain⟨hs64,hcr⟩:=hok a (yWv ha)
 have hw:0≤zG a.s 0 3∧zG a.s 0 3≤3:=by rw[zG];omega
 obtain⟨C,hC⟩:∃C:Cmd,C=xK ⟨yC i.x,a.c,k⟩:=⟨_,rfl⟩
 refine⟨⟨by omega,by omega⟩,a.s,e1,⟨a.s,0,3⟩,rfl,rfl,rfl,⟨hs64,by dsimp only;decide,by dsimp only;decide,by dsimp only;decide⟩,fun _ _=>⟨zNa,fun y=>y=C,⟨⟨by omega,by omega⟩,a.c.kind,a.c.id,a.c.inst,a.c.side,a.c.price,a.c.qty,a.c.least,a.c.time,sb a.c.label,e2,yVp ?_ (by(repeat'(first|exact trivial|exact rfl|apply And.intro)))⟩,?_⟩⟩
 ·exact⟨⟨yC i.x,a.c,k⟩,rfl,rfl,rfl,rfl,rfl,rfl,rfl,rfl,rfl,rfl,rfl,rfl,rfl,rfl,rfl,rfl,rfl,rfl,rfl,rfl,rfl,⟨hc,hs,hcr,by dsimp only;omega,by dsimp only;omega⟩,fun _ _=>⟨_,rfl,rfl,rfl,rfl,rfl,rfl,rfl,rfl,rfl,hC.symm,by(repeat'(first|exact trivial|exact rfl|apply And.intro))⟩⟩
 intro D hD
 obtain rfl:C=D:=Eq.symm hD
 have hr:C.right=0:=by rw[hC];exact yOa (by omega)
 have hlb:C.label=[]:=by rw[hC];exact zIj _
 have hwf:=hM.s.wf hB
 dsimp only
 generalize zG a.s 0 3=s at hw
 have hX:fP (yC i.x) B U W s C.enc=dS (yC i.x) B U W s C.asks:=yEc ⟨by omega,by omega⟩ hr
 obtain⟨⟨g1,g2,S',g3⟩,g4⟩:=yAg hwf hA hn hF s C.asks
 have hB':BOk (yC i.x) (fP (yC i.x) B U W s C.enc).B:=zRf hwf U
 have hoth:¬C.kind=1→¬((xG W C.id).2=true∧(xG W C.id).1=s)→fP (yC i.x) B U W s C.enc=zKq B U W s C.id 26:=fun x y=>by
  obtain⟨q1,q2⟩:=z5q hr
  rw[hX,z0o (by rw[q1];exact x) (by rw[q2];exact y),q2]
 rw[← hX]at g1 g2 g3 g4
 clear hX
 refine⟨C,rfl,rfl,rfl,rfl,rfl,rfl,rfl,rfl,rfl,⟨hlb,hr⟩,fun _ _=>⟨⟨⟨m,W⟩,yC i.x,B,U,C.id⟩,rfl,rfl,trivial,fun _ _=>⟨⟨⟨m,W⟩,yC i.x,B,U,0⟩,rfl,⟨hM,hB⟩,fun _ _=>⟨⟨m,yC i.x,B,U,C.id⟩,rfl,rfl,⟨hM,hB⟩,fun _ _=>⟨⟨⟨m,W⟩,yC i.x,B,U,s,C.enc,fP (yC i.x) B U W s C.enc⟩,rfl,rfl,rfl,⟨⟨hM,hB⟩,z1h hr,rfl⟩,fun o ho=> ?_⟩⟩⟩⟩⟩
 dsimp only at ho ⊢
 have hol:(fP (yC i.x) B U W s C.enc).O.length≤9223372036854775806:=yCh hwf U
 generalize fP (yC i.x) B U W s C.enc=X at*
 obtain⟨XB,XU,XW,XO⟩:=X
 dsimp only at*
 have e4:(XO.map wY).length=XO.length:=yWo ..
 have hown:(xG W C.id,xG W C.id)=(xG W C.id,xG W C.id):=rfl
 refine⟨0,rfl,fun k=>k≤XO.length,fun k=>XO.length-k,yYe _,fun n hn=>zJ (fun e=> ?_) (fun e=> ?_)⟩
 ·obtain⟨⟨t,r⟩,hr2⟩:=yA (l:=XO) (i:=n) (by omega)
  obtain⟨r1,r2,r3⟩:=elO hr2
  dsimp only at r1 r2 r3
  obtain⟨o1,o2⟩:=g4 _ (yWv hr2)
  dsimp only at o1 o2
  have hbd:(0:Int)≤n∧(n:Int)<((XO.map wY).length:Nat):=⟨by omega,e⟩
  refine⟨hbd,r.id,r3,⟨⟨o,XW⟩,yC i.x,XB,XU,r.id⟩,rfl,rfl,trivial,fun _ _=>⟨false,fun b=>b=false,⟨hbd,r.kind,r2,Cv.cnd.mk (fun c=> ?_) (fun c=> ?_)⟩,?_⟩⟩
  ·have c:r.kind=2:=by simpa using c
   refine⟨hbd,t,r1,Cv.cnd.mk (fun c2=> ?_) (fun _=>⟨hbd,r.kind,r2,Cv.cnd.mk (fun c2=>absurd c2 (by simp[c])) (fun _=>⟨_,rfl,rfl,by(repeat'(first|exact trivial|exact rfl|apply And.intro))⟩)⟩)⟩
   rw[o1 c]at c2
   simp at c2
  ·have c:¬r.kind=2:=by simpa using c
   have o2:=o2 c
   refine⟨hbd,r.kind,r2,Cv.cnd.mk (fun _=>Cv.cnd.mk (fun c2=> ?_) (fun _=>⟨hbd,t,r1,_,rfl,by dsimp only;rw[o2];simp,by(repeat'(first|exact trivial|exact rfl|apply And.intro))⟩)) (fun c2=>absurd c2 (by simp[c]))⟩
   dsimp only at c2
   rw[o2]at c2
   cases c2
  ·rintro _ rfl
   exact Cv.cnd.mk (fun c=>absurd c (by decide)) (fun _=>⟨n+1,wjN (by omega),by dsimp only;omega,by dsimp only;omega,rfl,by(repeat'(first|exact trivial|exact rfl|apply And.intro))⟩)
 have hnext:((k+1≤50∧k+1≤i.l.length)∧∃B U S,o.Rep (yC i.x) B U∧BOk (yC i.x) B∧Acc B U∧qQ B≤250∧Fits (Own XW) S B):=⟨⟨by omega,by omega⟩,XB,XU,S',ho,hB',g1,g2,g3⟩
 refine⟨⟨m,yC i.x,B,U,C.id⟩,rfl,rfl,⟨hM,hB⟩,fun _ _=>⟨false,fun b=>b=false,Cv.cnd.mk (fun c=>absurd c (by simp)) (fun _=>⟨_,rfl,by simp,by(repeat'(first|exact trivial|exact rfl|apply And.intro))⟩),?_⟩⟩
 rintro _ rfl
 refine Cv.cnd.mk (fun c=>absurd c (by decide)) (fun _=>⟨false,fun b=>b=decide (C.kind=1∨((xG W C.id).2=true∧(xG W C.id).1=s)),Cv.cnd.mk (fun c=>⟨_,rfl,(yXf (.inl (by simpa using c))).symm,by(repeat'(first|exact trivial|exact rfl|apply And.intro))⟩) (fun c=>Cv.cnd.mk (fun c2=>⟨_,rfl,?_,by(repeat'(first|exact trivial|exact rfl|apply And.intro))⟩) (fun c2=>⟨_,rfl,?_,by(repeat'(first|exact trivial|exact rfl|apply And.intro))⟩)),?_⟩)
 ·have c:¬C.kind=1:=by simpa using c
  show((xG W C.id).1==s)=decide (C.kind=1∨((xG W C.id).2=true∧(xG W C.id).1=s))
  rw[Bool.eq_iff_iff,yXy,beq_iff_eq]
  exact⟨fun x=> .inr ⟨c2,x⟩,fun x=>(x.resolve_left c).2⟩
 ·have c:¬C.kind=1:=by simpa using c
  have c2:(xG W C.id).2=false:=c2
  exact(yWy fun x=>by
   rcases x with x|⟨x,_⟩
   ·exact c x
   ·rw[c2]at x;cases x).symm
 rintro _ rfl
 refine zJ (fun c=>⟨⟨⟨o,XW⟩,k+1⟩,wjn (by omega),rfl,hnext,by dsimp only;omega,by(repeat'(first|exact trivial|exact rfl|apply And.intro))⟩) (fun c=> ?_)
 have hx26:=hoth (fun x=>c (.inl x)) (fun x=>c (.inr x))
 have h1:XB=B:=congrArg GtX.B hx26
 have h2:XO=[(s,⟨2,C.id,0,0,0,0,0,26⟩)]:=congrArg GtX.O hx26
 subst h1 h2
 refine⟨(yKc,false),fun x=>x=((zI XB C.id).2.1,(zI XB C.id).2.2),⟨⟨⟨⟨o,XW⟩,yC i.x,XB,XU,0⟩,rfl,⟨ho,hB'⟩,fun _ _=>⟨rfl,⟨⟨o,yC i.x,XB,XU,C.id⟩,rfl,rfl,⟨ho,hB'⟩,fun _ _=>⟨((zI XB C.id).2.1,(zI XB C.id).2.2),rfl,rfl,rfl,rfl,rfl,rfl,rfl,by(repeat'(first|exact trivial|exact rfl|apply And.intro)),rfl,by(repeat'(first|exact trivial|exact rfl|apply And.intro))⟩⟩,rfl,⟨⟨o,yC i.x,XB,XU,C.id⟩,rfl,rfl,⟨ho,hB'⟩,fun _ _=>⟨((zI XB C.id).2.1,(zI XB C.id).2.2),rfl,rfl,rfl,rfl,rfl,rfl,rfl,by(repeat'(first|exact trivial|exact rfl|apply And.intro)),rfl,by(repeat'(first|exact trivial|exact rfl|apply And.intro))⟩⟩⟩⟩,rfl,⟨⟨o,XW⟩,yC i.x,XB,XU,0⟩,rfl,⟨ho,hB'⟩,fun _ _=>⟨rfl,⟨⟨o,yC i.x,XB,XU,C.id⟩,rfl,rfl,⟨ho,hB'⟩,fun _ _=>⟨((zI XB C.id).2.1,(zI XB C.id).2.2),rfl,rfl,rfl,rfl,rfl,rfl,rfl,by(repeat'(first|exact trivial|exact rfl|apply And.intro)),rfl,by(repeat'(first|exact trivial|exact rfl|apply And.intro))⟩⟩⟩⟩,?_⟩
 rintro _ rfl
 refine⟨false,fun b=>b=false,Cv.cnd.mk (fun c=>absurd c (by simp)) (fun _=>⟨⟨by decide,by simp⟩,26,rfl,Cv.cnd.mk (fun c=>absurd c (by decide)) (fun _=>Cv.cnd.mk (fun c=>absurd c (by simp)) (fun _=>⟨_,rfl,by simp,by(repeat'(first|exact trivial|exact rfl|apply And.intro))⟩))⟩),?_⟩
 rintro _ rfl
 exact Cv.cnd.mk (fun c=>absurd c (by decide)) (fun _=>⟨⟨⟨o,XW⟩,k+1⟩,wjn (by omega),rfl,hnext,by dsimp only;omega,by(repeat'(first|exact trivial|exact rfl|apply And.intro))⟩)
end Sx
