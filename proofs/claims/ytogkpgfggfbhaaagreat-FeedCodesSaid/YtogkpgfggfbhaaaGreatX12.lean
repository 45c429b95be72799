/- Texts of ours, one behind the other: a walk that the kernel reckons, and contracts of functions. No condition. -/
import Derived.Test.YtogkpgfggfbhaaaGreatX11
namespace Sx
set_option linter.unusedVariables false
set_option maxRecDepth 100000
open Go Cv Go.Proofs
def zKr (i:List (List D)):Prop:=
 ∀(b:Bool),(b=true→i=[])→cnd b (∃(o:Unit),i=[]∧True) ((0+i.length)*(1:Nat)≤(140737488355328:Nat)∧∃(o:Unit),i=[]++i∧True)
theorem zVa (i:List (List D)):zKr i=walk Tryz.prog ([]) 0 ([]) ([]) [] Tryz.f127 (Tryz.f127.body.getD .skip) (cloneBR2.pat i) (cloneBR2.pre i) (cloneBR2.alts i):=by kernel_rfl
theorem zTu (hG:GOk Tryz.prog ([])) (h:∀(i:List (List D)),cloneBR2.cnd i→zKr i):cloneBR2.ok Tryz.prog 127:=dW mixed ([]) hG 0 (fun(i:List (List D))=>[]) (fun(i:List (List D))=>[]) [] Tryz.func127 (by kernel_rfl) (by kernel_rfl) (by kernel_rfl) (fun _=>by kernel_rfl) (fun(i:List (List D)) hc=>Eq.mp (zVa i) (h i hc))
def yGs (i:List UInt8):Prop:=
 ∃(i_1:List (List D)),i_1=bE i∧i_1.length≤140737488355328∧∀(o:Unit),True→∃(o:Unit),bE i=i_1∧false=false∧True
def yFd (i:RN):Prop:=
 cnd i.b (∃(o:Unit),bE i.got=[]∧bE i.left=bE i.l∧i.bad=true∧True) (cnd (decide ((↑i.n:Int)>(↑(bE i.l).length:Int))) (∃(o:Unit),bE i.got=[]∧bE i.left=bE i.l∧i.bad=decide ((↑i.n:Int)>(↑(bE i.l).length:Int))∧True) ((0≤(↑i.n:Int)∧(↑i.n:Int)≤(↑(bE i.l).length:Int))∧(0≤(↑i.n:Int)∧(↑i.n:Int)≤(↑(bE i.l).length:Int))∧∃(o:Unit),bE i.got=List.take (↑i.n:Int).toNat (bE i.l)∧bE i.left=List.drop (↑i.n:Int).toNat (bE i.l)∧i.bad=decide ((↑i.n:Int)>(↑(bE i.l).length:Int))∧True))
def yCz (i:RN):Prop:=
 ∃(a:RN),(↑a.n:Int)=(↑i.n:Int)∧AObj.adt (List UInt8×Bool) 1 RdU (a.l,a.b)=Rd i.l i.b∧(a.n≤255∧big a.l)∧∀(b:Unit),True→∃(c:Nat),xI (List.take c i.got)=0∧(↑c:Int)=0∧∃(d:Nat→Prop),∃(e:Nat→Nat),d c∧∀(f:Nat),d f→cnd (decide ((↑f:Int)<(↑(bE a.got).length:Int))) ((0≤(↑f:Int)∧(↑f:Int)<(↑(bE a.got).length:Int))∧∃(g:Int),zF (bE a.got) (↑f:Int).toNat 0 1=some [D.v (.int .u8 g)]∧0≤IntKind.i64.wrap (8*(↑f:Int))∧∃(h:Nat),xI (List.take h i.got)=iOr IntKind.u64 (xI (List.take f i.got)) (zQh IntKind.u64 (IntKind.u64.wrap g) (IntKind.i64.wrap (8*(↑f:Int))))∧(↑h:Int)=IntKind.i64.wrap ((↑f:Int)+1)∧d h∧e h<e f∧AObj.adt (List UInt8×Bool) 1 RdU (a.left,a.bad)=AObj.adt (List UInt8×Bool) 1 RdU (a.left,a.bad)) (∃(g:Unit),xI i.got=xI (List.take f i.got)∧AObj.adt (List UInt8×Bool) 1 RdU (i.left,i.bad)=AObj.adt (List UInt8×Bool) 1 RdU (a.left,a.bad)∧True)
def yCr (i:RB):Prop:=
 ∃(i_1:RN),(↑i_1.n:Int)=1∧AObj.adt (List UInt8×Bool) 1 RdU (i_1.l,i_1.b)=Rd i.l i.b∧(i_1.n≤8∧big i_1.l)∧∀(o:Unit),True→∃(o:Unit),xI (i.n 1).got=IntKind.i64.wrap (xI i_1.got)∧AObj.adt (List UInt8×Bool) 1 RdU ((i.n 1).left,(i.n 1).bad)=AObj.adt (List UInt8×Bool) 1 RdU (i_1.left,i_1.bad)∧True
def yAf (i:RB):Prop:=
 ∃(i_1:RN),(↑i_1.n:Int)=8∧AObj.adt (List UInt8×Bool) 1 RdU (i_1.l,i_1.b)=Rd i.l i.b∧(i_1.n≤8∧big i_1.l)∧∀(o:Unit),True→∃(o:Unit),IntKind.i64.wrap (xI (i.n 8).got)=IntKind.i64.wrap (xI i_1.got)∧AObj.adt (List UInt8×Bool) 1 RdU ((i.n 8).left,(i.n 8).bad)=AObj.adt (List UInt8×Bool) 1 RdU (i_1.left,i_1.bad)∧True
def yFh (i:RB):Prop:=
 cnd i.b (∃(o:Unit),(if i.b=true then(10:Int)else if 0<i.l.length then(15:Int)else(0:Int))=10∧bE i.l=bE i.l∧i.b=i.b∧True) (cnd (decide ((↑(bE i.l).length:Int)>0)) (∃(o:Unit),(if i.b=true then(10:Int)else if 0<i.l.length then(15:Int)else(0:Int))=15∧bE i.l=bE i.l∧i.b=i.b∧True) (∃(o:Unit),(if i.b=true then(10:Int)else if 0<i.l.length then(15:Int)else(0:Int))=0∧bE i.l=bE i.l∧i.b=i.b∧True))
def kY (a:RB):=(dI (IntKind.i64.wrap (xI (a.n 8).got)))
def p9 (a:Bool→Prop) (b:Bool) (c:RB) (d:RB) (e:RB) (f:RB) (g:RB) (h:RB) (j:RB) (k:RB):Prop:=a b∧AObj.adt (List UInt8×Bool) 1 RdU (c.l,c.b)=AObj.adt (List UInt8×Bool) 1 RdU ((d.n 1).left,(d.n 1).bad)∧Sx.AObj.cells [V.d (kY e),V.d (dI (xI (f.n 1).got)),V.d (dI (xI (g.n 1).got)),V.d (kY h),V.d (kY j),V.d (kY k),V.d (D.v (.bool (xI (d.n 1).got==1)))] 66=Sx.AObj.cells [V.d (kY e),V.d (dI (xI (f.n 1).got)),V.d (dI (xI (g.n 1).got)),V.d (kY h),V.d (kY j),V.d (kY k),V.d (D.v (.bool (xI (d.n 1).got==1)))] 66∧Sx.AObj.cells (Sx.V.agg [V.d (dI 0),V.d (dI 0),V.d (dI 0),V.d (dI 0),V.d (dI 0),V.d (dI 0),V.d (D.v (.bool false))]).cl 66=Sx.AObj.cells (Sx.V.agg [V.d (dI 0),V.d (dI 0),V.d (dI 0),V.d (dI 0),V.d (dI 0),V.d (dI 0),V.d (D.v (.bool false))]).cl 66
def zAr (a:Bool→Prop) (b:RB) (c:RB) (d:RB) (e:RB) (f:RB) (g:RB) (h:RB) (j:RB):Prop:=∃(k:Bool),k=true∧p9 a k b c d e f g h j
def z2s (b:List UInt8):Prop:=
 ∃(a:List UInt8),bE a=bE b∧big a∧∀(c:Unit),True→∃(d:RB),AObj.adt (List UInt8×Bool) 1 RdU (d.l,d.b)=AObj.adt (List UInt8×Bool) 1 RdU (a,false)∧big d.l∧∀(e:Unit),True→∃(f:RB),AObj.adt (List UInt8×Bool) 1 RdU (f.l,f.b)=AObj.adt (List UInt8×Bool) 1 RdU ((d.n 8).left,(d.n 8).bad)∧big f.l∧∀(g:Unit),True→∃(h:RB),AObj.adt (List UInt8×Bool) 1 RdU (h.l,h.b)=AObj.adt (List UInt8×Bool) 1 RdU ((f.n 1).left,(f.n 1).bad)∧big h.l∧∀(j:Unit),True→∃(k:RB),AObj.adt (List UInt8×Bool) 1 RdU (k.l,k.b)=AObj.adt (List UInt8×Bool) 1 RdU ((h.n 1).left,(h.n 1).bad)∧big k.l∧∀(l:Unit),True→∃(m:RB),AObj.adt (List UInt8×Bool) 1 RdU (m.l,m.b)=AObj.adt (List UInt8×Bool) 1 RdU ((k.n 8).left,(k.n 8).bad)∧big m.l∧∀(n:Unit),True→∃(p:RB),AObj.adt (List UInt8×Bool) 1 RdU (p.l,p.b)=AObj.adt (List UInt8×Bool) 1 RdU ((m.n 8).left,(m.n 8).bad)∧big p.l∧∀(q:Unit),True→∃(r:RB),AObj.adt (List UInt8×Bool) 1 RdU (r.l,r.b)=AObj.adt (List UInt8×Bool) 1 RdU ((p.n 8).left,(p.n 8).bad)∧big r.l∧∀(s:Unit),True→∃(t:Bool),∃(u:Bool→Prop),(∃(v:RB),AObj.adt (List UInt8×Bool) 1 RdU (v.l,v.b)=AObj.adt (List UInt8×Bool) 1 RdU ((r.n 1).left,(r.n 1).bad)∧big v.l∧∀(w:Unit),True→cnd ((if v.b=true then(10:Int)else if 0<v.l.length then(15:Int)else(0:Int)) !=0) (zAr u v r d f h k m p) (cnd (decide (xI (r.n 1).got>1)) (zAr u v r d f h k m p) (cnd (xI (h.n 1).got !=1) (∃(x:Bool),x=(xI (h.n 1).got !=2)∧p9 u x v r d f h k m p) (∃(x:Bool),x=false∧p9 u x v r d f h k m p))))∧∀(v:Bool),u v→cnd v (∃(w:Unit),(yZ b).fst.seq=0∧(yZ b).fst.inst=0∧(yZ b).fst.side=0∧(yZ b).fst.price=0∧(yZ b).fst.qty=0∧(yZ b).fst.count=0∧(yZ b).fst.implied=false∧(yZ b).snd=12∧True) (∃(w:Unit),(yZ b).fst.seq=IntKind.i64.wrap (xI (d.n 8).got)∧(yZ b).fst.inst=xI (f.n 1).got∧(yZ b).fst.side=xI (h.n 1).got∧(yZ b).fst.price=IntKind.i64.wrap (xI (k.n 8).got)∧(yZ b).fst.qty=IntKind.i64.wrap (xI (m.n 8).got)∧(yZ b).fst.count=IntKind.i64.wrap (xI (p.n 8).got)∧(yZ b).fst.implied=(xI (r.n 1).got==1)∧(yZ b).snd=0∧True)
def jA (a:Int):Prop:=sb [(67:UInt8),(76:UInt8)]=sb [(67:UInt8),(76:UInt8)]∧True∧(5:Int)=(5:Int)∧(0:Int)=(0:Int)∧(1000:Int)=(1000:Int)∧(200:Int)=(200:Int)∧a=a∧(4:Int)=(4:Int)∧(2:Int)=(2:Int)∧(40:Int)=(40:Int)∧True∧True
def aV (a:DvI):Prop:=List.length a.v=List.length a.w∧((-4000000000000000000)≤a.seq∧a.seq≤4000000000000000000)∧a.v.levs≤100000000∧a.w.levs≤100000000∧List.length a.v≤1000000
def fA (a:DvI):=(↑(List.map msgE (vG a.seq (kI 0 a.v a.w))).length:Int)
def n9 (a:Int) (b:Mkt) (c:LkI):Prop:=∃(d:LkI),sb d.p.code=sb [(67:UInt8),(76:UInt8)]∧iE d.p.months=iE [(320:Int),(321:Int),(323:Int)]∧d.p.tick=5∧d.p.low=0∧d.p.high=1000∧d.p.wide=200∧d.p.rule=a∧d.p.top=4∧d.p.least=2∧d.p.part=40∧iE d.p.settle=iE [(500:Int),(505:Int),(490:Int)]∧zD d.s=zD b.s∧(d.s.Rep d.p d.B∧BOk d.p d.B)∧∀(e:Unit),True→∃(f:DvI),List.map yN f.v=List.map yN (j7 c.p c.B)∧List.map yN f.w=List.map yN (j7 d.p d.B)∧f.seq=40∧(aV f)∧∀(g:Unit),True→cnd ((↑(List.map yN (j7 c.p c.B)).length:Int)==6) (cnd ((fA f)==1) (((0:Int)≤(0:Int)∧0<(fA f))∧∃(h:Int),∃(j:Int),∃(k:Int),∃(l:Int),∃(m:Int),∃(n:Int),∃(p:Bool),zF (List.map msgE (vG f.seq (kI 0 f.v f.w))) (Int.toNat 0) 0 7=some [dI h,dI j,dI k,dI l,dI m,dI n,D.v (.bool p)]∧cnd (h==41 && (j==0 && (k==1 && (l==5 && (m==3 && (n==1 && (p==false && true))))))) (∃(q:zNi),List.map yN q.v=List.map yN (j7 c.p c.B)∧List.map yN q.w=List.map yN (j7 d.p d.B)∧(mF q)∧∀(r:Unit),True→cnd (!zOd q.v q.w) (∃(s:DvI),List.map yN s.v=List.map yN (j7 d.p d.B)∧List.map yN s.w=List.map yN (j7 d.p d.B)∧s.seq=0∧(aV s)∧∀(t:Unit),True→∃(u:Unit),true=((fA s)==0)∧True) (∃(s:Unit),true=false∧True)) (∃(q:Unit),true=false∧True)) (∃(h:Unit),true=false∧True)) (∃(h:Unit),true=false∧True)
def m8 (a:Int) (b:Mkt) (c:LkI):Prop:=(jA a)∧n9 a b c
def uI (a:Mkt):Prop:=a.s.books.length≤1000000∧∀(b:Book),b∈a.s.books→wJ b
def sX (a:Int) (b:Mkt):Prop:=∃(c:LkI),sb c.p.code=sb [(67:UInt8),(76:UInt8)]∧iE c.p.months=iE [(320:Int),(321:Int),(323:Int)]∧c.p.tick=5∧c.p.low=0∧c.p.high=1000∧c.p.wide=200∧c.p.rule=a∧c.p.top=4∧c.p.least=2∧c.p.part=40∧iE c.p.settle=iE [(500:Int),(505:Int),(490:Int)]∧zD c.s=zD b.s∧(c.s.Rep c.p c.B∧BOk c.p c.B)∧∀(d:Unit),True→∃(e:EnI),e.c.kind=1∧e.c.id=7∧e.c.inst=0∧e.c.side=1∧e.c.price=5∧e.c.qty=3∧e.c.least=0∧e.c.time=1∧sb e.c.label=ByteArray.mk #[]∧nA e.m=nA b∧((e.m.Rep e.p e.B e.U∧BOk e.p e.B)∧e.c.label.length≤140737488355328∧((-9223372036854775808)≤e.c.qty∧e.c.qty≤9223372036854775807)∧e.X=doF e.p e.B e.U e.c)∧∀(f:Mkt),f.Rep e.p e.X.B e.X.U→(∃(g:Mkt),nA g=nA f∧(uI g)∧∀(h:Unit),True→(jA a)∧(n9 a g c)∧m8 a g c)∧(jA a)∧∃(g:Mkt),nA g=nA f∧(uI g)∧∀(h:Unit),True→m8 a g c
def sD (a:Int) (b:Mkt):Prop:=(jA a)∧sX a b
def zRl (u:Unit):Prop:=
 ∃(a:Int),a=1∧True∧∀(b:Unit),True→∃(c:Prd),sb c.code=sb [(67:UInt8),(76:UInt8)]∧iE c.months=iE [(320:Int),(321:Int),(323:Int)]∧c.tick=5∧c.low=0∧c.high=1000∧c.wide=200∧c.rule=a∧c.top=4∧c.least=2∧c.part=40∧iE c.settle=iE [(500:Int),(505:Int),(490:Int)]∧(yC c)∧(∀(d:Unit),c.check=0→(∃(e:Mkt),nA e=nA (Mkt.mk c (mH c) [])∧(uI e)∧∀(f:Unit),True→(jA a)∧(sX a e)∧sD a e)∧(jA a)∧∃(e:Mkt),nA e=nA (Mkt.mk c (mH c) [])∧(uI e)∧∀(f:Unit),True→sD a e)∧∀(d:Unit),c.check≠0→∃(e:Unit),true=false∧True
def zNy (a:Bool→Prop) (b:Bool) (c:List UInt8) (d:FcI) (e:WiI) (f:WiI):Prop:=a b∧Sx.AObj.cells [V.d (dI ((yZ c).fst.seq)),V.d (dI ((yZ c).fst.inst)),V.d (dI ((yZ c).fst.side)),V.d (dI ((yZ c).fst.price)),V.d (dI ((yZ c).fst.qty)),V.d (dI ((yZ c).fst.count)),V.d (D.v (.bool (yZ c).fst.implied))] 66=Sx.AObj.cells [V.d (dI ((yZ c).fst.seq)),V.d (dI ((yZ c).fst.inst)),V.d (dI ((yZ c).fst.side)),V.d (dI ((yZ c).fst.price)),V.d (dI ((yZ c).fst.qty)),V.d (dI ((yZ c).fst.count)),V.d (D.v (.bool (yZ c).fst.implied))] 66∧Sx.AObj.cells [V.d (dI d.b.seq),V.d (dI d.b.inst),V.d (dI d.b.side),V.d (dI d.b.price),V.d (dI d.b.qty),V.d (dI d.b.count),V.d (D.v (.bool d.b.implied))] 66=Sx.AObj.cells [V.d (dI d.b.seq),V.d (dI d.b.inst),V.d (dI d.b.side),V.d (dI d.b.price),V.d (dI d.b.qty),V.d (dI d.b.count),V.d (D.v (.bool d.b.implied))] 66∧Sx.AObj.cells [V.d (dI d.a.seq),V.d (dI (xD e.n e.lo e.hi)),V.d (dI (IntKind.i64.wrap (1+xD f.n f.lo f.hi))),V.d (dI d.a.price),V.d (dI d.a.qty),V.d (dI d.a.count),V.d (D.v (.bool d.a.implied))] 66=Sx.AObj.cells [V.d (dI d.a.seq),V.d (dI (xD e.n e.lo e.hi)),V.d (dI (IntKind.i64.wrap (1+xD f.n f.lo f.hi))),V.d (dI d.a.price),V.d (dI d.a.qty),V.d (dI d.a.count),V.d (D.v (.bool d.a.implied))] 66
def zHj (a:Bool→Prop) (b:List UInt8) (c:FcI) (d:WiI) (e:WiI):Prop:=∃(f:Bool),f=true∧zNy a f b c d e
def zNw (a:WiI):Prop:=((-9223372036854775808)≤a.n∧a.n≤9223372036854775807)∧(-1000000)≤a.lo∧a.lo≤a.hi∧a.hi≤1000000
def Vfc (i:FcI):Prop:=
 ∃(a:WiI),a.n=i.a.inst∧a.lo=0∧a.hi=255∧(zNw a)∧∀(b:Unit),True→∃(c:WiI),c.n=i.a.side∧c.lo=0∧c.hi=1∧(zNw c)∧∀(d:Unit),True→∃(e:MsgM),e.seq=i.a.seq∧e.inst=xD a.n a.lo a.hi∧e.side=IntKind.i64.wrap (1+xD c.n c.lo c.hi)∧e.price=i.a.price∧e.qty=i.a.qty∧e.count=i.a.count∧e.implied=i.a.implied∧True∧∀(f:Unit),True→∃(g:MsgM),g.seq=i.b.seq∧g.inst=i.b.inst∧g.side=i.b.side∧g.price=i.b.price∧g.qty=i.b.qty∧g.count=i.b.count∧g.implied=i.b.implied∧True∧∀(h:Unit),True→∃(j:List UInt8),bE j=bE e.enc∧big j∧∀(k:Unit),True→∃(l:Bool),∃(m:Bool→Prop),cnd (e.form !=0) (zHj m j i a c) (cnd ((yZ j).snd !=0) (zHj m j i a c) (cnd (!((yZ j).fst.seq==i.a.seq && ((yZ j).fst.inst==xD a.n a.lo a.hi && ((yZ j).fst.side==IntKind.i64.wrap (1+xD c.n c.lo c.hi) && ((yZ j).fst.price==i.a.price && ((yZ j).fst.qty==i.a.qty && ((yZ j).fst.count==i.a.count && ((yZ j).fst.implied==i.a.implied && true)))))))) (zHj m j i a c) (cnd ((↑(bE e.enc).length:Int) !=35) (zHj m j i a c) (cnd (g.form==0) (∃(n:ByteArray),(1:Nat)=(1:Nat)∧bE e.enc=jQ n∧∃(p:ByteArray),(1:Nat)=(1:Nat)∧bE g.enc=jQ p∧∃(q:Bool),q=!(n.toList==p.toList)==(i.a.seq==i.b.seq && (xD a.n a.lo a.hi==i.b.inst && (IntKind.i64.wrap (1+xD c.n c.lo c.hi)==i.b.side && (i.a.price==i.b.price && (i.a.qty==i.b.qty && (i.a.count==i.b.count && (i.a.implied==i.b.implied && true)))))))∧zNy m q j i a c) (∃(n:Bool),n=false∧zNy m n j i a c)))))∧∀(n:Bool),m n→cnd n (∃(p:Unit),true=false∧True) (∃(p:List UInt8),bE p=bE i.x∧big p∧∀(q:Unit),True→cnd ((yZ p).snd==0) (∃(r:MsgM),r.seq=(yZ p).fst.seq∧r.inst=(yZ p).fst.inst∧r.side=(yZ p).fst.side∧r.price=(yZ p).fst.price∧r.qty=(yZ p).fst.qty∧r.count=(yZ p).fst.count∧r.implied=(yZ p).fst.implied∧True∧∀(s:Unit),True→cnd (r.form==0) (∃(t:ByteArray),(1:Nat)=(1:Nat)∧bE r.enc=jQ t∧∃(u:ByteArray),(1:Nat)=(1:Nat)∧bE i.x=jQ u∧cnd (t.toList==u.toList) (∃(v:Unit),True∧∀(w:Unit),True→∃(x:Unit),true=true∧True) (∃(v:Unit),true=false∧True)) (∃(t:Unit),true=false∧True)) (cnd ((yZ p).snd==12) (cnd ((yZ p).fst.seq==0 && ((yZ p).fst.inst==0 && ((yZ p).fst.side==0 && ((yZ p).fst.price==0 && ((yZ p).fst.qty==0 && ((yZ p).fst.count==0 && ((yZ p).fst.implied==false && true))))))) (∃(r:Unit),True∧∀(s:Unit),True→∃(t:Unit),true=true∧True) (∃(r:Unit),true=false∧True)) (∃(r:Unit),true=false∧True)))
theorem eqfc (i:FcI):Vfc i=walk Tryz.prog ([(17,withinC),(33,mencC),(34,mdecC2),(30,known19C)]) 0 (fcJ) ([]) [] Tryz.f9 (Tryz.f9.body.getD .skip) (fcC.pat i) (fcC.pre i) (fcC.alts i):=by kernel_rfl
set_option linter.unusedSimpArgs false
open Go Cv Go.Proofs
theorem zRj:cloneBR2.ok Tryz.prog 127:=zTu gok0 fun i h=>fun b hb=>
 Cv.cnd.mk (fun e=>⟨(),hb e,trivial⟩) (fun _=>⟨by have h:i.length≤140737488355328:=h;rw[yPr,Nat.mul_one];exact h,(),rfl,trivial⟩)
theorem z8e:newRC2.ok Tryz.prog 82:=okw (V:=yGs) mixed (gokc zRj gok0) 0 (fun _=>[]) (fun _=>[]) [] Tryz.func82 fun(i:List UInt8) h=>by
 have h:i.length≤140737488355328:=h
 exact⟨_,rfl,by rw[bE_len];exact h,fun _ _=>⟨(),rfl,rfl,trivial⟩⟩
theorem z2g:takeC2.ok Tryz.prog 168:=okw (V:=yFd) mixed gok0 0 (fun _=>[]) (fun _=>[]) [0] Tryz.func168 fun(i:RN) h=>by
 obtain⟨h1,h2⟩:=h
 have h2:i.l.length≤140737488355328:=h2
 refine Cv.cnd.mk (fun e=> ?_) (fun e=>zI (fun hlt=> ?_) (fun hlt=> ?_))
 ·have:i.bad=true:=by simp[RN.bad,e]
  exact⟨(),by simp[RN.got,this],by simp[RN.left,this],this,trivial⟩
 ·rw[bE_len]at hlt
  have:i.bad=true:=by simp[RN.bad];right;omega
  exact⟨(),by simp[RN.got,this],by simp[RN.left,this],by rw[this,bE_len];simp;omega,trivial⟩
 ·rw[bE_len]at hlt
  have:i.bad=false:=by simp[RN.bad,e];omega
  rw[bE_len]
  exact⟨⟨by omega,by omega⟩,⟨by omega,by omega⟩,(),by simp[RN.got,this,yBn],by simp[RN.left,this,z9p],by rw[this];simp;omega,trivial⟩
theorem yKi (i:RN) (h:getC2.cnd i):yCz i:=by
 unfold yCz
 obtain⟨h1,h2⟩:=h
 refine⟨i,rfl,rfl,⟨by omega,h2⟩,fun _ _=>⟨0,rfl,rfl,fun j=>j≤i.got.length,fun j=>i.got.length-j,by dsimp only;omega,fun j hj=>zI (fun hlt=> ?_) (fun hlt=> ?_)⟩⟩
 ·dsimp only at hj
  have hl:=zVm i
  rw[bE_len]at hlt ⊢
  obtain⟨b,hb⟩:∃b,i.got[j]? =some b:=⟨_,yPz (by omega)⟩
  have e8:IntKind.i64.wrap (8*(j:Int))=8*j:=w64 (by omega)
  refine⟨⟨by omega,by omega⟩,b.toNat,zZc hb,by rw[e8];omega,j+1,?_,?_,by dsimp only;omega,by dsimp only;omega,rfl⟩
  ·rw[e8,yKs,yQb,hb]
   simp only[yRy]
   rw[zJh]
   obtain⟨r1,r2⟩:=s7 (i.got.take j)
   rw[yPl,yTa (by omega)]at r2 ⊢
   obtain⟨x,hx⟩:∃x:Nat,xI (i.got.take j)=x:=⟨(xI (i.got.take j)).toNat,by omega⟩
   rw[hx]at r2 ⊢
   have:=z3o (x:=x) (b:=b.toNat) (j:=j) (by exact_mod_cast r2) b.toNat_lt (by omega)
   rw[show(8*(j:Int))=((8*j:Nat):Int)by simp,this]
   simp
  ·rw[w64 (by omega)];rfl
 ·dsimp only at hj
  rw[bE_len]at hlt
  exact⟨(),by rw[yPf (by omega)],rfl,trivial⟩
theorem zVs:getC2.ok Tryz.prog 128:=okw mixed (gokc z2g gok0) 0 (fun _=>[]) (fun i=>yNp i) [] Tryz.func128 yKi
theorem z0r:rbyteC2.ok Tryz.prog 84:=okw (V:=yCr) mixed (gokc zVs gok0) 0 (fun _=>[]) (fun _=>[]) [] Tryz.func84 fun(i:RB) h=>by
 have hl:=zVm (i.n 1)
 have hr:=s7 (i.n 1).got
 have h0:(256:Int) ^ (i.n 1).got.length≤256 ^ 1:=by
  have:(256:Nat) ^ (i.n 1).got.length≤256 ^ 1:=Nat.pow_le_pow_right (by omega) hl
  exact_mod_cast this
 exact⟨i.n 1,rfl,rfl,⟨by show 1≤8;omega,h⟩,fun _ _=>⟨(),(w64 (by omega)).symm,rfl,trivial⟩⟩
theorem z1l:rlongC2.ok Tryz.prog 83:=okw (V:=yAf) mixed (gokc zVs gok0) 0 (fun _=>[]) (fun _=>[]) [] Tryz.func83 fun(i:RB) h=>by
 exact⟨i.n 8,rfl,rfl,⟨by show 8≤8;omega,h⟩,fun _ _=>⟨(),rfl,rfl,trivial⟩⟩
theorem z6j:rendC2.ok Tryz.prog 85:=okw (V:=yFh) mixed gok0 0 (fun _=>[]) (fun _=>[]) [0] Tryz.func85 fun(i:RB) h=>by
 refine Cv.cnd.mk (fun e=>⟨(),by rw[yOu e],rfl,rfl,trivial⟩) (fun e=>zI (fun hlt=>⟨(),?_,rfl,rfl,trivial⟩) (fun hlt=>⟨(),?_,rfl,rfl,trivial⟩))
 ·rw[bE_len]at hlt;rw[yOr (by simp[e]),yOu (by omega)]
 ·rw[bE_len]at hlt;rw[yOr (by simp[e]),yOr (by omega)]
theorem zOn {r:RB} (h:big r.l):big r.byte.2.l:=yRw (zRv _) h
theorem zEh {r:RB} (h:big r.l):big r.long.2.l:=yRw (zRv _) h
theorem yFo (b:List UInt8) (h:mdecC2.cnd b):z2s b:=by
 have h:big b:=h
 obtain⟨r0,hr⟩:∃r0,r0=RB.mk b false:=⟨_,rfl⟩
 have h0:big r0.l:=by rw[hr];exact h
 have h1:=zEh h0
 have h2:=zOn h1
 have h3:=zOn h2
 have h4:=zEh h3
 have h5:=zEh h4
 have h6:=zEh h5
 have h7:=zOn h6
 obtain⟨M,hm⟩:∃M:MsgM,M=⟨r0.long.1,r0.long.2.byte.1,r0.long.2.byte.2.byte.1,r0.long.2.byte.2.byte.2.long.1,r0.long.2.byte.2.byte.2.long.2.long.1,r0.long.2.byte.2.byte.2.long.2.long.2.long.1,decide (r0.long.2.byte.2.byte.2.long.2.long.2.long.2.byte.1=1)⟩:=⟨_,rfl⟩
 have hdec:yZ b=if r0.long.2.byte.2.byte.2.long.2.long.2.long.2.byte.2.endOf≠0∨1<r0.long.2.byte.2.byte.2.long.2.long.2.long.2.byte.1∨(r0.long.2.byte.2.byte.1≠1∧r0.long.2.byte.2.byte.1≠2)then(yIj,12)else(M,0):=by
  rw[hm,hr];rfl
 unfold z2s zAr p9 kY dI
 generalize yZ b=X at hdec ⊢
 refine⟨b,rfl,h,fun _ _=>⟨r0,by rw[hr],h0,fun _ _=>⟨r0.long.2,rfl,h1,fun _ _=>⟨r0.long.2.byte.2,rfl,h2,fun _ _=>⟨r0.long.2.byte.2.byte.2,rfl,h3,fun _ _=>⟨r0.long.2.byte.2.byte.2.long.2,rfl,h4,fun _ _=>⟨r0.long.2.byte.2.byte.2.long.2.long.2,rfl,h5,fun _ _=>⟨r0.long.2.byte.2.byte.2.long.2.long.2.long.2,rfl,h6,fun _ _=>⟨false,fun x=>x=decide (r0.long.2.byte.2.byte.2.long.2.long.2.long.2.byte.2.endOf≠0∨1<r0.long.2.byte.2.byte.2.long.2.long.2.long.2.byte.1∨(r0.long.2.byte.2.byte.1≠1∧r0.long.2.byte.2.byte.1≠2)),⟨r0.long.2.byte.2.byte.2.long.2.long.2.long.2.byte.2,rfl,h7,fun _ _=> ?_⟩,?_⟩⟩⟩⟩⟩⟩⟩⟩⟩
 ·refine Cv.cnd.mk (fun e=>⟨true,rfl,(yPn (.inl ((bne_iff_ne (a:=r0.long.2.byte.2.byte.2.long.2.long.2.long.2.byte.2.endOf) (b:=0)).1 e))).symm,rfl,by(repeat'(first|exact trivial|exact rfl|apply And.intro))⟩) (fun e=>zI (fun e2=>⟨true,rfl,(yPn (.inr (.inl e2))).symm,rfl,by(repeat'(first|exact trivial|exact rfl|apply And.intro))⟩) (fun e2=>Cv.cnd.mk (fun e3=>⟨_,rfl,?_,rfl,by(repeat'(first|exact trivial|exact rfl|apply And.intro))⟩) (fun e3=>⟨_,rfl,?_,rfl,by(repeat'(first|exact trivial|exact rfl|apply And.intro))⟩)))
  ·have e:¬r0.long.2.byte.2.byte.2.long.2.long.2.long.2.byte.2.endOf≠0:=not_not_intro ((bne_eq_false_iff_eq (a:=r0.long.2.byte.2.byte.2.long.2.long.2.long.2.byte.2.endOf) (b:=0)).1 e)
   have e3:r0.long.2.byte.2.byte.1≠1:=(bne_iff_ne (a:=r0.long.2.byte.2.byte.1) (b:=1)).1 e3
   show(r0.long.2.byte.2.byte.1 !=2)=decide _
   rw[yTs,decide_eq_true_iff,bne_iff_ne]
   exact⟨fun x=> .inr (.inr ⟨e3,x⟩),fun x=>((x.resolve_left e).resolve_left e2).2⟩
  ·have e:¬r0.long.2.byte.2.byte.2.long.2.long.2.long.2.byte.2.endOf≠0:=not_not_intro ((bne_eq_false_iff_eq (a:=r0.long.2.byte.2.byte.2.long.2.long.2.long.2.byte.2.endOf) (b:=0)).1 e)
   have e3:r0.long.2.byte.2.byte.1=1:=(bne_eq_false_iff_eq (a:=r0.long.2.byte.2.byte.1) (b:=1)).1 e3
   exact(yPm fun x=>((x.resolve_left e).resolve_left e2).1 e3).symm
 rintro _ rfl
 refine zI (fun e=> ?_) (fun e=> ?_)
 ·rw[yOu e]at hdec
  rw[hdec]
  exact⟨(),rfl,rfl,rfl,rfl,rfl,rfl,rfl,rfl,trivial⟩
 ·rw[yOr e]at hdec
  rw[hdec,hm]
  exact⟨(),rfl,rfl,rfl,rfl,rfl,rfl,rfl,rfl,trivial⟩
theorem mdec2_ok:mdecC2.ok Tryz.prog 34:=okw mixed (gokc z8e (gokc z0r (gokc z1l (gokc z6j gok0)))) 0 (fun _=>yLm) (fun _=>[]) [] Tryz.func34 yFo
theorem zSc:∀{v:Vw} {b:Sd×Sd},b∈v→b.1.levels.length+b.2.levels.length≤Vw.levs v
 |x::v,b,h=>by
  rw[Vw.levs,yPd,yQc]
  rcases yPk.1 h with rfl|h
  ·omega
  ·have:=zSc h
   rw[Vw.levs]at this
   omega
theorem zEw {v:Vw} (h:v.length≤1000000) (hl:Vw.levs v≤100000000):fD v:=⟨by omega,fun b hb=>by have:=zSc hb;omega⟩
def yJw:Cmd:=⟨1,7,0,1,5,3,0,1,[]⟩
def zNe:List (List zG):=List.replicate (kH 1).count []
def kX19:MkX:=doF (kH 1) zNe [] yJw
def kV0:Vw:=j7 (kH 1) zNe
def kV1:Vw:=j7 (kH 1) kX19.B
theorem yKn:kI 0 kV0 kV1=[⟨0,1,⟨5,3,1⟩,false⟩]:=by kernel_rfl
theorem kl0:Vw.levs kV0≤100000000:=by decide+kernel
theorem kl1:Vw.levs kV1≤100000000:=by decide+kernel
theorem kn0:kV0.length=6:=by rw[kV0,zBo];decide+kernel
theorem kn1:kV1.length=6:=by rw[kV1,zBo];decide+kernel
open Classical in
theorem kne:zOd kV0 kV1=false:=yPm fun e=>by
 have:=yKn
 rw[e,zNg]at this
 cases this
theorem z2z (u:Unit) (h:known19C.cnd u):zRl u:=by
 have hc:(kH 1).check=0:=by decide+kernel
 have hp:(kH 1).small:=by refine⟨?_,?_,?_⟩<;>decide
 have hB0:BOk (kH 1) zNe:=BOk.new hc hp
 have hM0:(mk0 (kH 1)).Rep (kH 1) zNe []:=yAx (kH 1)
 have hB1:BOk (kH 1) kX19.B:=yGe (hM0.s.wf hB0) _ _
 have hs0:=hM0.s.small hB0
 have s0:fD kV0:=zEw (by rw[kn0];decide) kl0
 have s1:fD kV1:=zEw (by rw[kn1];decide) kl1
 unfold zRl sD sX uI wJ m8 n9 fA aV mF jA yC dI
 refine⟨1,rfl,trivial,fun _ _=>⟨kH 1,rfl,rfl,rfl,rfl,rfl,rfl,rfl,rfl,rfl,rfl,rfl,hp,fun _ _=> ?_,fun _ hx=>absurd hc hx⟩⟩
 refine(fun hT=>⟨⟨mk0 (kH 1),rfl,hs0,fun _ _=>⟨⟨rfl,trivial,rfl,rfl,rfl,rfl,rfl,rfl,rfl,rfl,trivial,trivial⟩,⟨⟨(mk0 (kH 1)).s,kH 1,zNe⟩,rfl,rfl,rfl,rfl,rfl,rfl,rfl,rfl,rfl,rfl,rfl,rfl,⟨hM0.s,hB0⟩,fun _ _=>hT⟩,⟨rfl,trivial,rfl,rfl,rfl,rfl,rfl,rfl,rfl,rfl,trivial,trivial⟩,⟨⟨(mk0 (kH 1)).s,kH 1,zNe⟩,rfl,rfl,rfl,rfl,rfl,rfl,rfl,rfl,rfl,rfl,rfl,rfl,⟨hM0.s,hB0⟩,fun _ _=>hT⟩⟩⟩,
  ⟨rfl,trivial,rfl,rfl,rfl,rfl,rfl,rfl,rfl,rfl,trivial,trivial⟩,⟨mk0 (kH 1),rfl,hs0,fun _ _=>⟨⟨rfl,trivial,rfl,rfl,rfl,rfl,rfl,rfl,rfl,rfl,trivial,trivial⟩,⟨⟨(mk0 (kH 1)).s,kH 1,zNe⟩,rfl,rfl,rfl,rfl,rfl,rfl,rfl,rfl,rfl,rfl,rfl,rfl,⟨hM0.s,hB0⟩,fun _ _=>hT⟩⟩⟩⟩) ?_
 refine⟨⟨mk0 (kH 1),kH 1,zNe,[],yJw,kX19⟩,rfl,rfl,rfl,rfl,rfl,rfl,rfl,rfl,rfl,rfl,⟨⟨hM0,hB0⟩,by dsimp only;decide,by dsimp only;decide,by dsimp only;rw[kX19]⟩,fun o ho=> ?_⟩
 have hs1:=ho.s.small hB1
 refine(fun hT=>⟨⟨o,rfl,hs1,fun _ _=>⟨⟨rfl,trivial,rfl,rfl,rfl,rfl,rfl,rfl,rfl,rfl,trivial,trivial⟩,⟨⟨o.s,kH 1,kX19.B⟩,rfl,rfl,rfl,rfl,rfl,rfl,rfl,rfl,rfl,rfl,rfl,rfl,⟨ho.s,hB1⟩,fun _ _=>hT⟩,⟨rfl,trivial,rfl,rfl,rfl,rfl,rfl,rfl,rfl,rfl,trivial,trivial⟩,⟨⟨o.s,kH 1,kX19.B⟩,rfl,rfl,rfl,rfl,rfl,rfl,rfl,rfl,rfl,rfl,rfl,rfl,⟨ho.s,hB1⟩,fun _ _=>hT⟩⟩⟩,
  ⟨rfl,trivial,rfl,rfl,rfl,rfl,rfl,rfl,rfl,rfl,trivial,trivial⟩,⟨o,rfl,hs1,fun _ _=>⟨⟨rfl,trivial,rfl,rfl,rfl,rfl,rfl,rfl,rfl,rfl,trivial,trivial⟩,⟨⟨o.s,kH 1,kX19.B⟩,rfl,rfl,rfl,rfl,rfl,rfl,rfl,rfl,rfl,rfl,rfl,rfl,⟨ho.s,hB1⟩,fun _ _=>hT⟩⟩⟩⟩) ?_
 refine⟨⟨kV0,kV1,40⟩,rfl,rfl,rfl,⟨by dsimp only;rw[kn0,kn1],by dsimp only;decide,kl0,kl1,by dsimp only;rw[kn0];decide⟩,fun _ _=> ?_⟩
 have hn:((j7 (kH 1) zNe).map yN).length=6:=by rw[yOs];exact kn0
 dsimp only
 rw[hn,yKn]
 refine Cv.cnd.mk (fun _=>Cv.cnd.mk (fun _=>⟨⟨by decide,by decide⟩,_,_,_,_,_,_,_,rfl,Cv.cnd.mk (fun _=>⟨⟨kV0,kV1⟩,rfl,rfl,⟨s0,s1⟩,fun _ _=> ?_⟩) (fun e=>absurd e (by decide))⟩) (fun e=>absurd e (by decide))) (fun e=>absurd e (by decide))
 dsimp only
 rw[kne]
 refine Cv.cnd.mk (fun _=>⟨⟨kV1,kV1,0⟩,rfl,rfl,rfl,⟨rfl,by dsimp only;decide,kl1,kl1,by dsimp only;rw[kn1];decide⟩,fun _ _=>⟨(),?_,trivial⟩⟩) (fun e=>absurd e (by decide))
 dsimp only
 rw[zNg];rfl
theorem known19_ok:known19C.ok Tryz.prog 30:=okw mixed (gokc z6h (gokc yCq (gokc z5z (gokc yBm (gokc yJr (gokc z8a (gokc z5t gok0))))))) 0 (fun _=>[]) (fun _=>[]) [] Tryz.func30 z2z
theorem yNd (a b:MsgM):(a.seq==b.seq && (a.inst==b.inst && (a.side==b.side && (a.price==b.price && (a.qty==b.qty && (a.count==b.count && (a.implied==b.implied && true)))))))=decide (a=b):=by
 rw[yTs,decide_eq_true_iff]
 obtain⟨a1,a2,a3,a4,a5,a6,a7⟩:=a
 obtain⟨b1,b2,b3,b4,b5,b6,b7⟩:=b
 simp
theorem yAh {x:List UInt8} (h:(yZ x).2≠0):yZ x=(yIj,12):=by
 rw[yZ]at h ⊢
 split at h
 ·rename_i c;rw[yOu c]
 ·exact absurd rfl h
theorem vfc (i:FcI) (h:fcC.cnd i):Vfc i:=by
 obtain⟨⟨ha1,ha2,har⟩,⟨hb1,hb2,hbr⟩,hx⟩:i.ok:=h
 have hw1:0≤xD i.a.inst 0 255∧xD i.a.inst 0 255≤255:=by rw[xD];omega
 have hw2:0≤xD i.a.side 0 1∧xD i.a.side 0 1≤1:=by rw[xD];omega
 obtain⟨A,hA⟩:∃A:MsgM,A=⟨i.a.seq,xD i.a.inst 0 255,IntKind.i64.wrap (1+xD i.a.side 0 1),i.a.price,i.a.qty,i.a.count,i.a.implied⟩:=⟨_,rfl⟩
 have hs:A.side=1+xD i.a.side 0 1:=by rw[hA];exact w64 (by omega)
 have hi:A.inst=xD i.a.inst 0 255:=by rw[hA]
 have hf:A.form=0:=by rw[MsgM.form,yOr];rw[hs,hi];omega
 have hr:A.raw:=by rw[hA];exact har
 have hl:A.enc.length=35:=by rw[MsgM.enc,yOr (by simp[hf]),z5r]
 have hd:yZ A.enc=(A,0):=zFx hf hr
 have e7:(A.seq==i.a.seq && (A.inst==xD i.a.inst 0 255 && (A.side==IntKind.i64.wrap (1+xD i.a.side 0 1) && (A.price==i.a.price && (A.qty==i.a.qty && (A.count==i.a.count && (A.implied==i.a.implied && true)))))))=true:=by rw[hA];simp
 have e8:(i.a.seq==i.b.seq && (xD i.a.inst 0 255==i.b.inst && (IntKind.i64.wrap (1+xD i.a.side 0 1)==i.b.side && (i.a.price==i.b.price && (i.a.qty==i.b.qty && (i.a.count==i.b.count && (i.a.implied==i.b.implied && true)))))))=decide (A=i.b):=by rw[← yNd,hA]
 unfold Vfc zHj zNy zNw dI
 refine⟨⟨i.a.inst,0,255⟩,rfl,rfl,rfl,⟨ha1,by dsimp only;decide,by dsimp only;decide,by dsimp only;decide⟩,fun _ _=>⟨⟨i.a.side,0,1⟩,rfl,rfl,rfl,⟨ha2,by dsimp only;decide,by dsimp only;decide,by dsimp only;decide⟩,fun _ _=>⟨A,by rw[hA],by rw[hA],by rw[hA],by rw[hA],by rw[hA],by rw[hA],by rw[hA],trivial,fun _ _=>⟨i.b,rfl,rfl,rfl,rfl,rfl,rfl,rfl,trivial,fun _ _=>⟨A.enc,rfl,by rw[big,hl];decide,fun _ _=>⟨false,fun t=>t=false,?_,?_⟩⟩⟩⟩⟩⟩
 ·dsimp only
  rw[hd]
  dsimp only
  rw[e7,e8,bE_len,hl]
  refine Cv.cnd.mk (fun e=>absurd e (by rw[hf];decide)) (fun _=>Cv.cnd.mk (fun e=>absurd e (by decide)) (fun _=>Cv.cnd.mk (fun e=>absurd e (by decide)) (fun _=>Cv.cnd.mk (fun e=>absurd e (by decide)) (fun _=>Cv.cnd.mk (fun e=>⟨sb A.enc,rfl,rfl,sb i.b.enc,rfl,rfl,_,rfl,?_,by(repeat'(first|exact trivial|exact rfl|apply And.intro))⟩) (fun _=>⟨false,rfl,rfl,by(repeat'(first|exact trivial|exact rfl|apply And.intro))⟩)))))
  have e:i.b.form=0:=by simpa using e
  show(!((sb A.enc).toList==(sb i.b.enc).toList)==decide (A=i.b))=false
  have hh:decide (A.enc=i.b.enc)=decide (A=i.b):=decide_eq_decide.2 (yAe hf hr e hbr)
  rw[eqB,hh]
  simp
 ·rintro _ rfl
  refine Cv.cnd.mk (fun e=>absurd e (by decide)) (fun _=>⟨i.x,rfl,hx,fun _ _=>Cv.cnd.mk (fun e=> ?_) (fun e=> ?_)⟩)
  ·have e:(yZ i.x).2=0:=by simpa using e
   obtain⟨q1,q2,q3⟩:=z4w e
   refine⟨(yZ i.x).1,rfl,rfl,rfl,rfl,rfl,rfl,rfl,trivial,fun _ _=>Cv.cnd.mk (fun _=>⟨sb (yZ i.x).1.enc,rfl,rfl,sb i.x,rfl,rfl,Cv.cnd.mk (fun _=>⟨(),trivial,fun _ _=>⟨(),rfl,trivial⟩⟩) (fun e=> ?_)⟩) (fun e=> ?_)⟩
   ·rw[q3,eqB]at e
    simp at e
   ·rw[q1]at e;exact absurd e (by decide)
  ·have e:(yZ i.x).2≠0:=by simpa using e
   rw[yAh e]
   exact Cv.cnd.mk (fun _=>Cv.cnd.mk (fun _=>⟨(),trivial,fun _ _=>⟨(),rfl,trivial⟩⟩) (fun e=>absurd e (by decide))) (fun e=>absurd e (by decide))
end Sx
