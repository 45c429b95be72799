/- Texts of ours, one behind the other: a walk that the kernel reckons, and contracts of functions. No condition. -/
import Derived.Test.YtogkpgfggfbhaaaGreatX10
namespace Sx
set_option linter.unusedVariables false
set_option linter.unusedSimpArgs false
set_option maxRecDepth 100000
open Go Cv Go.Proofs
open Go Cv Go.Proofs
open Go Cv Go.Proofs
open Go Cv Go.Proofs
open Go Cv Go.Proofs
def upd (f:Int→Int) (k v:Int):Int→Int:=fun x=>if x=k then v else f x
def one (r:Rep) (m:Int):Int:=if r.kind=3∧r.inst=m then(if r.side=1 then r.qty else-r.qty)else 0
def vq (p:Prd) (k s q m:Int):Int:=
 if(p.legs k).2.2=true then(if(p.legs k).1=m then(if s=1 then q else-q)else 0)-(if(p.legs k).2.1=m then(if s=1 then q else-q)else 0)
 else if k=m then(if s=1 then q else-q)else 0
open Go Cv Go.Proofs
open Go Cv Go.Proofs
open Classical
def dV (l:List Quote) (b:Quote):Int×Int:=l.foldl (fun a q=>if q.price=b.price then(if q.qty>a.1 then q.qty else a.1,a.2+1)else a) (b.qty,0)
def kW (l:List Quote) (s:Int):Lv×Bool:=if(zT l s).2 then(⟨(zT l s).1.price,(dV l (zT l s).1).1,(dV l (zT l s).1).2⟩,true)else(⟨0,0,0⟩,false)
def showC:Con:=con1 BsI (fun i=>[roV 6 (i.l.map zH),zA i.s]) (fun _=>[]) (fun i=>(i.s=1∨i.s=2)∧i.l.length≤1000000) (fun i=> .tup [zA (kW i.l i.s).1.price,zA (kW i.l i.s).1.qty,zA (kW i.l i.s).1.count,yB (kW i.l i.s).2]) (fun _=>[])
def yEs (i:BsI):List SAnn:=[{ι:=Nat,slots:=fun k=>[(8,.nm 0 0),(10,zA (dV (i.l.take k) (zT i.l i.s).1).1),(11,zA (dV (i.l.take k) (zT i.l i.s).1).2),(26,zA k)],rows:=fun _=>[.cells (zOl (zT i.l i.s).1).cl 257]}]
def zWr (p:Prd) (B:List (List zG)) (n:Nat) (s:Int):Sd:=⟨g7 (B.getD n []) s,(kW (xK ⟨p,B.map kB,n⟩ s) s).1,(kW (xK ⟨p,B.map kB,n⟩ s) s).2⟩
def j7 (p:Prd) (B:List (List zG)):Vw:=(List.range p.count).map fun n=>(zWr p B n 1,zWr p B n 2)
structure LkI where
 s:MSt
 p:Prd
 B:List (List zG)
def lookC:Con:=con1 LkI (fun i=>[tA i.p,.nm 0 0]) (fun i=>[zD i.s]) (fun i=>i.s.Rep i.p i.B∧BOk i.p i.B) (fun i=>vwV (j7 i.p i.B)) (fun i=>[zD i.s])
def yJz (i:LkI):List SAnn:=[
 {ι:=Nat,slots:=fun j=>[(5,.nm 0 0),(6,.own 2),(27,zA j)],rows:=fun j=>[.cells [.own 1] 71,.own 79 10 (((j7 i.p i.B).take j).map yN),.fro 6 ((i.B.map kB).map zU)]},
 {ι:=Unit,slots:=fun _=>[],rows:=fun _=>[],un:=3}]
noncomputable def z3n (a b:List Lv):Bool:=decide (a=b)
noncomputable def z1c (a b:Sd):Bool:=decide (a=b)
noncomputable def zOd (a b:Vw):Bool:=decide (a=b)
structure yAt where
 x:List Lv
 y:List Lv
noncomputable def eqLvC:Con:=con1 yAt (fun i=>[roV 3 (i.x.map lvE),roV 3 (i.y.map lvE)]) (fun _=>[]) (fun i=>i.x.length≤1099511627776∧i.y.length≤1099511627776) (fun i=>yB (z3n i.x i.y)) (fun _=>[])
def yJv:List SAnn:=[{ι:=Nat,slots:=fun k=>[(13,zA k)],rows:=fun _=>[]}]
def yKj:List (Nat×SAnn):=[(24,bj 24)]
structure z7g where
 a:Sd
 b:Sd
noncomputable def fsdC:Con:=con1 z7g (fun i=>[sdV i.a,sdV i.b]) (fun _=>[]) (fun i=>i.a.levels.length≤1099511627776∧i.b.levels.length≤1099511627776) (fun i=>yB (z1c i.a i.b)) (fun _=>[])
structure zNi where
 v:Vw
 w:Vw
noncomputable def eqFC:Con:=con1 zNi (fun i=>[roV 10 (i.v.map yN),roV 10 (i.w.map yN),.fn 76 [] []]) (fun _=>[]) (fun i=>fD i.v∧fD i.w) (fun i=>yB (zOd i.v i.w)) (fun _=>[])
def yOb:List SAnn:=[{ι:=Nat,slots:=fun k=>[(17,zA k)],rows:=fun _=>[]}]
def yMz:List (Nat×SAnn):=[(28,bj 30)]
noncomputable def fsameC:Con:=con1 zNi (fun i=>[vwV i.v,vwV i.w]) (fun _=>[]) (fun i=>fD i.v∧fD i.w) (fun i=>yB (zOd i.v i.w)) (fun _=>[])
def msgE (m:MsgM):List D:=[.v (.int .i64 m.seq),.v (.int .i64 m.inst),.v (.int .i64 m.side),.v (.int .i64 m.price),.v (.int .i64 m.qty),.v (.int .i64 m.count),.v (.bool m.implied)]
def yAb (m:MsgM):V:= .agg [zA m.seq,zA m.inst,zA m.side,zA m.price,zA m.qty,zA m.count,yB m.implied]
@[reducible] def z4r:Nat:=66
@[reducible] def yJi (l:List MsgM):AObj:= .own z4r 7 (l.map msgE)
def vG (seq:Int):List VM→List MsgM
 |[]=>[]
 |m::M=>⟨seq+1,m.inst,m.side,m.l.price,m.l.qty,m.l.count,m.imp⟩::vG (seq+1) M
structure Dfr where
 seq:Int
 out:List MsgM
@[reducible] def DfO (d:Dfr):List AObj:=[.cells [zA d.seq,.own 1] 139,yJi d.out]
@[reducible] def DfP (d:Dfr):List AObj:=[.cells [zA d.seq,.own 2] 139,.gone,yJi d.out]
def Dfr.add (d:Dfr) (M:List VM):Dfr:=⟨d.seq+M.length,d.out++vG d.seq M⟩
@[reducible] def Dfr.ok (d:Dfr) (n:Nat):Prop:= -4611686018427387904≤d.seq∧d.seq+n≤4611686018427387904∧d.out.length+n≤1000000000
structure DtI where
 d:Dfr
 m:VM
def dtellC:Con:=con1 DtI (fun i=>[.nm 0 0,zA i.m.inst,zA i.m.side,lvV i.m.l,yB i.m.imp]) (fun i=>DfO i.d) (fun i=>i.d.ok 1) (fun _=>eQ) (fun i=>DfP (i.d.add [i.m]))
structure DsI where
 d:Dfr
 n:Nat
 s:Int
 a:Sd
 b:Sd
def dsideC:Con:=con1 DsI (fun i=>[.nm 0 0,zA i.n,zA i.s,sdV i.a,sdV i.b]) (fun i=>DfO i.d) (fun i=>i.d.ok (i.a.levels.length+i.b.levels.length+1)) (fun _=>eQ) (fun i=>DfP (i.d.add (kF i.n i.s i.a i.b)))
structure DsJ where
 x:List Lv
 y:List Lv
 M:List VM
def yFw (i:DsI):List SAnn:=[{ι:=DsJ,slots:=fun j=>[(0,.nm 0 0),(10,roV 3 (j.x.map lvE)),(11,roV 3 (j.y.map lvE))],rows:=fun j=>DfO (i.d.add j.M)}]
def yMx:SAnn:={ι:=Dfr,slots:=fun _=>[(0,.nm 0 0)],rows:=fun d=>DfO d,slots0:=fun _=>[(0,.nm 0 0)],rows0:=fun d=>DfO d}
def lvT (t:Nat):SAnn:={ι:=Lv,slots:=fun _=>[(t,.nm 0 0)],rows:=fun l=>[.cells [zA l.price,zA l.qty,zA l.count] 76],slots0:=fun _=>[(t,.nm 0 0)],rows0:=fun l=>[.cells [zA l.price,zA l.qty,zA l.count] 76]}
def yHc:List (Nat×SAnn):=[(24,bj 41),(36,bj 73),(12,bj 29),(14,yMx),(48,bj 109),(58,lvT 12)]
structure DvI where
 v:Vw
 w:Vw
 seq:Int
def Vw.levs (v:Vw):Nat:=(v.map fun b=>b.1.levels.length+b.2.levels.length).sum
def diffC:Con:=con1 DvI (fun i=>[vwV i.v,vwV i.w,zA i.seq]) (fun _=>[]) (fun i=>i.v.length=i.w.length∧(-4000000000000000000≤i.seq∧i.seq≤4000000000000000000)∧Vw.levs i.v≤100000000∧Vw.levs i.w≤100000000∧i.v.length≤1000000) (fun _=> .own 0) (fun i=>[yJi (vG i.seq (kI 0 i.v i.w))])
def yMo (i:DvI):List SAnn:=[
 {ι:=Nat,slots:=fun j=>[(7,.nm 0 0),(24,zA j)],rows:=fun j=>DfO (Dfr.add ⟨i.seq,[]⟩ (kI 0 (i.v.take j) (i.w.take j)))},
 {ι:=Unit,slots:=fun _=>[],rows:=fun _=>[],un:=3}]
def mencC:Con:=con1 MsgM (fun m=>[yAb m]) (fun _=>[]) (fun _=>True) (fun m=> .tup [roV 1 (bE m.enc),zA m.form]) (fun _=>[])
def yLb:List (Nat×SAnn):=[(4,bj 23),(46,ij 5)]
def yLm:List (Nat×SAnn):=[(20,bj 43)]
open Go Cv Go.Proofs
def zId (a:Nat) (b:Nat) (c:BsI) (d:Nat→Prop) (e:Nat→Nat):Prop:=(↑a:Int)=IntKind.i64.wrap ((↑b:Int)+1)∧(zT c.l c.s).fst.price=(zT c.l c.s).fst.price∧(zT c.l c.s).fst.qty=(zT c.l c.s).fst.qty∧(zT c.l c.s).fst.a.inst=(zT c.l c.s).fst.a.inst∧(zT c.l c.s).fst.a.side=(zT c.l c.s).fst.a.side∧(zT c.l c.s).fst.b.inst=(zT c.l c.s).fst.b.inst∧(zT c.l c.s).fst.b.side=(zT c.l c.s).fst.b.side∧d a∧e a<e b∧True
def xW (a:Nat) (b:BsI):=(dV (List.take a b.l) (zT b.l b.s).fst)
def yDd (i:BsI):Prop:=
 ∃(a:BsI),List.map zH a.l=List.map zH i.l∧a.s=i.s∧(h9 a)∧∀(b:Unit),True→cnd (!(zT a.l a.s).snd) (∃(c:Unit),(kW i.l i.s).fst.price=0∧(kW i.l i.s).fst.qty=0∧(kW i.l i.s).fst.count=0∧(kW i.l i.s).snd=false∧True) (∃(c:Nat),(xW c i).fst=(zT a.l a.s).fst.qty∧(xW c i).snd=0∧(↑c:Int)=0∧(zT i.l i.s).fst.price=(zT a.l a.s).fst.price∧(zT i.l i.s).fst.qty=(zT a.l a.s).fst.qty∧(zT i.l i.s).fst.a.inst=(zT a.l a.s).fst.a.inst∧(zT i.l i.s).fst.a.side=(zT a.l a.s).fst.a.side∧(zT i.l i.s).fst.b.inst=(zT a.l a.s).fst.b.inst∧(zT i.l i.s).fst.b.side=(zT a.l a.s).fst.b.side∧∃(d:Nat→Prop),∃(e:Nat→Nat),d c∧∀(f:Nat),d f→cnd (decide ((↑f:Int)<(jX i))) ((0≤(↑f:Int)∧(↑f:Int)<(jX i))∧∃(g:Int),∃(h:Int),∃(j:Int),∃(k:Int),∃(l:Int),∃(m:Int),zF (List.map zH i.l) (↑f:Int).toNat 0 6=some [dI g,dI h,dI j,dI k,dI l,dI m]∧cnd (g==(zT i.l i.s).fst.price) (∃(n:Nat),((xW n i).fst=if h>(xW f i).fst then h else(xW f i).fst)∧(xW n i).snd=IntKind.i64.wrap ((xW f i).snd+1)∧zId n f i d e) (∃(n:Nat),(xW n i).fst=(xW f i).fst∧(xW n i).snd=(xW f i).snd∧zId n f i d e)) (∃(g:Unit),(kW i.l i.s).fst.price=(zT i.l i.s).fst.price∧(kW i.l i.s).fst.qty=(xW f i).fst∧(kW i.l i.s).fst.count=(xW f i).snd∧(kW i.l i.s).snd=true∧True))
def yCw (i:LkI):Prop:=
 ∃(a:Prd),sb a.code=sb i.p.code∧iE a.months=iE i.p.months∧a.tick=i.p.tick∧a.low=i.p.low∧a.high=i.p.high∧a.wide=i.p.wide∧a.rule=i.p.rule∧a.top=i.p.top∧a.least=i.p.least∧a.part=i.p.part∧iE a.settle=iE i.p.settle∧(yC a)∧∀(b:Unit),True→cnd (a.check !=0) (∃(c:Unit),List.map yN (j7 i.p i.B)=[]∧zD i.s=zD i.s∧True) (∃(c:MSt),zD c=zD i.s∧(u0 c)∧∀(d:Unit),True→∃(e:Prd),sb e.code=sb i.p.code∧iE e.months=iE i.p.months∧e.tick=i.p.tick∧e.low=i.p.low∧e.high=i.p.high∧e.wide=i.p.wide∧e.rule=i.p.rule∧e.top=i.p.top∧e.least=i.p.least∧e.part=i.p.part∧iE e.settle=iE i.p.settle∧(yC e)∧∀(f:Unit),True→∃(g:Nat),(↑g:Int)=0∧List.map yN (List.take g (j7 i.p i.B))=[]∧List.map zU (List.map kB i.B)=List.map zU c.tops∧∃(h:Nat→Prop),∃(j:Nat→Nat),h g∧∀(k:Nat),h k→cnd (decide ((↑k:Int)<(↑e.count:Int))) (((0:Int)≤(0:Int)∧0<(↑(2:Nat):Int))∧∃(l:Int),zF [[dI 1],[dI 2]] (Int.toNat 0) 0 1=some [dI l]∧∃(m:SoI),m.inst=(↑k:Int)∧zC m.sd=l∧zD m.s=zD c∧(m.s.Rep m.p m.B∧m.B.length≤1000)∧∀(n:Unit),True→∃(p:nK),sb p.i.p.code=sb i.p.code∧iE p.i.p.months=iE i.p.months∧p.i.p.tick=i.p.tick∧p.i.p.low=i.p.low∧p.i.p.high=i.p.high∧p.i.p.wide=i.p.wide∧p.i.p.rule=i.p.rule∧p.i.p.top=i.p.top∧p.i.p.least=i.p.least∧p.i.p.part=i.p.part∧iE p.i.p.settle=iE i.p.settle∧List.map zU p.i.tops=List.map zU (List.map kB i.B)∧p.i.inst=(↑k:Int)∧zC p.s=l∧(qZ p)∧∀(q:Unit),True→∃(r:BsI),List.map zH r.l=List.map zH (xK p.i (zC p.s))∧r.s=l∧(h9 r)∧∀(s:Unit),True→(vV)∧∃(t:Int),zF [[dI 1],[dI 2]] (IntKind.i64.wrap ((0:Int)+(1:Int))).toNat 0 1=some [dI t]∧∃(u:SoI),u.inst=(↑k:Int)∧zC u.sd=t∧zD u.s=zD m.s∧(u.s.Rep u.p u.B∧u.B.length≤1000)∧∀(v:Unit),True→∃(w:nK),sb w.i.p.code=sb i.p.code∧iE w.i.p.months=iE i.p.months∧w.i.p.tick=i.p.tick∧w.i.p.low=i.p.low∧w.i.p.high=i.p.high∧w.i.p.wide=i.p.wide∧w.i.p.rule=i.p.rule∧w.i.p.top=i.p.top∧w.i.p.least=i.p.least∧w.i.p.part=i.p.part∧iE w.i.p.settle=iE i.p.settle∧List.map zU w.i.tops=List.map zU (List.map kB i.B)∧w.i.inst=(↑k:Int)∧zC w.s=t∧(qZ w)∧∀(x:Unit),True→∃(y:BsI),List.map zH y.l=List.map zH (xK w.i (zC w.s))∧y.s=t∧(h9 y)∧∀(z:Unit),True→((List.map yN (List.take k (j7 i.p i.B))).length+1)*(112:Nat)≤(140737488355328:Nat)∧∃(a_1:Nat),(↑a_1:Int)=IntKind.i64.wrap ((↑k:Int)+1)∧List.map yN (List.take a_1 (j7 i.p i.B))=List.map yN (List.take k (j7 i.p i.B))++[[D.ro 3 (List.map lvE (fM m)),dI ((kW r.l r.s).fst.price),dI ((kW r.l r.s).fst.qty),dI ((kW r.l r.s).fst.count),D.v (.bool (kW r.l r.s).snd),D.ro 3 (List.map lvE (fM u)),dI ((kW y.l y.s).fst.price),dI ((kW y.l y.s).fst.qty),dI ((kW y.l y.s).fst.count),D.v (.bool (kW y.l y.s).snd)]]∧AObj.fro 6 (List.map zU (List.map kB i.B))=AObj.fro 6 (List.map zU (List.map kB i.B))∧h a_1∧j a_1<j k∧zD u.s=zD c∧Sx.AObj.cells (Sx.V.agg [V.d (D.v (Value.slice none 0 0))]).cl 71=Sx.AObj.cells (Sx.V.agg [V.d (D.v (Value.slice none 0 0))]).cl 71∧Sx.AObj.cells [V.d (D.v (Value.string (sb i.p.code))),V.own 1,V.d (dI i.p.tick),V.d (dI i.p.low),V.d (dI i.p.high),V.d (dI i.p.wide),V.d (dI i.p.rule),V.d (dI i.p.top),V.d (dI i.p.least),V.d (dI i.p.part),V.own ((1:Nat)+(1:Nat))] 26=Sx.AObj.cells [V.d (D.v (Value.string (sb i.p.code))),V.own 1,V.d (dI i.p.tick),V.d (dI i.p.low),V.d (dI i.p.high),V.d (dI i.p.wide),V.d (dI i.p.rule),V.d (dI i.p.top),V.d (dI i.p.least),V.d (dI i.p.part),V.own ((1:Nat)+(1:Nat))] 26∧AObj.fro 1 (iE i.p.settle)=AObj.fro 1 (iE i.p.settle)∧AObj.fro 1 (iE i.p.months)=AObj.fro 1 (iE i.p.months)) (∃(l:Unit),List.map yN (j7 i.p i.B)=List.map yN (List.take k (j7 i.p i.B))∧zD i.s=zD c∧True))
def yEa (i:yAt):Prop:=
 cnd ((↑(List.map lvE i.x).length:Int) !=(↑(List.map lvE i.y).length:Int)) (∃(a:Unit),z3n i.x i.y=false∧True) (∃(a:Nat),(↑a:Int)=0∧∃(b:Nat→Prop),∃(c:Nat→Nat),b a∧∀(d:Nat),b d→cnd (decide ((↑d:Int)<(↑(List.map lvE i.x).length:Int))) (∃(e:Bool),∃(f:Bool→Prop),((0≤(↑d:Int)∧(↑d:Int)<(↑(List.map lvE i.x).length:Int))∧∃(g:Int),∃(h:Int),∃(j:Int),zF (List.map lvE i.x) (↑d:Int).toNat 0 3=some [dI g,dI h,dI j]∧(0≤(↑d:Int)∧(↑d:Int)<(↑(List.map lvE i.y).length:Int))∧∃(k:Int),∃(l:Int),∃(m:Int),zF (List.map lvE i.y) (↑d:Int).toNat 0 3=some [dI k,dI l,dI m]∧∃(n:Bool),n=!(g==k && (h==l && (j==m && true)))∧f n∧True)∧∀(g:Bool),f g→cnd g (∃(h:Unit),z3n i.x i.y=false∧True) (qL d b c)) (∃(e:Unit),z3n i.x i.y=true∧True))
def yMn (i:z7g):Prop:=
 ∃(a:yAt),List.map lvE a.x=List.map lvE i.a.levels∧List.map lvE a.y=List.map lvE i.b.levels∧(a.x.length≤1099511627776∧a.y.length≤1099511627776)∧∀(b:Unit),True→cnd (z3n a.x a.y) (cnd (i.a.imp.price==i.b.imp.price && (i.a.imp.qty==i.b.imp.qty && (i.a.imp.count==i.b.imp.count && true))) (∃(c:Unit),z1c i.a i.b=(i.a.has==i.b.has)∧True) (∃(c:Unit),z1c i.a i.b=false∧True)) (∃(c:Unit),z1c i.a i.b=false∧True)
def zOh (a:Bool→Prop) (b:Bool) (c:List (List D)) (d:List (List D)) (e:Int) (f:Int) (g:Int) (h:Bool) (j:Int) (k:Int) (l:Int) (m:Bool) (n:List (List D)) (p:List (List D)) (q:Int) (r:Int) (s:Int) (t:Bool) (u:Int) (v:Int) (w:Int) (x:Bool):Prop:=a b∧AObj.fro 3 c=AObj.fro 3 c∧AObj.fro 3 d=AObj.fro 3 d∧Sx.AObj.cells [V.own ((0:Nat)+(0:Nat)+(1:Nat)+(1:Nat)+(1:Nat)+(1:Nat)),V.d (dI e),V.d (dI f),V.d (dI g),V.d (D.v (.bool h)),V.own ((0:Nat)+(0:Nat)+(1:Nat)+(1:Nat)+(1:Nat)+(1:Nat)+1),V.d (dI j),V.d (dI k),V.d (dI l),V.d (D.v (.bool m))] 79=Sx.AObj.cells [V.own ((0:Nat)+(0:Nat)+(1:Nat)+(1:Nat)+(1:Nat)+(1:Nat)),V.d (dI e),V.d (dI f),V.d (dI g),V.d (D.v (.bool h)),V.own ((0:Nat)+(0:Nat)+(1:Nat)+(1:Nat)+(1:Nat)+(1:Nat)+1),V.d (dI j),V.d (dI k),V.d (dI l),V.d (D.v (.bool m))] 79∧AObj.fro 3 n=AObj.fro 3 n∧AObj.fro 3 p=AObj.fro 3 p∧Sx.AObj.cells [V.own ((0:Nat)+(0:Nat)+1),V.d (dI q),V.d (dI r),V.d (dI s),V.d (D.v (.bool t)),V.own ((0:Nat)+(0:Nat)+(1:Nat)+(1:Nat)),V.d (dI u),V.d (dI v),V.d (dI w),V.d (D.v (.bool x))] 79=Sx.AObj.cells [V.own ((0:Nat)+(0:Nat)+1),V.d (dI q),V.d (dI r),V.d (dI s),V.d (D.v (.bool t)),V.own ((0:Nat)+(0:Nat)+(1:Nat)+(1:Nat)),V.d (dI u),V.d (dI v),V.d (dI w),V.d (D.v (.bool x))] 79
def yMc (i:zNi):Prop:=
 cnd ((↑(List.map yN i.v).length:Int) !=(↑(List.map yN i.w).length:Int)) (∃(a:Unit),zOd i.v i.w=false∧True) (∃(a:Nat),(↑a:Int)=0∧∃(b:Nat→Prop),∃(c:Nat→Nat),b a∧∀(d:Nat),b d→cnd (decide ((↑d:Int)<(↑(List.map yN i.v).length:Int))) ((0≤(↑d:Int)∧(↑d:Int)<(↑(List.map yN i.v).length:Int))∧∃(e:List (List D)),∃(f:Int),∃(g:Int),∃(h:Int),∃(j:Bool),∃(k:List (List D)),∃(l:Int),∃(m:Int),∃(n:Int),∃(p:Bool),zF (List.map yN i.v) (↑d:Int).toNat 0 10=some [D.ro 3 e,dI f,dI g,dI h,D.v (.bool j),D.ro 3 k,dI l,dI m,dI n,D.v (.bool p)]∧(0≤(↑d:Int)∧(↑d:Int)<(↑(List.map yN i.w).length:Int))∧∃(q:List (List D)),∃(r:Int),∃(s:Int),∃(t:Int),∃(u:Bool),∃(v:List (List D)),∃(w:Int),∃(x:Int),∃(y:Int),∃(z:Bool),zF (List.map yN i.w) (↑d:Int).toNat 0 10=some [D.ro 3 q,dI r,dI s,dI t,D.v (.bool u),D.ro 3 v,dI w,dI x,dI y,D.v (.bool z)]∧∃(a_1:Bool),∃(a_2:Bool→Prop),(∃(a_3:z7g),List.map lvE a_3.a.levels=e∧a_3.a.imp.price=f∧a_3.a.imp.qty=g∧a_3.a.imp.count=h∧a_3.a.has=j∧List.map lvE a_3.b.levels=q∧a_3.b.imp.price=r∧a_3.b.imp.qty=s∧a_3.b.imp.count=t∧a_3.b.has=u∧(a_3.a.levels.length≤1099511627776∧a_3.b.levels.length≤1099511627776)∧∀(a_4:Unit),True→cnd (z1c a_3.a a_3.b) (∃(a_5:z7g),List.map lvE a_5.a.levels=k∧a_5.a.imp.price=l∧a_5.a.imp.qty=m∧a_5.a.imp.count=n∧a_5.a.has=p∧List.map lvE a_5.b.levels=v∧a_5.b.imp.price=w∧a_5.b.imp.qty=x∧a_5.b.imp.count=y∧a_5.b.has=z∧(a_5.a.levels.length≤1099511627776∧a_5.b.levels.length≤1099511627776)∧∀(a_6:Unit),True→∃(a_7:Bool),a_7=!z1c a_5.a a_5.b∧zOh a_2 a_7 v q r s t u w x y z k e f g h j l m n p) (∃(a_5:Bool),a_5=!false∧zOh a_2 a_5 v q r s t u w x y z k e f g h j l m n p))∧∀(a_3:Bool),a_2 a_3→cnd a_3 (∃(a_4:Unit),zOd i.v i.w=false∧True) (qL d b c)) (∃(e:Unit),zOd i.v i.w=true∧True))
def mF (a:zNi):Prop:=(List.length a.v≤1099511627776∧∀(b:Sd×Sd),b∈a.v→b.fst.levels.length≤1099511627776∧b.snd.levels.length≤1099511627776)∧List.length a.w≤1099511627776∧∀(b:Sd×Sd),b∈a.w→b.fst.levels.length≤1099511627776∧b.snd.levels.length≤1099511627776
def z2r (i:zNi):Prop:=
 ∃(a:zNi),List.map yN a.v=List.map yN i.v∧List.map yN a.w=List.map yN i.w∧(mF a)∧∀(b:Unit),True→∃(c:Unit),zOd i.v i.w=zOd a.v a.w∧True
def z7y (i:DtI):Prop:=
 True∧((List.map msgE i.d.out).length+1)*(56:Nat)≤(140737488355328:Nat)∧∃(a:Unit),i.d.seq+(↑(1:Nat):Int)=IntKind.i64.wrap (i.d.seq+1)∧List.map msgE (i.d.out++vG i.d.seq [i.m])=List.map msgE i.d.out++[[dI (IntKind.i64.wrap (i.d.seq+1)),dI (↑i.m.inst:Int),dI i.m.side,dI i.m.l.price,dI i.m.l.qty,dI i.m.l.count,D.v (.bool i.m.imp)]]∧True
def x9 (a:DsI) (b:DsJ):=(a.d.out++vG a.d.seq b.M)
def cO (a:DsI):Prop:=Sx.AObj.cells [V.own ((2:Nat)+(1:Nat)+1),V.d (dI a.b.imp.price),V.d (dI a.b.imp.qty),V.d (dI a.b.imp.count),V.d (D.v (.bool a.b.has))] 78=Sx.AObj.cells [V.own ((2:Nat)+(1:Nat)+1),V.d (dI a.b.imp.price),V.d (dI a.b.imp.qty),V.d (dI a.b.imp.count),V.d (D.v (.bool a.b.has))] 78∧AObj.fro 3 (List.map lvE a.b.levels)=AObj.fro 3 (List.map lvE a.b.levels)∧Sx.AObj.cells [V.own 2,V.d (dI a.a.imp.price),V.d (dI a.a.imp.qty),V.d (dI a.a.imp.count),V.d (D.v (.bool a.a.has))] 78=Sx.AObj.cells [V.own 2,V.d (dI a.a.imp.price),V.d (dI a.a.imp.qty),V.d (dI a.a.imp.count),V.d (D.v (.bool a.a.has))] 78∧AObj.fro 3 (List.map lvE a.a.levels)=AObj.fro 3 (List.map lvE a.a.levels)
def zCh (a:DsI) (b:DsJ) (c:DsJ):Prop:=Sx.AObj.cells (wT (bD ((2:Nat)+(1:Nat)+(1:Nat)+(1:Nat)+1) [((1:Nat),(1:Nat)),((0:Nat),(0:Nat))] 0 (DfO (a.d.add b.M))) [zA (a.d.seq+(↑c.M.length:Int)),V.own 1]) (139:TypeId)=Sx.AObj.cells (wT (bD ((2:Nat)+(1:Nat)+(1:Nat)+(1:Nat)+1) [((1:Nat),(1:Nat)),((0:Nat),(0:Nat))] 0 (DfO (a.d.add b.M))) [zA (a.d.seq+(↑c.M.length:Int)),V.own 1]) (139:TypeId)∧AObj.own z4r 7 (List.map msgE (x9 a c))=AObj.own z4r 7 (List.map msgE (x9 a c))∧cO a
def bS (a:Bool→Prop) (b:Bool) (c:DsI) (d:DsJ) (e:DsJ):Prop:=a b∧zCh c d e
def zAv (a:DsI) (b:Int) (c:Int) (d:Bool→Prop) (e:DsJ) (f:DsJ):Prop:=∃(g:I3),g.side=a.s∧g.x=b∧g.y=c∧True∧∀(h:Unit),True→∃(j:Bool),j=rK g.side g.x g.y∧bS d j a e f
def pF (a:Bool→Prop) (b:DsI) (c:DsJ) (d:DsJ):Prop:=∃(e:Bool),e=true∧bS a e b c d
def zBq (a:Lv→Prop) (b:Lv) (c:DsI) (d:DsJ) (e:DsJ):Prop:=a b∧zCh c d e
def zBd (a:DsJ→Prop) (b:DsJ) (c:DsJ→Nat) (d:DsJ) (e:DsI):Prop:=a b∧c b<c d∧cO e
def zAf (a:DsI) (b:DsJ) (c:DtI) (d:DsJ→Prop) (e:DsJ→Nat) (f:DsJ):Prop:=a.d.seq+(↑b.M.length:Int)=c.d.seq+(↑(1:Nat):Int)∧List.map msgE (x9 a b)=List.map msgE (c.d.out++vG c.d.seq [c.m])∧zBd d b e f a
def zCf (a:Dfr→Prop) (b:Dfr) (c:DsI):Prop:=a b∧cO c
def f7 (a:DtI):Prop:=(-4611686018427387904)≤a.d.seq∧a.d.seq+(↑(1:Nat):Int)≤4611686018427387904∧a.d.out.length+(1:Nat)≤(1000000000:Nat)
def uZ (a:DsJ):=(↑(List.map lvE a.y).length:Int)
def uS (a:DsJ):Prop:=(0:Int)≤(0:Int)∧0<(uZ a)
def vN (a:DsJ):=(↑(List.map lvE a.x).length:Int)
def dR (a:DsJ):Prop:=(0:Int)≤(0:Int)∧0<(vN a)
def u6 (a:DsI):=(a.d.out++vG a.d.seq (kF a.n a.s a.a a.b))
def hJ (a:DsI):=(↑(kF a.n a.s a.a a.b).length:Int)
def z3r (i:DsI):Prop:=
 ∃(a:DsJ),List.map lvE a.x=List.map lvE i.a.levels∧List.map lvE a.y=List.map lvE i.b.levels∧i.d.seq+(↑a.M.length:Int)=i.d.seq∧List.map msgE (x9 i a)=List.map msgE i.d.out∧∃(b:DsJ→Prop),∃(c:DsJ→Nat),b a∧∀(d:DsJ),b d→cnd (decide (IntKind.i64.wrap ((vN d)+(uZ d))>0)) (∃(e:Bool),∃(f:Bool→Prop),cnd ((uZ d)==0) (pF f i a d) (cnd (decide ((vN d)>0)) ((dR d)∧∃(g:Int),zF (List.map lvE d.x) (Int.toNat 0) ((0:Nat)+(0:Nat)) 1=some [dI g]∧(uS d)∧∃(h:Int),zF (List.map lvE d.y) (Int.toNat 0) ((0:Nat)+(0:Nat)) 1=some [dI h]∧zAv i g h f a d) (∃(g:Bool),g=false∧bS f g i a d))∧∀(g:Bool),f g→cnd g ((dR d)∧∃(h:Int),zF (List.map lvE d.x) (Int.toNat 0) ((0:Nat)+(0:Nat)) 1=some [dI h]∧∃(j:DtI),(↑j.m.inst:Int)=(↑i.n:Int)∧j.m.side=i.s∧j.m.l.price=h∧j.m.l.qty=0∧j.m.l.count=0∧j.m.imp=false∧j.d.seq=i.d.seq+(↑d.M.length:Int)∧List.map msgE j.d.out=List.map msgE (x9 i d)∧(f7 j)∧∀(k:Unit),True→((0:Int)≤(1:Int)∧1≤(vN d))∧∃(l:DsJ),List.map lvE l.x=List.drop (Int.toNat 1) (List.map lvE d.x)∧List.map lvE l.y=List.map lvE d.y∧zAf i l j b c d) (∃(h:Bool),∃(j:Bool→Prop),cnd ((vN d)==0) (pF j i a d) ((uS d)∧∃(k:Int),zF (List.map lvE d.y) (Int.toNat 0) ((0:Nat)+(0:Nat)) 1=some [dI k]∧(dR d)∧∃(l:Int),zF (List.map lvE d.x) (Int.toNat 0) ((0:Nat)+(0:Nat)) 1=some [dI l]∧zAv i k l j a d)∧∀(k:Bool),j k→cnd k ((uS d)∧∃(l:Int),∃(m:Int),∃(n:Int),zF (List.map lvE d.y) (Int.toNat 0) 0 3=some [dI l,dI m,dI n]∧∃(p:DtI),(↑p.m.inst:Int)=(↑i.n:Int)∧p.m.side=i.s∧p.m.l.price=l∧p.m.l.qty=m∧p.m.l.count=n∧p.m.imp=false∧p.d.seq=i.d.seq+(↑d.M.length:Int)∧List.map msgE p.d.out=List.map msgE (x9 i d)∧(f7 p)∧∀(q:Unit),True→((0:Int)≤(1:Int)∧1≤(uZ d))∧∃(r:DsJ),List.map lvE r.x=List.map lvE d.x∧List.map lvE r.y=List.drop (Int.toNat 1) (List.map lvE d.y)∧zAf i r p b c d) (∃(l:Dfr),l.seq=i.d.seq+(↑d.M.length:Int)∧List.map msgE l.out=List.map msgE (x9 i d)∧∃(m:Dfr→Prop),(∃(n:Bool),∃(p:Bool→Prop),((dR d)∧∃(q:Int),∃(r:Int),∃(s:Int),zF (List.map lvE d.x) (Int.toNat 0) 0 3=some [dI q,dI r,dI s]∧(uS d)∧∃(t:Int),∃(u:Int),∃(v:Int),zF (List.map lvE d.y) (Int.toNat 0) 0 3=some [dI t,dI u,dI v]∧∃(w:Bool),w=!(q==t && (r==u && (s==v && true)))∧p w∧Sx.AObj.cells (wT (zGe ((2:Nat)+(1:Nat)+(1:Nat)+(1:Nat)+(1:Nat)+(2:Nat)+(0:Nat)+(0:Nat)) (qV [((1:Nat),(2:Nat)+(1:Nat)+(1:Nat)+(1:Nat)+1+((0:Nat)+(1:Nat))),((0:Nat),(0:Nat))] 0 (DfO l)) 2) [zA l.seq,V.own 1]) (139:TypeId)=Sx.AObj.cells (wT (zGe ((2:Nat)+(1:Nat)+(1:Nat)+(1:Nat)+(1:Nat)+(2:Nat)+(0:Nat)+(0:Nat)) (qV [((1:Nat),(2:Nat)+(1:Nat)+(1:Nat)+(1:Nat)+1+((0:Nat)+(1:Nat))),((0:Nat),(0:Nat))] 0 (DfO l)) 2) [zA l.seq,V.own 1]) (139:TypeId)∧AObj.own z4r 7 (List.map msgE l.out)=AObj.own z4r 7 (List.map msgE l.out)∧cO i)∧∀(q:Bool),p q→cnd q ((uS d)∧∃(r:Int),∃(s:Int),∃(t:Int),zF (List.map lvE d.y) (Int.toNat 0) 0 3=some [dI r,dI s,dI t]∧∃(u:DtI),(↑u.m.inst:Int)=(↑i.n:Int)∧u.m.side=i.s∧u.m.l.price=r∧u.m.l.qty=s∧u.m.l.count=t∧u.m.imp=false∧u.d.seq=l.seq∧List.map msgE u.d.out=List.map msgE l.out∧(f7 u)∧∀(v:Unit),True→∃(w:Dfr),w.seq=u.d.seq+(↑(1:Nat):Int)∧List.map msgE w.out=List.map msgE (u.d.out++vG u.d.seq [u.m])∧zCf m w i) (∃(r:Dfr),r.seq=l.seq∧List.map msgE r.out=List.map msgE l.out∧zCf m r i))∧∀(n:Dfr),m n→((0:Int)≤(1:Int)∧1≤(vN d))∧((0:Int)≤(1:Int)∧1≤(uZ d))∧∃(p:DsJ),List.map lvE p.x=List.drop (Int.toNat 1) (List.map lvE d.x)∧List.map lvE p.y=List.drop (Int.toNat 1) (List.map lvE d.y)∧i.d.seq+(↑p.M.length:Int)=n.seq∧List.map msgE (x9 i p)=List.map msgE n.out∧zBd b p c d i))) (∃(e:Bool),∃(f:Bool→Prop),cnd (!(i.a.imp.price==i.b.imp.price && (i.a.imp.qty==i.b.imp.qty && (i.a.imp.count==i.b.imp.count && true)))) (pF f i a d) (∃(g:Bool),g=!i.a.has==i.b.has∧bS f g i a d)∧∀(g:Bool),f g→cnd g (∃(h:Lv),h.price=i.b.imp.price∧h.qty=i.b.imp.qty∧h.count=i.b.imp.count∧∃(j:Lv→Prop),cnd (!i.b.has) (∃(k:Lv),k.price=0∧k.qty=0∧k.count=0∧zBq j k i a d) (∃(k:Lv),k.price=h.price∧k.qty=h.qty∧k.count=h.count∧zBq j k i a d)∧∀(k:Lv),j k→∃(l:DtI),(↑l.m.inst:Int)=(↑i.n:Int)∧l.m.side=i.s∧l.m.l.price=k.price∧l.m.l.qty=k.qty∧l.m.l.count=k.count∧l.m.imp=true∧l.d.seq=i.d.seq+(↑d.M.length:Int)∧List.map msgE l.d.out=List.map msgE (x9 i d)∧(f7 l)∧∀(m:Unit),True→∃(n:Unit),i.d.seq+(hJ i)=l.d.seq+(↑(1:Nat):Int)∧List.map msgE (u6 i)=List.map msgE (l.d.out++vG l.d.seq [l.m])∧True) (∃(h:Unit),i.d.seq+(hJ i)=i.d.seq+(↑d.M.length:Int)∧List.map msgE (u6 i)=List.map msgE (x9 i d)∧True))
def zCc (a:DsI):Prop:=(-4611686018427387904)≤a.d.seq∧a.d.seq+(↑(a.a.levels.length+a.b.levels.length+1):Int)≤4611686018427387904∧a.d.out.length+(a.a.levels.length+a.b.levels.length+1)≤1000000000
def cU (a:DvI) (b:Nat):=([]++vG a.seq (kI 0 (List.take b a.v) (List.take b a.w)))
def rC (a:Nat) (b:DvI):=(↑(kI 0 (List.take a b.v) (List.take a b.w)).length:Int)
def bM (a:DvI):=(↑(List.map yN a.v).length:Int)
def yDe (i:DvI):Prop:=
 cnd ((bM i) !=(↑(List.map yN i.w).length:Int)) (∃(a:Unit),List.map msgE (vG i.seq (kI 0 i.v i.w))=[]∧True) (∃(a:Nat),(↑a:Int)=0∧i.seq+(rC a i)=i.seq∧List.map msgE (cU i a)=[]∧∃(b:Nat→Prop),∃(c:Nat→Nat),b a∧∀(d:Nat),b d→cnd (decide ((↑d:Int)<(bM i))) (((0:Int)≤(0:Int)∧0<(↑(2:Nat):Int))∧∃(e:Int),zF [[dI 1],[dI 2]] (Int.toNat 0) 0 1=some [dI e]∧(0≤(↑d:Int)∧(↑d:Int)<(bM i))∧∃(f:List (List D)),∃(g:Int),∃(h:Int),∃(j:Int),∃(k:Bool),zF (List.map yN i.v) (↑d:Int).toNat (0+nat_lit 0*5) 5=some [D.ro 3 f,dI g,dI h,dI j,D.v (.bool k)]∧(0≤(↑d:Int)∧(↑d:Int)<(↑(List.map yN i.w).length:Int))∧∃(l:List (List D)),∃(m:Int),∃(n:Int),∃(p:Int),∃(q:Bool),zF (List.map yN i.w) (↑d:Int).toNat (0+nat_lit 0*5) 5=some [D.ro 3 l,dI m,dI n,dI p,D.v (.bool q)]∧∃(r:DsI),(↑r.n:Int)=(↑d:Int)∧r.s=e∧List.map lvE r.a.levels=f∧r.a.imp.price=g∧r.a.imp.qty=h∧r.a.imp.count=j∧r.a.has=k∧List.map lvE r.b.levels=l∧r.b.imp.price=m∧r.b.imp.qty=n∧r.b.imp.count=p∧r.b.has=q∧r.d.seq=i.seq+(rC d i)∧List.map msgE r.d.out=List.map msgE (cU i d)∧(zCc r)∧∀(s:Unit),True→(vV)∧∃(t:Int),zF [[dI 1],[dI 2]] (IntKind.i64.wrap ((0:Int)+(1:Int))).toNat 0 1=some [dI t]∧(0≤(↑d:Int)∧(↑d:Int)<(bM i))∧∃(u:List (List D)),∃(v:Int),∃(w:Int),∃(x:Int),∃(y:Bool),zF (List.map yN i.v) (↑d:Int).toNat (0+(nat_lit 0+nat_lit 1) % ((2:Int) ^ IntKind.i64.bits).natAbs*5) 5=some [D.ro 3 u,dI v,dI w,dI x,D.v (.bool y)]∧(0≤(↑d:Int)∧(↑d:Int)<(↑(List.map yN i.w).length:Int))∧∃(z:List (List D)),∃(a_1:Int),∃(a_2:Int),∃(a_3:Int),∃(a_4:Bool),zF (List.map yN i.w) (↑d:Int).toNat (0+(nat_lit 0+nat_lit 1) % ((2:Int) ^ IntKind.i64.bits).natAbs*5) 5=some [D.ro 3 z,dI a_1,dI a_2,dI a_3,D.v (.bool a_4)]∧∃(a_5:DsI),(↑a_5.n:Int)=(↑d:Int)∧a_5.s=t∧List.map lvE a_5.a.levels=u∧a_5.a.imp.price=v∧a_5.a.imp.qty=w∧a_5.a.imp.count=x∧a_5.a.has=y∧List.map lvE a_5.b.levels=z∧a_5.b.imp.price=a_1∧a_5.b.imp.qty=a_2∧a_5.b.imp.count=a_3∧a_5.b.has=a_4∧a_5.d.seq=r.d.seq+(hJ r)∧List.map msgE a_5.d.out=List.map msgE (u6 r)∧(zCc a_5)∧∀(a_6:Unit),True→∃(a_7:Nat),(↑a_7:Int)=IntKind.i64.wrap ((↑d:Int)+1)∧i.seq+(rC a_7 i)=a_5.d.seq+(hJ a_5)∧List.map msgE (cU i a_7)=List.map msgE (u6 a_5)∧b a_7∧c a_7<c d∧Sx.AObj.cells [V.own ((0:Nat)+(1:Nat)+1)] 71=Sx.AObj.cells [V.own ((0:Nat)+(1:Nat)+1)] 71∧AObj.fro 10 (List.map yN i.w)=AObj.fro 10 (List.map yN i.w)∧Sx.AObj.cells [V.own 0] 71=Sx.AObj.cells [V.own 0] 71∧AObj.fro 10 (List.map yN i.v)=AObj.fro 10 (List.map yN i.v)) (∃(e:Unit),List.map msgE (vG i.seq (kI 0 i.v i.w))=List.map msgE (cU i d)∧True))
def zBr (a:MsgM):Prop:=Sx.AObj.cells [V.d (dI a.seq),V.d (dI a.inst),V.d (dI a.side),V.d (dI a.price),V.d (dI a.qty),V.d (dI a.count),V.d (D.v (.bool a.implied))] 66=Sx.AObj.cells [V.d (dI a.seq),V.d (dI a.inst),V.d (dI a.side),V.d (dI a.price),V.d (dI a.qty),V.d (dI a.count),V.d (D.v (.bool a.implied))] 66
def zIi (a:Int→Prop) (b:Int) (c:WN) (d:MsgM):Prop:=a b∧AObj.adt (List UInt8) 2 WrU (c.l++le c.n 8)=AObj.adt (List UInt8) 2 WrU (c.l++le c.n 8)∧zBr d
def rL (a:Bool→Prop) (b:Bool) (c:MsgM):Prop:=a b∧zBr c
def zGf (a:Bool→Prop) (b:MsgM):Prop:=∃(c:Bool),c=true∧rL a c b
def yDy (m:MsgM):Prop:=
 ∃(a:Bool),∃(b:Bool→Prop),cnd (decide (m.inst<0)) (zGf b m) (cnd (decide (m.inst>255)) (zGf b m) (cnd (m.side !=1) (∃(c:Bool),c=(m.side !=2)∧rL b c m) (∃(c:Bool),c=false∧rL b c m)))∧∀(c:Bool),b c→cnd c (∃(d:Unit),bE m.enc=[]∧m.form=12∧True) (∃(d:Unit),True∧∀(e:Unit),True→∃(f:WN),f.n=m.seq∧AObj.adt (List UInt8) 2 WrU f.l=AObj.adt (List UInt8) 2 WrU []∧f.ok∧∀(g:Unit),True→∃(h:WN),h.n=m.inst∧AObj.adt (List UInt8) 2 WrU h.l=AObj.adt (List UInt8) 2 WrU (f.l++le f.n 8)∧h.ok∧∀(j:Unit),True→∃(k:WN),k.n=m.side∧AObj.adt (List UInt8) 2 WrU k.l=AObj.adt (List UInt8) 2 WrU (h.l++[lob h.n])∧k.ok∧∀(l:Unit),True→∃(n:WN),n.n=m.price∧AObj.adt (List UInt8) 2 WrU n.l=AObj.adt (List UInt8) 2 WrU (k.l++[lob k.n])∧n.ok∧∀(p:Unit),True→∃(q:WN),q.n=m.qty∧AObj.adt (List UInt8) 2 WrU q.l=AObj.adt (List UInt8) 2 WrU (n.l++le n.n 8)∧q.ok∧∀(r:Unit),True→∃(s:WN),s.n=m.count∧AObj.adt (List UInt8) 2 WrU s.l=AObj.adt (List UInt8) 2 WrU (q.l++le q.n 8)∧s.ok∧∀(t:Unit),True→∃(u:Int),∃(v:Int→Prop),cnd m.implied (∃(w:Int),w=1∧zIi v w s m) (∃(w:Int),w=0∧zIi v w s m)∧∀(w:Int),v w→∃(x:WN),x.n=w∧AObj.adt (List UInt8) 2 WrU x.l=AObj.adt (List UInt8) 2 WrU (s.l++le s.n 8)∧x.ok∧∀(y:Unit),True→∃(z:List UInt8),AObj.adt (List UInt8) 2 WrU z=AObj.adt (List UInt8) 2 WrU (x.l++[lob x.n])∧z.length≤1099511627776∧∀(a_1:Unit),True→∃(a_2:Unit),bE m.enc=bE z∧m.form=0∧True)
open Go Cv Go.Proofs
open Classical
theorem zHc {l:List Quote} {k:Nat} {q:Quote} (b:Quote) (h:l[k]? =some q):dV (l.take (k+1)) b=if q.price=b.price then(if q.qty>(dV (l.take k) b).1 then q.qty else(dV (l.take k) b).1,(dV (l.take k) b).2+1)else dV (l.take k) b:=by
 rw[dV,yQb,h,yRy,yUo,yTb,List.foldl_nil]
 rfl
theorem zOu (b:Quote) (l:List Quote):∀k,k≤l.length→0≤(dV (l.take k) b).2∧(dV (l.take k) b).2≤k
 |0,_=>⟨by rw[ySv];exact yTl 0,by rw[ySv];exact yTl 0⟩
 |k+1,h=>by
  obtain⟨q,hq⟩:=z8 (l:=l) (i:=k) (by omega)
  have:=zOu b l k (by omega)
  rw[zHc b hq]
  split
  ·dsimp only;constructor<;>omega
  ·constructor<;>omega
theorem yLg (i:BsI) (h:showC.cnd i):yDd i:=by
 obtain⟨hs,hl⟩:(i.s=1∨i.s=2)∧i.l.length≤1000000:=h
 have hml:(i.l.map zH).length=i.l.length:=yOs _
 unfold yDd zId xW h9 jX dI
 rw[hml]
 refine⟨i,rfl,rfl,⟨hs,hl⟩,fun _ _=>Cv.cnd.mk (fun c=> ?_) (fun c=> ?_)⟩
 ·have e:kW i.l i.s=(⟨0,0,0⟩,false):=by rw[kW,yOr (by simpa using c)]
  rw[e];exact⟨(),by(repeat'(first|exact trivial|exact rfl|apply And.intro))⟩
 have e:kW i.l i.s=(⟨(zT i.l i.s).1.price,(dV i.l (zT i.l i.s).1).1,(dV i.l (zT i.l i.s).1).2⟩,true):=by rw[kW,yOu (by simpa using c)]
 rw[e]
 generalize (zT i.l i.s).1=b
 refine⟨0,rfl,rfl,rfl,rfl,rfl,rfl,rfl,rfl,rfl,fun k=>k≤i.l.length,fun k=>i.l.length-k,yQn _,fun k hk=>zI (fun hlt=> ?_) (fun hlt=> ?_)⟩
 ·obtain⟨q,hq⟩:=z8 (l:=i.l) (i:=k) (by omega)
  have st:=zHc b hq
  have bd:=zOu b i.l k hk
  have hk:k≤i.l.length:=hk
  refine⟨⟨by omega,by omega⟩,q.price,q.qty,q.a.inst,q.a.side,q.b.inst,q.b.side,elA hq (by simp[zH]) rfl,Cv.cnd.mk (fun e=>⟨k+1,?_⟩) (fun e=>⟨k+1,?_⟩)⟩
  ·rw[st,yOu (by simpa using e)]
   exact⟨rfl,by dsimp only;rw[w64 (by omega)],wjn (by omega),rfl,rfl,rfl,rfl,rfl,rfl,by dsimp only;omega,by dsimp only;omega,trivial⟩
  ·rw[st,yOr (by simpa using e)]
   exact⟨rfl,rfl,wjn (by omega),rfl,rfl,rfl,rfl,rfl,rfl,by dsimp only;omega,by dsimp only;omega,trivial⟩
 ·have hk:k≤i.l.length:=hk
  obtain rfl:k=i.l.length:=by omega
  rw[ySu]
  exact⟨(),by(repeat'(first|exact trivial|exact rfl|apply And.intro))⟩
theorem z9i:showC.ok Tryz.prog 118:=okw mixed (gokc zRt gok0) 0 (fun _=>[]) (fun i=>yEs i) [] Tryz.func118 yLg
theorem zBo (p:Prd) (B:List (List zG)):(j7 p B).length=p.count:=by rw[j7,yOs,List.length_range]
theorem z0o (p:Prd) (B:List (List zG)) {j:Nat} (h:j<p.count):(j7 p B)[j]? =some (zWr p B j 1,zWr p B j 2):=by
 rw[j7,yQg,ySn h];rfl
theorem yMu (i:LkI) (h:lookC.cnd i):yCw i:=by
 obtain⟨hR,hB⟩:i.s.Rep i.p i.B∧BOk i.p i.B:=h
 have hcl:=xR i.p
 have hbl:=hB.bl
 have hcnt:i.s.cntOk:=hR.cnt (by omega)
 have hto:jN (i.B.map kB):=hB.tops
 have hll:=zBo i.p i.B
 unfold yCw vV fM qZ vT h9 u0 yC dI
 refine⟨i.p,rfl,rfl,rfl,rfl,rfl,rfl,rfl,rfl,rfl,rfl,rfl,hB.ps,fun _ _=>Cv.cnd.mk (fun c=>absurd hB.pc (by simpa using c)) (fun _=>⟨i.s,rfl,hcnt,fun _ _=>⟨i.p,rfl,rfl,rfl,rfl,rfl,rfl,rfl,rfl,rfl,rfl,rfl,hB.ps,fun _ _=>⟨0,rfl,rfl,by rw[hR.tops],fun j=>j≤i.p.count,fun j=>i.p.count-j,yQn _,fun j hj=>zI (fun hlt=> ?_) (fun hlt=> ?_)⟩⟩⟩)⟩
 ·have hlt:j<i.p.count:=by omega
  have hat:atB i.B (j:Int)=i.B.getD j []:=by rw[atB,yOr (by omega),yPj]
  have hq:∀s,(xK ⟨i.p,i.B.map kB,j⟩ s).length≤1000000:=fun s=>yRw (zQj _ _) (by decide)
  refine⟨⟨by decide,by decide⟩,1,rfl,⟨i.s,i.p,i.B,j,false⟩,rfl,rfl,rfl,⟨hR,by dsimp only;omega⟩,fun _ _=>⟨⟨⟨i.p,i.B.map kB,j⟩,false⟩,rfl,rfl,rfl,rfl,rfl,rfl,rfl,rfl,rfl,rfl,rfl,rfl,rfl,rfl,⟨hB.ps,hto⟩,fun _ _=>⟨⟨xK ⟨i.p,i.B.map kB,j⟩ 1,1⟩,rfl,rfl,⟨.inl rfl,hq 1⟩,fun _ _=>⟨⟨by decide,by decide⟩,2,rfl,⟨i.s,i.p,i.B,j,true⟩,rfl,rfl,rfl,⟨hR,by dsimp only;omega⟩,fun _ _=>⟨⟨⟨i.p,i.B.map kB,j⟩,true⟩,rfl,rfl,rfl,rfl,rfl,rfl,rfl,rfl,rfl,rfl,rfl,rfl,rfl,rfl,⟨hB.ps,hto⟩,fun _ _=>⟨⟨xK ⟨i.p,i.B.map kB,j⟩ 2,2⟩,rfl,rfl,⟨.inr rfl,hq 2⟩,fun _ _=>⟨?_,j+1,wjn (by omega),?_,rfl,by dsimp only;omega,by dsimp only;omega,rfl,by(repeat'(first|exact trivial|exact rfl|apply And.intro))⟩⟩⟩⟩⟩⟩⟩
  ·rw[yOs,yPl];omega
  ·rw[yQb,z0o i.p i.B hlt,yRy,yPc,yPd,ySc]
   dsimp only
   rw[hat]
   rfl
 ·have hj:j≤i.p.count:=hj
  rw[yPf (by omega)]
  exact⟨(),by(repeat'(first|exact trivial|exact rfl|apply And.intro))⟩
theorem yBm:lookC.ok Tryz.prog 63:=okw mixed (gokc nG (gokc yAu (gokc fH (gokc yAw (gokc zJu (gokc z9i gok0)))))) 1 (fun _=>[]) (fun i=>yJz i) [] Tryz.func63 yMu
open Go Cv Go.Proofs
open Classical
theorem zJn {α:Type} {x y:List α} {k:Nat} {a b:α} (ha:x[k]? =some a) (hb:y[k]? =some b) (h:x.take k=y.take k) (e:a=b):x.take (k+1)=y.take (k+1):=by rw[yQb,yQb,h,ha,hb,e]
theorem zSn (a b:Lv):(a.price==b.price && (a.qty==b.qty && (a.count==b.count && true)))=decide (a=b):=by
 rw[yTs,decide_eq_true_iff]
 obtain⟨p,q,c⟩:=a
 obtain⟨p2,q2,c2⟩:=b
 simp
theorem yMq (i:yAt) (h:eqLvC.cnd i):yEa i:=by
 obtain⟨hx,hy⟩:i.x.length≤1099511627776∧i.y.length≤1099511627776:=h
 have hmx:(i.x.map lvE).length=i.x.length:=yOs _
 have hmy:(i.y.map lvE).length=i.y.length:=yOs _
 unfold yEa qL kM dI
 rw[hmx,hmy]
 refine Cv.cnd.mk (fun c=>⟨(),yPm (fun e=>by rw[e]at c;simp at c),trivial⟩) (fun c=> ?_)
 have hxy:i.x.length=i.y.length:=by have:(i.x.length:Int)=i.y.length:=(by simpa using c);omega
 refine⟨0,rfl,fun k=>k≤i.x.length∧i.x.take k=i.y.take k,fun k=>i.x.length-k,⟨yQn _,rfl⟩,fun k hk=>zI (fun e=> ?_) (fun e=> ?_)⟩
 ·obtain⟨hk1,hk2⟩:=hk
  obtain⟨a,ha⟩:=z8 (l:=i.x) (i:=k) (by omega)
  obtain⟨b,hb⟩:=z8 (l:=i.y) (i:=k) (by omega)
  refine⟨false,fun t=>t= !decide (a=b),⟨⟨by omega,by omega⟩,a.price,a.qty,a.count,elA ha (by simp[lvE]) rfl,⟨by omega,by omega⟩,b.price,b.qty,b.count,elA hb (by simp[lvE]) rfl,_,rfl,?_,trivial⟩,?_⟩
  ·rw[zSn a b]
  ·rintro _ rfl
   refine Cv.cnd.mk (fun c=>⟨(),yPm (fun e2=> ?_),trivial⟩) (fun c=>⟨k+1,by rw[w64 (by omega)];rfl,⟨by omega,zJn ha hb hk2 (by simpa using c)⟩,by dsimp only;omega,trivial⟩)
   have c:a≠b:=by simpa using c
   rw[e2]at ha
   rw[ha]at hb
   exact c (Option.some.inj hb)
 ·obtain⟨hk1,hk2⟩:=hk
  rw[yPf (by omega),yPf (by omega)]at hk2
  exact⟨(),yPn hk2,trivial⟩
theorem yCh:eqLvC.ok Tryz.prog 125:=okw mixed gok0 0 (fun _=>yKj) (fun _=>yJv) [] Tryz.func125 yMq
theorem yNt (i:z7g) (h:fsdC.cnd i):yMn i:=by
 obtain⟨⟨al,ai,ah⟩,⟨bl,bi,bh⟩⟩:=i
 obtain⟨ha,hb⟩:al.length≤1099511627776∧bl.length≤1099511627776:=h
 unfold yMn
 refine⟨⟨al,bl⟩,rfl,rfl,⟨ha,hb⟩,fun _ _=>zI (fun e=> ?_) (fun e=>⟨(),yPm (fun x=>e (congrArg Sd.levels x)),trivial⟩)⟩
 dsimp only
 rw[zSn]
 refine zI (fun e2=>⟨(),?_,trivial⟩) (fun e2=>⟨(),yPm (fun x=>e2 (congrArg Sd.imp x)),trivial⟩)
 have e:al=bl:=e
 have e2:ai=bi:=e2
 subst e e2
 show decide ((⟨al,ai,ah⟩:Sd)=⟨al,ai,bh⟩)=(ah==bh)
 rw[yTs,decide_eq_true_iff,beq_iff_eq]
 exact⟨fun x=>congrArg Sd.has x,fun x=>by have x:ah=bh:=x;rw[x]⟩
theorem yGf:fsdC.ok Tryz.prog 77:=okw mixed (gokc yCh gok0) 0 (fun _=>[]) (fun _=>[]) [] Tryz.func77 yNt
theorem z0b {v:Vw} {k:Nat} {b:Sd×Sd} (h:v[k]? =some b):zF (v.map yN) k 0 10=some [D.ro 3 (b.1.levels.map lvE),.v (.int .i64 b.1.imp.price),.v (.int .i64 b.1.imp.qty),.v (.int .i64 b.1.imp.count),.v (.bool b.1.has),.ro 3 (b.2.levels.map lvE),.v (.int .i64 b.2.imp.price),.v (.int .i64 b.2.imp.qty),.v (.int .i64 b.2.imp.count),.v (.bool b.2.has)]∧
 zF (v.map yN) k 0 5=some [D.ro 3 (b.1.levels.map lvE),.v (.int .i64 b.1.imp.price),.v (.int .i64 b.1.imp.qty),.v (.int .i64 b.1.imp.count),.v (.bool b.1.has)]∧
 zF (v.map yN) k 5 5=some [D.ro 3 (b.2.levels.map lvE),.v (.int .i64 b.2.imp.price),.v (.int .i64 b.2.imp.qty),.v (.int .i64 b.2.imp.count),.v (.bool b.2.has)]:=
 ⟨elA h (by simp[yN]) rfl,elA h (by simp[yN]) rfl,elA h (by simp[yN]) rfl⟩
theorem yNj (i:zNi) (h:eqFC.cnd i):yMc i:=by
 obtain⟨⟨hv,hvs⟩,⟨hw,hws⟩⟩:fD i.v∧fD i.w:=h
 have hmx:(i.v.map yN).length=i.v.length:=yOs _
 have hmy:(i.w.map yN).length=i.w.length:=yOs _
 unfold yMc qL kM zOh dI
 rw[hmx,hmy]
 refine Cv.cnd.mk (fun c=>⟨(),yPm (fun e=>by rw[e]at c;simp at c),trivial⟩) (fun c=> ?_)
 have hxy:i.v.length=i.w.length:=by have:(i.v.length:Int)=i.w.length:=(by simpa using c);omega
 refine⟨0,rfl,fun k=>k≤i.v.length∧i.v.take k=i.w.take k,fun k=>i.v.length-k,⟨yQn _,rfl⟩,fun k hk=>zI (fun e=> ?_) (fun e=> ?_)⟩
 ·obtain⟨hk1,hk2⟩:=hk
  obtain⟨a,ha⟩:=z8 (l:=i.v) (i:=k) (by omega)
  obtain⟨b,hb⟩:=z8 (l:=i.w) (i:=k) (by omega)
  have sa:=hvs a (yPe ha)
  have sb:=hws b (yPe hb)
  refine⟨⟨by omega,by omega⟩,_,_,_,_,_,_,_,_,_,_,(z0b ha).1,⟨by omega,by omega⟩,_,_,_,_,_,_,_,_,_,_,(z0b hb).1,false,fun t=>t= !decide (a=b),⟨⟨a.1,b.1⟩,rfl,rfl,rfl,rfl,rfl,rfl,rfl,rfl,rfl,rfl,⟨sa.1,sb.1⟩,fun _ _=>zI (fun e1=>⟨⟨a.2,b.2⟩,rfl,rfl,rfl,rfl,rfl,rfl,rfl,rfl,rfl,rfl,⟨sa.2,sb.2⟩,fun _ _=>⟨_,rfl,?_,by(repeat'(first|exact trivial|exact rfl|apply And.intro))⟩⟩) (fun e1=>⟨_,rfl,?_,by(repeat'(first|exact trivial|exact rfl|apply And.intro))⟩)⟩,?_⟩
  ·show(!decide (a.2=b.2))= !decide (a=b)
   rw[yTs,yTc,yTc,decide_eq_false_iff_not,decide_eq_false_iff_not]
   exact⟨fun x y=>x (by rw[y]),fun x y=>x (Prod.ext e1 y)⟩
  ·have e1:¬a.1=b.1:=e1
   rw[yPm fun x=>e1 (congrArg Prod.fst x)]
  ·rintro _ rfl
   refine Cv.cnd.mk (fun c=>⟨(),yPm (fun e2=> ?_),trivial⟩) (fun c=>⟨k+1,by rw[w64 (by omega)];rfl,⟨by omega,zJn ha hb hk2 (by simpa using c)⟩,by dsimp only;omega,trivial⟩)
   have c:a≠b:=by simpa using c
   rw[e2]at ha
   rw[ha]at hb
   exact c (Option.some.inj hb)
 ·obtain⟨hk1,hk2⟩:=hk
  rw[yPf (by omega),yPf (by omega)]at hk2
  exact⟨(),yPn hk2,trivial⟩
theorem yHu:eqFC.ok Tryz.prog 75:=okw mixed (gokc yGf gok0) 1 (fun _=>yMz) (fun _=>yOb) [] Tryz.func75 yNj
theorem yFa (i:zNi) (h:fsameC.cnd i):z2r i:=by
 unfold z2r mF
 exact⟨i,rfl,rfl,h,fun _ _=>⟨(),rfl,trivial⟩⟩
theorem z5t:fsameC.ok Tryz.prog 32:=okw mixed (gokc yHu gok0) 0 (fun _=>[]) (fun _=>[]) [] Tryz.func32 yFa
theorem zFr (q:Int):∀(A B:List VM),vG q (A++B)=vG q A++vG (q+A.length) B
 |[],B=>by simp[vG]
 |a::A,B=>by
  rw[yQe,vG,vG,zFr,yOy,yQe]
  congr 3
  omega
theorem zEa (d:Dfr) (A B:List VM):(d.add A).add B=d.add (A++B):=by
 rw[Dfr.add,Dfr.add,Dfr.add,zFr,yOw,yPb]
 congr 1
 dsimp only
 omega
theorem yJk (i:DtI) (h:dtellC.cnd i):z7y i:=by
 obtain⟨h1,h2,h3⟩:i.d.ok 1:=h
 unfold z7y dI
 have e:IntKind.i64.wrap (i.d.seq+1)=i.d.seq+1:=w64 (by omega)
 rw[e]
 exact⟨trivial,by rw[yOs];omega,(),rfl,by rw[yPc];rfl,trivial⟩
theorem z7n:dtellC.ok Tryz.prog 124:=okw mixed gok0 0 (fun _=>[]) (fun _=>[]) [] Tryz.func124 yJk
theorem cQ {s:Int}:∀(k:Nat) (X Y:List Lv),(jS s k X Y).length≤k
 |0,X,Y=>by rw[jS];exact yPy 0
 |k+1,[],[]=>by rw[jS];exact yQn _
 |k+1,x::X,[]=>by rw[jS,yOy];have:=cQ (s:=s) k X [];omega
 |k+1,[],y::Y=>by rw[jS,yOy];have:=cQ (s:=s) k [] Y;omega
 |k+1,x::X,y::Y=>by
  have h1:=cQ (s:=s) k X (y::Y)
  have h2:=cQ (s:=s) k (x::X) Y
  have h3:=cQ (s:=s) k X Y
  rw[jS]
  split
  ·rw[yOy];omega
  split
  ·rw[yOy];omega
  rw[yOw]
  split
  ·simp only[yRi];omega
  ·simp only[yQz];omega
theorem zUy (n:Nat) (s:Int) (a b:Sd):(kF n s a b).length≤a.levels.length+b.levels.length+1:=by
 have:=cQ (s:=s) (a.levels.length+b.levels.length) a.levels b.levels
 rw[kF,yOw,yOs]
 split
 ·rw[yQz];omega
 ·simp only[yRi];omega
theorem zMx:∀(n j:Nat) {v w:Vw} {a b:Sd×Sd},v[j]? =some a→w[j]? =some b→kI n (v.take (j+1)) (w.take (j+1))=kI n (v.take j) (w.take j)++(kF (n+j) 1 a.1 b.1++kF (n+j) 2 a.2 b.2)
 |n,0,x::v,y::w,a,b,h1,h2=>by
  obtain rfl:x=a:=by simpa using h1
  obtain rfl:y=b:=by simpa using h2
  simp[kI]
 |n,j+1,x::v,y::w,a,b,h1,h2=>by
  have:=zMx (n+1) j (v:=v) (w:=w) (a:=a) (b:=b) (by simpa using h1) (by simpa using h2)
  rw[yQa,yQa,yQa,yQa,kI,kI,this,yPb,yPb,yPb,ySg n 1 j,yTn 1 j]
 |_,0,[],_,_,_,h1,_=>by simp at h1
 |_,j+1,[],_,_,_,h1,_=>by simp at h1
 |_,0,_::_,[],_,_,_,h2=>by simp at h2
 |_,j+1,_::_,[],_,_,_,h2=>by simp at h2
theorem p8 {v:Vw} {j:Nat} {a:Sd×Sd} (h:v[j]? =some a):Vw.levs (v.take (j+1))=Vw.levs (v.take j)+(a.1.levels.length+a.2.levels.length):=by
 rw[Vw.levs,Vw.levs,yQb,h,yRy,yPc,yUm]
 simp
theorem zXx (v:Vw) (j:Nat):Vw.levs (v.take j)≤Vw.levs v:=by
 conv=>rhs;rw[← yQu j v]
 rw[Vw.levs,Vw.levs,yPc,yUm]
 omega
theorem yDp (v w:Vw):∀j,j≤v.length→j≤w.length→(kI 0 (v.take j) (w.take j)).length≤Vw.levs (v.take j)+Vw.levs (w.take j)+2*j
 |0,_,_=>by rw[ySv,kI];exact yQn _;simp
 |j+1,h1,h2=>by
  obtain⟨a,ha⟩:=z8 (l:=v) (i:=j) (by omega)
  obtain⟨b,hb⟩:=z8 (l:=w) (i:=j) (by omega)
  have:=yDp v w j (by omega) (by omega)
  have s1:=zUy (0+j) 1 a.1 b.1
  have s2:=zUy (0+j) 2 a.2 b.2
  rw[zMx 0 j ha hb,p8 ha,p8 hb,yOw,yOw]
  omega
open Go Cv Go.Proofs
theorem lW (q:Int):∀M:List VM,(vG q M).length=M.length
 |[]=>rfl
 |m::M=>by rw[vG,yOy,lW,yOy]
theorem tl1 (q:Int) (M:List VM) (m:VM):q+((M++[m]).length:Nat)=q+(M.length:Nat)+((1:Nat):Int):=by
 rw[yOw,yQz];omega
theorem tl2 (o:List MsgM) (q:Int) (M:List VM) (m:VM):(o++vG q (M++[m])).map msgE=((o++vG q M)++vG (q+(M.length:Nat)) [m]).map msgE:=by rw[zFr,yPb]
theorem lvx (x:Lv) (X:List Lv):zF ((x::X).map lvE) 0 0 1=some [D.v (.int .i64 x.price)]∧zF ((x::X).map lvE) 0 0 3=some [D.v (.int .i64 x.price),.v (.int .i64 x.qty),.v (.int .i64 x.count)]:=⟨rfl,rfl⟩
theorem z5s (s:Int) (k:Nat):jS s k [] []=[]:=by cases k<;>rw[jS]
theorem yEy (i:DsI) (h:dsideC.cnd i):z3r i:=by
 obtain⟨d,n,s,⟨al,ai,ah⟩,⟨bl,bi,bh⟩⟩:=i
 obtain⟨h1,h2,h3⟩:Dfr.ok d (al.length+bl.length+1):=h
 unfold z3r zCf zAf zBd hJ zBq pF u6 dR vN uS uZ zAv bS zCh cO x9 f7 dI
 refine⟨⟨al,bl,[]⟩,rfl,rfl,by simp,by simp[vG],fun j=>∃k,j.x.length+j.y.length≤k∧(jS s (al.length+bl.length) al bl).map (fun l=>(⟨n,s,l,false⟩:VM))=j.M++(jS s k j.x j.y).map (fun l=>(⟨n,s,l,false⟩:VM))∧k+j.M.length≤al.length+bl.length,fun j=>j.x.length+j.y.length,⟨al.length+bl.length,yPy _,rfl,yPy _⟩,?_⟩
 rintro⟨x,y,M⟩ ⟨k,hk,hM,hl⟩
 dsimp only at hk hM hl ⊢
 have hx:(x.map lvE).length=x.length:=yOs _
 have hy:(y.map lvE).length=y.length:=yOs _
 have ok1:Dfr.ok ⟨d.seq+(M.length:Nat),d.out++vG d.seq M⟩ 1:=⟨by dsimp only;omega,by dsimp only;omega,by dsimp only;rw[yOw,lW];omega⟩
 rw[hx,hy,w64 (by omega)]
 refine zI (fun c=> ?_) (fun c=> ?_)
 ·obtain⟨k',rfl⟩:∃k',k=k'+1:=⟨k-1,by omega⟩
  rcases x with _|⟨a,X⟩
  ·rcases y with _|⟨b,Y⟩
   ·exact absurd c (by simp)
   refine⟨false,fun t=>t=false,Cv.cnd.mk (fun e=> ?_) (fun _=>Cv.cnd.mk (fun e=>absurd e (by simp)) (fun _=>⟨false,rfl,rfl,by(repeat'(first|exact trivial|exact rfl|apply And.intro))⟩)),?_⟩
   ·exfalso;simp at e;omega
   rintro _ rfl
   refine Cv.cnd.mk (fun c=>absurd c (by decide)) (fun _=>⟨false,fun t=>t=true,Cv.cnd.mk (fun _=>⟨true,rfl,rfl,by(repeat'(first|exact trivial|exact rfl|apply And.intro))⟩) (fun e=>absurd e (by simp)),?_⟩)
   rintro _ rfl
   refine Cv.cnd.mk (fun _=> ?_) (fun c=>absurd c (by decide))
   rw[yOy]at hk
   refine⟨⟨by decide,by rw[yOy];omega⟩,b.price,b.qty,b.count,(lvx b Y).2,⟨_,⟨n,s,b,false⟩⟩,rfl,rfl,rfl,rfl,rfl,rfl,rfl,rfl,ok1,fun _ _=>⟨⟨by decide,by rw[yOy];omega⟩,⟨[],Y,M++[⟨n,s,b,false⟩]⟩,rfl,rfl,tl1 _ _ _,tl2 _ _ _ _,⟨k',by dsimp only;omega,?_,by dsimp only;rw[yOw,yQz];omega⟩,by dsimp only;rw[yOy];omega,by(repeat'(first|exact trivial|exact rfl|apply And.intro))⟩⟩
   rw[hM,jS,yPd,yPb];rfl
  rcases y with _|⟨b,Y⟩
  ·refine⟨false,fun t=>t=true,Cv.cnd.mk (fun _=>⟨true,rfl,rfl,by(repeat'(first|exact trivial|exact rfl|apply And.intro))⟩) (fun e=>absurd e (by simp)),?_⟩
   rintro _ rfl
   refine Cv.cnd.mk (fun _=> ?_) (fun c=>absurd c (by decide))
   rw[yOy]at hk
   refine⟨⟨by decide,by rw[yOy];omega⟩,a.price,(lvx a X).1,⟨_,⟨n,s,⟨a.price,0,0⟩,false⟩⟩,rfl,rfl,rfl,rfl,rfl,rfl,rfl,rfl,ok1,fun _ _=>⟨⟨by decide,by rw[yOy];omega⟩,⟨X,[],M++[⟨n,s,⟨a.price,0,0⟩,false⟩]⟩,rfl,rfl,tl1 _ _ _,tl2 _ _ _ _,⟨k',by dsimp only;simp only[yRi]at hk ⊢;omega,?_,by dsimp only;rw[yOw,yQz];omega⟩,by dsimp only;rw[yOy];omega,by(repeat'(first|exact trivial|exact rfl|apply And.intro))⟩⟩
   rw[hM,jS,yPd,yPb];rfl
  rw[yOy,yOy]at hk
  have la:(0:Int)≤0∧(0:Int)<((a::X).length:Nat):=⟨by decide,by rw[yOy];omega⟩
  have lb:(0:Int)≤0∧(0:Int)<((b::Y).length:Nat):=⟨by decide,by rw[yOy];omega⟩
  have la1:(0:Int)≤1∧(1:Int)≤((a::X).length:Nat):=⟨by decide,by rw[yOy];omega⟩
  have lb1:(0:Int)≤1∧(1:Int)≤((b::Y).length:Nat):=⟨by decide,by rw[yOy];omega⟩
  refine⟨false,fun t=>t=btr s a.price b.price,Cv.cnd.mk (fun e=> ?_) (fun _=>Cv.cnd.mk (fun _=>⟨la,a.price,(lvx a X).1,lb,b.price,(lvx b Y).1,⟨s,a.price,b.price⟩,rfl,rfl,rfl,trivial,fun _ _=>⟨_,rfl,rfl,by(repeat'(first|exact trivial|exact rfl|apply And.intro))⟩⟩) (fun e=> ?_)),?_⟩
  ·exfalso;simp at e;omega
  ·exfalso;simp at e
  rintro _ rfl
  refine Cv.cnd.mk (fun c1=> ?_) (fun c1=> ?_)
  ·refine⟨la,a.price,(lvx a X).1,⟨_,⟨n,s,⟨a.price,0,0⟩,false⟩⟩,rfl,rfl,rfl,rfl,rfl,rfl,rfl,rfl,ok1,fun _ _=>⟨la1,⟨X,b::Y,M++[⟨n,s,⟨a.price,0,0⟩,false⟩]⟩,rfl,rfl,tl1 _ _ _,tl2 _ _ _ _,⟨k',by dsimp only;rw[yOy];omega,?_,by dsimp only;rw[yOw,yQz];omega⟩,by dsimp only;rw[yOy,yOy];omega,by(repeat'(first|exact trivial|exact rfl|apply And.intro))⟩⟩
   rw[hM,jS,yOu c1,yPd,yPb];rfl
  have c1:¬btr s a.price b.price=true:=by simp[c1]
  refine⟨false,fun t=>t=btr s b.price a.price,Cv.cnd.mk (fun e=> ?_) (fun _=>⟨lb,b.price,(lvx b Y).1,la,a.price,(lvx a X).1,⟨s,b.price,a.price⟩,rfl,rfl,rfl,trivial,fun _ _=>⟨_,rfl,rfl,by(repeat'(first|exact trivial|exact rfl|apply And.intro))⟩⟩),?_⟩
  ·exfalso;simp at e;omega
  rintro _ rfl
  refine Cv.cnd.mk (fun c2=> ?_) (fun c2=> ?_)
  ·refine⟨lb,b.price,b.qty,b.count,(lvx b Y).2,⟨_,⟨n,s,b,false⟩⟩,rfl,rfl,rfl,rfl,rfl,rfl,rfl,rfl,ok1,fun _ _=>⟨lb1,⟨a::X,Y,M++[⟨n,s,b,false⟩]⟩,rfl,rfl,tl1 _ _ _,tl2 _ _ _ _,⟨k',by dsimp only;rw[yOy];omega,?_,by dsimp only;rw[yOw,yQz];omega⟩,by dsimp only;rw[yOy,yOy];omega,by(repeat'(first|exact trivial|exact rfl|apply And.intro))⟩⟩
   rw[hM,jS,yOr c1,yOu c2,yPd,yPb];rfl
  have c2:¬btr s b.price a.price=true:=by simp[c2]
  by_cases hab:a=b
  ·refine⟨⟨_,_⟩,rfl,rfl,fun D=>D=⟨d.seq+(M.length:Nat),d.out++vG d.seq M⟩,⟨false,fun t=>t=false,⟨la,a.price,a.qty,a.count,(lvx a X).2,lb,b.price,b.qty,b.count,(lvx b Y).2,_,rfl,by rw[zSn,yPn hab];rfl,by(repeat'(first|exact trivial|exact rfl|apply And.intro))⟩,?_⟩,?_⟩
   ·rintro _ rfl
    exact Cv.cnd.mk (fun c=>absurd c (by decide)) (fun _=>⟨_,rfl,rfl,rfl,by(repeat'(first|exact trivial|exact rfl|apply And.intro))⟩)
   rintro _ rfl
   refine⟨la1,lb1,⟨X,Y,M⟩,rfl,rfl,rfl,rfl,⟨k',by dsimp only;omega,?_,by dsimp only;omega⟩,by dsimp only;rw[yOy,yOy];omega,by(repeat'(first|exact trivial|exact rfl|apply And.intro))⟩
   rw[hM,jS,yOr c1,yOr c2,yOu hab];rfl
  ·refine⟨⟨_,_⟩,rfl,rfl,fun D=>D=Dfr.add ⟨d.seq+(M.length:Nat),d.out++vG d.seq M⟩ [⟨n,s,b,false⟩],⟨false,fun t=>t=true,⟨la,a.price,a.qty,a.count,(lvx a X).2,lb,b.price,b.qty,b.count,(lvx b Y).2,_,rfl,by rw[zSn,yPm hab];rfl,by(repeat'(first|exact trivial|exact rfl|apply And.intro))⟩,?_⟩,?_⟩
   ·rintro _ rfl
    exact Cv.cnd.mk (fun _=>⟨lb,b.price,b.qty,b.count,(lvx b Y).2,⟨_,⟨n,s,b,false⟩⟩,rfl,rfl,rfl,rfl,rfl,rfl,rfl,rfl,ok1,fun _ _=>⟨_,rfl,rfl,rfl,by(repeat'(first|exact trivial|exact rfl|apply And.intro))⟩⟩) (fun c=>absurd c (by decide))
   rintro _ rfl
   refine⟨la1,lb1,⟨X,Y,M++[⟨n,s,b,false⟩]⟩,rfl,rfl,tl1 _ _ _,tl2 _ _ _ _,⟨k',by dsimp only;omega,?_,by dsimp only;rw[yOw,yQz];omega⟩,by dsimp only;rw[yOy,yOy];omega,by(repeat'(first|exact trivial|exact rfl|apply And.intro))⟩
   rw[hM,jS,yOr c1,yOr c2,yOr hab,yPc,yPb];rfl
 obtain rfl:x=[]:=yPo (by omega)
 obtain rfl:y=[]:=yPo (by omega)
 rw[z5s,ySc,yPp]at hM
 rw[zSn]
 refine⟨false,fun t=>t=z4s ⟨al,ai,ah⟩ ⟨bl,bi,bh⟩,Cv.cnd.mk (fun e=>⟨true,rfl,?_,by(repeat'(first|exact trivial|exact rfl|apply And.intro))⟩) (fun e=>⟨_,rfl,?_,by(repeat'(first|exact trivial|exact rfl|apply And.intro))⟩),?_⟩
 ·have e:ai≠bi:=by simpa using e
  rw[z4s];simp[e]
 ·have e:ai=bi:=by simpa using e
  rw[z4s,e];cases ah<;>cases bh<;>simp
 rintro _ rfl
 refine Cv.cnd.mk (fun e=>⟨bi,rfl,rfl,rfl,fun l=>l=zZf ⟨bl,bi,bh⟩,Cv.cnd.mk (fun e2=>⟨lv0,rfl,rfl,rfl,?_,by(repeat'(first|exact trivial|exact rfl|apply And.intro))⟩) (fun e2=>⟨bi,rfl,rfl,rfl,?_,by(repeat'(first|exact trivial|exact rfl|apply And.intro))⟩),?_⟩) (fun e=> ?_)
 ·rw[zZf,yOr (by simpa using e2)]
 ·rw[zZf,yOu (by simpa using e2)]
 ·rintro _ rfl
  have hsd:kF n s ⟨al,ai,ah⟩ ⟨bl,bi,bh⟩=M++[⟨n,s,zZf ⟨bl,bi,bh⟩,true⟩]:=by rw[kF,yOu e,hM]
  rw[hsd]
  exact⟨⟨_,⟨n,s,zZf ⟨bl,bi,bh⟩,true⟩⟩,rfl,rfl,rfl,rfl,rfl,rfl,rfl,rfl,ok1,fun _ _=>⟨(),tl1 _ _ _,tl2 _ _ _ _,trivial⟩⟩
 ·have hsd:kF n s ⟨al,ai,ah⟩ ⟨bl,bi,bh⟩=M:=by rw[kF,yOr (by simp[e]),hM,yPp]
  rw[hsd]
  exact⟨(),rfl,rfl,trivial⟩
theorem z2i:dsideC.ok Tryz.prog 74:=okw mixed (gokc z7n (gokc zZg gok0)) 0 (fun _=>yHc) (fun i=>yFw i) [] Tryz.func74 yEy
theorem yMm (i:DvI) (h:diffC.cnd i):yDe i:=by
 obtain⟨hvw,⟨s1,s2⟩,l1,l2,hn⟩:i.v.length=i.w.length∧(-4000000000000000000≤i.seq∧i.seq≤4000000000000000000)∧Vw.levs i.v≤100000000∧Vw.levs i.w≤100000000∧i.v.length≤1000000:=h
 have hmx:(i.v.map yN).length=i.v.length:=yOs _
 have hmy:(i.w.map yN).length=i.w.length:=yOs _
 unfold yDe vV hJ u6 bM rC cU zCc dI
 rw[hmx,hmy]
 refine Cv.cnd.mk (fun c=> ?_) (fun _=> ?_)
 ·have c:(i.v.length:Int)≠i.w.length:=by simpa using c
  omega
 refine⟨0,rfl,by simp[kI],by simp[kI,vG],fun j=>j≤i.v.length,fun j=>i.v.length-j,yQn _,fun j hj=>zI (fun e=> ?_) (fun e=> ?_)⟩
 ·have hj:j≤i.v.length:=hj
  obtain⟨a,ha⟩:=z8 (l:=i.v) (i:=j) (by omega)
  obtain⟨b,hb⟩:=z8 (l:=i.w) (i:=j) (by omega)
  have hd:=yDp i.v i.w j hj (by omega)
  have t1:=p8 ha
  have t2:=p8 hb
  have u1:=zXx i.v (j+1)
  have u2:=zXx i.w (j+1)
  have q1:=zUy j 1 a.1 b.1
  have hvt:=zMx 0 j ha hb
  rw[yPr]at hvt
  have bdv:(0:Int)≤j∧(j:Int)<(i.v.length:Nat):=⟨by omega,e⟩
  have bdw:(0:Int)≤j∧(j:Int)<(i.w.length:Nat):=⟨by omega,by omega⟩
  obtain⟨D,hD⟩:∃D:Dfr,D=Dfr.add ⟨i.seq,[]⟩ (kI 0 (i.v.take j) (i.w.take j)):=⟨_,rfl⟩
  have hDs:D.seq=i.seq+((kI 0 (i.v.take j) (i.w.take j)).length:Nat):=by rw[hD];rfl
  have hDo:D.out=[]++vG i.seq (kI 0 (i.v.take j) (i.w.take j)):=by rw[hD];rfl
  have hDl:D.out.length=(kI 0 (i.v.take j) (i.w.take j)).length:=by rw[hDo,yRc,lW]
  refine⟨⟨by decide,by decide⟩,1,rfl,bdv,_,_,_,_,_,(z0b ha).2.1,bdw,_,_,_,_,_,(z0b hb).2.1,⟨D,j,1,a.1,b.1⟩,rfl,rfl,rfl,rfl,rfl,rfl,rfl,rfl,rfl,rfl,rfl,rfl,hDs,by rw[hDo],⟨by dsimp only;omega,by dsimp only;omega,by dsimp only;omega⟩,fun _ _=>⟨⟨by decide,by decide⟩,2,rfl,bdv,_,_,_,_,_,(z0b ha).2.2,bdw,_,_,_,_,_,(z0b hb).2.2,⟨D.add (kF j 1 a.1 b.1),j,2,a.2,b.2⟩,rfl,rfl,rfl,rfl,rfl,rfl,rfl,rfl,rfl,rfl,rfl,rfl,rfl,rfl,⟨by simp only[Dfr.add];omega,by simp only[Dfr.add];omega,by simp only[Dfr.add];rw[yOw,lW];omega⟩,fun _ _=>⟨j+1,wjn (by omega),?_,?_,by dsimp only;omega,by dsimp only;omega,by(repeat'(first|exact trivial|exact rfl|apply And.intro))⟩⟩⟩
  ·show(Dfr.add ⟨i.seq,[]⟩ (kI 0 (i.v.take (j+1)) (i.w.take (j+1)))).seq=((D.add (kF j 1 a.1 b.1)).add (kF j 2 a.2 b.2)).seq
   rw[hvt,hD,zEa,zEa]
  ·show(Dfr.add ⟨i.seq,[]⟩ (kI 0 (i.v.take (j+1)) (i.w.take (j+1)))).out.map msgE=((D.add (kF j 1 a.1 b.1)).add (kF j 2 a.2 b.2)).out.map msgE
   rw[hvt,hD,zEa,zEa]
 ·have hj:j≤i.v.length:=hj
  rw[yPf (by omega),yPf (by omega)]
  exact⟨(),rfl,trivial⟩
theorem z8a:diffC.ok Tryz.prog 31:=okw mixed (gokc z2i gok0) 1 (fun _=>[]) (fun i=>yMo i) [] Tryz.func31 yMm
open Go Cv Go.Proofs
theorem yKv (m:MsgM) (h:mencC.cnd m):yDy m:=by
 unfold yDy zGf zIi rL zBr dI
 refine⟨false,fun b=>b=decide (m.inst<0∨255<m.inst∨(m.side≠1∧m.side≠2)),zI (fun e=>⟨true,rfl,(yPn (.inl e)).symm,by(repeat'(first|exact trivial|exact rfl|apply And.intro))⟩) (fun e=>zI (fun e2=>⟨true,rfl,(yPn (.inr (.inl e2))).symm,by(repeat'(first|exact trivial|exact rfl|apply And.intro))⟩) (fun e2=>Cv.cnd.mk (fun e3=>⟨_,rfl,?_,by(repeat'(first|exact trivial|exact rfl|apply And.intro))⟩) (fun e3=>⟨_,rfl,?_,by(repeat'(first|exact trivial|exact rfl|apply And.intro))⟩))),?_⟩
 ·have e3:m.side≠1:=by simpa using e3
  show(m.side !=2)=decide _
  rw[yTs,decide_eq_true_iff,bne_iff_ne]
  exact⟨fun x=> .inr (.inr ⟨e3,x⟩),fun x=>((x.resolve_left e).resolve_left e2).2⟩
 ·have e3:m.side=1:=by simpa using e3
  exact(yPm fun x=>((x.resolve_left e).resolve_left e2).1 e3).symm
 rintro _ rfl
 refine zI (fun e=> ?_) (fun e=> ?_)
 ·have hf:m.form=12:=by rw[MsgM.form,yOu e]
  exact⟨(),by rw[MsgM.enc,yOu (by rw[hf];decide)];rfl,hf,trivial⟩
 have hf:m.form=0:=by rw[MsgM.form,yOr e]
 have he:m.enc=m.body:=by rw[MsgM.enc,yOr (by simp[hf])]
 refine⟨(),trivial,fun _ _=>⟨⟨[],m.seq⟩,rfl,rfl,by simp[WN.ok],fun _ _=>⟨⟨_,m.inst⟩,rfl,rfl,by simp[WN.ok,cK],fun _ _=>⟨⟨_,m.side⟩,rfl,rfl,by simp[WN.ok,cK],fun _ _=>⟨⟨_,m.price⟩,rfl,rfl,by simp[WN.ok,cK],fun _ _=>⟨⟨_,m.qty⟩,rfl,rfl,by simp[WN.ok,cK],fun _ _=>⟨⟨_,m.count⟩,rfl,rfl,by simp[WN.ok,cK],fun _ _=>⟨0,fun x=>x=if m.implied=true then 1 else 0,Cv.cnd.mk (fun e=>⟨1,rfl,by rw[yOu e],by(repeat'(first|exact trivial|exact rfl|apply And.intro))⟩) (fun e=>⟨0,rfl,by rw[yOr (by simp[e])],by(repeat'(first|exact trivial|exact rfl|apply And.intro))⟩),?_⟩⟩⟩⟩⟩⟩⟩⟩
 rintro _ rfl
 refine⟨⟨_,if m.implied=true then 1 else 0⟩,rfl,rfl,by simp[WN.ok,cK],fun _ _=>⟨_,rfl,by simp[cK],fun _ _=>⟨(),?_,hf,trivial⟩⟩⟩
 rw[he,MsgM.body]
 simp
theorem menc_ok:mencC.ok Tryz.prog 33:=okw mixed (gokc z9l (gokc yBi (gokc yBk (gokc yBg gok0)))) 0 (fun _=>yLb) (fun _=>[]) [] Tryz.func33 yKv
open Go Cv Go.Proofs
@[reducible] def big (l:List UInt8):Prop:=l.length≤140737488355328
def cloneBR2:Con:=con1 (List (List D)) (fun l=>[roV 1 l]) (fun _=>[]) (fun l=>l.length≤140737488355328) (fun l=>roV 1 l) (fun _=>[])
def newRC2:Con:=con1 (List UInt8) (fun l=>[roV 1 (bE l)]) (fun _=>[]) (fun l=>big l) (fun _=> .nm 0 0) (fun l=>[Rd l false])
def takeC2:Con:=con1 RN (fun i=>[.nm 0 0,zA i.n]) (fun i=>[Rd i.l i.b]) (fun i=>i.n≤255∧big i.l) (fun i=>roV 1 (bE i.got)) (fun i=>[Rd i.left i.bad])
def getC2:Con:=con1 RN (fun i=>[.nm 0 0,zA i.n]) (fun i=>[Rd i.l i.b]) (fun i=>i.n≤8∧big i.l) (fun i=>n8 (xI i.got)) (fun i=>[Rd i.left i.bad])
def rbyteC2:Con:=con1 RB (fun i=>[.nm 0 0]) (fun i=>[Rd i.l i.b]) (fun i=>big i.l) (fun i=>zA (xI (i.n 1).got)) (fun i=>[Rd (i.n 1).left (i.n 1).bad])
def rlongC2:Con:=con1 RB (fun i=>[.nm 0 0]) (fun i=>[Rd i.l i.b]) (fun i=>big i.l) (fun i=>zA (IntKind.i64.wrap (xI (i.n 8).got))) (fun i=>[Rd (i.n 8).left (i.n 8).bad])
def rendC2:Con:=con1 RB (fun i=>[.nm 0 0]) (fun i=>[Rd i.l i.b]) (fun i=>big i.l) (fun i=>zA (if i.b then 10 else if 0<i.l.length then 15 else 0)) (fun i=>[Rd i.l i.b])
def mdecC2:Con:=con1 (List UInt8) (fun b=>[roV 1 (bE b)]) (fun _=>[]) (fun b=>big b) (fun b=> .tup [yAb (yZ b).1,zA (yZ b).2]) (fun _=>[])
def known19C:Con:=con1 Unit (fun _=>[]) (fun _=>[]) (fun _=>True) (fun _=>yB true) (fun _=>[])
structure FcI where
 a:MsgM
 b:MsgM
 x:List UInt8
@[reducible] def FcI.ok (i:FcI):Prop:=(i64r i.a.inst∧i64r i.a.side∧i.a.raw)∧(i64r i.b.inst∧i64r i.b.side∧i.b.raw)∧big i.x
def fcC:Con:=con1 FcI (fun i=>[yAb i.a,yAb i.b,roV 1 (bE i.x)]) (fun _=>[]) (fun i=>i.ok) (fun _=>yB true) (fun _=>[])
def fcJ:List (Nat×SAnn):=[(24,bj 71)]
end Sx
