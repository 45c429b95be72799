/- Texts of ours, one behind the other: a walk that the kernel reckons, and contracts of functions. No condition. -/
import Derived.Test.YthkofaanekmpmaaGreatZ10
namespace Sx
set_option linter.unusedVariables false
set_option linter.unusedSimpArgs false
set_option maxRecDepth 100000
open Go Cv Go.Proofs
open Go Cv Go.Proofs
open Go Cv Go.Proofs
open Go Cv Go.Proofs
open Go Cv Go.Proofs
def upd (f:Int→Int) (k v:Int):Int→Int:=fun x=>if x=k then v else f x
def one (r:Rep) (m:Int):Int:=if r.kind=3∧r.inst=m then(if r.side=1 then r.qty else-r.qty)else 0
def vq (p:Prd) (k s q m:Int):Int:=
 if(p.legs k).2.2=true then(if(p.legs k).1=m then(if s=1 then q else-q)else 0)-(if(p.legs k).2.1=m then(if s=1 then q else-q)else 0)
 else if k=m then(if s=1 then q else-q)else 0
open Go Cv Go.Proofs
theorem z2e {s:Int}:∀{F:List zJ},zWy s F→rA s (grp F)
 |[],_=>List.Pairwise.nil
 |o::F,h=>by
  rw[zWy,yYy]at h
  have ih:=z2e h.2
  rw[grp]
  cases hg:grp F with
  |nil=>exact List.pairwise_singleton _ _
  |cons v vs=>
   rw[hg]at ih
   dsimp only
   have hv:=ih
   rw[rA,yYy]at hv
   by_cases e:v.price=o.price
   ·rw[yWt e]
    exact yYy.2 ⟨fun w hw=>hv.1 w hw,hv.2⟩
   ·rw[yWs e]
    obtain⟨o',r,e2,e3⟩:=zMy hg
    have hb:btr s o.price v.price=true:=by
     rw[← e3]
     refine z5h (h.1 o' (by rw[e2];exact yWy)) (by rw[e3];exact e)
    refine yYy.2 ⟨fun w hw=> ?_,ih⟩
    rcases yXl.1 hw with rfl|hw
    ·exact hb
    ·exact zMo hb (hv.1 w hw)
theorem yJj {p:Prd} {B:List (List zJ)} (h:BWf p B) {k:Nat} {L:List zJ} (hL:B[k]? =some L) {s:Int} (hs:s=1∨s=2):rA s (uR L s)∧yRo (uR L s):=
 ⟨z2e (h.srt k L hL s hs),fun l hl=>(z5u (fun o ho=>(h.od k L hL).1 o (yYv.1 ho).1) hl).1⟩
open Go Cv Go.Proofs
open Classical
def fA (l:List Quote) (b:Quote):Int×Int:=l.foldl (fun a q=>if q.price=b.price then(if q.qty>a.1 then q.qty else a.1,a.2+1)else a) (b.qty,0)
def x5 (l:List Quote) (s:Int):Lv×Bool:=if(zU l s).2 then(⟨(zU l s).1.price,(fA l (zU l s).1).1,(fA l (zU l s).1).2⟩,true)else(⟨0,0,0⟩,false)
def showC:Con:=con1 BsI (fun i=>[roV 6 (i.l.map zL),zA i.s]) (fun _=>[]) (fun i=>(i.s=1∨i.s=2)∧i.l.length≤1000000) (fun i=> .tup [zA (x5 i.l i.s).1.price,zA (x5 i.l i.s).1.qty,zA (x5 i.l i.s).1.count,z7 (x5 i.l i.s).2]) (fun _=>[])
def yNu (i:BsI):List SAnn:=[{ι:=Nat,slots:=fun k=>[(8,.nm 0 0),(10,zA (fA (i.l.take k) (zU i.l i.s).1).1),(11,zA (fA (i.l.take k) (zU i.l i.s).1).2),(26,zA k)],rows:=fun _=>[.cells (zRw (zU i.l i.s).1).cl 259]}]
def zCr (p:Prd) (B:List (List zJ)) (n:Nat) (s:Int):Sd:=⟨uR (B.getD n []) s,(x5 (xO ⟨p,B.map qO,n⟩ s) s).1,(x5 (xO ⟨p,B.map qO,n⟩ s) s).2⟩
def qM (p:Prd) (B:List (List zJ)):Vw:=(List.range p.count).map fun n=>(zCr p B n 1,zCr p B n 2)
structure LkI where
 s:MSt
 p:Prd
 B:List (List zJ)
def lookC:Con:=con1 LkI (fun i=>[prdV i.p,.nm 0 0]) (fun i=>[zF i.s]) (fun i=>i.s.Rep i.p i.B∧BOk i.p i.B) (fun i=>vwV (qM i.p i.B)) (fun i=>[zF i.s])
def yTf (i:LkI):List SAnn:=[
 {ι:=Nat,slots:=fun j=>[(5,.nm 0 0),(6,.own 2),(27,zA j)],rows:=fun j=>[.cells [.own 1] 34,.own 44 10 (((qM i.p i.B).take j).map zC),.fro 6 ((i.B.map qO).map zZ)]},
 {ι:=Unit,slots:=fun _=>[],rows:=fun _=>[],un:=3}]
noncomputable def zBz (a b:List Lv):Bool:=decide (a=b)
noncomputable def z5y (a b:Sd):Bool:=decide (a=b)
noncomputable def zRg (a b:Vw):Bool:=decide (a=b)
structure zBq where
 x:List Lv
 y:List Lv
noncomputable def eqLvC:Con:=con1 zBq (fun i=>[roV 3 (i.x.map lvE),roV 3 (i.y.map lvE)]) (fun _=>[]) (fun i=>i.x.length≤1099511627776∧i.y.length≤1099511627776) (fun i=>z7 (zBz i.x i.y)) (fun _=>[])
def yTt:List SAnn:=[{ι:=Nat,slots:=fun k=>[(13,zA k)],rows:=fun _=>[]}]
def yRr:List (Nat×SAnn):=[(24,bj 24)]
structure yAf where
 a:Sd
 b:Sd
noncomputable def fsdC:Con:=con1 yAf (fun i=>[sdV i.a,sdV i.b]) (fun _=>[]) (fun i=>i.a.levels.length≤1099511627776∧i.b.levels.length≤1099511627776) (fun i=>z7 (z5y i.a i.b)) (fun _=>[])
structure zTx where
 v:Vw
 w:Vw
noncomputable def eqFC:Con:=con1 zTx (fun i=>[roV 10 (i.v.map zC),roV 10 (i.w.map zC),.fn 64 [] []]) (fun _=>[]) (fun i=>kE i.v∧kE i.w) (fun i=>z7 (zRg i.v i.w)) (fun _=>[])
def yVp:List SAnn:=[{ι:=Nat,slots:=fun k=>[(17,zA k)],rows:=fun _=>[]}]
def yVg:List (Nat×SAnn):=[(28,bj 30)]
noncomputable def fsameC:Con:=con1 zTx (fun i=>[vwV i.v,vwV i.w]) (fun _=>[]) (fun i=>kE i.v∧kE i.w) (fun i=>z7 (zRg i.v i.w)) (fun _=>[])
def msgE (m:MsgM):List D:=[.v (.int .i64 m.seq),.v (.int .i64 m.inst),.v (.int .i64 m.side),.v (.int .i64 m.price),.v (.int .i64 m.qty),.v (.int .i64 m.count),.v (.bool m.implied)]
def zZx (m:MsgM):V:= .agg [zA m.seq,zA m.inst,zA m.side,zA m.price,zA m.qty,zA m.count,z7 m.implied]
@[reducible] def z6u:Nat:=28
@[reducible] def yNz (l:List MsgM):AObj:= .own z6u 7 (l.map msgE)
def u6 (seq:Int):List VM→List MsgM
 |[]=>[]
 |m::M=>⟨seq+1,m.inst,m.side,m.l.price,m.l.qty,m.l.count,m.imp⟩::u6 (seq+1) M
structure Dfr where
 seq:Int
 out:List MsgM
@[reducible] def DfO (d:Dfr):List AObj:=[.cells [zA d.seq,.own 1] 120,yNz d.out]
@[reducible] def DfP (d:Dfr):List AObj:=[.cells [zA d.seq,.own 2] 120,.gone,yNz d.out]
def Dfr.add (d:Dfr) (M:List VM):Dfr:=⟨d.seq+M.length,d.out++u6 d.seq M⟩
@[reducible] def Dfr.ok (d:Dfr) (n:Nat):Prop:= -4611686018427387904≤d.seq∧d.seq+n≤4611686018427387904∧d.out.length+n≤1000000000
structure DtI where
 d:Dfr
 m:VM
def dtellC:Con:=con1 DtI (fun i=>[.nm 0 0,zA i.m.inst,zA i.m.side,lvV i.m.l,z7 i.m.imp]) (fun i=>DfO i.d) (fun i=>i.d.ok 1) (fun _=>zLc) (fun i=>DfP (i.d.add [i.m]))
structure DsI where
 d:Dfr
 n:Nat
 s:Int
 a:Sd
 b:Sd
def dsideC:Con:=con1 DsI (fun i=>[.nm 0 0,zA i.n,zA i.s,sdV i.a,sdV i.b]) (fun i=>DfO i.d) (fun i=>i.d.ok (i.a.levels.length+i.b.levels.length+1)) (fun _=>zLc) (fun i=>DfP (i.d.add (jT i.n i.s i.a i.b)))
structure DsJ where
 x:List Lv
 y:List Lv
 M:List VM
def yRf (i:DsI):List SAnn:=[{ι:=DsJ,slots:=fun j=>[(0,.nm 0 0),(10,roV 3 (j.x.map lvE)),(11,roV 3 (j.y.map lvE))],rows:=fun j=>DfO (i.d.add j.M)}]
def yVh:SAnn:={ι:=Dfr,slots:=fun _=>[(0,.nm 0 0)],rows:=fun d=>DfO d,slots0:=fun _=>[(0,.nm 0 0)],rows0:=fun d=>DfO d}
def lvT (t:Nat):SAnn:={ι:=Lv,slots:=fun _=>[(t,.nm 0 0)],rows:=fun l=>[.cells [zA l.price,zA l.qty,zA l.count] 41],slots0:=fun _=>[(t,.nm 0 0)],rows0:=fun l=>[.cells [zA l.price,zA l.qty,zA l.count] 41]}
def yQb:List (Nat×SAnn):=[(24,bj 41),(36,bj 73),(12,bj 29),(14,yVh),(48,bj 109),(58,lvT 12)]
structure DvI where
 v:Vw
 w:Vw
 seq:Int
def Vw.levs (v:Vw):Nat:=(v.map fun b=>b.1.levels.length+b.2.levels.length).sum
def diffC:Con:=con1 DvI (fun i=>[vwV i.v,vwV i.w,zA i.seq]) (fun _=>[]) (fun i=>i.v.length=i.w.length∧(-4000000000000000000≤i.seq∧i.seq≤4000000000000000000)∧Vw.levs i.v≤100000000∧Vw.levs i.w≤100000000∧i.v.length≤1000000) (fun _=> .own 0) (fun i=>[yNz (u6 i.seq (jY 0 i.v i.w))])
def yRv (i:DvI):List SAnn:=[
 {ι:=Nat,slots:=fun j=>[(7,.nm 0 0),(24,zA j)],rows:=fun j=>DfO (Dfr.add ⟨i.seq,[]⟩ (jY 0 (i.v.take j) (i.w.take j)))},
 {ι:=Unit,slots:=fun _=>[],rows:=fun _=>[],un:=3}]
open Go Cv Go.Proofs
def zEu (a:Nat) (b:Nat) (c:BsI) (d:Nat→Prop) (e:Nat→Nat):Prop:=(↑a:Int)=IntKind.i64.wrap ((↑b:Int)+1)∧(zU c.l c.s).fst.price=(zU c.l c.s).fst.price∧(zU c.l c.s).fst.qty=(zU c.l c.s).fst.qty∧(zU c.l c.s).fst.a.inst=(zU c.l c.s).fst.a.inst∧(zU c.l c.s).fst.a.side=(zU c.l c.s).fst.a.side∧(zU c.l c.s).fst.b.inst=(zU c.l c.s).fst.b.inst∧(zU c.l c.s).fst.b.side=(zU c.l c.s).fst.b.side∧d a∧e a<e b∧True
def qG (a:Nat) (b:BsI):=(fA (List.take a b.l) (zU b.l b.s).fst)
def yKj (i:BsI):Prop:=
 ∃(a:BsI),List.map zL a.l=List.map zL i.l∧a.s=i.s∧(fM a)∧∀(b:Unit),True→cnd (!(zU a.l a.s).snd) (∃(c:Unit),(x5 i.l i.s).fst.price=0∧(x5 i.l i.s).fst.qty=0∧(x5 i.l i.s).fst.count=0∧(x5 i.l i.s).snd=false∧True) (∃(c:Nat),(qG c i).fst=(zU a.l a.s).fst.qty∧(qG c i).snd=0∧(↑c:Int)=0∧(zU i.l i.s).fst.price=(zU a.l a.s).fst.price∧(zU i.l i.s).fst.qty=(zU a.l a.s).fst.qty∧(zU i.l i.s).fst.a.inst=(zU a.l a.s).fst.a.inst∧(zU i.l i.s).fst.a.side=(zU a.l a.s).fst.a.side∧(zU i.l i.s).fst.b.inst=(zU a.l a.s).fst.b.inst∧(zU i.l i.s).fst.b.side=(zU a.l a.s).fst.b.side∧∃(d:Nat→Prop),∃(e:Nat→Nat),d c∧∀(f:Nat),d f→cnd (decide ((↑f:Int)<(vM i))) ((0≤(↑f:Int)∧(↑f:Int)<(vM i))∧∃(g:Int),∃(h:Int),∃(j:Int),∃(k:Int),∃(l:Int),∃(m:Int),zE (List.map zL i.l) (↑f:Int).toNat 0 6=some [dI g,dI h,dI j,dI k,dI l,dI m]∧cnd (g==(zU i.l i.s).fst.price) (∃(n:Nat),((qG n i).fst=if h>(qG f i).fst then h else(qG f i).fst)∧(qG n i).snd=IntKind.i64.wrap ((qG f i).snd+1)∧zEu n f i d e) (∃(n:Nat),(qG n i).fst=(qG f i).fst∧(qG n i).snd=(qG f i).snd∧zEu n f i d e)) (∃(g:Unit),(x5 i.l i.s).fst.price=(zU i.l i.s).fst.price∧(x5 i.l i.s).fst.qty=(qG f i).fst∧(x5 i.l i.s).fst.count=(qG f i).snd∧(x5 i.l i.s).snd=true∧True))
def Vlookt335:=(Sx.V.agg [V.d vG])
def yKr (i:LkI):Prop:=
 ∃(a:Prd),sb a.code=sb i.p.code∧iE a.months=iE i.p.months∧a.tick=i.p.tick∧a.low=i.p.low∧a.high=i.p.high∧a.wide=i.p.wide∧a.rule=i.p.rule∧a.top=i.p.top∧a.least=i.p.least∧a.part=i.p.part∧iE a.settle=iE i.p.settle∧(zY a)∧∀(b:Unit),True→cnd (a.check !=0) (∃(c:Unit),List.map zC (qM i.p i.B)=[]∧zF i.s=zF i.s∧True) (∃(c:MSt),zF c=zF i.s∧(fY c)∧∀(d:Unit),True→∃(e:Prd),sb e.code=sb i.p.code∧iE e.months=iE i.p.months∧e.tick=i.p.tick∧e.low=i.p.low∧e.high=i.p.high∧e.wide=i.p.wide∧e.rule=i.p.rule∧e.top=i.p.top∧e.least=i.p.least∧e.part=i.p.part∧iE e.settle=iE i.p.settle∧(zY e)∧∀(f:Unit),True→∃(g:Nat),(↑g:Int)=0∧List.map zC (List.take g (qM i.p i.B))=[]∧List.map zZ (List.map qO i.B)=List.map zZ c.tops∧∃(h:Nat→Prop),∃(j:Nat→Nat),h g∧∀(k:Nat),h k→cnd (decide ((↑k:Int)<(↑e.count:Int))) (((0:Int)≤(0:Int)∧0<(↑(2:Nat):Int))∧∃(l:Int),zE [[dI 1],[dI 2]] (Int.toNat 0) 0 1=some [dI l]∧∃(m:SoI),m.inst=(↑k:Int)∧zD m.sd=l∧zF m.s=zF c∧(m.s.Rep m.p m.B∧m.B.length≤1000)∧∀(n:Unit),True→∃(p:sU),sb p.i.p.code=sb i.p.code∧iE p.i.p.months=iE i.p.months∧p.i.p.tick=i.p.tick∧p.i.p.low=i.p.low∧p.i.p.high=i.p.high∧p.i.p.wide=i.p.wide∧p.i.p.rule=i.p.rule∧p.i.p.top=i.p.top∧p.i.p.least=i.p.least∧p.i.p.part=i.p.part∧iE p.i.p.settle=iE i.p.settle∧List.map zZ p.i.tops=List.map zZ (List.map qO i.B)∧p.i.inst=(↑k:Int)∧zD p.s=l∧(qT p)∧∀(q:Unit),True→∃(r:BsI),List.map zL r.l=List.map zL (xO p.i (zD p.s))∧r.s=l∧(fM r)∧∀(s:Unit),True→(gM)∧∃(t:Int),zE [[dI 1],[dI 2]] (IntKind.i64.wrap ((0:Int)+(1:Int))).toNat 0 1=some [dI t]∧∃(u:SoI),u.inst=(↑k:Int)∧zD u.sd=t∧zF u.s=zF m.s∧(u.s.Rep u.p u.B∧u.B.length≤1000)∧∀(v:Unit),True→∃(w:sU),sb w.i.p.code=sb i.p.code∧iE w.i.p.months=iE i.p.months∧w.i.p.tick=i.p.tick∧w.i.p.low=i.p.low∧w.i.p.high=i.p.high∧w.i.p.wide=i.p.wide∧w.i.p.rule=i.p.rule∧w.i.p.top=i.p.top∧w.i.p.least=i.p.least∧w.i.p.part=i.p.part∧iE w.i.p.settle=iE i.p.settle∧List.map zZ w.i.tops=List.map zZ (List.map qO i.B)∧w.i.inst=(↑k:Int)∧zD w.s=t∧(qT w)∧∀(x:Unit),True→∃(y:BsI),List.map zL y.l=List.map zL (xO w.i (zD w.s))∧y.s=t∧(fM y)∧∀(z:Unit),True→((List.map zC (List.take k (qM i.p i.B))).length+1)*(112:Nat)≤(140737488355328:Nat)∧∃(a_1:Nat),(↑a_1:Int)=IntKind.i64.wrap ((↑k:Int)+1)∧List.map zC (List.take a_1 (qM i.p i.B))=List.map zC (List.take k (qM i.p i.B))++[[D.ro 3 (List.map lvE (cP m)),dI ((x5 r.l r.s).fst.price),dI ((x5 r.l r.s).fst.qty),dI ((x5 r.l r.s).fst.count),D.v (.bool (x5 r.l r.s).snd),D.ro 3 (List.map lvE (cP u)),dI ((x5 y.l y.s).fst.price),dI ((x5 y.l y.s).fst.qty),dI ((x5 y.l y.s).fst.count),D.v (.bool (x5 y.l y.s).snd)]]∧AObj.fro 6 (List.map zZ (List.map qO i.B))=AObj.fro 6 (List.map zZ (List.map qO i.B))∧h a_1∧j a_1<j k∧zF u.s=zF c∧Sx.AObj.cells Vlookt335.cl 34=Sx.AObj.cells Vlookt335.cl 34∧Sx.AObj.cells [V.d (D.v (Value.string (sb i.p.code))),V.own 1,V.d (dI i.p.tick),V.d (dI i.p.low),V.d (dI i.p.high),V.d (dI i.p.wide),V.d (dI i.p.rule),V.d (dI i.p.top),V.d (dI i.p.least),V.d (dI i.p.part),V.own ((1:Nat)+(1:Nat))] 25=Sx.AObj.cells [V.d (D.v (Value.string (sb i.p.code))),V.own 1,V.d (dI i.p.tick),V.d (dI i.p.low),V.d (dI i.p.high),V.d (dI i.p.wide),V.d (dI i.p.rule),V.d (dI i.p.top),V.d (dI i.p.least),V.d (dI i.p.part),V.own ((1:Nat)+(1:Nat))] 25∧AObj.fro 1 (iE i.p.settle)=AObj.fro 1 (iE i.p.settle)∧AObj.fro 1 (iE i.p.months)=AObj.fro 1 (iE i.p.months)) (∃(l:Unit),List.map zC (qM i.p i.B)=List.map zC (List.take k (qM i.p i.B))∧zF i.s=zF c∧True))
def gG (a:zBq):=(↑(List.map lvE a.x).length:Int)
def yLx (i:zBq):Prop:=
 cnd ((gG i) !=(↑(List.map lvE i.y).length:Int)) (∃(a:Unit),zBz i.x i.y=false∧True) (∃(a:Nat),(↑a:Int)=0∧∃(b:Nat→Prop),∃(c:Nat→Nat),b a∧∀(d:Nat),b d→cnd (decide ((↑d:Int)<(gG i))) (∃(e:Bool),∃(f:Bool→Prop),((0≤(↑d:Int)∧(↑d:Int)<(gG i))∧∃(g:Int),∃(h:Int),∃(j:Int),zE (List.map lvE i.x) (↑d:Int).toNat 0 3=some [dI g,dI h,dI j]∧(0≤(↑d:Int)∧(↑d:Int)<(↑(List.map lvE i.y).length:Int))∧∃(k:Int),∃(l:Int),∃(m:Int),zE (List.map lvE i.y) (↑d:Int).toNat 0 3=some [dI k,dI l,dI m]∧∃(n:Bool),n=!(g==k && (h==l && (j==m && true)))∧f n∧True)∧∀(g:Bool),f g→cnd g (∃(h:Unit),zBz i.x i.y=false∧True) (kV d b c)) (∃(e:Unit),zBz i.x i.y=true∧True))
def yUm (i:yAf):Prop:=
 ∃(a:zBq),List.map lvE a.x=List.map lvE i.a.levels∧List.map lvE a.y=List.map lvE i.b.levels∧(a.x.length≤1099511627776∧a.y.length≤1099511627776)∧∀(b:Unit),True→cnd (zBz a.x a.y) (cnd (i.a.imp.price==i.b.imp.price && (i.a.imp.qty==i.b.imp.qty && (i.a.imp.count==i.b.imp.count && true))) (∃(c:Unit),z5y i.a i.b=(i.a.has==i.b.has)∧True) (∃(c:Unit),z5y i.a i.b=false∧True)) (∃(c:Unit),z5y i.a i.b=false∧True)
def zSm (a:Bool→Prop) (b:Bool) (c:List (List D)) (d:List (List D)) (e:Int) (f:Int) (g:Int) (h:Bool) (j:Int) (k:Int) (l:Int) (m:Bool) (n:List (List D)) (p:List (List D)) (q:Int) (r:Int) (s:Int) (t:Bool) (u:Int) (v:Int) (w:Int) (x:Bool):Prop:=a b∧AObj.fro 3 c=AObj.fro 3 c∧AObj.fro 3 d=AObj.fro 3 d∧Sx.AObj.cells [V.own ((0:Nat)+(0:Nat)+(1:Nat)+(1:Nat)+(1:Nat)+(1:Nat)),V.d (dI e),V.d (dI f),V.d (dI g),V.d (D.v (.bool h)),V.own ((0:Nat)+(0:Nat)+(1:Nat)+(1:Nat)+(1:Nat)+(1:Nat)+1),V.d (dI j),V.d (dI k),V.d (dI l),V.d (D.v (.bool m))] 44=Sx.AObj.cells [V.own ((0:Nat)+(0:Nat)+(1:Nat)+(1:Nat)+(1:Nat)+(1:Nat)),V.d (dI e),V.d (dI f),V.d (dI g),V.d (D.v (.bool h)),V.own ((0:Nat)+(0:Nat)+(1:Nat)+(1:Nat)+(1:Nat)+(1:Nat)+1),V.d (dI j),V.d (dI k),V.d (dI l),V.d (D.v (.bool m))] 44∧AObj.fro 3 n=AObj.fro 3 n∧AObj.fro 3 p=AObj.fro 3 p∧Sx.AObj.cells [V.own ((0:Nat)+(0:Nat)+1),V.d (dI q),V.d (dI r),V.d (dI s),V.d (D.v (.bool t)),V.own ((0:Nat)+(0:Nat)+(1:Nat)+(1:Nat)),V.d (dI u),V.d (dI v),V.d (dI w),V.d (D.v (.bool x))] 44=Sx.AObj.cells [V.own ((0:Nat)+(0:Nat)+1),V.d (dI q),V.d (dI r),V.d (dI s),V.d (D.v (.bool t)),V.own ((0:Nat)+(0:Nat)+(1:Nat)+(1:Nat)),V.d (dI u),V.d (dI v),V.d (dI w),V.d (D.v (.bool x))] 44
def yUr (i:zTx):Prop:=
 cnd ((↑(List.map zC i.v).length:Int) !=(↑(List.map zC i.w).length:Int)) (∃(a:Unit),zRg i.v i.w=false∧True) (∃(a:Nat),(↑a:Int)=0∧∃(b:Nat→Prop),∃(c:Nat→Nat),b a∧∀(d:Nat),b d→cnd (decide ((↑d:Int)<(↑(List.map zC i.v).length:Int))) ((0≤(↑d:Int)∧(↑d:Int)<(↑(List.map zC i.v).length:Int))∧∃(e:List (List D)),∃(f:Int),∃(g:Int),∃(h:Int),∃(j:Bool),∃(k:List (List D)),∃(l:Int),∃(m:Int),∃(n:Int),∃(p:Bool),zE (List.map zC i.v) (↑d:Int).toNat 0 10=some [D.ro 3 e,dI f,dI g,dI h,D.v (.bool j),D.ro 3 k,dI l,dI m,dI n,D.v (.bool p)]∧(0≤(↑d:Int)∧(↑d:Int)<(↑(List.map zC i.w).length:Int))∧∃(q:List (List D)),∃(r:Int),∃(s:Int),∃(t:Int),∃(u:Bool),∃(v:List (List D)),∃(w:Int),∃(x:Int),∃(y:Int),∃(z:Bool),zE (List.map zC i.w) (↑d:Int).toNat 0 10=some [D.ro 3 q,dI r,dI s,dI t,D.v (.bool u),D.ro 3 v,dI w,dI x,dI y,D.v (.bool z)]∧∃(a_1:Bool),∃(a_2:Bool→Prop),(∃(a_3:yAf),List.map lvE a_3.a.levels=e∧a_3.a.imp.price=f∧a_3.a.imp.qty=g∧a_3.a.imp.count=h∧a_3.a.has=j∧List.map lvE a_3.b.levels=q∧a_3.b.imp.price=r∧a_3.b.imp.qty=s∧a_3.b.imp.count=t∧a_3.b.has=u∧(a_3.a.levels.length≤1099511627776∧a_3.b.levels.length≤1099511627776)∧∀(a_4:Unit),True→cnd (z5y a_3.a a_3.b) (∃(a_5:yAf),List.map lvE a_5.a.levels=k∧a_5.a.imp.price=l∧a_5.a.imp.qty=m∧a_5.a.imp.count=n∧a_5.a.has=p∧List.map lvE a_5.b.levels=v∧a_5.b.imp.price=w∧a_5.b.imp.qty=x∧a_5.b.imp.count=y∧a_5.b.has=z∧(a_5.a.levels.length≤1099511627776∧a_5.b.levels.length≤1099511627776)∧∀(a_6:Unit),True→∃(a_7:Bool),a_7=!z5y a_5.a a_5.b∧zSm a_2 a_7 v q r s t u w x y z k e f g h j l m n p) (∃(a_5:Bool),a_5=!false∧zSm a_2 a_5 v q r s t u w x y z k e f g h j l m n p))∧∀(a_3:Bool),a_2 a_3→cnd a_3 (∃(a_4:Unit),zRg i.v i.w=false∧True) (kV d b c)) (∃(e:Unit),zRg i.v i.w=true∧True))
def wD (a:Sd×Sd):Prop:=a.fst.levels.length≤1099511627776∧a.snd.levels.length≤1099511627776
def rI (a:zTx):Prop:=(List.length a.v≤1099511627776∧∀(b:Sd×Sd),b∈a.v→wD b)∧List.length a.w≤1099511627776∧∀(b:Sd×Sd),b∈a.w→wD b
def yAx (i:zTx):Prop:=
 ∃(a:zTx),List.map zC a.v=List.map zC i.v∧List.map zC a.w=List.map zC i.w∧(rI a)∧∀(b:Unit),True→∃(c:Unit),zRg i.v i.w=zRg a.v a.w∧True
def yBo (i:DtI):Prop:=
 True∧((List.map msgE i.d.out).length+1)*(56:Nat)≤(140737488355328:Nat)∧∃(a:Unit),i.d.seq+(↑(1:Nat):Int)=IntKind.i64.wrap (i.d.seq+1)∧List.map msgE (i.d.out++u6 i.d.seq [i.m])=List.map msgE i.d.out++[[dI (IntKind.i64.wrap (i.d.seq+1)),dI (↑i.m.inst:Int),dI i.m.side,dI i.m.l.price,dI i.m.l.qty,dI i.m.l.count,D.v (.bool i.m.imp)]]∧True
def kA (a:DsI) (b:DsJ):=(a.d.out++u6 a.d.seq b.M)
def mI (a:DsI):Prop:=Sx.AObj.cells [V.own ((2:Nat)+(1:Nat)+1),V.d (dI a.b.imp.price),V.d (dI a.b.imp.qty),V.d (dI a.b.imp.count),V.d (D.v (.bool a.b.has))] 43=Sx.AObj.cells [V.own ((2:Nat)+(1:Nat)+1),V.d (dI a.b.imp.price),V.d (dI a.b.imp.qty),V.d (dI a.b.imp.count),V.d (D.v (.bool a.b.has))] 43∧AObj.fro 3 (List.map lvE a.b.levels)=AObj.fro 3 (List.map lvE a.b.levels)∧Sx.AObj.cells [V.own 2,V.d (dI a.a.imp.price),V.d (dI a.a.imp.qty),V.d (dI a.a.imp.count),V.d (D.v (.bool a.a.has))] 43=Sx.AObj.cells [V.own 2,V.d (dI a.a.imp.price),V.d (dI a.a.imp.qty),V.d (dI a.a.imp.count),V.d (D.v (.bool a.a.has))] 43∧AObj.fro 3 (List.map lvE a.a.levels)=AObj.fro 3 (List.map lvE a.a.levels)
def zGc (a:DsI) (b:DsJ) (c:DsJ):Prop:=Sx.AObj.cells (jZ (dJ ((2:Nat)+(1:Nat)+(1:Nat)+(1:Nat)+1) [((1:Nat),(1:Nat)),((0:Nat),(0:Nat))] 0 (DfO (a.d.add b.M))) [zA (a.d.seq+(↑c.M.length:Int)),V.own 1]) (120:TypeId)=Sx.AObj.cells (jZ (dJ ((2:Nat)+(1:Nat)+(1:Nat)+(1:Nat)+1) [((1:Nat),(1:Nat)),((0:Nat),(0:Nat))] 0 (DfO (a.d.add b.M))) [zA (a.d.seq+(↑c.M.length:Int)),V.own 1]) (120:TypeId)∧AObj.own z6u 7 (List.map msgE (kA a c))=AObj.own z6u 7 (List.map msgE (kA a c))∧mI a
def a8 (a:Bool→Prop) (b:Bool) (c:DsI) (d:DsJ) (e:DsJ):Prop:=a b∧zGc c d e
def zGh (a:DsI) (b:Int) (c:Int) (d:Bool→Prop) (e:DsJ) (f:DsJ):Prop:=∃(g:I3),g.side=a.s∧g.x=b∧g.y=c∧True∧∀(h:Unit),True→∃(j:Bool),j=xA g.side g.x g.y∧a8 d j a e f
def tL (a:Bool→Prop) (b:DsI) (c:DsJ) (d:DsJ):Prop:=∃(e:Bool),e=true∧a8 a e b c d
def zEx (a:Lv→Prop) (b:Lv) (c:DsI) (d:DsJ) (e:DsJ):Prop:=a b∧zGc c d e
def zFw (a:DsJ→Prop) (b:DsJ) (c:DsJ→Nat) (d:DsJ) (e:DsI):Prop:=a b∧c b<c d∧mI e
def zGm (a:DsI) (b:DsJ) (c:DtI) (d:DsJ→Prop) (e:DsJ→Nat) (f:DsJ):Prop:=a.d.seq+(↑b.M.length:Int)=c.d.seq+(↑(1:Nat):Int)∧List.map msgE (kA a b)=List.map msgE (c.d.out++u6 c.d.seq [c.m])∧zFw d b e f a
def zGy (a:Dfr→Prop) (b:Dfr) (c:DsI):Prop:=a b∧mI c
def bL (a:DtI):Prop:=(-4611686018427387904)≤a.d.seq∧a.d.seq+(↑(1:Nat):Int)≤4611686018427387904∧a.d.out.length+(1:Nat)≤(1000000000:Nat)
def dA (a:DsJ):=(↑(List.map lvE a.y).length:Int)
def fV (a:DsJ):Prop:=(0:Int)≤(0:Int)∧0<(dA a)
def uW (a:DsJ):=(↑(List.map lvE a.x).length:Int)
def b8 (a:DsJ):Prop:=(0:Int)≤(0:Int)∧0<(uW a)
def fN (a:DsI):=(a.d.out++u6 a.d.seq (jT a.n a.s a.a a.b))
def fD (a:DsI):=(↑(jT a.n a.s a.a a.b).length:Int)
def yAw (i:DsI):Prop:=
 ∃(a:DsJ),List.map lvE a.x=List.map lvE i.a.levels∧List.map lvE a.y=List.map lvE i.b.levels∧i.d.seq+(↑a.M.length:Int)=i.d.seq∧List.map msgE (kA i a)=List.map msgE i.d.out∧∃(b:DsJ→Prop),∃(c:DsJ→Nat),b a∧∀(d:DsJ),b d→cnd (decide (IntKind.i64.wrap ((uW d)+(dA d))>0)) (∃(e:Bool),∃(f:Bool→Prop),cnd ((dA d)==0) (tL f i a d) (cnd (decide ((uW d)>0)) ((b8 d)∧∃(g:Int),zE (List.map lvE d.x) (Int.toNat 0) ((0:Nat)+(0:Nat)) 1=some [dI g]∧(fV d)∧∃(h:Int),zE (List.map lvE d.y) (Int.toNat 0) ((0:Nat)+(0:Nat)) 1=some [dI h]∧zGh i g h f a d) (∃(g:Bool),g=false∧a8 f g i a d))∧∀(g:Bool),f g→cnd g ((b8 d)∧∃(h:Int),zE (List.map lvE d.x) (Int.toNat 0) ((0:Nat)+(0:Nat)) 1=some [dI h]∧∃(j:DtI),(↑j.m.inst:Int)=(↑i.n:Int)∧j.m.side=i.s∧j.m.l.price=h∧j.m.l.qty=0∧j.m.l.count=0∧j.m.imp=false∧j.d.seq=i.d.seq+(↑d.M.length:Int)∧List.map msgE j.d.out=List.map msgE (kA i d)∧(bL j)∧∀(k:Unit),True→((0:Int)≤(1:Int)∧1≤(uW d))∧∃(l:DsJ),List.map lvE l.x=List.drop (Int.toNat 1) (List.map lvE d.x)∧List.map lvE l.y=List.map lvE d.y∧zGm i l j b c d) (∃(h:Bool),∃(j:Bool→Prop),cnd ((uW d)==0) (tL j i a d) ((fV d)∧∃(k:Int),zE (List.map lvE d.y) (Int.toNat 0) ((0:Nat)+(0:Nat)) 1=some [dI k]∧(b8 d)∧∃(l:Int),zE (List.map lvE d.x) (Int.toNat 0) ((0:Nat)+(0:Nat)) 1=some [dI l]∧zGh i k l j a d)∧∀(k:Bool),j k→cnd k ((fV d)∧∃(l:Int),∃(m:Int),∃(n:Int),zE (List.map lvE d.y) (Int.toNat 0) 0 3=some [dI l,dI m,dI n]∧∃(p:DtI),(↑p.m.inst:Int)=(↑i.n:Int)∧p.m.side=i.s∧p.m.l.price=l∧p.m.l.qty=m∧p.m.l.count=n∧p.m.imp=false∧p.d.seq=i.d.seq+(↑d.M.length:Int)∧List.map msgE p.d.out=List.map msgE (kA i d)∧(bL p)∧∀(q:Unit),True→((0:Int)≤(1:Int)∧1≤(dA d))∧∃(r:DsJ),List.map lvE r.x=List.map lvE d.x∧List.map lvE r.y=List.drop (Int.toNat 1) (List.map lvE d.y)∧zGm i r p b c d) (∃(l:Dfr),l.seq=i.d.seq+(↑d.M.length:Int)∧List.map msgE l.out=List.map msgE (kA i d)∧∃(m:Dfr→Prop),(∃(n:Bool),∃(p:Bool→Prop),((b8 d)∧∃(q:Int),∃(r:Int),∃(s:Int),zE (List.map lvE d.x) (Int.toNat 0) 0 3=some [dI q,dI r,dI s]∧(fV d)∧∃(t:Int),∃(u:Int),∃(v:Int),zE (List.map lvE d.y) (Int.toNat 0) 0 3=some [dI t,dI u,dI v]∧∃(w:Bool),w=!(q==t && (r==u && (s==v && true)))∧p w∧Sx.AObj.cells (jZ (zFi ((2:Nat)+(1:Nat)+(1:Nat)+(1:Nat)+(1:Nat)+(2:Nat)+(0:Nat)+(0:Nat)) (kC [((1:Nat),(2:Nat)+(1:Nat)+(1:Nat)+(1:Nat)+1+((0:Nat)+(1:Nat))),((0:Nat),(0:Nat))] 0 (DfO l)) 2) [zA l.seq,V.own 1]) (120:TypeId)=Sx.AObj.cells (jZ (zFi ((2:Nat)+(1:Nat)+(1:Nat)+(1:Nat)+(1:Nat)+(2:Nat)+(0:Nat)+(0:Nat)) (kC [((1:Nat),(2:Nat)+(1:Nat)+(1:Nat)+(1:Nat)+1+((0:Nat)+(1:Nat))),((0:Nat),(0:Nat))] 0 (DfO l)) 2) [zA l.seq,V.own 1]) (120:TypeId)∧AObj.own z6u 7 (List.map msgE l.out)=AObj.own z6u 7 (List.map msgE l.out)∧mI i)∧∀(q:Bool),p q→cnd q ((fV d)∧∃(r:Int),∃(s:Int),∃(t:Int),zE (List.map lvE d.y) (Int.toNat 0) 0 3=some [dI r,dI s,dI t]∧∃(u:DtI),(↑u.m.inst:Int)=(↑i.n:Int)∧u.m.side=i.s∧u.m.l.price=r∧u.m.l.qty=s∧u.m.l.count=t∧u.m.imp=false∧u.d.seq=l.seq∧List.map msgE u.d.out=List.map msgE l.out∧(bL u)∧∀(v:Unit),True→∃(w:Dfr),w.seq=u.d.seq+(↑(1:Nat):Int)∧List.map msgE w.out=List.map msgE (u.d.out++u6 u.d.seq [u.m])∧zGy m w i) (∃(r:Dfr),r.seq=l.seq∧List.map msgE r.out=List.map msgE l.out∧zGy m r i))∧∀(n:Dfr),m n→((0:Int)≤(1:Int)∧1≤(uW d))∧((0:Int)≤(1:Int)∧1≤(dA d))∧∃(p:DsJ),List.map lvE p.x=List.drop (Int.toNat 1) (List.map lvE d.x)∧List.map lvE p.y=List.drop (Int.toNat 1) (List.map lvE d.y)∧i.d.seq+(↑p.M.length:Int)=n.seq∧List.map msgE (kA i p)=List.map msgE n.out∧zFw b p c d i))) (∃(e:Bool),∃(f:Bool→Prop),cnd (!(i.a.imp.price==i.b.imp.price && (i.a.imp.qty==i.b.imp.qty && (i.a.imp.count==i.b.imp.count && true)))) (tL f i a d) (∃(g:Bool),g=!i.a.has==i.b.has∧a8 f g i a d)∧∀(g:Bool),f g→cnd g (∃(h:Lv),h.price=i.b.imp.price∧h.qty=i.b.imp.qty∧h.count=i.b.imp.count∧∃(j:Lv→Prop),cnd (!i.b.has) (∃(k:Lv),k.price=0∧k.qty=0∧k.count=0∧zEx j k i a d) (∃(k:Lv),k.price=h.price∧k.qty=h.qty∧k.count=h.count∧zEx j k i a d)∧∀(k:Lv),j k→∃(l:DtI),(↑l.m.inst:Int)=(↑i.n:Int)∧l.m.side=i.s∧l.m.l.price=k.price∧l.m.l.qty=k.qty∧l.m.l.count=k.count∧l.m.imp=true∧l.d.seq=i.d.seq+(↑d.M.length:Int)∧List.map msgE l.d.out=List.map msgE (kA i d)∧(bL l)∧∀(m:Unit),True→∃(n:Unit),i.d.seq+(fD i)=l.d.seq+(↑(1:Nat):Int)∧List.map msgE (fN i)=List.map msgE (l.d.out++u6 l.d.seq [l.m])∧True) (∃(h:Unit),i.d.seq+(fD i)=i.d.seq+(↑d.M.length:Int)∧List.map msgE (fN i)=List.map msgE (kA i d)∧True))
def zFe (a:DsI):Prop:=(-4611686018427387904)≤a.d.seq∧a.d.seq+(↑(a.a.levels.length+a.b.levels.length+1):Int)≤4611686018427387904∧a.d.out.length+(a.a.levels.length+a.b.levels.length+1)≤1000000000
def cM:=(0+(nat_lit 0+nat_lit 1) % Vtopst403.natAbs*5)
def mW (a:DvI) (b:Nat):=([]++u6 a.seq (jY 0 (List.take b a.v) (List.take b a.w)))
def eM (a:Nat) (b:DvI):=(↑(jY 0 (List.take a b.v) (List.take a b.w)).length:Int)
def m4 (a:DvI):=(↑(List.map zC a.v).length:Int)
def yKi (i:DvI):Prop:=
 cnd ((m4 i) !=(↑(List.map zC i.w).length:Int)) (∃(a:Unit),List.map msgE (u6 i.seq (jY 0 i.v i.w))=[]∧True) (∃(a:Nat),(↑a:Int)=0∧i.seq+(eM a i)=i.seq∧List.map msgE (mW i a)=[]∧∃(b:Nat→Prop),∃(c:Nat→Nat),b a∧∀(d:Nat),b d→cnd (decide ((↑d:Int)<(m4 i))) (((0:Int)≤(0:Int)∧0<(↑(2:Nat):Int))∧∃(e:Int),zE [[dI 1],[dI 2]] (Int.toNat 0) 0 1=some [dI e]∧(0≤(↑d:Int)∧(↑d:Int)<(m4 i))∧∃(f:List (List D)),∃(g:Int),∃(h:Int),∃(j:Int),∃(k:Bool),zE (List.map zC i.v) (↑d:Int).toNat (0+nat_lit 0*5) 5=some [D.ro 3 f,dI g,dI h,dI j,D.v (.bool k)]∧(0≤(↑d:Int)∧(↑d:Int)<(↑(List.map zC i.w).length:Int))∧∃(l:List (List D)),∃(m:Int),∃(n:Int),∃(p:Int),∃(q:Bool),zE (List.map zC i.w) (↑d:Int).toNat (0+nat_lit 0*5) 5=some [D.ro 3 l,dI m,dI n,dI p,D.v (.bool q)]∧∃(r:DsI),(↑r.n:Int)=(↑d:Int)∧r.s=e∧List.map lvE r.a.levels=f∧r.a.imp.price=g∧r.a.imp.qty=h∧r.a.imp.count=j∧r.a.has=k∧List.map lvE r.b.levels=l∧r.b.imp.price=m∧r.b.imp.qty=n∧r.b.imp.count=p∧r.b.has=q∧r.d.seq=i.seq+(eM d i)∧List.map msgE r.d.out=List.map msgE (mW i d)∧(zFe r)∧∀(s:Unit),True→(gM)∧∃(t:Int),zE [[dI 1],[dI 2]] (IntKind.i64.wrap ((0:Int)+(1:Int))).toNat 0 1=some [dI t]∧(0≤(↑d:Int)∧(↑d:Int)<(m4 i))∧∃(u:List (List D)),∃(v:Int),∃(w:Int),∃(x:Int),∃(y:Bool),zE (List.map zC i.v) (↑d:Int).toNat cM 5=some [D.ro 3 u,dI v,dI w,dI x,D.v (.bool y)]∧(0≤(↑d:Int)∧(↑d:Int)<(↑(List.map zC i.w).length:Int))∧∃(z:List (List D)),∃(a_1:Int),∃(a_2:Int),∃(a_3:Int),∃(a_4:Bool),zE (List.map zC i.w) (↑d:Int).toNat cM 5=some [D.ro 3 z,dI a_1,dI a_2,dI a_3,D.v (.bool a_4)]∧∃(a_5:DsI),(↑a_5.n:Int)=(↑d:Int)∧a_5.s=t∧List.map lvE a_5.a.levels=u∧a_5.a.imp.price=v∧a_5.a.imp.qty=w∧a_5.a.imp.count=x∧a_5.a.has=y∧List.map lvE a_5.b.levels=z∧a_5.b.imp.price=a_1∧a_5.b.imp.qty=a_2∧a_5.b.imp.count=a_3∧a_5.b.has=a_4∧a_5.d.seq=r.d.seq+(fD r)∧List.map msgE a_5.d.out=List.map msgE (fN r)∧(zFe a_5)∧∀(a_6:Unit),True→∃(a_7:Nat),(↑a_7:Int)=IntKind.i64.wrap ((↑d:Int)+1)∧i.seq+(eM a_7 i)=a_5.d.seq+(fD a_5)∧List.map msgE (mW i a_7)=List.map msgE (fN a_5)∧b a_7∧c a_7<c d∧Sx.AObj.cells [V.own ((0:Nat)+(1:Nat)+1)] 34=Sx.AObj.cells [V.own ((0:Nat)+(1:Nat)+1)] 34∧AObj.fro 10 (List.map zC i.w)=AObj.fro 10 (List.map zC i.w)∧Sx.AObj.cells [V.own 0] 34=Sx.AObj.cells [V.own 0] 34∧AObj.fro 10 (List.map zC i.v)=AObj.fro 10 (List.map zC i.v)) (∃(e:Unit),List.map msgE (u6 i.seq (jY 0 i.v i.w))=List.map msgE (mW i d)∧True))
open Go Cv Go.Proofs
open Classical
theorem zKf {l:List Quote} {k:Nat} {q:Quote} (b:Quote) (h:l[k]? =some q):fA (l.take (k+1)) b=if q.price=b.price then(if q.qty>(fA (l.take k) b).1 then q.qty else(fA (l.take k) b).1,(fA (l.take k) b).2+1)else fA (l.take k) b:=by
 rw[fA,yXx,h,yZx,y2u,y0o,List.foldl_nil]
 rfl
theorem zXy (b:Quote) (l:List Quote):∀k,k≤l.length→0≤(fA (l.take k) b).2∧(fA (l.take k) b).2≤k
 |0,_=>⟨by rw[y0i];exact y1p 0,by rw[y0i];exact y1p 0⟩
 |k+1,h=>by
  obtain⟨q,hq⟩:=zW (l:=l) (i:=k) (by omega)
  have:=zXy b l k (by omega)
  rw[zKf b hq]
  split
  ·dsimp only;constructor<;>omega
  ·constructor<;>omega
theorem yTu (i:BsI) (h:showC.cnd i):yKj i:=by
 obtain⟨hs,hl⟩:(i.s=1∨i.s=2)∧i.l.length≤1000000:=h
 have hml:(i.l.map zL).length=i.l.length:=yWu _
 unfold yKj qG zEu fM vM dI
 rw[hml]
 refine⟨i,rfl,rfl,⟨hs,hl⟩,fun _ _=>Cv.cnd.mk (fun c=> ?_) (fun c=> ?_)⟩
 ·have e:x5 i.l i.s=(⟨0,0,0⟩,false):=by rw[x5,yWs (by simpa using c)]
  rw[e];exact⟨(),k0q⟩
 have e:x5 i.l i.s=(⟨(zU i.l i.s).1.price,(fA i.l (zU i.l i.s).1).1,(fA i.l (zU i.l i.s).1).2⟩,true):=by rw[x5,yWt (by simpa using c)]
 rw[e]
 generalize (zU i.l i.s).1=b
 refine⟨0,rfl,rfl,rfl,rfl,rfl,rfl,rfl,rfl,rfl,fun k=>k≤i.l.length,fun k=>i.l.length-k,yYc _,fun k hk=>zK (fun hlt=> ?_) (fun hlt=> ?_)⟩
 ·obtain⟨q,hq⟩:=zW (l:=i.l) (i:=k) (by omega)
  have st:=zKf b hq
  have bd:=zXy b i.l k hk
  have hk:k≤i.l.length:=hk
  refine⟨⟨by omega,by omega⟩,q.price,q.qty,q.a.inst,q.a.side,q.b.inst,q.b.side,elA hq (by simp[zL]) rfl,Cv.cnd.mk (fun e=>⟨k+1,?_⟩) (fun e=>⟨k+1,?_⟩)⟩
  ·rw[st,yWt (by simpa using e)]
   exact⟨rfl,by dsimp only;rw[w64 (by omega)],wjn (by omega),rfl,rfl,rfl,rfl,rfl,rfl,by dsimp only;omega,by dsimp only;omega,trivial⟩
  ·rw[st,yWs (by simpa using e)]
   exact⟨rfl,rfl,wjn (by omega),rfl,rfl,rfl,rfl,rfl,rfl,by dsimp only;omega,by dsimp only;omega,trivial⟩
 ·have hk:k≤i.l.length:=hk
  obtain rfl:k=i.l.length:=by omega
  rw[yZi]
  exact⟨(),k0q⟩
theorem yHd:showC.ok Tryz.prog 108:=okw mixed (gokc zVr gok0) 0 (fun _=>[]) (fun i=>yNu i) [] Tryz.func108 yTu
theorem mO (p:Prd) (B:List (List zJ)):(qM p B).length=p.count:=by rw[qM,yWu,List.length_range]
theorem z7y (p:Prd) (B:List (List zJ)) {j:Nat} (h:j<p.count):(qM p B)[j]? =some (zCr p B j 1,zCr p B j 2):=by
 rw[qM,yXq,y1h h];rfl
theorem yRx (i:LkI) (h:lookC.cnd i):yKr i:=by
 obtain⟨hR,hB⟩:i.s.Rep i.p i.B∧BOk i.p i.B:=h
 have hcl:=xP i.p
 have hbl:=hB.bl
 have hcnt:i.s.cntOk:=hR.cnt (by omega)
 have hto:wV (i.B.map qO):=hB.tops
 have hll:=mO i.p i.B
 unfold yKr gM cP qT gA fM fY Vlookt335 vG zY dI
 refine⟨i.p,rfl,rfl,rfl,rfl,rfl,rfl,rfl,rfl,rfl,rfl,rfl,hB.ps,fun _ _=>Cv.cnd.mk (fun c=>absurd hB.pc (by simpa using c)) (fun _=>⟨i.s,rfl,hcnt,fun _ _=>⟨i.p,rfl,rfl,rfl,rfl,rfl,rfl,rfl,rfl,rfl,rfl,rfl,hB.ps,fun _ _=>⟨0,rfl,rfl,by rw[hR.tops],fun j=>j≤i.p.count,fun j=>i.p.count-j,yYc _,fun j hj=>zK (fun hlt=> ?_) (fun hlt=> ?_)⟩⟩⟩)⟩
 ·have hlt:j<i.p.count:=by omega
  have hat:atB i.B (j:Int)=i.B.getD j []:=by rw[atB,yWs (by omega),yXn]
  have hq:∀s,(xO ⟨i.p,i.B.map qO,j⟩ s).length≤1000000:=fun s=>y0m (zIa _ _) (by decide)
  refine⟨⟨by decide,by decide⟩,1,rfl,⟨i.s,i.p,i.B,j,false⟩,rfl,rfl,rfl,⟨hR,by dsimp only;omega⟩,fun _ _=>⟨⟨⟨i.p,i.B.map qO,j⟩,false⟩,rfl,rfl,rfl,rfl,rfl,rfl,rfl,rfl,rfl,rfl,rfl,rfl,rfl,rfl,⟨hB.ps,hto⟩,fun _ _=>⟨⟨xO ⟨i.p,i.B.map qO,j⟩ 1,1⟩,rfl,rfl,⟨.inl rfl,hq 1⟩,fun _ _=>⟨⟨by decide,by decide⟩,2,rfl,⟨i.s,i.p,i.B,j,true⟩,rfl,rfl,rfl,⟨hR,by dsimp only;omega⟩,fun _ _=>⟨⟨⟨i.p,i.B.map qO,j⟩,true⟩,rfl,rfl,rfl,rfl,rfl,rfl,rfl,rfl,rfl,rfl,rfl,rfl,rfl,rfl,⟨hB.ps,hto⟩,fun _ _=>⟨⟨xO ⟨i.p,i.B.map qO,j⟩ 2,2⟩,rfl,rfl,⟨.inr rfl,hq 2⟩,fun _ _=>⟨?_,j+1,wjn (by omega),?_,rfl,by dsimp only;omega,by dsimp only;omega,rfl,k0q⟩⟩⟩⟩⟩⟩⟩
  ·rw[yWu,yXo];omega
  ·rw[yXx,z7y i.p i.B hlt,yZx,yXe,yXh,y0n]
   dsimp only
   rw[hat]
   rfl
 ·have hj:j≤i.p.count:=hj
  rw[yXk (by omega)]
  exact⟨(),k0q⟩
theorem z3a:lookC.ok Tryz.prog 48:=okw mixed (gokc sS (gokc yJr (gokc cN (gokc yIz (gokc zOk (gokc yHd gok0)))))) 1 (fun _=>[]) (fun i=>yTf i) [] Tryz.func48 yRx
open Go Cv Go.Proofs
open Classical
theorem zOu {α:Type} {x y:List α} {k:Nat} {a b:α} (ha:x[k]? =some a) (hb:y[k]? =some b) (h:x.take k=y.take k) (e:a=b):x.take (k+1)=y.take (k+1):=by rw[yXx,yXx,h,ha,hb,e]
theorem zWj (a b:Lv):(a.price==b.price && (a.qty==b.qty && (a.count==b.count && true)))=decide (a=b):=by
 rw[y1f,decide_eq_true_iff]
 obtain⟨p,q,c⟩:=a
 obtain⟨p2,q2,c2⟩:=b
 simp
theorem yTh (i:zBq) (h:eqLvC.cnd i):yLx i:=by
 obtain⟨hx,hy⟩:i.x.length≤1099511627776∧i.y.length≤1099511627776:=h
 have hmx:(i.x.map lvE).length=i.x.length:=yWu _
 have hmy:(i.y.map lvE).length=i.y.length:=yWu _
 unfold yLx kV jM gG dI
 rw[hmx,hmy]
 refine Cv.cnd.mk (fun c=>⟨(),yXf (fun e=>by rw[e]at c;simp at c),trivial⟩) (fun c=> ?_)
 have hxy:i.x.length=i.y.length:=by have:(i.x.length:Int)=i.y.length:=(by simpa using c);omega
 refine⟨0,rfl,fun k=>k≤i.x.length∧i.x.take k=i.y.take k,fun k=>i.x.length-k,⟨yYc _,rfl⟩,fun k hk=>zK (fun e=> ?_) (fun e=> ?_)⟩
 ·obtain⟨hk1,hk2⟩:=hk
  obtain⟨a,ha⟩:=zW (l:=i.x) (i:=k) (by omega)
  obtain⟨b,hb⟩:=zW (l:=i.y) (i:=k) (by omega)
  refine⟨false,fun t=>t= !decide (a=b),⟨⟨by omega,by omega⟩,a.price,a.qty,a.count,elA ha (by simp[lvE]) rfl,⟨by omega,by omega⟩,b.price,b.qty,b.count,elA hb (by simp[lvE]) rfl,_,rfl,?_,trivial⟩,?_⟩
  ·rw[zWj a b]
  ·rintro _ rfl
   refine Cv.cnd.mk (fun c=>⟨(),yXf (fun e2=> ?_),trivial⟩) (fun c=>⟨k+1,by rw[w64 (by omega)];rfl,⟨by omega,zOu ha hb hk2 (by simpa using c)⟩,by dsimp only;omega,trivial⟩)
   have c:a≠b:=by simpa using c
   rw[e2]at ha
   rw[ha]at hb
   exact c (Option.some.inj hb)
 ·obtain⟨hk1,hk2⟩:=hk
  rw[yXk (by omega),yXk (by omega)]at hk2
  exact⟨(),yXi hk2,trivial⟩
theorem yJx:eqLvC.ok Tryz.prog 125:=okw mixed gok0 0 (fun _=>yRr) (fun _=>yTt) [] Tryz.func125 yTh
theorem yVz (i:yAf) (h:fsdC.cnd i):yUm i:=by
 obtain⟨⟨al,ai,ah⟩,⟨bl,bi,bh⟩⟩:=i
 obtain⟨ha,hb⟩:al.length≤1099511627776∧bl.length≤1099511627776:=h
 unfold yUm
 refine⟨⟨al,bl⟩,rfl,rfl,⟨ha,hb⟩,fun _ _=>zK (fun e=> ?_) (fun e=>⟨(),yXf (fun x=>e (congrArg Sd.levels x)),trivial⟩)⟩
 dsimp only
 rw[zWj]
 refine zK (fun e2=>⟨(),?_,trivial⟩) (fun e2=>⟨(),yXf (fun x=>e2 (congrArg Sd.imp x)),trivial⟩)
 have e:al=bl:=e
 have e2:ai=bi:=e2
 subst e e2
 show decide ((⟨al,ai,ah⟩:Sd)=⟨al,ai,bh⟩)=(ah==bh)
 rw[y1f,decide_eq_true_iff,beq_iff_eq]
 exact⟨fun x=>congrArg Sd.has x,fun x=>by have x:ah=bh:=x;rw[x]⟩
theorem yMh:fsdC.ok Tryz.prog 65:=okw mixed (gokc yJx gok0) 0 (fun _=>[]) (fun _=>[]) [] Tryz.func65 yVz
theorem z8n {v:Vw} {k:Nat} {b:Sd×Sd} (h:v[k]? =some b):zE (v.map zC) k 0 10=some [D.ro 3 (b.1.levels.map lvE),.v (.int .i64 b.1.imp.price),.v (.int .i64 b.1.imp.qty),.v (.int .i64 b.1.imp.count),.v (.bool b.1.has),.ro 3 (b.2.levels.map lvE),.v (.int .i64 b.2.imp.price),.v (.int .i64 b.2.imp.qty),.v (.int .i64 b.2.imp.count),.v (.bool b.2.has)]∧
 zE (v.map zC) k 0 5=some [D.ro 3 (b.1.levels.map lvE),.v (.int .i64 b.1.imp.price),.v (.int .i64 b.1.imp.qty),.v (.int .i64 b.1.imp.count),.v (.bool b.1.has)]∧
 zE (v.map zC) k 5 5=some [D.ro 3 (b.2.levels.map lvE),.v (.int .i64 b.2.imp.price),.v (.int .i64 b.2.imp.qty),.v (.int .i64 b.2.imp.count),.v (.bool b.2.has)]:=
 ⟨elA h (by simp[zC]) rfl,elA h (by simp[zC]) rfl,elA h (by simp[zC]) rfl⟩
theorem yVk (i:zTx) (h:eqFC.cnd i):yUr i:=by
 obtain⟨⟨hv,hvs⟩,⟨hw,hws⟩⟩:kE i.v∧kE i.w:=h
 have hmx:(i.v.map zC).length=i.v.length:=yWu _
 have hmy:(i.w.map zC).length=i.w.length:=yWu _
 unfold yUr kV jM zSm dI
 rw[hmx,hmy]
 refine Cv.cnd.mk (fun c=>⟨(),yXf (fun e=>by rw[e]at c;simp at c),trivial⟩) (fun c=> ?_)
 have hxy:i.v.length=i.w.length:=by have:(i.v.length:Int)=i.w.length:=(by simpa using c);omega
 refine⟨0,rfl,fun k=>k≤i.v.length∧i.v.take k=i.w.take k,fun k=>i.v.length-k,⟨yYc _,rfl⟩,fun k hk=>zK (fun e=> ?_) (fun e=> ?_)⟩
 ·obtain⟨hk1,hk2⟩:=hk
  obtain⟨a,ha⟩:=zW (l:=i.v) (i:=k) (by omega)
  obtain⟨b,hb⟩:=zW (l:=i.w) (i:=k) (by omega)
  have sa:=hvs a (yXd ha)
  have sb:=hws b (yXd hb)
  refine⟨⟨by omega,by omega⟩,_,_,_,_,_,_,_,_,_,_,(z8n ha).1,⟨by omega,by omega⟩,_,_,_,_,_,_,_,_,_,_,(z8n hb).1,false,fun t=>t= !decide (a=b),⟨⟨a.1,b.1⟩,rfl,rfl,rfl,rfl,rfl,rfl,rfl,rfl,rfl,rfl,⟨sa.1,sb.1⟩,fun _ _=>zK (fun e1=>⟨⟨a.2,b.2⟩,rfl,rfl,rfl,rfl,rfl,rfl,rfl,rfl,rfl,rfl,⟨sa.2,sb.2⟩,fun _ _=>⟨_,rfl,?_,k0q⟩⟩) (fun e1=>⟨_,rfl,?_,k0q⟩)⟩,?_⟩
  ·show(!decide (a.2=b.2))= !decide (a=b)
   rw[y1f,y0u,y0u,decide_eq_false_iff_not,decide_eq_false_iff_not]
   exact⟨fun x y=>x (by rw[y]),fun x y=>x (Prod.ext e1 y)⟩
  ·have e1:¬a.1=b.1:=e1
   rw[yXf fun x=>e1 (congrArg Prod.fst x)]
  ·rintro _ rfl
   refine Cv.cnd.mk (fun c=>⟨(),yXf (fun e2=> ?_),trivial⟩) (fun c=>⟨k+1,by rw[w64 (by omega)];rfl,⟨by omega,zOu ha hb hk2 (by simpa using c)⟩,by dsimp only;omega,trivial⟩)
   have c:a≠b:=by simpa using c
   rw[e2]at ha
   rw[ha]at hb
   exact c (Option.some.inj hb)
 ·obtain⟨hk1,hk2⟩:=hk
  rw[yXk (by omega),yXk (by omega)]at hk2
  exact⟨(),yXi hk2,trivial⟩
theorem yPv:eqFC.ok Tryz.prog 63:=okw mixed (gokc yMh gok0) 1 (fun _=>yVg) (fun _=>yVp) [] Tryz.func63 yVk
theorem yOk (i:zTx) (h:fsameC.cnd i):yAx i:=by
 unfold yAx rI wD
 exact⟨i,rfl,rfl,h,fun _ _=>⟨(),rfl,trivial⟩⟩
theorem z8v:fsameC.ok Tryz.prog 19:=okw mixed (gokc yPv gok0) 0 (fun _=>[]) (fun _=>[]) [] Tryz.func19 yOk
theorem zJz (q:Int):∀(A B:List VM),u6 q (A++B)=u6 q A++u6 (q+A.length) B
 |[],B=>by simp[u6]
 |a::A,B=>by
  rw[yYo,u6,u6,zJz,yXa,yYo]
  congr 3
  omega
theorem zIq (d:Dfr) (A B:List VM):(d.add A).add B=d.add (A++B):=by
 rw[Dfr.add,Dfr.add,Dfr.add,zJz,yWx,yXc]
 congr 1
 dsimp only
 omega
theorem yQu (i:DtI) (h:dtellC.cnd i):yBo i:=by
 obtain⟨h1,h2,h3⟩:i.d.ok 1:=h
 unfold yBo dI
 have e:IntKind.i64.wrap (i.d.seq+1)=i.d.seq+1:=w64 (by omega)
 rw[e]
 exact⟨trivial,by rw[yWu];omega,(),rfl,by rw[yXe];rfl,trivial⟩
theorem yFf:dtellC.ok Tryz.prog 124:=okw mixed gok0 0 (fun _=>[]) (fun _=>[]) [] Tryz.func124 yQu
theorem nB {s:Int}:∀(k:Nat) (X Y:List Lv),(wY s k X Y).length≤k
 |0,X,Y=>by rw[wY];exact yYa 0
 |k+1,[],[]=>by rw[wY];exact yYc _
 |k+1,x::X,[]=>by rw[wY,yXa];have:=nB (s:=s) k X [];omega
 |k+1,[],y::Y=>by rw[wY,yXa];have:=nB (s:=s) k [] Y;omega
 |k+1,x::X,y::Y=>by
  have h1:=nB (s:=s) k X (y::Y)
  have h2:=nB (s:=s) k (x::X) Y
  have h3:=nB (s:=s) k X Y
  rw[wY]
  split
  ·rw[yXa];omega
  split
  ·rw[yXa];omega
  rw[yWx]
  split
  ·simp only[yZm];omega
  ·simp only[yZg];omega
theorem z0g (n:Nat) (s:Int) (a b:Sd):(jT n s a b).length≤a.levels.length+b.levels.length+1:=by
 have:=nB (s:=s) (a.levels.length+b.levels.length) a.levels b.levels
 rw[jT,yWx,yWu]
 split
 ·rw[yZg];omega
 ·simp only[yZm];omega
theorem zSe:∀(n j:Nat) {v w:Vw} {a b:Sd×Sd},v[j]? =some a→w[j]? =some b→jY n (v.take (j+1)) (w.take (j+1))=jY n (v.take j) (w.take j)++(jT (n+j) 1 a.1 b.1++jT (n+j) 2 a.2 b.2)
 |n,0,x::v,y::w,a,b,h1,h2=>by
  obtain rfl:x=a:=by simpa using h1
  obtain rfl:y=b:=by simpa using h2
  simp[jY]
 |n,j+1,x::v,y::w,a,b,h1,h2=>by
  have:=zSe (n+1) j (v:=v) (w:=w) (a:=a) (b:=b) (by simpa using h1) (by simpa using h2)
  rw[yYd,yYd,yYd,yYd,jY,jY,this,yXc,yXc,yXc,y0k n 1 j,y2i 1 j]
 |_,0,[],_,_,_,h1,_=>by simp at h1
 |_,j+1,[],_,_,_,h1,_=>by simp at h1
 |_,0,_::_,[],_,_,_,h2=>by simp at h2
 |_,j+1,_::_,[],_,_,_,h2=>by simp at h2
theorem eV {v:Vw} {j:Nat} {a:Sd×Sd} (h:v[j]? =some a):Vw.levs (v.take (j+1))=Vw.levs (v.take j)+(a.1.levels.length+a.2.levels.length):=by
 rw[Vw.levs,Vw.levs,yXx,h,yZx,yXe,y2t]
 simp
theorem z2j (v:Vw) (j:Nat):Vw.levs (v.take j)≤Vw.levs v:=by
 conv=>rhs;rw[← yZc j v]
 rw[Vw.levs,Vw.levs,yXe,y2t]
 omega
theorem yLy (v w:Vw):∀j,j≤v.length→j≤w.length→(jY 0 (v.take j) (w.take j)).length≤Vw.levs (v.take j)+Vw.levs (w.take j)+2*j
 |0,_,_=>by rw[y0i,jY];exact yYc _;simp
 |j+1,h1,h2=>by
  obtain⟨a,ha⟩:=zW (l:=v) (i:=j) (by omega)
  obtain⟨b,hb⟩:=zW (l:=w) (i:=j) (by omega)
  have:=yLy v w j (by omega) (by omega)
  have s1:=z0g (0+j) 1 a.1 b.1
  have s2:=z0g (0+j) 2 a.2 b.2
  rw[zSe 0 j ha hb,eV ha,eV hb,yWx,yWx]
  omega
open Go Cv Go.Proofs
theorem zDo (q:Int):∀M:List VM,(u6 q M).length=M.length
 |[]=>rfl
 |m::M=>by rw[u6,yXa,zDo,yXa]
theorem tl1 (q:Int) (M:List VM) (m:VM):q+((M++[m]).length:Nat)=q+(M.length:Nat)+((1:Nat):Int):=by
 rw[yWx,yZg];omega
theorem tl2 (o:List MsgM) (q:Int) (M:List VM) (m:VM):(o++u6 q (M++[m])).map msgE=((o++u6 q M)++u6 (q+(M.length:Nat)) [m]).map msgE:=by rw[zJz,yXc]
theorem lvx (x:Lv) (X:List Lv):zE ((x::X).map lvE) 0 0 1=some [D.v (.int .i64 x.price)]∧zE ((x::X).map lvE) 0 0 3=some [D.v (.int .i64 x.price),.v (.int .i64 x.qty),.v (.int .i64 x.count)]:=⟨rfl,rfl⟩
theorem yFn (s:Int) (k:Nat):wY s k [] []=[]:=by cases k<;>rw[wY]
theorem yNo (i:DsI) (h:dsideC.cnd i):yAw i:=by
 obtain⟨d,n,s,⟨al,ai,ah⟩,⟨bl,bi,bh⟩⟩:=i
 obtain⟨h1,h2,h3⟩:Dfr.ok d (al.length+bl.length+1):=h
 unfold yAw zGy zGm zFw zEx tL zGh a8 zGc mI kA fD fN b8 uW fV dA bL dI
 refine⟨⟨al,bl,[]⟩,rfl,rfl,by simp,by simp[u6],fun j=>∃k,j.x.length+j.y.length≤k∧(wY s (al.length+bl.length) al bl).map (fun l=>(⟨n,s,l,false⟩:VM))=j.M++(wY s k j.x j.y).map (fun l=>(⟨n,s,l,false⟩:VM))∧k+j.M.length≤al.length+bl.length,fun j=>j.x.length+j.y.length,⟨al.length+bl.length,yYa _,rfl,yYa _⟩,?_⟩
 rintro⟨x,y,M⟩ ⟨k,hk,hM,hl⟩
 dsimp only at hk hM hl ⊢
 have hx:(x.map lvE).length=x.length:=yWu _
 have hy:(y.map lvE).length=y.length:=yWu _
 have ok1:Dfr.ok ⟨d.seq+(M.length:Nat),d.out++u6 d.seq M⟩ 1:=⟨by dsimp only;omega,by dsimp only;omega,by dsimp only;rw[yWx,zDo];omega⟩
 rw[hx,hy,w64 (by omega)]
 refine zK (fun c=> ?_) (fun c=> ?_)
 ·obtain⟨k',rfl⟩:∃k',k=k'+1:=⟨k-1,by omega⟩
  rcases x with _|⟨a,X⟩
  ·rcases y with _|⟨b,Y⟩
   ·exact absurd c (by simp)
   refine⟨false,fun t=>t=false,Cv.cnd.mk (fun e=> ?_) (fun _=>Cv.cnd.mk (fun e=>absurd e (by simp)) (fun _=>⟨false,rfl,rfl,k0q⟩)),?_⟩
   ·exfalso;simp at e;omega
   rintro _ rfl
   refine Cv.cnd.mk (fun c=>absurd c (by decide)) (fun _=>⟨false,fun t=>t=true,Cv.cnd.mk (fun _=>⟨true,rfl,rfl,k0q⟩) (fun e=>absurd e (by simp)),?_⟩)
   rintro _ rfl
   refine Cv.cnd.mk (fun _=> ?_) (fun c=>absurd c (by decide))
   rw[yXa]at hk
   refine⟨⟨by decide,by rw[yXa];omega⟩,b.price,b.qty,b.count,(lvx b Y).2,⟨_,⟨n,s,b,false⟩⟩,rfl,rfl,rfl,rfl,rfl,rfl,rfl,rfl,ok1,fun _ _=>⟨⟨by decide,by rw[yXa];omega⟩,⟨[],Y,M++[⟨n,s,b,false⟩]⟩,rfl,rfl,tl1 _ _ _,tl2 _ _ _ _,⟨k',by dsimp only;omega,?_,by dsimp only;rw[yWx,yZg];omega⟩,by dsimp only;rw[yXa];omega,k0q⟩⟩
   rw[hM,wY,yXh,yXc];rfl
  rcases y with _|⟨b,Y⟩
  ·refine⟨false,fun t=>t=true,Cv.cnd.mk (fun _=>⟨true,rfl,rfl,k0q⟩) (fun e=>absurd e (by simp)),?_⟩
   rintro _ rfl
   refine Cv.cnd.mk (fun _=> ?_) (fun c=>absurd c (by decide))
   rw[yXa]at hk
   refine⟨⟨by decide,by rw[yXa];omega⟩,a.price,(lvx a X).1,⟨_,⟨n,s,⟨a.price,0,0⟩,false⟩⟩,rfl,rfl,rfl,rfl,rfl,rfl,rfl,rfl,ok1,fun _ _=>⟨⟨by decide,by rw[yXa];omega⟩,⟨X,[],M++[⟨n,s,⟨a.price,0,0⟩,false⟩]⟩,rfl,rfl,tl1 _ _ _,tl2 _ _ _ _,⟨k',by dsimp only;simp only[yZm]at hk ⊢;omega,?_,by dsimp only;rw[yWx,yZg];omega⟩,by dsimp only;rw[yXa];omega,k0q⟩⟩
   rw[hM,wY,yXh,yXc];rfl
  rw[yXa,yXa]at hk
  have la:(0:Int)≤0∧(0:Int)<((a::X).length:Nat):=⟨by decide,by rw[yXa];omega⟩
  have lb:(0:Int)≤0∧(0:Int)<((b::Y).length:Nat):=⟨by decide,by rw[yXa];omega⟩
  have la1:(0:Int)≤1∧(1:Int)≤((a::X).length:Nat):=⟨by decide,by rw[yXa];omega⟩
  have lb1:(0:Int)≤1∧(1:Int)≤((b::Y).length:Nat):=⟨by decide,by rw[yXa];omega⟩
  refine⟨false,fun t=>t=btr s a.price b.price,Cv.cnd.mk (fun e=> ?_) (fun _=>Cv.cnd.mk (fun _=>⟨la,a.price,(lvx a X).1,lb,b.price,(lvx b Y).1,⟨s,a.price,b.price⟩,rfl,rfl,rfl,trivial,fun _ _=>⟨_,rfl,rfl,k0q⟩⟩) (fun e=> ?_)),?_⟩
  ·exfalso;simp at e;omega
  ·exfalso;simp at e
  rintro _ rfl
  refine Cv.cnd.mk (fun c1=> ?_) (fun c1=> ?_)
  ·refine⟨la,a.price,(lvx a X).1,⟨_,⟨n,s,⟨a.price,0,0⟩,false⟩⟩,rfl,rfl,rfl,rfl,rfl,rfl,rfl,rfl,ok1,fun _ _=>⟨la1,⟨X,b::Y,M++[⟨n,s,⟨a.price,0,0⟩,false⟩]⟩,rfl,rfl,tl1 _ _ _,tl2 _ _ _ _,⟨k',by dsimp only;rw[yXa];omega,?_,by dsimp only;rw[yWx,yZg];omega⟩,by dsimp only;rw[yXa,yXa];omega,k0q⟩⟩
   rw[hM,wY,yWt c1,yXh,yXc];rfl
  have c1:¬btr s a.price b.price=true:=by simp[c1]
  refine⟨false,fun t=>t=btr s b.price a.price,Cv.cnd.mk (fun e=> ?_) (fun _=>⟨lb,b.price,(lvx b Y).1,la,a.price,(lvx a X).1,⟨s,b.price,a.price⟩,rfl,rfl,rfl,trivial,fun _ _=>⟨_,rfl,rfl,k0q⟩⟩),?_⟩
  ·exfalso;simp at e;omega
  rintro _ rfl
  refine Cv.cnd.mk (fun c2=> ?_) (fun c2=> ?_)
  ·refine⟨lb,b.price,b.qty,b.count,(lvx b Y).2,⟨_,⟨n,s,b,false⟩⟩,rfl,rfl,rfl,rfl,rfl,rfl,rfl,rfl,ok1,fun _ _=>⟨lb1,⟨a::X,Y,M++[⟨n,s,b,false⟩]⟩,rfl,rfl,tl1 _ _ _,tl2 _ _ _ _,⟨k',by dsimp only;rw[yXa];omega,?_,by dsimp only;rw[yWx,yZg];omega⟩,by dsimp only;rw[yXa,yXa];omega,k0q⟩⟩
   rw[hM,wY,yWs c1,yWt c2,yXh,yXc];rfl
  have c2:¬btr s b.price a.price=true:=by simp[c2]
  by_cases hab:a=b
  ·refine⟨⟨_,_⟩,rfl,rfl,fun D=>D=⟨d.seq+(M.length:Nat),d.out++u6 d.seq M⟩,⟨false,fun t=>t=false,⟨la,a.price,a.qty,a.count,(lvx a X).2,lb,b.price,b.qty,b.count,(lvx b Y).2,_,rfl,by rw[zWj,yXi hab];rfl,k0q⟩,?_⟩,?_⟩
   ·rintro _ rfl
    exact Cv.cnd.mk (fun c=>absurd c (by decide)) (fun _=>⟨_,rfl,rfl,rfl,k0q⟩)
   rintro _ rfl
   refine⟨la1,lb1,⟨X,Y,M⟩,rfl,rfl,rfl,rfl,⟨k',by dsimp only;omega,?_,by dsimp only;omega⟩,by dsimp only;rw[yXa,yXa];omega,k0q⟩
   rw[hM,wY,yWs c1,yWs c2,yWt hab];rfl
  ·refine⟨⟨_,_⟩,rfl,rfl,fun D=>D=Dfr.add ⟨d.seq+(M.length:Nat),d.out++u6 d.seq M⟩ [⟨n,s,b,false⟩],⟨false,fun t=>t=true,⟨la,a.price,a.qty,a.count,(lvx a X).2,lb,b.price,b.qty,b.count,(lvx b Y).2,_,rfl,by rw[zWj,yXf hab];rfl,k0q⟩,?_⟩,?_⟩
   ·rintro _ rfl
    exact Cv.cnd.mk (fun _=>⟨lb,b.price,b.qty,b.count,(lvx b Y).2,⟨_,⟨n,s,b,false⟩⟩,rfl,rfl,rfl,rfl,rfl,rfl,rfl,rfl,ok1,fun _ _=>⟨_,rfl,rfl,rfl,k0q⟩⟩) (fun c=>absurd c (by decide))
   rintro _ rfl
   refine⟨la1,lb1,⟨X,Y,M++[⟨n,s,b,false⟩]⟩,rfl,rfl,tl1 _ _ _,tl2 _ _ _ _,⟨k',by dsimp only;omega,?_,by dsimp only;rw[yWx,yZg];omega⟩,by dsimp only;rw[yXa,yXa];omega,k0q⟩
   rw[hM,wY,yWs c1,yWs c2,yWs hab,yXe,yXc];rfl
 obtain rfl:x=[]:=yXs (by omega)
 obtain rfl:y=[]:=yXs (by omega)
 rw[yFn,y0n,yXp]at hM
 rw[zWj]
 refine⟨false,fun t=>t=yCv ⟨al,ai,ah⟩ ⟨bl,bi,bh⟩,Cv.cnd.mk (fun e=>⟨true,rfl,?_,k0q⟩) (fun e=>⟨_,rfl,?_,k0q⟩),?_⟩
 ·have e:ai≠bi:=by simpa using e
  rw[yCv];simp[e]
 ·have e:ai=bi:=by simpa using e
  rw[yCv,e];cases ah<;>cases bh<;>simp
 rintro _ rfl
 refine Cv.cnd.mk (fun e=>⟨bi,rfl,rfl,rfl,fun l=>l=z8j ⟨bl,bi,bh⟩,Cv.cnd.mk (fun e2=>⟨lv0,rfl,rfl,rfl,?_,k0q⟩) (fun e2=>⟨bi,rfl,rfl,rfl,?_,k0q⟩),?_⟩) (fun e=> ?_)
 ·rw[z8j,yWs (by simpa using e2)]
 ·rw[z8j,yWt (by simpa using e2)]
 ·rintro _ rfl
  have hsd:jT n s ⟨al,ai,ah⟩ ⟨bl,bi,bh⟩=M++[⟨n,s,z8j ⟨bl,bi,bh⟩,true⟩]:=by rw[jT,yWt e,hM]
  rw[hsd]
  exact⟨⟨_,⟨n,s,z8j ⟨bl,bi,bh⟩,true⟩⟩,rfl,rfl,rfl,rfl,rfl,rfl,rfl,rfl,ok1,fun _ _=>⟨(),tl1 _ _ _,tl2 _ _ _ _,trivial⟩⟩
 ·have hsd:jT n s ⟨al,ai,ah⟩ ⟨bl,bi,bh⟩=M:=by rw[jT,yWs (by simp[e]),hM,yXp]
  rw[hsd]
  exact⟨(),rfl,rfl,trivial⟩
theorem yBl:dsideC.ok Tryz.prog 62:=okw mixed (gokc yFf (gokc zQp gok0)) 0 (fun _=>yQb) (fun i=>yRf i) [] Tryz.func62 yNo
theorem ySq (i:DvI) (h:diffC.cnd i):yKi i:=by
 obtain⟨hvw,⟨s1,s2⟩,l1,l2,hn⟩:i.v.length=i.w.length∧(-4000000000000000000≤i.seq∧i.seq≤4000000000000000000)∧Vw.levs i.v≤100000000∧Vw.levs i.w≤100000000∧i.v.length≤1000000:=h
 have hmx:(i.v.map zC).length=i.v.length:=yWu _
 have hmy:(i.w.map zC).length=i.w.length:=yWu _
 unfold yKi gM fD fN m4 eM mW cM Vtopst403 zFe dI
 rw[hmx,hmy]
 refine Cv.cnd.mk (fun c=> ?_) (fun _=> ?_)
 ·have c:(i.v.length:Int)≠i.w.length:=by simpa using c
  omega
 refine⟨0,rfl,by simp[jY],by simp[jY,u6],fun j=>j≤i.v.length,fun j=>i.v.length-j,yYc _,fun j hj=>zK (fun e=> ?_) (fun e=> ?_)⟩
 ·have hj:j≤i.v.length:=hj
  obtain⟨a,ha⟩:=zW (l:=i.v) (i:=j) (by omega)
  obtain⟨b,hb⟩:=zW (l:=i.w) (i:=j) (by omega)
  have hd:=yLy i.v i.w j hj (by omega)
  have t1:=eV ha
  have t2:=eV hb
  have u1:=z2j i.v (j+1)
  have u2:=z2j i.w (j+1)
  have q1:=z0g j 1 a.1 b.1
  have hvt:=zSe 0 j ha hb
  rw[yXu]at hvt
  have bdv:(0:Int)≤j∧(j:Int)<(i.v.length:Nat):=⟨by omega,e⟩
  have bdw:(0:Int)≤j∧(j:Int)<(i.w.length:Nat):=⟨by omega,by omega⟩
  obtain⟨D,hD⟩:∃D:Dfr,D=Dfr.add ⟨i.seq,[]⟩ (jY 0 (i.v.take j) (i.w.take j)):=⟨_,rfl⟩
  have hDs:D.seq=i.seq+((jY 0 (i.v.take j) (i.w.take j)).length:Nat):=by rw[hD];rfl
  have hDo:D.out=[]++u6 i.seq (jY 0 (i.v.take j) (i.w.take j)):=by rw[hD];rfl
  have hDl:D.out.length=(jY 0 (i.v.take j) (i.w.take j)).length:=by rw[hDo,yZn,zDo]
  refine⟨⟨by decide,by decide⟩,1,rfl,bdv,_,_,_,_,_,(z8n ha).2.1,bdw,_,_,_,_,_,(z8n hb).2.1,⟨D,j,1,a.1,b.1⟩,rfl,rfl,rfl,rfl,rfl,rfl,rfl,rfl,rfl,rfl,rfl,rfl,hDs,by rw[hDo],⟨by dsimp only;omega,by dsimp only;omega,by dsimp only;omega⟩,fun _ _=>⟨⟨by decide,by decide⟩,2,rfl,bdv,_,_,_,_,_,(z8n ha).2.2,bdw,_,_,_,_,_,(z8n hb).2.2,⟨D.add (jT j 1 a.1 b.1),j,2,a.2,b.2⟩,rfl,rfl,rfl,rfl,rfl,rfl,rfl,rfl,rfl,rfl,rfl,rfl,rfl,rfl,⟨by simp only[Dfr.add];omega,by simp only[Dfr.add];omega,by simp only[Dfr.add];rw[yWx,zDo];omega⟩,fun _ _=>⟨j+1,wjn (by omega),?_,?_,by dsimp only;omega,by dsimp only;omega,k0q⟩⟩⟩
  ·show(Dfr.add ⟨i.seq,[]⟩ (jY 0 (i.v.take (j+1)) (i.w.take (j+1)))).seq=((D.add (jT j 1 a.1 b.1)).add (jT j 2 a.2 b.2)).seq
   rw[hvt,hD,zIq,zIq]
  ·show(Dfr.add ⟨i.seq,[]⟩ (jY 0 (i.v.take (j+1)) (i.w.take (j+1)))).out.map msgE=((D.add (jT j 1 a.1 b.1)).add (jT j 2 a.2 b.2)).out.map msgE
   rw[hvt,hD,zIq,zIq]
 ·have hj:j≤i.v.length:=hj
  rw[yXk (by omega),yXk (by omega)]
  exact⟨(),rfl,trivial⟩
theorem z9h:diffC.ok Tryz.prog 18:=okw mixed (gokc yBl gok0) 1 (fun _=>[]) (fun i=>yRv i) [] Tryz.func18 ySq
open Go Cv Go.Proofs
open Go Cv Go.Proofs
@[reducible] def wK:Nat:=44
@[reducible] def tLv:Nat:=41
def clVwC:Con:=con1 (List (List D)) (fun l=>[roV 10 l]) (fun _=>[]) (fun l=>l.length*112≤140737488355328) (fun _=> .own 0) (fun l=>[.own wK 10 l])
def clLvC:Con:=con1 (List (List D)) (fun l=>[roV 3 l]) (fun _=>[]) (fun l=>l.length*24≤140737488355328) (fun _=> .own 0) (fun l=>[.own tLv 3 l])
structure CpI where
 v:Vw
 n:Nat
 s:Bool
def yWn (s:Bool) (p:Sd×Sd):Sd:=bif s then p.2 else p.1
def z1o (v:Vw) (n:Nat) (s:Bool):Sd:=match v[n]? with
 |some p=>yWn s p
 |none=>⟨[],lv0,false⟩
def CpI.f (i:CpI):Nat:=bif i.s then 5 else 0
def CpI.lv (i:CpI):List (List D):=(z1o i.v i.n i.s).levels.map lvE
def fcopyC:Con:=con1 CpI (fun i=>[vwV i.v]) (fun _=>[]) (fun i=>i.n<i.v.length∧i.v.length≤1000000∧kE i.v) (fun _=> .agg [.own 0])
 (fun i=>[.hol true wK 10 (i.v.map zC) i.n i.f true (some 1),.own tLv 3 i.lv])
def yNp (i:CpI):List SAnn:=[
 {ι:=Nat,slots:=fun j=>[(1,.nm 0 0),(12,zA j)],rows:=fun j=>[.cells [.own 1] 34,.hol false wK 10 (i.v.map zC) i.n i.f (decide (i.n<j)) (some 2),.own tLv 3 (bif decide (i.n<j)then i.lv else[])]},
 {ι:=Unit,slots:=fun _=>[],rows:=fun _=>[],un:=3}]
def MsgM.fine (k:Int) (m:MsgM):Int:=if m.inst<0∨k≤m.inst then 20 else if m.side≠1∧m.side≠2 then 21 else if(m.qty<0∨m.count<0)∨¬(m.qty=0↔m.count=0)then 24 else 0
structure FnI where
 k:Int
 m:MsgM
def ffineC:Con:=con1 FnI (fun i=>[zA i.k,zZx i.m]) (fun _=>[]) (fun _=>True) (fun i=>zA (i.m.fine i.k)) (fun _=>[])
structure IxI where
 L:List Lv
 m:MsgM
def oI:Option Nat→Int
 |some k=>k
 |none=> -1
def z7v (m:MsgM):AObj:= .cells [zA m.seq,zA m.inst,zA m.side,zA m.price,zA m.qty,zA m.count,z7 m.implied] z6u
def ixA:List SAnn:=[{ι:=Nat,slots:=fun k=>[(8,zA k)],rows:=fun _=>[]}]
def ixPC:Con:=con1 IxI (fun i=>[.own 0,.fn 55 [] [.nm 1 0]]) (fun i=>[.own tLv 3 (i.L.map lvE),z7v i.m]) (fun i=>i.L.length≤1099511627776) (fun i=>zA (oI (i.L.findIdx? fun y=>decide (y.price=i.m.price)))) (fun i=>[.own tLv 3 (i.L.map lvE),z7v i.m])
def ixBC:Con:=con1 IxI (fun i=>[.own 0,.fn 57 [] [.nm 1 0]]) (fun i=>[.own tLv 3 (i.L.map lvE),z7v i.m]) (fun i=>i.L.length≤1099511627776) (fun i=>zA (oI (i.L.findIdx? fun y=>xA i.m.side i.m.price y.price))) (fun i=>[.own tLv 3 (i.L.map lvE),z7v i.m])
def delLC:Con:=yIr tLv 3
def insLC:Con:=z9t tLv 3 24
structure ApI where
 v:Vw
 m:MsgM
def MsgM.lv (m:MsgM):Lv:=⟨m.price,m.qty,m.count⟩
def lF (s:Int) (x:Sd) (m:MsgM):Sd:=if m.implied=true then(if 0<m.qty then⟨x.levels,m.lv,true⟩else⟨x.levels,lv0,false⟩)else⟨kJ s x.levels m.lv,x.imp,x.has⟩
def apV (v:Vw) (m:MsgM):Vw:=v.modify m.inst.toNat fun p=>if m.side=1 then(lF 1 p.1 m,p.2)else(p.1,lF 2 p.2 m)
def yTc (s:Int):Con:=con1 ApI (fun i=>[vwV i.v,.agg [zA i.m.seq,zA i.m.inst,zA s,zA i.m.price,zA i.m.qty,zA i.m.count,z7 i.m.implied]]) (fun _=>[])
 (fun i=>i.m.side=s∧i.m.fine i.v.length=0∧i.v.length≤1000000∧kE i.v) (fun i=> .tup [vwV (apV i.v i.m),zA 0]) (fun _=>[])
def ap1C:Con:=yTc 1
def ap2C:Con:=yTc 2
def applyC:Con:=con1 ApI (fun i=>[vwV i.v,zZx i.m]) (fun _=>[]) (fun i=>i.m.fine i.v.length=0∧i.v.length≤1000000∧kE i.v) (fun i=> .tup [vwV (apV i.v i.m),zA 0]) (fun _=>[])
end Sx
