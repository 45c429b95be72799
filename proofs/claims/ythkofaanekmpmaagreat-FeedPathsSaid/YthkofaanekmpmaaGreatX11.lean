/- Texts of ours, one behind the other: a walk that the kernel reckons, and contracts of functions. No condition. -/
import Derived.Test.YthkofaanekmpmaaGreatX10
namespace Sx
set_option linter.unusedVariables false
set_option linter.unusedSimpArgs false
set_option maxRecDepth 100000
open Go Cv Go.Proofs
open Go Cv Go.Proofs
open Go Cv Go.Proofs
open Go Cv Go.Proofs
open Go Cv Go.Proofs
def upd (f:Int→Int) (k v:Int):Int→Int:=fun x=>if x=k then v else f x
def one (r:Rep) (m:Int):Int:=if r.kind=3∧r.inst=m then(if r.side=1 then r.qty else-r.qty)else 0
def vq (p:Prd) (k s q m:Int):Int:=
 if(p.legs k).2.2=true then(if(p.legs k).1=m then(if s=1 then q else-q)else 0)-(if(p.legs k).2.1=m then(if s=1 then q else-q)else 0)
 else if k=m then(if s=1 then q else-q)else 0
open Go Cv Go.Proofs
theorem z1w {s:Int}:∀{F:List zJ},zVd s F→fP s (grp F)
 |[],_=>List.Pairwise.nil
 |o::F,h=>by
  rw[zVd,yYk]at h
  have ih:=z1w h.2
  rw[grp]
  cases hg:grp F with
  |nil=>exact List.pairwise_singleton _ _
  |cons v vs=>
   rw[hg]at ih
   dsimp only
   have hv:=ih
   rw[fP,yYk]at hv
   by_cases e:v.price=o.price
   ·rw[yWl e]
    exact yYk.2 ⟨fun w hw=>hv.1 w hw,hv.2⟩
   ·rw[yWk e]
    obtain⟨o',r,e2,e3⟩:=zNo hg
    have hb:btr s o.price v.price=true:=by
     rw[← e3]
     refine zIc (h.1 o' (by rw[e2];exact yWr)) (by rw[e3];exact e)
    refine yYk.2 ⟨fun w hw=> ?_,ih⟩
    rcases yWz.1 hw with rfl|hw
    ·exact hb
    ·exact nR hb (hv.1 w hw)
theorem yGp {p:Prd} {B:List (List zJ)} (h:BWf p B) {k:Nat} {L:List zJ} (hL:B[k]? =some L) {s:Int} (hs:s=1∨s=2):fP s (uS L s)∧yFq (uS L s):=
 ⟨z1w (h.srt k L hL s hs),fun l hl=>(z2l (fun o ho=>(h.od k L hL).1 o (yYp.1 ho).1) hl).1⟩
open Go Cv Go.Proofs
open Classical
def fS (l:List Quote) (b:Quote):Int×Int:=l.foldl (fun a q=>if q.price=b.price then(if q.qty>a.1 then q.qty else a.1,a.2+1)else a) (b.qty,0)
def qB (l:List Quote) (s:Int):Lv×Bool:=if(zU l s).2 then(⟨(zU l s).1.price,(fS l (zU l s).1).1,(fS l (zU l s).1).2⟩,true)else(⟨0,0,0⟩,false)
def showC:Con:=con1 BsI (fun i=>[roV 6 (i.l.map zL),zA i.s]) (fun _=>[]) (fun i=>(i.s=1∨i.s=2)∧i.l.length≤1000000) (fun i=> .tup [zA (qB i.l i.s).1.price,zA (qB i.l i.s).1.qty,zA (qB i.l i.s).1.count,yG (qB i.l i.s).2]) (fun _=>[])
def yRb (i:BsI):List SAnn:=[{ι:=Nat,slots:=fun k=>[(8,.nm 0 0),(10,zA (fS (i.l.take k) (zU i.l i.s).1).1),(11,zA (fS (i.l.take k) (zU i.l i.s).1).2),(26,zA k)],rows:=fun _=>[.cells (zRw (zU i.l i.s).1).cl 259]}]
def zCw (p:Prd) (B:List (List zJ)) (n:Nat) (s:Int):Sd:=⟨uS (B.getD n []) s,(qB (xR ⟨p,B.map qU,n⟩ s) s).1,(qB (xR ⟨p,B.map qU,n⟩ s) s).2⟩
def qX (p:Prd) (B:List (List zJ)):Vw:=(List.range p.count).map fun n=>(zCw p B n 1,zCw p B n 2)
structure LkI where
 s:MSt
 p:Prd
 B:List (List zJ)
def lookC:Con:=con1 LkI (fun i=>[prdV i.p,.nm 0 0]) (fun i=>[zE i.s]) (fun i=>i.s.Rep i.p i.B∧BOk i.p i.B) (fun i=>vwV (qX i.p i.B)) (fun i=>[zE i.s])
def ySr (i:LkI):List SAnn:=[
 {ι:=Nat,slots:=fun j=>[(5,.nm 0 0),(6,.own 2),(27,zA j)],rows:=fun j=>[.cells [.own 1] 34,.own 44 10 (((qX i.p i.B).take j).map zB),.fro 6 ((i.B.map qU).map zX)]},
 {ι:=Unit,slots:=fun _=>[],rows:=fun _=>[],un:=3}]
noncomputable def yDa (a b:List Lv):Bool:=decide (a=b)
noncomputable def z7c (a b:Sd):Bool:=decide (a=b)
noncomputable def zGb (a b:Vw):Bool:=decide (a=b)
structure yJs where
 x:List Lv
 y:List Lv
noncomputable def eqLvC:Con:=con1 yJs (fun i=>[roV 3 (i.x.map lvE),roV 3 (i.y.map lvE)]) (fun _=>[]) (fun i=>i.x.length≤1099511627776∧i.y.length≤1099511627776) (fun i=>yG (yDa i.x i.y)) (fun _=>[])
def yTw:List SAnn:=[{ι:=Nat,slots:=fun k=>[(13,zA k)],rows:=fun _=>[]}]
def yTd:List (Nat×SAnn):=[(24,bj 24)]
structure yEp where
 a:Sd
 b:Sd
noncomputable def fsdC:Con:=con1 yEp (fun i=>[sdV i.a,sdV i.b]) (fun _=>[]) (fun i=>i.a.levels.length≤1099511627776∧i.b.levels.length≤1099511627776) (fun i=>yG (z7c i.a i.b)) (fun _=>[])
structure zJo where
 v:Vw
 w:Vw
noncomputable def eqFC:Con:=con1 zJo (fun i=>[roV 10 (i.v.map zB),roV 10 (i.w.map zB),.fn 64 [] []]) (fun _=>[]) (fun i=>qF i.v∧qF i.w) (fun i=>yG (zGb i.v i.w)) (fun _=>[])
def yUx:List SAnn:=[{ι:=Nat,slots:=fun k=>[(17,zA k)],rows:=fun _=>[]}]
def yWg:List (Nat×SAnn):=[(28,bj 30)]
noncomputable def fsameC:Con:=con1 zJo (fun i=>[vwV i.v,vwV i.w]) (fun _=>[]) (fun i=>qF i.v∧qF i.w) (fun i=>yG (zGb i.v i.w)) (fun _=>[])
def xW (m:MsgM):List D:=[.v (.int .i64 m.seq),.v (.int .i64 m.inst),.v (.int .i64 m.side),.v (.int .i64 m.price),.v (.int .i64 m.qty),.v (.int .i64 m.count),.v (.bool m.implied)]
def z7r (m:MsgM):V:= .agg [zA m.seq,zA m.inst,zA m.side,zA m.price,zA m.qty,zA m.count,yG m.implied]
@[reducible] def zNt:Nat:=28
@[reducible] def yPv (l:List MsgM):AObj:= .own zNt 7 (l.map xW)
def wA (seq:Int):List VM→List MsgM
 |[]=>[]
 |m::M=>⟨seq+1,m.inst,m.side,m.l.price,m.l.qty,m.l.count,m.imp⟩::wA (seq+1) M
structure Dfr where
 seq:Int
 out:List MsgM
@[reducible] def DfO (d:Dfr):List AObj:=[.cells [zA d.seq,.own 1] 120,yPv d.out]
@[reducible] def DfP (d:Dfr):List AObj:=[.cells [zA d.seq,.own 2] 120,.gone,yPv d.out]
def Dfr.add (d:Dfr) (M:List VM):Dfr:=⟨d.seq+M.length,d.out++wA d.seq M⟩
@[reducible] def Dfr.ok (d:Dfr) (n:Nat):Prop:= -4611686018427387904≤d.seq∧d.seq+n≤4611686018427387904∧d.out.length+n≤1000000000
structure DtI where
 d:Dfr
 m:VM
def dtellC:Con:=con1 DtI (fun i=>[.nm 0 0,zA i.m.inst,zA i.m.side,lvV i.m.l,yG i.m.imp]) (fun i=>DfO i.d) (fun i=>i.d.ok 1) (fun _=>zLs) (fun i=>DfP (i.d.add [i.m]))
structure DsI where
 d:Dfr
 n:Nat
 s:Int
 a:Sd
 b:Sd
def dsideC:Con:=con1 DsI (fun i=>[.nm 0 0,zA i.n,zA i.s,sdV i.a,sdV i.b]) (fun i=>DfO i.d) (fun i=>i.d.ok (i.a.levels.length+i.b.levels.length+1)) (fun _=>zLs) (fun i=>DfP (i.d.add (y8 i.n i.s i.a i.b)))
structure DsJ where
 x:List Lv
 y:List Lv
 M:List VM
def yRi (i:DsI):List SAnn:=[{ι:=DsJ,slots:=fun j=>[(0,.nm 0 0),(10,roV 3 (j.x.map lvE)),(11,roV 3 (j.y.map lvE))],rows:=fun j=>DfO (i.d.add j.M)}]
def yVq:SAnn:={ι:=Dfr,slots:=fun _=>[(0,.nm 0 0)],rows:=fun d=>DfO d,slots0:=fun _=>[(0,.nm 0 0)],rows0:=fun d=>DfO d}
def lvT (t:Nat):SAnn:={ι:=Lv,slots:=fun _=>[(t,.nm 0 0)],rows:=fun l=>[.cells [zA l.price,zA l.qty,zA l.count] 41],slots0:=fun _=>[(t,.nm 0 0)],rows0:=fun l=>[.cells [zA l.price,zA l.qty,zA l.count] 41]}
def yOd:List (Nat×SAnn):=[(24,bj 41),(36,bj 73),(12,bj 29),(14,yVq),(48,bj 109),(58,lvT 12)]
structure DvI where
 v:Vw
 w:Vw
 seq:Int
def Vw.levs (v:Vw):Nat:=(v.map fun b=>b.1.levels.length+b.2.levels.length).sum
def diffC:Con:=con1 DvI (fun i=>[vwV i.v,vwV i.w,zA i.seq]) (fun _=>[]) (fun i=>i.v.length=i.w.length∧(-4000000000000000000≤i.seq∧i.seq≤4000000000000000000)∧Vw.levs i.v≤100000000∧Vw.levs i.w≤100000000∧i.v.length≤1000000) (fun _=> .own 0) (fun i=>[yPv (wA i.seq (z9 0 i.v i.w))])
def ySv (i:DvI):List SAnn:=[
 {ι:=Nat,slots:=fun j=>[(7,.nm 0 0),(24,zA j)],rows:=fun j=>DfO (Dfr.add ⟨i.seq,[]⟩ (z9 0 (i.v.take j) (i.w.take j)))},
 {ι:=Unit,slots:=fun _=>[],rows:=fun _=>[],un:=3}]
open Go Cv Go.Proofs
def zGm (a:Nat) (b:Nat) (c:BsI) (d:Nat→Prop) (e:Nat→Nat):Prop:=(↑a:Int)=IntKind.i64.wrap ((↑b:Int)+1)∧(zU c.l c.s).fst.price=(zU c.l c.s).fst.price∧(zU c.l c.s).fst.qty=(zU c.l c.s).fst.qty∧(zU c.l c.s).fst.a.inst=(zU c.l c.s).fst.a.inst∧(zU c.l c.s).fst.a.side=(zU c.l c.s).fst.a.side∧(zU c.l c.s).fst.b.inst=(zU c.l c.s).fst.b.inst∧(zU c.l c.s).fst.b.side=(zU c.l c.s).fst.b.side∧d a∧e a<e b∧True
def qP (a:Nat) (b:BsI):=(fS (List.take a b.l) (zU b.l b.s).fst)
def yKb (i:BsI):Prop:=
 ∃(a:BsI),List.map zL a.l=List.map zL i.l∧a.s=i.s∧(dN a)∧∀(b:Unit),True→cnd (!(zU a.l a.s).snd) (∃(c:Unit),(qB i.l i.s).fst.price=0∧(qB i.l i.s).fst.qty=0∧(qB i.l i.s).fst.count=0∧(qB i.l i.s).snd=false∧True) (∃(c:Nat),(qP c i).fst=(zU a.l a.s).fst.qty∧(qP c i).snd=0∧(↑c:Int)=0∧(zU i.l i.s).fst.price=(zU a.l a.s).fst.price∧(zU i.l i.s).fst.qty=(zU a.l a.s).fst.qty∧(zU i.l i.s).fst.a.inst=(zU a.l a.s).fst.a.inst∧(zU i.l i.s).fst.a.side=(zU a.l a.s).fst.a.side∧(zU i.l i.s).fst.b.inst=(zU a.l a.s).fst.b.inst∧(zU i.l i.s).fst.b.side=(zU a.l a.s).fst.b.side∧∃(d:Nat→Prop),∃(e:Nat→Nat),d c∧∀(f:Nat),d f→cnd (decide ((↑f:Int)<(vQ i))) ((0≤(↑f:Int)∧(↑f:Int)<(vQ i))∧∃(g:Int),∃(h:Int),∃(j:Int),∃(k:Int),∃(l:Int),∃(m:Int),zF (List.map zL i.l) (↑f:Int).toNat 0 6=some [dI g,dI h,dI j,dI k,dI l,dI m]∧cnd (g==(zU i.l i.s).fst.price) (∃(n:Nat),((qP n i).fst=if h>(qP f i).fst then h else(qP f i).fst)∧(qP n i).snd=IntKind.i64.wrap ((qP f i).snd+1)∧zGm n f i d e) (∃(n:Nat),(qP n i).fst=(qP f i).fst∧(qP n i).snd=(qP f i).snd∧zGm n f i d e)) (∃(g:Unit),(qB i.l i.s).fst.price=(zU i.l i.s).fst.price∧(qB i.l i.s).fst.qty=(qP f i).fst∧(qB i.l i.s).fst.count=(qP f i).snd∧(qB i.l i.s).snd=true∧True))
def Vlookt296:=(Sx.V.agg [V.d vJ])
def yKs (i:LkI):Prop:=
 ∃(a:Prd),sb a.code=sb i.p.code∧iE a.months=iE i.p.months∧a.tick=i.p.tick∧a.low=i.p.low∧a.high=i.p.high∧a.wide=i.p.wide∧a.rule=i.p.rule∧a.top=i.p.top∧a.least=i.p.least∧a.part=i.p.part∧iE a.settle=iE i.p.settle∧(zY a)∧∀(b:Unit),True→cnd (a.check !=0) (∃(c:Unit),List.map zB (qX i.p i.B)=[]∧zE i.s=zE i.s∧True) (∃(c:MSt),zE c=zE i.s∧(f7 c)∧∀(d:Unit),True→∃(e:Prd),sb e.code=sb i.p.code∧iE e.months=iE i.p.months∧e.tick=i.p.tick∧e.low=i.p.low∧e.high=i.p.high∧e.wide=i.p.wide∧e.rule=i.p.rule∧e.top=i.p.top∧e.least=i.p.least∧e.part=i.p.part∧iE e.settle=iE i.p.settle∧(zY e)∧∀(f:Unit),True→∃(g:Nat),(↑g:Int)=0∧List.map zB (List.take g (qX i.p i.B))=[]∧List.map zX (List.map qU i.B)=List.map zX c.tops∧∃(h:Nat→Prop),∃(j:Nat→Nat),h g∧∀(k:Nat),h k→cnd (decide ((↑k:Int)<(↑e.count:Int))) (((0:Int)≤(0:Int)∧0<(↑(2:Nat):Int))∧∃(l:Int),zF [[dI 1],[dI 2]] (Int.toNat 0) 0 1=some [dI l]∧∃(m:SoI),m.inst=(↑k:Int)∧zD m.sd=l∧zE m.s=zE c∧(m.s.Rep m.p m.B∧m.B.length≤1000)∧∀(n:Unit),True→∃(p:tK),sb p.i.p.code=sb i.p.code∧iE p.i.p.months=iE i.p.months∧p.i.p.tick=i.p.tick∧p.i.p.low=i.p.low∧p.i.p.high=i.p.high∧p.i.p.wide=i.p.wide∧p.i.p.rule=i.p.rule∧p.i.p.top=i.p.top∧p.i.p.least=i.p.least∧p.i.p.part=i.p.part∧iE p.i.p.settle=iE i.p.settle∧List.map zX p.i.tops=List.map zX (List.map qU i.B)∧p.i.inst=(↑k:Int)∧zD p.s=l∧(kC p)∧∀(q:Unit),True→∃(r:BsI),List.map zL r.l=List.map zL (xR p.i (zD p.s))∧r.s=l∧(dN r)∧∀(s:Unit),True→(gZ)∧∃(t:Int),zF [[dI 1],[dI 2]] (IntKind.i64.wrap ((0:Int)+(1:Int))).toNat 0 1=some [dI t]∧∃(u:SoI),u.inst=(↑k:Int)∧zD u.sd=t∧zE u.s=zE m.s∧(u.s.Rep u.p u.B∧u.B.length≤1000)∧∀(v:Unit),True→∃(w:tK),sb w.i.p.code=sb i.p.code∧iE w.i.p.months=iE i.p.months∧w.i.p.tick=i.p.tick∧w.i.p.low=i.p.low∧w.i.p.high=i.p.high∧w.i.p.wide=i.p.wide∧w.i.p.rule=i.p.rule∧w.i.p.top=i.p.top∧w.i.p.least=i.p.least∧w.i.p.part=i.p.part∧iE w.i.p.settle=iE i.p.settle∧List.map zX w.i.tops=List.map zX (List.map qU i.B)∧w.i.inst=(↑k:Int)∧zD w.s=t∧(kC w)∧∀(x:Unit),True→∃(y:BsI),List.map zL y.l=List.map zL (xR w.i (zD w.s))∧y.s=t∧(dN y)∧∀(z:Unit),True→((List.map zB (List.take k (qX i.p i.B))).length+1)*(112:Nat)≤(140737488355328:Nat)∧∃(a_1:Nat),(↑a_1:Int)=IntKind.i64.wrap ((↑k:Int)+1)∧List.map zB (List.take a_1 (qX i.p i.B))=List.map zB (List.take k (qX i.p i.B))++[[D.ro 3 (List.map lvE (bJ m)),dI ((qB r.l r.s).fst.price),dI ((qB r.l r.s).fst.qty),dI ((qB r.l r.s).fst.count),D.v (.bool (qB r.l r.s).snd),D.ro 3 (List.map lvE (bJ u)),dI ((qB y.l y.s).fst.price),dI ((qB y.l y.s).fst.qty),dI ((qB y.l y.s).fst.count),D.v (.bool (qB y.l y.s).snd)]]∧AObj.fro 6 (List.map zX (List.map qU i.B))=AObj.fro 6 (List.map zX (List.map qU i.B))∧h a_1∧j a_1<j k∧zE u.s=zE c∧Sx.AObj.cells Vlookt296.cl 34=Sx.AObj.cells Vlookt296.cl 34∧Sx.AObj.cells [V.d (D.v (Value.string (sb i.p.code))),V.own 1,V.d (dI i.p.tick),V.d (dI i.p.low),V.d (dI i.p.high),V.d (dI i.p.wide),V.d (dI i.p.rule),V.d (dI i.p.top),V.d (dI i.p.least),V.d (dI i.p.part),V.own ((1:Nat)+(1:Nat))] 25=Sx.AObj.cells [V.d (D.v (Value.string (sb i.p.code))),V.own 1,V.d (dI i.p.tick),V.d (dI i.p.low),V.d (dI i.p.high),V.d (dI i.p.wide),V.d (dI i.p.rule),V.d (dI i.p.top),V.d (dI i.p.least),V.d (dI i.p.part),V.own ((1:Nat)+(1:Nat))] 25∧AObj.fro 1 (iE i.p.settle)=AObj.fro 1 (iE i.p.settle)∧AObj.fro 1 (iE i.p.months)=AObj.fro 1 (iE i.p.months)) (∃(l:Unit),List.map zB (qX i.p i.B)=List.map zB (List.take k (qX i.p i.B))∧zE i.s=zE c∧True))
def yKd (i:yJs):Prop:=
 cnd ((↑(List.map lvE i.x).length:Int) !=(↑(List.map lvE i.y).length:Int)) (∃(a:Unit),yDa i.x i.y=false∧True) (∃(a:Nat),(↑a:Int)=0∧∃(b:Nat→Prop),∃(c:Nat→Nat),b a∧∀(d:Nat),b d→cnd (decide ((↑d:Int)<(↑(List.map lvE i.x).length:Int))) (∃(e:Bool),∃(f:Bool→Prop),((0≤(↑d:Int)∧(↑d:Int)<(↑(List.map lvE i.x).length:Int))∧∃(g:Int),∃(h:Int),∃(j:Int),zF (List.map lvE i.x) (↑d:Int).toNat 0 3=some [dI g,dI h,dI j]∧(0≤(↑d:Int)∧(↑d:Int)<(↑(List.map lvE i.y).length:Int))∧∃(k:Int),∃(l:Int),∃(m:Int),zF (List.map lvE i.y) (↑d:Int).toNat 0 3=some [dI k,dI l,dI m]∧∃(n:Bool),n=!(g==k && (h==l && (j==m && true)))∧f n∧True)∧∀(g:Bool),f g→cnd g (∃(h:Unit),yDa i.x i.y=false∧True) (jK d b c)) (∃(e:Unit),yDa i.x i.y=true∧True))
def yRn (i:yEp):Prop:=
 ∃(a:yJs),List.map lvE a.x=List.map lvE i.a.levels∧List.map lvE a.y=List.map lvE i.b.levels∧(a.x.length≤1099511627776∧a.y.length≤1099511627776)∧∀(b:Unit),True→cnd (yDa a.x a.y) (cnd (i.a.imp.price==i.b.imp.price && (i.a.imp.qty==i.b.imp.qty && (i.a.imp.count==i.b.imp.count && true))) (∃(c:Unit),z7c i.a i.b=(i.a.has==i.b.has)∧True) (∃(c:Unit),z7c i.a i.b=false∧True)) (∃(c:Unit),z7c i.a i.b=false∧True)
def zTs (a:Bool→Prop) (b:Bool) (c:List (List D)) (d:List (List D)) (e:Int) (f:Int) (g:Int) (h:Bool) (j:Int) (k:Int) (l:Int) (m:Bool) (n:List (List D)) (p:List (List D)) (q:Int) (r:Int) (s:Int) (t:Bool) (u:Int) (v:Int) (w:Int) (x:Bool):Prop:=a b∧AObj.fro 3 c=AObj.fro 3 c∧AObj.fro 3 d=AObj.fro 3 d∧Sx.AObj.cells [V.own ((0:Nat)+(0:Nat)+(1:Nat)+(1:Nat)+(1:Nat)+(1:Nat)),V.d (dI e),V.d (dI f),V.d (dI g),V.d (D.v (.bool h)),V.own ((0:Nat)+(0:Nat)+(1:Nat)+(1:Nat)+(1:Nat)+(1:Nat)+1),V.d (dI j),V.d (dI k),V.d (dI l),V.d (D.v (.bool m))] 44=Sx.AObj.cells [V.own ((0:Nat)+(0:Nat)+(1:Nat)+(1:Nat)+(1:Nat)+(1:Nat)),V.d (dI e),V.d (dI f),V.d (dI g),V.d (D.v (.bool h)),V.own ((0:Nat)+(0:Nat)+(1:Nat)+(1:Nat)+(1:Nat)+(1:Nat)+1),V.d (dI j),V.d (dI k),V.d (dI l),V.d (D.v (.bool m))] 44∧AObj.fro 3 n=AObj.fro 3 n∧AObj.fro 3 p=AObj.fro 3 p∧Sx.AObj.cells [V.own ((0:Nat)+(0:Nat)+1),V.d (dI q),V.d (dI r),V.d (dI s),V.d (D.v (.bool t)),V.own ((0:Nat)+(0:Nat)+(1:Nat)+(1:Nat)),V.d (dI u),V.d (dI v),V.d (dI w),V.d (D.v (.bool x))] 44=Sx.AObj.cells [V.own ((0:Nat)+(0:Nat)+1),V.d (dI q),V.d (dI r),V.d (dI s),V.d (D.v (.bool t)),V.own ((0:Nat)+(0:Nat)+(1:Nat)+(1:Nat)),V.d (dI u),V.d (dI v),V.d (dI w),V.d (D.v (.bool x))] 44
def yUc (i:zJo):Prop:=
 cnd ((↑(List.map zB i.v).length:Int) !=(↑(List.map zB i.w).length:Int)) (∃(a:Unit),zGb i.v i.w=false∧True) (∃(a:Nat),(↑a:Int)=0∧∃(b:Nat→Prop),∃(c:Nat→Nat),b a∧∀(d:Nat),b d→cnd (decide ((↑d:Int)<(↑(List.map zB i.v).length:Int))) ((0≤(↑d:Int)∧(↑d:Int)<(↑(List.map zB i.v).length:Int))∧∃(e:List (List D)),∃(f:Int),∃(g:Int),∃(h:Int),∃(j:Bool),∃(k:List (List D)),∃(l:Int),∃(m:Int),∃(n:Int),∃(p:Bool),zF (List.map zB i.v) (↑d:Int).toNat 0 10=some [D.ro 3 e,dI f,dI g,dI h,D.v (.bool j),D.ro 3 k,dI l,dI m,dI n,D.v (.bool p)]∧(0≤(↑d:Int)∧(↑d:Int)<(↑(List.map zB i.w).length:Int))∧∃(q:List (List D)),∃(r:Int),∃(s:Int),∃(t:Int),∃(u:Bool),∃(v:List (List D)),∃(w:Int),∃(x:Int),∃(y:Int),∃(z:Bool),zF (List.map zB i.w) (↑d:Int).toNat 0 10=some [D.ro 3 q,dI r,dI s,dI t,D.v (.bool u),D.ro 3 v,dI w,dI x,dI y,D.v (.bool z)]∧∃(a_1:Bool),∃(a_2:Bool→Prop),(∃(a_3:yEp),List.map lvE a_3.a.levels=e∧a_3.a.imp.price=f∧a_3.a.imp.qty=g∧a_3.a.imp.count=h∧a_3.a.has=j∧List.map lvE a_3.b.levels=q∧a_3.b.imp.price=r∧a_3.b.imp.qty=s∧a_3.b.imp.count=t∧a_3.b.has=u∧(a_3.a.levels.length≤1099511627776∧a_3.b.levels.length≤1099511627776)∧∀(a_4:Unit),True→cnd (z7c a_3.a a_3.b) (∃(a_5:yEp),List.map lvE a_5.a.levels=k∧a_5.a.imp.price=l∧a_5.a.imp.qty=m∧a_5.a.imp.count=n∧a_5.a.has=p∧List.map lvE a_5.b.levels=v∧a_5.b.imp.price=w∧a_5.b.imp.qty=x∧a_5.b.imp.count=y∧a_5.b.has=z∧(a_5.a.levels.length≤1099511627776∧a_5.b.levels.length≤1099511627776)∧∀(a_6:Unit),True→∃(a_7:Bool),a_7=!z7c a_5.a a_5.b∧zTs a_2 a_7 v q r s t u w x y z k e f g h j l m n p) (∃(a_5:Bool),a_5=!false∧zTs a_2 a_5 v q r s t u w x y z k e f g h j l m n p))∧∀(a_3:Bool),a_2 a_3→cnd a_3 (∃(a_4:Unit),zGb i.v i.w=false∧True) (jK d b c)) (∃(e:Unit),zGb i.v i.w=true∧True))
def wR (a:Sd×Sd):Prop:=a.fst.levels.length≤1099511627776∧a.snd.levels.length≤1099511627776
def gD (a:zJo):Prop:=(List.length a.v≤1099511627776∧∀(b:Sd×Sd),b∈a.v→wR b)∧List.length a.w≤1099511627776∧∀(b:Sd×Sd),b∈a.w→wR b
def yDp (i:zJo):Prop:=
 ∃(a:zJo),List.map zB a.v=List.map zB i.v∧List.map zB a.w=List.map zB i.w∧(gD a)∧∀(b:Unit),True→∃(c:Unit),zGb i.v i.w=zGb a.v a.w∧True
def yBn (i:DtI):Prop:=
 True∧((List.map xW i.d.out).length+1)*(56:Nat)≤(140737488355328:Nat)∧∃(a:Unit),i.d.seq+(↑(1:Nat):Int)=IntKind.i64.wrap (i.d.seq+1)∧List.map xW (i.d.out++wA i.d.seq [i.m])=List.map xW i.d.out++[[dI (IntKind.i64.wrap (i.d.seq+1)),dI (↑i.m.inst:Int),dI i.m.side,dI i.m.l.price,dI i.m.l.qty,dI i.m.l.count,D.v (.bool i.m.imp)]]∧True
def kL (a:DsI) (b:DsJ):=(a.d.out++wA a.d.seq b.M)
def nC (a:DsI):Prop:=Sx.AObj.cells [V.own ((2:Nat)+(1:Nat)+1),V.d (dI a.b.imp.price),V.d (dI a.b.imp.qty),V.d (dI a.b.imp.count),V.d (D.v (.bool a.b.has))] 43=Sx.AObj.cells [V.own ((2:Nat)+(1:Nat)+1),V.d (dI a.b.imp.price),V.d (dI a.b.imp.qty),V.d (dI a.b.imp.count),V.d (D.v (.bool a.b.has))] 43∧AObj.fro 3 (List.map lvE a.b.levels)=AObj.fro 3 (List.map lvE a.b.levels)∧Sx.AObj.cells [V.own 2,V.d (dI a.a.imp.price),V.d (dI a.a.imp.qty),V.d (dI a.a.imp.count),V.d (D.v (.bool a.a.has))] 43=Sx.AObj.cells [V.own 2,V.d (dI a.a.imp.price),V.d (dI a.a.imp.qty),V.d (dI a.a.imp.count),V.d (D.v (.bool a.a.has))] 43∧AObj.fro 3 (List.map lvE a.a.levels)=AObj.fro 3 (List.map lvE a.a.levels)
def zEk (a:DsI) (b:DsJ) (c:DsJ):Prop:=Sx.AObj.cells (vK (fN ((2:Nat)+(1:Nat)+(1:Nat)+(1:Nat)+1) [((1:Nat),(1:Nat)),((0:Nat),(0:Nat))] 0 (DfO (a.d.add b.M))) [zA (a.d.seq+(↑c.M.length:Int)),V.own 1]) (120:TypeId)=Sx.AObj.cells (vK (fN ((2:Nat)+(1:Nat)+(1:Nat)+(1:Nat)+1) [((1:Nat),(1:Nat)),((0:Nat),(0:Nat))] 0 (DfO (a.d.add b.M))) [zA (a.d.seq+(↑c.M.length:Int)),V.own 1]) (120:TypeId)∧AObj.own zNt 7 (List.map xW (kL a c))=AObj.own zNt 7 (List.map xW (kL a c))∧nC a
def m8 (a:Bool→Prop) (b:Bool) (c:DsI) (d:DsJ) (e:DsJ):Prop:=a b∧zEk c d e
def zGi (a:DsI) (b:Int) (c:Int) (d:Bool→Prop) (e:DsJ) (f:DsJ):Prop:=∃(g:I3),g.side=a.s∧g.x=b∧g.y=c∧True∧∀(h:Unit),True→∃(j:Bool),j=xD g.side g.x g.y∧m8 d j a e f
def eX (a:Bool→Prop) (b:DsI) (c:DsJ) (d:DsJ):Prop:=∃(e:Bool),e=true∧m8 a e b c d
def zFh (a:Lv→Prop) (b:Lv) (c:DsI) (d:DsJ) (e:DsJ):Prop:=a b∧zEk c d e
def zFo (a:DsJ→Prop) (b:DsJ) (c:DsJ→Nat) (d:DsJ) (e:DsI):Prop:=a b∧c b<c d∧nC e
def zEo (a:DsI) (b:DsJ) (c:DtI) (d:DsJ→Prop) (e:DsJ→Nat) (f:DsJ):Prop:=a.d.seq+(↑b.M.length:Int)=c.d.seq+(↑(1:Nat):Int)∧List.map xW (kL a b)=List.map xW (c.d.out++wA c.d.seq [c.m])∧zFo d b e f a
def zEv (a:Dfr→Prop) (b:Dfr) (c:DsI):Prop:=a b∧nC c
def bS (a:DtI):Prop:=(-4611686018427387904)≤a.d.seq∧a.d.seq+(↑(1:Nat):Int)≤4611686018427387904∧a.d.out.length+(1:Nat)≤(1000000000:Nat)
def dM (a:DsJ):=(↑(List.map lvE a.y).length:Int)
def f9 (a:DsJ):Prop:=(0:Int)≤(0:Int)∧0<(dM a)
def gE (a:DsJ):=(↑(List.map lvE a.x).length:Int)
def aJ (a:DsJ):Prop:=(0:Int)≤(0:Int)∧0<(gE a)
def fW (a:DsI):=(a.d.out++wA a.d.seq (y8 a.n a.s a.a a.b))
def dD (a:DsI):=(↑(y8 a.n a.s a.a a.b).length:Int)
def z9q (i:DsI):Prop:=
 ∃(a:DsJ),List.map lvE a.x=List.map lvE i.a.levels∧List.map lvE a.y=List.map lvE i.b.levels∧i.d.seq+(↑a.M.length:Int)=i.d.seq∧List.map xW (kL i a)=List.map xW i.d.out∧∃(b:DsJ→Prop),∃(c:DsJ→Nat),b a∧∀(d:DsJ),b d→cnd (decide (IntKind.i64.wrap ((gE d)+(dM d))>0)) (∃(e:Bool),∃(f:Bool→Prop),cnd ((dM d)==0) (eX f i a d) (cnd (decide ((gE d)>0)) ((aJ d)∧∃(g:Int),zF (List.map lvE d.x) (Int.toNat 0) ((0:Nat)+(0:Nat)) 1=some [dI g]∧(f9 d)∧∃(h:Int),zF (List.map lvE d.y) (Int.toNat 0) ((0:Nat)+(0:Nat)) 1=some [dI h]∧zGi i g h f a d) (∃(g:Bool),g=false∧m8 f g i a d))∧∀(g:Bool),f g→cnd g ((aJ d)∧∃(h:Int),zF (List.map lvE d.x) (Int.toNat 0) ((0:Nat)+(0:Nat)) 1=some [dI h]∧∃(j:DtI),(↑j.m.inst:Int)=(↑i.n:Int)∧j.m.side=i.s∧j.m.l.price=h∧j.m.l.qty=0∧j.m.l.count=0∧j.m.imp=false∧j.d.seq=i.d.seq+(↑d.M.length:Int)∧List.map xW j.d.out=List.map xW (kL i d)∧(bS j)∧∀(k:Unit),True→((0:Int)≤(1:Int)∧1≤(gE d))∧∃(l:DsJ),List.map lvE l.x=List.drop (Int.toNat 1) (List.map lvE d.x)∧List.map lvE l.y=List.map lvE d.y∧zEo i l j b c d) (∃(h:Bool),∃(j:Bool→Prop),cnd ((gE d)==0) (eX j i a d) ((f9 d)∧∃(k:Int),zF (List.map lvE d.y) (Int.toNat 0) ((0:Nat)+(0:Nat)) 1=some [dI k]∧(aJ d)∧∃(l:Int),zF (List.map lvE d.x) (Int.toNat 0) ((0:Nat)+(0:Nat)) 1=some [dI l]∧zGi i k l j a d)∧∀(k:Bool),j k→cnd k ((f9 d)∧∃(l:Int),∃(m:Int),∃(n:Int),zF (List.map lvE d.y) (Int.toNat 0) 0 3=some [dI l,dI m,dI n]∧∃(p:DtI),(↑p.m.inst:Int)=(↑i.n:Int)∧p.m.side=i.s∧p.m.l.price=l∧p.m.l.qty=m∧p.m.l.count=n∧p.m.imp=false∧p.d.seq=i.d.seq+(↑d.M.length:Int)∧List.map xW p.d.out=List.map xW (kL i d)∧(bS p)∧∀(q:Unit),True→((0:Int)≤(1:Int)∧1≤(dM d))∧∃(r:DsJ),List.map lvE r.x=List.map lvE d.x∧List.map lvE r.y=List.drop (Int.toNat 1) (List.map lvE d.y)∧zEo i r p b c d) (∃(l:Dfr),l.seq=i.d.seq+(↑d.M.length:Int)∧List.map xW l.out=List.map xW (kL i d)∧∃(m:Dfr→Prop),(∃(n:Bool),∃(p:Bool→Prop),((aJ d)∧∃(q:Int),∃(r:Int),∃(s:Int),zF (List.map lvE d.x) (Int.toNat 0) 0 3=some [dI q,dI r,dI s]∧(f9 d)∧∃(t:Int),∃(u:Int),∃(v:Int),zF (List.map lvE d.y) (Int.toNat 0) 0 3=some [dI t,dI u,dI v]∧∃(w:Bool),w=!(q==t && (r==u && (s==v && true)))∧p w∧Sx.AObj.cells (vK (zKc ((2:Nat)+(1:Nat)+(1:Nat)+(1:Nat)+(1:Nat)+(2:Nat)+(0:Nat)+(0:Nat)) (jT [((1:Nat),(2:Nat)+(1:Nat)+(1:Nat)+(1:Nat)+1+((0:Nat)+(1:Nat))),((0:Nat),(0:Nat))] 0 (DfO l)) 2) [zA l.seq,V.own 1]) (120:TypeId)=Sx.AObj.cells (vK (zKc ((2:Nat)+(1:Nat)+(1:Nat)+(1:Nat)+(1:Nat)+(2:Nat)+(0:Nat)+(0:Nat)) (jT [((1:Nat),(2:Nat)+(1:Nat)+(1:Nat)+(1:Nat)+1+((0:Nat)+(1:Nat))),((0:Nat),(0:Nat))] 0 (DfO l)) 2) [zA l.seq,V.own 1]) (120:TypeId)∧AObj.own zNt 7 (List.map xW l.out)=AObj.own zNt 7 (List.map xW l.out)∧nC i)∧∀(q:Bool),p q→cnd q ((f9 d)∧∃(r:Int),∃(s:Int),∃(t:Int),zF (List.map lvE d.y) (Int.toNat 0) 0 3=some [dI r,dI s,dI t]∧∃(u:DtI),(↑u.m.inst:Int)=(↑i.n:Int)∧u.m.side=i.s∧u.m.l.price=r∧u.m.l.qty=s∧u.m.l.count=t∧u.m.imp=false∧u.d.seq=l.seq∧List.map xW u.d.out=List.map xW l.out∧(bS u)∧∀(v:Unit),True→∃(w:Dfr),w.seq=u.d.seq+(↑(1:Nat):Int)∧List.map xW w.out=List.map xW (u.d.out++wA u.d.seq [u.m])∧zEv m w i) (∃(r:Dfr),r.seq=l.seq∧List.map xW r.out=List.map xW l.out∧zEv m r i))∧∀(n:Dfr),m n→((0:Int)≤(1:Int)∧1≤(gE d))∧((0:Int)≤(1:Int)∧1≤(dM d))∧∃(p:DsJ),List.map lvE p.x=List.drop (Int.toNat 1) (List.map lvE d.x)∧List.map lvE p.y=List.drop (Int.toNat 1) (List.map lvE d.y)∧i.d.seq+(↑p.M.length:Int)=n.seq∧List.map xW (kL i p)=List.map xW n.out∧zFo b p c d i))) (∃(e:Bool),∃(f:Bool→Prop),cnd (!(i.a.imp.price==i.b.imp.price && (i.a.imp.qty==i.b.imp.qty && (i.a.imp.count==i.b.imp.count && true)))) (eX f i a d) (∃(g:Bool),g=!i.a.has==i.b.has∧m8 f g i a d)∧∀(g:Bool),f g→cnd g (∃(h:Lv),h.price=i.b.imp.price∧h.qty=i.b.imp.qty∧h.count=i.b.imp.count∧∃(j:Lv→Prop),cnd (!i.b.has) (∃(k:Lv),k.price=0∧k.qty=0∧k.count=0∧zFh j k i a d) (∃(k:Lv),k.price=h.price∧k.qty=h.qty∧k.count=h.count∧zFh j k i a d)∧∀(k:Lv),j k→∃(l:DtI),(↑l.m.inst:Int)=(↑i.n:Int)∧l.m.side=i.s∧l.m.l.price=k.price∧l.m.l.qty=k.qty∧l.m.l.count=k.count∧l.m.imp=true∧l.d.seq=i.d.seq+(↑d.M.length:Int)∧List.map xW l.d.out=List.map xW (kL i d)∧(bS l)∧∀(m:Unit),True→∃(n:Unit),i.d.seq+(dD i)=l.d.seq+(↑(1:Nat):Int)∧List.map xW (fW i)=List.map xW (l.d.out++wA l.d.seq [l.m])∧True) (∃(h:Unit),i.d.seq+(dD i)=i.d.seq+(↑d.M.length:Int)∧List.map xW (fW i)=List.map xW (kL i d)∧True))
def zEz (a:DsI):Prop:=(-4611686018427387904)≤a.d.seq∧a.d.seq+(↑(a.a.levels.length+a.b.levels.length+1):Int)≤4611686018427387904∧a.d.out.length+(a.a.levels.length+a.b.levels.length+1)≤1000000000
def mS (a:DvI) (b:Nat):=([]++wA a.seq (z9 0 (List.take b a.v) (List.take b a.w)))
def lH (a:Nat) (b:DvI):=(↑(z9 0 (List.take a b.v) (List.take a b.w)).length:Int)
def gR (a:DvI):=(wA a.seq (z9 0 a.v a.w))
def m3 (a:DvI):=(↑(List.map zB a.v).length:Int)
def yLu (i:DvI):Prop:=
 cnd ((m3 i) !=(↑(List.map zB i.w).length:Int)) (∃(a:Unit),List.map xW (gR i)=[]∧True) (∃(a:Nat),(↑a:Int)=0∧i.seq+(lH a i)=i.seq∧List.map xW (mS i a)=[]∧∃(b:Nat→Prop),∃(c:Nat→Nat),b a∧∀(d:Nat),b d→cnd (decide ((↑d:Int)<(m3 i))) (((0:Int)≤(0:Int)∧0<(↑(2:Nat):Int))∧∃(e:Int),zF [[dI 1],[dI 2]] (Int.toNat 0) 0 1=some [dI e]∧(0≤(↑d:Int)∧(↑d:Int)<(m3 i))∧∃(f:List (List D)),∃(g:Int),∃(h:Int),∃(j:Int),∃(k:Bool),zF (List.map zB i.v) (↑d:Int).toNat (0+nat_lit 0*5) 5=some [D.ro 3 f,dI g,dI h,dI j,D.v (.bool k)]∧(0≤(↑d:Int)∧(↑d:Int)<(↑(List.map zB i.w).length:Int))∧∃(l:List (List D)),∃(m:Int),∃(n:Int),∃(p:Int),∃(q:Bool),zF (List.map zB i.w) (↑d:Int).toNat (0+nat_lit 0*5) 5=some [D.ro 3 l,dI m,dI n,dI p,D.v (.bool q)]∧∃(r:DsI),(↑r.n:Int)=(↑d:Int)∧r.s=e∧List.map lvE r.a.levels=f∧r.a.imp.price=g∧r.a.imp.qty=h∧r.a.imp.count=j∧r.a.has=k∧List.map lvE r.b.levels=l∧r.b.imp.price=m∧r.b.imp.qty=n∧r.b.imp.count=p∧r.b.has=q∧r.d.seq=i.seq+(lH d i)∧List.map xW r.d.out=List.map xW (mS i d)∧(zEz r)∧∀(s:Unit),True→(gZ)∧∃(t:Int),zF [[dI 1],[dI 2]] (IntKind.i64.wrap ((0:Int)+(1:Int))).toNat 0 1=some [dI t]∧(0≤(↑d:Int)∧(↑d:Int)<(m3 i))∧∃(u:List (List D)),∃(v:Int),∃(w:Int),∃(x:Int),∃(y:Bool),zF (List.map zB i.v) (↑d:Int).toNat (0+(nat_lit 0+nat_lit 1) % Vtopst363.natAbs*5) 5=some [D.ro 3 u,dI v,dI w,dI x,D.v (.bool y)]∧(0≤(↑d:Int)∧(↑d:Int)<(↑(List.map zB i.w).length:Int))∧∃(z:List (List D)),∃(a_1:Int),∃(a_2:Int),∃(a_3:Int),∃(a_4:Bool),zF (List.map zB i.w) (↑d:Int).toNat (0+(nat_lit 0+nat_lit 1) % Vtopst363.natAbs*5) 5=some [D.ro 3 z,dI a_1,dI a_2,dI a_3,D.v (.bool a_4)]∧∃(a_5:DsI),(↑a_5.n:Int)=(↑d:Int)∧a_5.s=t∧List.map lvE a_5.a.levels=u∧a_5.a.imp.price=v∧a_5.a.imp.qty=w∧a_5.a.imp.count=x∧a_5.a.has=y∧List.map lvE a_5.b.levels=z∧a_5.b.imp.price=a_1∧a_5.b.imp.qty=a_2∧a_5.b.imp.count=a_3∧a_5.b.has=a_4∧a_5.d.seq=r.d.seq+(dD r)∧List.map xW a_5.d.out=List.map xW (fW r)∧(zEz a_5)∧∀(a_6:Unit),True→∃(a_7:Nat),(↑a_7:Int)=IntKind.i64.wrap ((↑d:Int)+1)∧i.seq+(lH a_7 i)=a_5.d.seq+(dD a_5)∧List.map xW (mS i a_7)=List.map xW (fW a_5)∧b a_7∧c a_7<c d∧Sx.AObj.cells [V.own ((0:Nat)+(1:Nat)+1)] 34=Sx.AObj.cells [V.own ((0:Nat)+(1:Nat)+1)] 34∧AObj.fro 10 (List.map zB i.w)=AObj.fro 10 (List.map zB i.w)∧Sx.AObj.cells [V.own 0] 34=Sx.AObj.cells [V.own 0] 34∧AObj.fro 10 (List.map zB i.v)=AObj.fro 10 (List.map zB i.v)) (∃(e:Unit),List.map xW (gR i)=List.map xW (mS i d)∧True))
open Go Cv Go.Proofs
open Classical
theorem zLg {l:List Quote} {k:Nat} {q:Quote} (b:Quote) (h:l[k]? =some q):fS (l.take (k+1)) b=if q.price=b.price then(if q.qty>(fS (l.take k) b).1 then q.qty else(fS (l.take k) b).1,(fS (l.take k) b).2+1)else fS (l.take k) b:=by
 rw[fS,yXw,h,yZx,y1l,yZh,List.foldl_nil]
 rfl
theorem zVz (b:Quote) (l:List Quote):∀k,k≤l.length→0≤(fS (l.take k) b).2∧(fS (l.take k) b).2≤k
 |0,_=>⟨by rw[y0k];exact y0b 0,by rw[y0k];exact y0b 0⟩
 |k+1,h=>by
  obtain⟨q,hq⟩:=z6 (l:=l) (i:=k) (by omega)
  have:=zVz b l k (by omega)
  rw[zLg b hq]
  split
  ·dsimp only;constructor<;>omega
  ·constructor<;>omega
theorem yRz (i:BsI) (h:showC.cnd i):yKb i:=by
 obtain⟨hs,hl⟩:(i.s=1∨i.s=2)∧i.l.length≤1000000:=h
 have hml:(i.l.map zL).length=i.l.length:=yWm _
 unfold yKb qP zGm dN vQ dI
 rw[hml]
 refine⟨i,rfl,rfl,⟨hs,hl⟩,fun _ _=>Cv.cnd.mk (fun c=> ?_) (fun c=> ?_)⟩
 ·have e:qB i.l i.s=(⟨0,0,0⟩,false):=by rw[qB,yWk (by simpa using c)]
  rw[e];exact⟨(),by(repeat'(first|exact trivial|exact rfl|apply And.intro))⟩
 have e:qB i.l i.s=(⟨(zU i.l i.s).1.price,(fS i.l (zU i.l i.s).1).1,(fS i.l (zU i.l i.s).1).2⟩,true):=by rw[qB,yWl (by simpa using c)]
 rw[e]
 generalize (zU i.l i.s).1=b
 refine⟨0,rfl,rfl,rfl,rfl,rfl,rfl,rfl,rfl,rfl,fun k=>k≤i.l.length,fun k=>i.l.length-k,yYa _,fun k hk=>zK (fun hlt=> ?_) (fun hlt=> ?_)⟩
 ·obtain⟨q,hq⟩:=z6 (l:=i.l) (i:=k) (by omega)
  have st:=zLg b hq
  have bd:=zVz b i.l k hk
  have hk:k≤i.l.length:=hk
  refine⟨⟨by omega,by omega⟩,q.price,q.qty,q.a.inst,q.a.side,q.b.inst,q.b.side,elA hq (by simp[zL]) rfl,Cv.cnd.mk (fun e=>⟨k+1,?_⟩) (fun e=>⟨k+1,?_⟩)⟩
  ·rw[st,yWl (by simpa using e)]
   exact⟨rfl,by dsimp only;rw[w64 (by omega)],wjn (by omega),rfl,rfl,rfl,rfl,rfl,rfl,by dsimp only;omega,by dsimp only;omega,trivial⟩
  ·rw[st,yWk (by simpa using e)]
   exact⟨rfl,rfl,wjn (by omega),rfl,rfl,rfl,rfl,rfl,rfl,by dsimp only;omega,by dsimp only;omega,trivial⟩
 ·have hk:k≤i.l.length:=hk
  obtain rfl:k=i.l.length:=by omega
  rw[yZz]
  exact⟨(),by(repeat'(first|exact trivial|exact rfl|apply And.intro))⟩
theorem yJt:showC.ok Tryz.prog 108:=okw mixed (gokc zUy gok0) 0 (fun _=>[]) (fun i=>yRb i) [] Tryz.func108 yRz
theorem mN (p:Prd) (B:List (List zJ)):(qX p B).length=p.count:=by rw[qX,yWm,List.length_range]
theorem z6n (p:Prd) (B:List (List zJ)) {j:Nat} (h:j<p.count):(qX p B)[j]? =some (zCw p B j 1,zCw p B j 2):=by
 rw[qX,yXj,y1a h];rfl
theorem yUj (i:LkI) (h:lookC.cnd i):yKs i:=by
 obtain⟨hR,hB⟩:i.s.Rep i.p i.B∧BOk i.p i.B:=h
 have hcl:=xS i.p
 have hbl:=hB.bl
 have hcnt:i.s.cntOk:=hR.cnt (by omega)
 have hto:vE (i.B.map qU):=hB.tops
 have hll:=mN i.p i.B
 unfold yKs gZ bJ kC gX dN f7 Vlookt296 vJ zY dI
 refine⟨i.p,rfl,rfl,rfl,rfl,rfl,rfl,rfl,rfl,rfl,rfl,rfl,hB.ps,fun _ _=>Cv.cnd.mk (fun c=>absurd hB.pc (by simpa using c)) (fun _=>⟨i.s,rfl,hcnt,fun _ _=>⟨i.p,rfl,rfl,rfl,rfl,rfl,rfl,rfl,rfl,rfl,rfl,rfl,hB.ps,fun _ _=>⟨0,rfl,rfl,by rw[hR.tops],fun j=>j≤i.p.count,fun j=>i.p.count-j,yYa _,fun j hj=>zK (fun hlt=> ?_) (fun hlt=> ?_)⟩⟩⟩)⟩
 ·have hlt:j<i.p.count:=by omega
  have hat:atB i.B (j:Int)=i.B.getD j []:=by rw[atB,yWk (by omega),yXf]
  have hq:∀s,(xR ⟨i.p,i.B.map qU,j⟩ s).length≤1000000:=fun s=>y0j (zGz _ _) (by decide)
  refine⟨⟨by decide,by decide⟩,1,rfl,⟨i.s,i.p,i.B,j,false⟩,rfl,rfl,rfl,⟨hR,by dsimp only;omega⟩,fun _ _=>⟨⟨⟨i.p,i.B.map qU,j⟩,false⟩,rfl,rfl,rfl,rfl,rfl,rfl,rfl,rfl,rfl,rfl,rfl,rfl,rfl,rfl,⟨hB.ps,hto⟩,fun _ _=>⟨⟨xR ⟨i.p,i.B.map qU,j⟩ 1,1⟩,rfl,rfl,⟨.inl rfl,hq 1⟩,fun _ _=>⟨⟨by decide,by decide⟩,2,rfl,⟨i.s,i.p,i.B,j,true⟩,rfl,rfl,rfl,⟨hR,by dsimp only;omega⟩,fun _ _=>⟨⟨⟨i.p,i.B.map qU,j⟩,true⟩,rfl,rfl,rfl,rfl,rfl,rfl,rfl,rfl,rfl,rfl,rfl,rfl,rfl,rfl,⟨hB.ps,hto⟩,fun _ _=>⟨⟨xR ⟨i.p,i.B.map qU,j⟩ 2,2⟩,rfl,rfl,⟨.inr rfl,hq 2⟩,fun _ _=>⟨?_,j+1,wjn (by omega),?_,rfl,by dsimp only;omega,by dsimp only;omega,rfl,by(repeat'(first|exact trivial|exact rfl|apply And.intro))⟩⟩⟩⟩⟩⟩⟩
  ·rw[yWm,yXg];omega
  ·rw[yXw,z6n i.p i.B hlt,yZx,yWw,yWy,y0d]
   dsimp only
   rw[hat]
   rfl
 ·have hj:j≤i.p.count:=hj
  rw[yXc (by omega)]
  exact⟨(),by(repeat'(first|exact trivial|exact rfl|apply And.intro))⟩
theorem z2g:lookC.ok Tryz.prog 48:=okw mixed (gokc sY (gokc yHx (gokc bI (gokc yGx (gokc zPz (gokc yJt gok0)))))) 1 (fun _=>[]) (fun i=>ySr i) [] Tryz.func48 yUj
open Go Cv Go.Proofs
open Classical
theorem zPk {α:Type} {x y:List α} {k:Nat} {a b:α} (ha:x[k]? =some a) (hb:y[k]? =some b) (h:x.take k=y.take k) (e:a=b):x.take (k+1)=y.take (k+1):=by rw[yXw,yXw,h,ha,hb,e]
theorem zWg (a b:Lv):(a.price==b.price && (a.qty==b.qty && (a.count==b.count && true)))=decide (a=b):=by
 rw[y2q,decide_eq_true_iff]
 obtain⟨p,q,c⟩:=a
 obtain⟨p2,q2,c2⟩:=b
 simp
theorem yUe (i:yJs) (h:eqLvC.cnd i):yKd i:=by
 obtain⟨hx,hy⟩:i.x.length≤1099511627776∧i.y.length≤1099511627776:=h
 have hmx:(i.x.map lvE).length=i.x.length:=yWm _
 have hmy:(i.y.map lvE).length=i.y.length:=yWm _
 unfold yKd jK wC dI
 rw[hmx,hmy]
 refine Cv.cnd.mk (fun c=>⟨(),yWx (fun e=>by rw[e]at c;simp at c),trivial⟩) (fun c=> ?_)
 have hxy:i.x.length=i.y.length:=by have:(i.x.length:Int)=i.y.length:=(by simpa using c);omega
 refine⟨0,rfl,fun k=>k≤i.x.length∧i.x.take k=i.y.take k,fun k=>i.x.length-k,⟨yYa _,rfl⟩,fun k hk=>zK (fun e=> ?_) (fun e=> ?_)⟩
 ·obtain⟨hk1,hk2⟩:=hk
  obtain⟨a,ha⟩:=z6 (l:=i.x) (i:=k) (by omega)
  obtain⟨b,hb⟩:=z6 (l:=i.y) (i:=k) (by omega)
  refine⟨false,fun t=>t= !decide (a=b),⟨⟨by omega,by omega⟩,a.price,a.qty,a.count,elA ha (by simp[lvE]) rfl,⟨by omega,by omega⟩,b.price,b.qty,b.count,elA hb (by simp[lvE]) rfl,_,rfl,?_,trivial⟩,?_⟩
  ·rw[zWg a b]
  ·rintro _ rfl
   refine Cv.cnd.mk (fun c=>⟨(),yWx (fun e2=> ?_),trivial⟩) (fun c=>⟨k+1,by rw[w64 (by omega)];rfl,⟨by omega,zPk ha hb hk2 (by simpa using c)⟩,by dsimp only;omega,trivial⟩)
   have c:a≠b:=by simpa using c
   rw[e2]at ha
   rw[ha]at hb
   exact c (Option.some.inj hb)
 ·obtain⟨hk1,hk2⟩:=hk
  rw[yXc (by omega),yXc (by omega)]at hk2
  exact⟨(),yXb hk2,trivial⟩
theorem yGy:eqLvC.ok Tryz.prog 125:=okw mixed gok0 0 (fun _=>yTd) (fun _=>yTw) [] Tryz.func125 yUe
theorem yVe (i:yEp) (h:fsdC.cnd i):yRn i:=by
 obtain⟨⟨al,ai,ah⟩,⟨bl,bi,bh⟩⟩:=i
 obtain⟨ha,hb⟩:al.length≤1099511627776∧bl.length≤1099511627776:=h
 unfold yRn
 refine⟨⟨al,bl⟩,rfl,rfl,⟨ha,hb⟩,fun _ _=>zK (fun e=> ?_) (fun e=>⟨(),yWx (fun x=>e (congrArg Sd.levels x)),trivial⟩)⟩
 dsimp only
 rw[zWg]
 refine zK (fun e2=>⟨(),?_,trivial⟩) (fun e2=>⟨(),yWx (fun x=>e2 (congrArg Sd.imp x)),trivial⟩)
 have e:al=bl:=e
 have e2:ai=bi:=e2
 subst e e2
 show decide ((⟨al,ai,ah⟩:Sd)=⟨al,ai,bh⟩)=(ah==bh)
 rw[y2q,decide_eq_true_iff,beq_iff_eq]
 exact⟨fun x=>congrArg Sd.has x,fun x=>by have x:ah=bh:=x;rw[x]⟩
theorem yPh:fsdC.ok Tryz.prog 65:=okw mixed (gokc yGy gok0) 0 (fun _=>[]) (fun _=>[]) [] Tryz.func65 yVe
theorem z7j {v:Vw} {k:Nat} {b:Sd×Sd} (h:v[k]? =some b):zF (v.map zB) k 0 10=some [D.ro 3 (b.1.levels.map lvE),.v (.int .i64 b.1.imp.price),.v (.int .i64 b.1.imp.qty),.v (.int .i64 b.1.imp.count),.v (.bool b.1.has),.ro 3 (b.2.levels.map lvE),.v (.int .i64 b.2.imp.price),.v (.int .i64 b.2.imp.qty),.v (.int .i64 b.2.imp.count),.v (.bool b.2.has)]∧
 zF (v.map zB) k 0 5=some [D.ro 3 (b.1.levels.map lvE),.v (.int .i64 b.1.imp.price),.v (.int .i64 b.1.imp.qty),.v (.int .i64 b.1.imp.count),.v (.bool b.1.has)]∧
 zF (v.map zB) k 5 5=some [D.ro 3 (b.2.levels.map lvE),.v (.int .i64 b.2.imp.price),.v (.int .i64 b.2.imp.qty),.v (.int .i64 b.2.imp.count),.v (.bool b.2.has)]:=
 ⟨elA h (by simp[zB]) rfl,elA h (by simp[zB]) rfl,elA h (by simp[zB]) rfl⟩
theorem yVj (i:zJo) (h:eqFC.cnd i):yUc i:=by
 obtain⟨⟨hv,hvs⟩,⟨hw,hws⟩⟩:qF i.v∧qF i.w:=h
 have hmx:(i.v.map zB).length=i.v.length:=yWm _
 have hmy:(i.w.map zB).length=i.w.length:=yWm _
 unfold yUc jK wC zTs dI
 rw[hmx,hmy]
 refine Cv.cnd.mk (fun c=>⟨(),yWx (fun e=>by rw[e]at c;simp at c),trivial⟩) (fun c=> ?_)
 have hxy:i.v.length=i.w.length:=by have:(i.v.length:Int)=i.w.length:=(by simpa using c);omega
 refine⟨0,rfl,fun k=>k≤i.v.length∧i.v.take k=i.w.take k,fun k=>i.v.length-k,⟨yYa _,rfl⟩,fun k hk=>zK (fun e=> ?_) (fun e=> ?_)⟩
 ·obtain⟨hk1,hk2⟩:=hk
  obtain⟨a,ha⟩:=z6 (l:=i.v) (i:=k) (by omega)
  obtain⟨b,hb⟩:=z6 (l:=i.w) (i:=k) (by omega)
  have sa:=hvs a (yWu ha)
  have sb:=hws b (yWu hb)
  refine⟨⟨by omega,by omega⟩,_,_,_,_,_,_,_,_,_,_,(z7j ha).1,⟨by omega,by omega⟩,_,_,_,_,_,_,_,_,_,_,(z7j hb).1,false,fun t=>t= !decide (a=b),⟨⟨a.1,b.1⟩,rfl,rfl,rfl,rfl,rfl,rfl,rfl,rfl,rfl,rfl,⟨sa.1,sb.1⟩,fun _ _=>zK (fun e1=>⟨⟨a.2,b.2⟩,rfl,rfl,rfl,rfl,rfl,rfl,rfl,rfl,rfl,rfl,⟨sa.2,sb.2⟩,fun _ _=>⟨_,rfl,?_,by(repeat'(first|exact trivial|exact rfl|apply And.intro))⟩⟩) (fun e1=>⟨_,rfl,?_,by(repeat'(first|exact trivial|exact rfl|apply And.intro))⟩)⟩,?_⟩
  ·show(!decide (a.2=b.2))= !decide (a=b)
   rw[y2q,y0r,y0r,decide_eq_false_iff_not,decide_eq_false_iff_not]
   exact⟨fun x y=>x (by rw[y]),fun x y=>x (Prod.ext e1 y)⟩
  ·have e1:¬a.1=b.1:=e1
   rw[yWx fun x=>e1 (congrArg Prod.fst x)]
  ·rintro _ rfl
   refine Cv.cnd.mk (fun c=>⟨(),yWx (fun e2=> ?_),trivial⟩) (fun c=>⟨k+1,by rw[w64 (by omega)];rfl,⟨by omega,zPk ha hb hk2 (by simpa using c)⟩,by dsimp only;omega,trivial⟩)
   have c:a≠b:=by simpa using c
   rw[e2]at ha
   rw[ha]at hb
   exact c (Option.some.inj hb)
 ·obtain⟨hk1,hk2⟩:=hk
  rw[yXc (by omega),yXc (by omega)]at hk2
  exact⟨(),yXb hk2,trivial⟩
theorem yQd:eqFC.ok Tryz.prog 63:=okw mixed (gokc yPh gok0) 1 (fun _=>yWg) (fun _=>yUx) [] Tryz.func63 yVj
theorem yQg (i:zJo) (h:fsameC.cnd i):yDp i:=by
 unfold yDp gD wR
 exact⟨i,rfl,rfl,h,fun _ _=>⟨(),rfl,trivial⟩⟩
theorem fsame_ok:fsameC.ok Tryz.prog 19:=okw mixed (gokc yQd gok0) 0 (fun _=>[]) (fun _=>[]) [] Tryz.func19 yQg
theorem zLt (q:Int):∀(A B:List VM),wA q (A++B)=wA q A++wA (q+A.length) B
 |[],B=>by simp[wA]
 |a::A,B=>by
  rw[yYh,wA,wA,zLt,yWs,yYh]
  congr 3
  omega
theorem zIg (d:Dfr) (A B:List VM):(d.add A).add B=d.add (A++B):=by
 rw[Dfr.add,Dfr.add,Dfr.add,zLt,yWp,yWv]
 congr 1
 dsimp only
 omega
theorem yQa (i:DtI) (h:dtellC.cnd i):yBn i:=by
 obtain⟨h1,h2,h3⟩:i.d.ok 1:=h
 unfold yBn dI
 have e:IntKind.i64.wrap (i.d.seq+1)=i.d.seq+1:=w64 (by omega)
 rw[e]
 exact⟨trivial,by rw[yWm];omega,(),rfl,by rw[yWw];rfl,trivial⟩
theorem yDg:dtellC.ok Tryz.prog 124:=okw mixed gok0 0 (fun _=>[]) (fun _=>[]) [] Tryz.func124 yQa
theorem mL {s:Int}:∀(k:Nat) (X Y:List Lv),(xA s k X Y).length≤k
 |0,X,Y=>by rw[xA];exact yXs 0
 |k+1,[],[]=>by rw[xA];exact yYa _
 |k+1,x::X,[]=>by rw[xA,yWs];have:=mL (s:=s) k X [];omega
 |k+1,[],y::Y=>by rw[xA,yWs];have:=mL (s:=s) k [] Y;omega
 |k+1,x::X,y::Y=>by
  have h1:=mL (s:=s) k X (y::Y)
  have h2:=mL (s:=s) k (x::X) Y
  have h3:=mL (s:=s) k X Y
  rw[xA]
  split
  ·rw[yWs];omega
  split
  ·rw[yWs];omega
  rw[yWp]
  split
  ·simp only[yZg];omega
  ·simp only[yYs];omega
theorem zZl (n:Nat) (s:Int) (a b:Sd):(y8 n s a b).length≤a.levels.length+b.levels.length+1:=by
 have:=mL (s:=s) (a.levels.length+b.levels.length) a.levels b.levels
 rw[y8,yWp,yWm]
 split
 ·rw[yYs];omega
 ·simp only[yZg];omega
theorem zRd:∀(n j:Nat) {v w:Vw} {a b:Sd×Sd},v[j]? =some a→w[j]? =some b→z9 n (v.take (j+1)) (w.take (j+1))=z9 n (v.take j) (w.take j)++(y8 (n+j) 1 a.1 b.1++y8 (n+j) 2 a.2 b.2)
 |n,0,x::v,y::w,a,b,h1,h2=>by
  obtain rfl:x=a:=by simpa using h1
  obtain rfl:y=b:=by simpa using h2
  simp[z9]
 |n,j+1,x::v,y::w,a,b,h1,h2=>by
  have:=zRd (n+1) j (v:=v) (w:=w) (a:=a) (b:=b) (by simpa using h1) (by simpa using h2)
  rw[yXv,yXv,yXv,yXv,z9,z9,this,yWv,yWv,yWv,y0h n 1 j,y1x 1 j]
 |_,0,[],_,_,_,h1,_=>by simp at h1
 |_,j+1,[],_,_,_,h1,_=>by simp at h1
 |_,0,_::_,[],_,_,_,h2=>by simp at h2
 |_,j+1,_::_,[],_,_,_,h2=>by simp at h2
theorem lO {v:Vw} {j:Nat} {a:Sd×Sd} (h:v[j]? =some a):Vw.levs (v.take (j+1))=Vw.levs (v.take j)+(a.1.levels.length+a.2.levels.length):=by
 rw[Vw.levs,Vw.levs,yXw,h,yZx,yWw,y2p]
 simp
theorem z4k (v:Vw) (j:Nat):Vw.levs (v.take j)≤Vw.levs v:=by
 conv=>rhs;rw[← yYw j v]
 rw[Vw.levs,Vw.levs,yWw,y2p]
 omega
theorem yCd (v w:Vw):∀j,j≤v.length→j≤w.length→(z9 0 (v.take j) (w.take j)).length≤Vw.levs (v.take j)+Vw.levs (w.take j)+2*j
 |0,_,_=>by rw[y0k,z9];exact yYa _;simp
 |j+1,h1,h2=>by
  obtain⟨a,ha⟩:=z6 (l:=v) (i:=j) (by omega)
  obtain⟨b,hb⟩:=z6 (l:=w) (i:=j) (by omega)
  have:=yCd v w j (by omega) (by omega)
  have s1:=zZl (0+j) 1 a.1 b.1
  have s2:=zZl (0+j) 2 a.2 b.2
  rw[zRd 0 j ha hb,lO ha,lO hb,yWp,yWp]
  omega
open Go Cv Go.Proofs
theorem zDo (q:Int):∀M:List VM,(wA q M).length=M.length
 |[]=>rfl
 |m::M=>by rw[wA,yWs,zDo,yWs]
theorem tl1 (q:Int) (M:List VM) (m:VM):q+((M++[m]).length:Nat)=q+(M.length:Nat)+((1:Nat):Int):=by
 rw[yWp,yYs];omega
theorem tl2 (o:List MsgM) (q:Int) (M:List VM) (m:VM):(o++wA q (M++[m])).map xW=((o++wA q M)++wA (q+(M.length:Nat)) [m]).map xW:=by rw[zLt,yWv]
theorem lvx (x:Lv) (X:List Lv):zF ((x::X).map lvE) 0 0 1=some [D.v (.int .i64 x.price)]∧zF ((x::X).map lvE) 0 0 3=some [D.v (.int .i64 x.price),.v (.int .i64 x.qty),.v (.int .i64 x.count)]:=⟨rfl,rfl⟩
theorem yDq (s:Int) (k:Nat):xA s k [] []=[]:=by cases k<;>rw[xA]
theorem yQq (i:DsI) (h:dsideC.cnd i):z9q i:=by
 obtain⟨d,n,s,⟨al,ai,ah⟩,⟨bl,bi,bh⟩⟩:=i
 obtain⟨h1,h2,h3⟩:Dfr.ok d (al.length+bl.length+1):=h
 unfold z9q zEv zEo zFo zFh eX zGi m8 zEk nC kL dD fW aJ gE f9 dM bS dI
 refine⟨⟨al,bl,[]⟩,rfl,rfl,by simp,by simp[wA],fun j=>∃k,j.x.length+j.y.length≤k∧(xA s (al.length+bl.length) al bl).map (fun l=>(⟨n,s,l,false⟩:VM))=j.M++(xA s k j.x j.y).map (fun l=>(⟨n,s,l,false⟩:VM))∧k+j.M.length≤al.length+bl.length,fun j=>j.x.length+j.y.length,⟨al.length+bl.length,yXs _,rfl,yXs _⟩,?_⟩
 rintro⟨x,y,M⟩ ⟨k,hk,hM,hl⟩
 dsimp only at hk hM hl ⊢
 have hx:(x.map lvE).length=x.length:=yWm _
 have hy:(y.map lvE).length=y.length:=yWm _
 have ok1:Dfr.ok ⟨d.seq+(M.length:Nat),d.out++wA d.seq M⟩ 1:=⟨by dsimp only;omega,by dsimp only;omega,by dsimp only;rw[yWp,zDo];omega⟩
 rw[hx,hy,w64 (by omega)]
 refine zK (fun c=> ?_) (fun c=> ?_)
 ·obtain⟨k',rfl⟩:∃k',k=k'+1:=⟨k-1,by omega⟩
  rcases x with _|⟨a,X⟩
  ·rcases y with _|⟨b,Y⟩
   ·exact absurd c (by simp)
   refine⟨false,fun t=>t=false,Cv.cnd.mk (fun e=> ?_) (fun _=>Cv.cnd.mk (fun e=>absurd e (by simp)) (fun _=>⟨false,rfl,rfl,by(repeat'(first|exact trivial|exact rfl|apply And.intro))⟩)),?_⟩
   ·exfalso;simp at e;omega
   rintro _ rfl
   refine Cv.cnd.mk (fun c=>absurd c (by decide)) (fun _=>⟨false,fun t=>t=true,Cv.cnd.mk (fun _=>⟨true,rfl,rfl,by(repeat'(first|exact trivial|exact rfl|apply And.intro))⟩) (fun e=>absurd e (by simp)),?_⟩)
   rintro _ rfl
   refine Cv.cnd.mk (fun _=> ?_) (fun c=>absurd c (by decide))
   rw[yWs]at hk
   refine⟨⟨by decide,by rw[yWs];omega⟩,b.price,b.qty,b.count,(lvx b Y).2,⟨_,⟨n,s,b,false⟩⟩,rfl,rfl,rfl,rfl,rfl,rfl,rfl,rfl,ok1,fun _ _=>⟨⟨by decide,by rw[yWs];omega⟩,⟨[],Y,M++[⟨n,s,b,false⟩]⟩,rfl,rfl,tl1 _ _ _,tl2 _ _ _ _,⟨k',by dsimp only;omega,?_,by dsimp only;rw[yWp,yYs];omega⟩,by dsimp only;rw[yWs];omega,by(repeat'(first|exact trivial|exact rfl|apply And.intro))⟩⟩
   rw[hM,xA,yWy,yWv];rfl
  rcases y with _|⟨b,Y⟩
  ·refine⟨false,fun t=>t=true,Cv.cnd.mk (fun _=>⟨true,rfl,rfl,by(repeat'(first|exact trivial|exact rfl|apply And.intro))⟩) (fun e=>absurd e (by simp)),?_⟩
   rintro _ rfl
   refine Cv.cnd.mk (fun _=> ?_) (fun c=>absurd c (by decide))
   rw[yWs]at hk
   refine⟨⟨by decide,by rw[yWs];omega⟩,a.price,(lvx a X).1,⟨_,⟨n,s,⟨a.price,0,0⟩,false⟩⟩,rfl,rfl,rfl,rfl,rfl,rfl,rfl,rfl,ok1,fun _ _=>⟨⟨by decide,by rw[yWs];omega⟩,⟨X,[],M++[⟨n,s,⟨a.price,0,0⟩,false⟩]⟩,rfl,rfl,tl1 _ _ _,tl2 _ _ _ _,⟨k',by dsimp only;simp only[yZg]at hk ⊢;omega,?_,by dsimp only;rw[yWp,yYs];omega⟩,by dsimp only;rw[yWs];omega,by(repeat'(first|exact trivial|exact rfl|apply And.intro))⟩⟩
   rw[hM,xA,yWy,yWv];rfl
  rw[yWs,yWs]at hk
  have la:(0:Int)≤0∧(0:Int)<((a::X).length:Nat):=⟨by decide,by rw[yWs];omega⟩
  have lb:(0:Int)≤0∧(0:Int)<((b::Y).length:Nat):=⟨by decide,by rw[yWs];omega⟩
  have la1:(0:Int)≤1∧(1:Int)≤((a::X).length:Nat):=⟨by decide,by rw[yWs];omega⟩
  have lb1:(0:Int)≤1∧(1:Int)≤((b::Y).length:Nat):=⟨by decide,by rw[yWs];omega⟩
  refine⟨false,fun t=>t=btr s a.price b.price,Cv.cnd.mk (fun e=> ?_) (fun _=>Cv.cnd.mk (fun _=>⟨la,a.price,(lvx a X).1,lb,b.price,(lvx b Y).1,⟨s,a.price,b.price⟩,rfl,rfl,rfl,trivial,fun _ _=>⟨_,rfl,rfl,by(repeat'(first|exact trivial|exact rfl|apply And.intro))⟩⟩) (fun e=> ?_)),?_⟩
  ·exfalso;simp at e;omega
  ·exfalso;simp at e
  rintro _ rfl
  refine Cv.cnd.mk (fun c1=> ?_) (fun c1=> ?_)
  ·refine⟨la,a.price,(lvx a X).1,⟨_,⟨n,s,⟨a.price,0,0⟩,false⟩⟩,rfl,rfl,rfl,rfl,rfl,rfl,rfl,rfl,ok1,fun _ _=>⟨la1,⟨X,b::Y,M++[⟨n,s,⟨a.price,0,0⟩,false⟩]⟩,rfl,rfl,tl1 _ _ _,tl2 _ _ _ _,⟨k',by dsimp only;rw[yWs];omega,?_,by dsimp only;rw[yWp,yYs];omega⟩,by dsimp only;rw[yWs,yWs];omega,by(repeat'(first|exact trivial|exact rfl|apply And.intro))⟩⟩
   rw[hM,xA,yWl c1,yWy,yWv];rfl
  have c1:¬btr s a.price b.price=true:=by simp[c1]
  refine⟨false,fun t=>t=btr s b.price a.price,Cv.cnd.mk (fun e=> ?_) (fun _=>⟨lb,b.price,(lvx b Y).1,la,a.price,(lvx a X).1,⟨s,b.price,a.price⟩,rfl,rfl,rfl,trivial,fun _ _=>⟨_,rfl,rfl,by(repeat'(first|exact trivial|exact rfl|apply And.intro))⟩⟩),?_⟩
  ·exfalso;simp at e;omega
  rintro _ rfl
  refine Cv.cnd.mk (fun c2=> ?_) (fun c2=> ?_)
  ·refine⟨lb,b.price,b.qty,b.count,(lvx b Y).2,⟨_,⟨n,s,b,false⟩⟩,rfl,rfl,rfl,rfl,rfl,rfl,rfl,rfl,ok1,fun _ _=>⟨lb1,⟨a::X,Y,M++[⟨n,s,b,false⟩]⟩,rfl,rfl,tl1 _ _ _,tl2 _ _ _ _,⟨k',by dsimp only;rw[yWs];omega,?_,by dsimp only;rw[yWp,yYs];omega⟩,by dsimp only;rw[yWs,yWs];omega,by(repeat'(first|exact trivial|exact rfl|apply And.intro))⟩⟩
   rw[hM,xA,yWk c1,yWl c2,yWy,yWv];rfl
  have c2:¬btr s b.price a.price=true:=by simp[c2]
  by_cases hab:a=b
  ·refine⟨⟨_,_⟩,rfl,rfl,fun D=>D=⟨d.seq+(M.length:Nat),d.out++wA d.seq M⟩,⟨false,fun t=>t=false,⟨la,a.price,a.qty,a.count,(lvx a X).2,lb,b.price,b.qty,b.count,(lvx b Y).2,_,rfl,by rw[zWg,yXb hab];rfl,by(repeat'(first|exact trivial|exact rfl|apply And.intro))⟩,?_⟩,?_⟩
   ·rintro _ rfl
    exact Cv.cnd.mk (fun c=>absurd c (by decide)) (fun _=>⟨_,rfl,rfl,rfl,by(repeat'(first|exact trivial|exact rfl|apply And.intro))⟩)
   rintro _ rfl
   refine⟨la1,lb1,⟨X,Y,M⟩,rfl,rfl,rfl,rfl,⟨k',by dsimp only;omega,?_,by dsimp only;omega⟩,by dsimp only;rw[yWs,yWs];omega,by(repeat'(first|exact trivial|exact rfl|apply And.intro))⟩
   rw[hM,xA,yWk c1,yWk c2,yWl hab];rfl
  ·refine⟨⟨_,_⟩,rfl,rfl,fun D=>D=Dfr.add ⟨d.seq+(M.length:Nat),d.out++wA d.seq M⟩ [⟨n,s,b,false⟩],⟨false,fun t=>t=true,⟨la,a.price,a.qty,a.count,(lvx a X).2,lb,b.price,b.qty,b.count,(lvx b Y).2,_,rfl,by rw[zWg,yWx hab];rfl,by(repeat'(first|exact trivial|exact rfl|apply And.intro))⟩,?_⟩,?_⟩
   ·rintro _ rfl
    exact Cv.cnd.mk (fun _=>⟨lb,b.price,b.qty,b.count,(lvx b Y).2,⟨_,⟨n,s,b,false⟩⟩,rfl,rfl,rfl,rfl,rfl,rfl,rfl,rfl,ok1,fun _ _=>⟨_,rfl,rfl,rfl,by(repeat'(first|exact trivial|exact rfl|apply And.intro))⟩⟩) (fun c=>absurd c (by decide))
   rintro _ rfl
   refine⟨la1,lb1,⟨X,Y,M++[⟨n,s,b,false⟩]⟩,rfl,rfl,tl1 _ _ _,tl2 _ _ _ _,⟨k',by dsimp only;omega,?_,by dsimp only;rw[yWp,yYs];omega⟩,by dsimp only;rw[yWs,yWs];omega,by(repeat'(first|exact trivial|exact rfl|apply And.intro))⟩
   rw[hM,xA,yWk c1,yWk c2,yWk hab,yWw,yWv];rfl
 obtain rfl:x=[]:=yXn (by omega)
 obtain rfl:y=[]:=yXn (by omega)
 rw[yDq,y0d,yXi]at hM
 rw[zWg]
 refine⟨false,fun t=>t=zFu ⟨al,ai,ah⟩ ⟨bl,bi,bh⟩,Cv.cnd.mk (fun e=>⟨true,rfl,?_,by(repeat'(first|exact trivial|exact rfl|apply And.intro))⟩) (fun e=>⟨_,rfl,?_,by(repeat'(first|exact trivial|exact rfl|apply And.intro))⟩),?_⟩
 ·have e:ai≠bi:=by simpa using e
  rw[zFu];simp[e]
 ·have e:ai=bi:=by simpa using e
  rw[zFu,e];cases ah<;>cases bh<;>simp
 rintro _ rfl
 refine Cv.cnd.mk (fun e=>⟨bi,rfl,rfl,rfl,fun l=>l=zBr ⟨bl,bi,bh⟩,Cv.cnd.mk (fun e2=>⟨lv0,rfl,rfl,rfl,?_,by(repeat'(first|exact trivial|exact rfl|apply And.intro))⟩) (fun e2=>⟨bi,rfl,rfl,rfl,?_,by(repeat'(first|exact trivial|exact rfl|apply And.intro))⟩),?_⟩) (fun e=> ?_)
 ·rw[zBr,yWk (by simpa using e2)]
 ·rw[zBr,yWl (by simpa using e2)]
 ·rintro _ rfl
  have hsd:y8 n s ⟨al,ai,ah⟩ ⟨bl,bi,bh⟩=M++[⟨n,s,zBr ⟨bl,bi,bh⟩,true⟩]:=by rw[y8,yWl e,hM]
  rw[hsd]
  exact⟨⟨_,⟨n,s,zBr ⟨bl,bi,bh⟩,true⟩⟩,rfl,rfl,rfl,rfl,rfl,rfl,rfl,rfl,ok1,fun _ _=>⟨(),tl1 _ _ _,tl2 _ _ _ _,trivial⟩⟩
 ·have hsd:y8 n s ⟨al,ai,ah⟩ ⟨bl,bi,bh⟩=M:=by rw[y8,yWk (by simp[e]),hM,yXi]
  rw[hsd]
  exact⟨(),rfl,rfl,trivial⟩
theorem yCh:dsideC.ok Tryz.prog 62:=okw mixed (gokc yDg (gokc zPl gok0)) 0 (fun _=>yOd) (fun i=>yRi i) [] Tryz.func62 yQq
theorem yTa (i:DvI) (h:diffC.cnd i):yLu i:=by
 obtain⟨hvw,⟨s1,s2⟩,l1,l2,hn⟩:i.v.length=i.w.length∧(-4000000000000000000≤i.seq∧i.seq≤4000000000000000000)∧Vw.levs i.v≤100000000∧Vw.levs i.w≤100000000∧i.v.length≤1000000:=h
 have hmx:(i.v.map zB).length=i.v.length:=yWm _
 have hmy:(i.w.map zB).length=i.w.length:=yWm _
 unfold yLu Vtopst363 gZ dD fW m3 gR lH mS zEz dI
 rw[hmx,hmy]
 refine Cv.cnd.mk (fun c=> ?_) (fun _=> ?_)
 ·have c:(i.v.length:Int)≠i.w.length:=by simpa using c
  omega
 refine⟨0,rfl,by simp[z9],by simp[z9,wA],fun j=>j≤i.v.length,fun j=>i.v.length-j,yYa _,fun j hj=>zK (fun e=> ?_) (fun e=> ?_)⟩
 ·have hj:j≤i.v.length:=hj
  obtain⟨a,ha⟩:=z6 (l:=i.v) (i:=j) (by omega)
  obtain⟨b,hb⟩:=z6 (l:=i.w) (i:=j) (by omega)
  have hd:=yCd i.v i.w j hj (by omega)
  have t1:=lO ha
  have t2:=lO hb
  have u1:=z4k i.v (j+1)
  have u2:=z4k i.w (j+1)
  have q1:=zZl j 1 a.1 b.1
  have hvt:=zRd 0 j ha hb
  rw[yXl]at hvt
  have bdv:(0:Int)≤j∧(j:Int)<(i.v.length:Nat):=⟨by omega,e⟩
  have bdw:(0:Int)≤j∧(j:Int)<(i.w.length:Nat):=⟨by omega,by omega⟩
  obtain⟨D,hD⟩:∃D:Dfr,D=Dfr.add ⟨i.seq,[]⟩ (z9 0 (i.v.take j) (i.w.take j)):=⟨_,rfl⟩
  have hDs:D.seq=i.seq+((z9 0 (i.v.take j) (i.w.take j)).length:Nat):=by rw[hD];rfl
  have hDo:D.out=[]++wA i.seq (z9 0 (i.v.take j) (i.w.take j)):=by rw[hD];rfl
  have hDl:D.out.length=(z9 0 (i.v.take j) (i.w.take j)).length:=by rw[hDo,yYt,zDo]
  refine⟨⟨by decide,by decide⟩,1,rfl,bdv,_,_,_,_,_,(z7j ha).2.1,bdw,_,_,_,_,_,(z7j hb).2.1,⟨D,j,1,a.1,b.1⟩,rfl,rfl,rfl,rfl,rfl,rfl,rfl,rfl,rfl,rfl,rfl,rfl,hDs,by rw[hDo],⟨by dsimp only;omega,by dsimp only;omega,by dsimp only;omega⟩,fun _ _=>⟨⟨by decide,by decide⟩,2,rfl,bdv,_,_,_,_,_,(z7j ha).2.2,bdw,_,_,_,_,_,(z7j hb).2.2,⟨D.add (y8 j 1 a.1 b.1),j,2,a.2,b.2⟩,rfl,rfl,rfl,rfl,rfl,rfl,rfl,rfl,rfl,rfl,rfl,rfl,rfl,rfl,⟨by simp only[Dfr.add];omega,by simp only[Dfr.add];omega,by simp only[Dfr.add];rw[yWp,zDo];omega⟩,fun _ _=>⟨j+1,wjn (by omega),?_,?_,by dsimp only;omega,by dsimp only;omega,by(repeat'(first|exact trivial|exact rfl|apply And.intro))⟩⟩⟩
  ·show(Dfr.add ⟨i.seq,[]⟩ (z9 0 (i.v.take (j+1)) (i.w.take (j+1)))).seq=((D.add (y8 j 1 a.1 b.1)).add (y8 j 2 a.2 b.2)).seq
   rw[hvt,hD,zIg,zIg]
  ·show(Dfr.add ⟨i.seq,[]⟩ (z9 0 (i.v.take (j+1)) (i.w.take (j+1)))).out.map xW=((D.add (y8 j 1 a.1 b.1)).add (y8 j 2 a.2 b.2)).out.map xW
   rw[hvt,hD,zIg,zIg]
 ·have hj:j≤i.v.length:=hj
  rw[yXc (by omega),yXc (by omega)]
  exact⟨(),rfl,trivial⟩
theorem fdiff_ok:diffC.ok Tryz.prog 18:=okw mixed (gokc yCh gok0) 1 (fun _=>[]) (fun i=>ySv i) [] Tryz.func18 yTa
open Go Cv Go.Proofs
open Go Cv Go.Proofs
@[reducible] def wU:Nat:=44
@[reducible] def tLv:Nat:=41
def clVwC:Con:=con1 (List (List D)) (fun l=>[roV 10 l]) (fun _=>[]) (fun l=>l.length*112≤140737488355328) (fun _=> .own 0) (fun l=>[.own wU 10 l])
def clLvC:Con:=con1 (List (List D)) (fun l=>[roV 3 l]) (fun _=>[]) (fun l=>l.length*24≤140737488355328) (fun _=> .own 0) (fun l=>[.own tLv 3 l])
structure CpI where
 v:Vw
 n:Nat
 s:Bool
def yVb (s:Bool) (p:Sd×Sd):Sd:=bif s then p.2 else p.1
def zYy (v:Vw) (n:Nat) (s:Bool):Sd:=match v[n]? with
 |some p=>yVb s p
 |none=>⟨[],lv0,false⟩
def CpI.f (i:CpI):Nat:=bif i.s then 5 else 0
def CpI.lv (i:CpI):List (List D):=(zYy i.v i.n i.s).levels.map lvE
def fcopyC:Con:=con1 CpI (fun i=>[vwV i.v]) (fun _=>[]) (fun i=>i.n<i.v.length∧i.v.length≤1000000∧qF i.v) (fun _=> .agg [.own 0])
 (fun i=>[.hol true wU 10 (i.v.map zB) i.n i.f true (some 1),.own tLv 3 i.lv])
def yMd (i:CpI):List SAnn:=[
 {ι:=Nat,slots:=fun j=>[(1,.nm 0 0),(12,zA j)],rows:=fun j=>[.cells [.own 1] 34,.hol false wU 10 (i.v.map zB) i.n i.f (decide (i.n<j)) (some 2),.own tLv 3 (bif decide (i.n<j)then i.lv else[])]},
 {ι:=Unit,slots:=fun _=>[],rows:=fun _=>[],un:=3}]
def MsgM.fine (k:Int) (m:MsgM):Int:=if m.inst<0∨k≤m.inst then 20 else if m.side≠1∧m.side≠2 then 21 else if(m.qty<0∨m.count<0)∨¬(m.qty=0↔m.count=0)then 24 else 0
structure FnI where
 k:Int
 m:MsgM
def ffineC:Con:=con1 FnI (fun i=>[zA i.k,z7r i.m]) (fun _=>[]) (fun _=>True) (fun i=>zA (i.m.fine i.k)) (fun _=>[])
structure IxI where
 L:List Lv
 m:MsgM
def oI:Option Nat→Int
 |some k=>k
 |none=> -1
def z7v (m:MsgM):AObj:= .cells [zA m.seq,zA m.inst,zA m.side,zA m.price,zA m.qty,zA m.count,yG m.implied] zNt
def ixA:List SAnn:=[{ι:=Nat,slots:=fun k=>[(8,zA k)],rows:=fun _=>[]}]
def ixPC:Con:=con1 IxI (fun i=>[.own 0,.fn 55 [] [.nm 1 0]]) (fun i=>[.own tLv 3 (i.L.map lvE),z7v i.m]) (fun i=>i.L.length≤1099511627776) (fun i=>zA (oI (i.L.findIdx? fun y=>decide (y.price=i.m.price)))) (fun i=>[.own tLv 3 (i.L.map lvE),z7v i.m])
def ixBC:Con:=con1 IxI (fun i=>[.own 0,.fn 57 [] [.nm 1 0]]) (fun i=>[.own tLv 3 (i.L.map lvE),z7v i.m]) (fun i=>i.L.length≤1099511627776) (fun i=>zA (oI (i.L.findIdx? fun y=>xD i.m.side i.m.price y.price))) (fun i=>[.own tLv 3 (i.L.map lvE),z7v i.m])
def delLC:Con:=yGr tLv 3
def insLC:Con:=yAx tLv 3 24
structure ApI where
 v:Vw
 m:MsgM
def MsgM.lv (m:MsgM):Lv:=⟨m.price,m.qty,m.count⟩
def zHx (s:Int) (x:Sd) (m:MsgM):Sd:=if m.implied=true then(if 0<m.qty then⟨x.levels,m.lv,true⟩else⟨x.levels,lv0,false⟩)else⟨jR s x.levels m.lv,x.imp,x.has⟩
def apV (v:Vw) (m:MsgM):Vw:=v.modify m.inst.toNat fun p=>if m.side=1 then(zHx 1 p.1 m,p.2)else(p.1,zHx 2 p.2 m)
def yTf (s:Int):Con:=con1 ApI (fun i=>[vwV i.v,.agg [zA i.m.seq,zA i.m.inst,zA s,zA i.m.price,zA i.m.qty,zA i.m.count,yG i.m.implied]]) (fun _=>[])
 (fun i=>i.m.side=s∧i.m.fine i.v.length=0∧i.v.length≤1000000∧qF i.v) (fun i=> .tup [vwV (apV i.v i.m),zA 0]) (fun _=>[])
def ap1C:Con:=yTf 1
def ap2C:Con:=yTf 2
def applyC:Con:=con1 ApI (fun i=>[vwV i.v,z7r i.m]) (fun _=>[]) (fun i=>i.m.fine i.v.length=0∧i.v.length≤1000000∧qF i.v) (fun i=> .tup [vwV (apV i.v i.m),zA 0]) (fun _=>[])
end Sx
