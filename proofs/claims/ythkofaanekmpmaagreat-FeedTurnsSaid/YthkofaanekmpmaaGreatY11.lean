/- Texts of ours, one behind the other: a walk that the kernel reckons, and contracts of functions. No condition. -/
import Derived.Test.YthkofaanekmpmaaGreatY10
open List renaming map→aa,take→ab,drop→ac,length→ae
open Sx.AObj renaming cells→af,adt→ag,fro→aj,own→ak
open Bool renaming false→am,true→ao
open Go.IntKind renaming i64→ap
open Int renaming toNat→aq
open Option renaming some→ar
namespace Sx
set_option linter.unusedVariables false
set_option linter.unusedSimpArgs false
set_option maxRecDepth 100000
open Go Cv Go.Proofs
open Go Cv Go.Proofs
open Go Cv Go.Proofs
open Go Cv Go.Proofs
open Go Cv Go.Proofs
def upd (f:Int→Int) (k v:Int):Int→Int:=fun x=>if x=k then v else f x
def one (r:Rep) (m:Int):Int:=if r.kind=3∧r.inst=m then(if r.side=1 then r.qty else-r.qty)else 0
def vq (p:Prd) (k s q m:Int):Int:=
 if(p.legs k).2.2=ao then(if(p.legs k).1=m then(if s=1 then q else-q)else 0)-(if(p.legs k).2.1=m then(if s=1 then q else-q)else 0)
 else if k=m then(if s=1 then q else-q)else 0
open Go Cv Go.Proofs
theorem z6a {s:Int}:∀{F:List zK},zVk s F→fT s (grp F)
 |[],_=>List.Pairwise.nil
 |o::F,h=>by
  rw[zVk,y1w]at h
  have ih:=z6a h.2
  rw[grp]
  cases hg:grp F with
  |nil=>exact List.pairwise_singleton _ _
  |cons v vs=>
   rw[hg]at ih
   dsimp only
   have hv:=ih
   rw[fT,y1w]at hv
   by_cases e:v.price=o.price
   ·rw[yZy e]
    exact y1w.2 ⟨fun w hw=>hv.1 w hw,hv.2⟩
   ·rw[yZx e]
    obtain⟨o',r,e2,e3⟩:=zKi hg
    have hb:btr s o.price v.price=ao:=by
     rw[← e3]
     refine zJi (h.1 o' (by rw[e2];exact y0d)) (by rw[e3];exact e)
    refine y1w.2 ⟨fun w hw=> ?_,ih⟩
    rcases y0m.1 hw with rfl|hw
    ·exact hb
    ·exact pL hb (hv.1 w hw)
theorem yHv {p:Prd} {B:List (List zK)} (h:BWf p B) {k:Nat} {L:List zK} (hL:B[k]? =ar L) {s:Int} (hs:s=1∨s=2):fT s (uU L s)∧yCz (uU L s):=
 ⟨z6a (h.srt k L hL s hs),fun l hl=>(z4l (fun o ho=>(h.od k L hL).1 o (y2c.1 ho).1) hl).1⟩
open Go Cv Go.Proofs
open Classical
def fU (l:List Quote) (b:Quote):Int×Int:=l.foldl (fun a q=>if q.price=b.price then(if q.qty>a.1 then q.qty else a.1,a.2+1)else a) (b.qty,0)
def qA (l:List Quote) (s:Int):Lv×Bool:=if(zU l s).2 then(⟨(zU l s).1.price,(fU l (zU l s).1).1,(fU l (zU l s).1).2⟩,ao)else(⟨0,0,0⟩,am)
def showC:Con:=con1 BsI (fun i=>[roV 6 (i.l.map zL),zA i.s]) (fun _=>[]) (fun i=>(i.s=1∨i.s=2)∧i.l.length≤1000000) (fun i=> .tup [zA (qA i.l i.s).1.price,zA (qA i.l i.s).1.qty,zA (qA i.l i.s).1.count,yF (qA i.l i.s).2]) (fun _=>[])
def yOo (i:BsI):List SAnn:=[{ι:=Nat,slots:=fun k=>[(8,.nm 0 0),(10,zA (fU (i.l.take k) (zU i.l i.s).1).1),(11,zA (fU (i.l.take k) (zU i.l i.s).1).2),(26,zA k)],rows:=fun _=>[.cells (zUc (zU i.l i.s).1).cl 259]}]
def zCe (p:Prd) (B:List (List zK)) (n:Nat) (s:Int):Sd:=⟨uU (B.getD n []) s,(qA (xS ⟨p,B.map qU,n⟩ s) s).1,(qA (xS ⟨p,B.map qU,n⟩ s) s).2⟩
def qT (p:Prd) (B:List (List zK)):Vw:=(List.range p.count).map fun n=>(zCe p B n 1,zCe p B n 2)
structure LkI where
 s:MSt
 p:Prd
 B:List (List zK)
def lookC:Con:=con1 LkI (fun i=>[prdV i.p,.nm 0 0]) (fun i=>[zF i.s]) (fun i=>i.s.Rep i.p i.B∧BOk i.p i.B) (fun i=>vwV (qT i.p i.B)) (fun i=>[zF i.s])
def yWd (i:LkI):List SAnn:=[
 {ι:=Nat,slots:=fun j=>[(5,.nm 0 0),(6,.own 2),(27,zA j)],rows:=fun j=>[.cells [.own 1] 34,.own 44 10 (((qT i.p i.B).take j).map zB),.fro 6 ((i.B.map qU).map zX)]},
 {ι:=Unit,slots:=fun _=>[],rows:=fun _=>[],un:=3}]
noncomputable def yGv (a b:List Lv):Bool:=decide (a=b)
noncomputable def z9c (a b:Sd):Bool:=decide (a=b)
noncomputable def lW (a b:Vw):Bool:=decide (a=b)
structure yIt where
 x:List Lv
 y:List Lv
noncomputable def eqLvC:Con:=con1 yIt (fun i=>[roV 3 (i.x.map lvE),roV 3 (i.y.map lvE)]) (fun _=>[]) (fun i=>i.x.length≤1099511627776∧i.y.length≤1099511627776) (fun i=>yF (yGv i.x i.y)) (fun _=>[])
def yWz:List SAnn:=[{ι:=Nat,slots:=fun k=>[(13,zA k)],rows:=fun _=>[]}]
def yWm:List (Nat×SAnn):=[(24,bj 24)]
structure yDa where
 a:Sd
 b:Sd
noncomputable def fsdC:Con:=con1 yDa (fun i=>[sdV i.a,sdV i.b]) (fun _=>[]) (fun i=>i.a.levels.length≤1099511627776∧i.b.levels.length≤1099511627776) (fun i=>yF (z9c i.a i.b)) (fun _=>[])
structure zMe where
 v:Vw
 w:Vw
noncomputable def eqFC:Con:=con1 zMe (fun i=>[roV 10 (i.v.map zB),roV 10 (i.w.map zB),.fn 64 [] []]) (fun _=>[]) (fun i=>qC i.v∧qC i.w) (fun i=>yF (lW i.v i.w)) (fun _=>[])
def yZm:List SAnn:=[{ι:=Nat,slots:=fun k=>[(17,zA k)],rows:=fun _=>[]}]
def yYx:List (Nat×SAnn):=[(28,bj 30)]
noncomputable def fsameC:Con:=con1 zMe (fun i=>[vwV i.v,vwV i.w]) (fun _=>[]) (fun i=>qC i.v∧qC i.w) (fun i=>yF (lW i.v i.w)) (fun _=>[])
def qJ (m:MsgM):List D:=[.v (.int .i64 m.seq),.v (.int .i64 m.inst),.v (.int .i64 m.side),.v (.int .i64 m.price),.v (.int .i64 m.qty),.v (.int .i64 m.count),.v (.bool m.implied)]
def zWh (m:MsgM):V:= .agg [zA m.seq,zA m.inst,zA m.side,zA m.price,zA m.qty,zA m.count,yF m.implied]
@[reducible] def zWj:Nat:=28
@[reducible] def yOt (l:List MsgM):AObj:= .own zWj 7 (l.map qJ)
def vF (seq:Int):List VM→List MsgM
 |[]=>[]
 |m::M=>⟨seq+1,m.inst,m.side,m.l.price,m.l.qty,m.l.count,m.imp⟩::vF (seq+1) M
structure Dfr where
 seq:Int
 out:List MsgM
@[reducible] def DfO (d:Dfr):List AObj:=[.cells [zA d.seq,.own 1] 120,yOt d.out]
@[reducible] def DfP (d:Dfr):List AObj:=[.cells [zA d.seq,.own 2] 120,.gone,yOt d.out]
def Dfr.add (d:Dfr) (M:List VM):Dfr:=⟨d.seq+M.length,d.out++vF d.seq M⟩
@[reducible] def Dfr.ok (d:Dfr) (n:Nat):Prop:= -4611686018427387904≤d.seq∧d.seq+n≤4611686018427387904∧d.out.length+n≤1000000000
structure DtI where
 d:Dfr
 m:VM
def dtellC:Con:=con1 DtI (fun i=>[.nm 0 0,zA i.m.inst,zA i.m.side,lvV i.m.l,yF i.m.imp]) (fun i=>DfO i.d) (fun i=>i.d.ok 1) (fun _=>zDh) (fun i=>DfP (i.d.add [i.m]))
structure DsI where
 d:Dfr
 n:Nat
 s:Int
 a:Sd
 b:Sd
def dsideC:Con:=con1 DsI (fun i=>[.nm 0 0,zA i.n,zA i.s,sdV i.a,sdV i.b]) (fun i=>DfO i.d) (fun i=>i.d.ok (i.a.levels.length+i.b.levels.length+1)) (fun _=>zDh) (fun i=>DfP (i.d.add (xE i.n i.s i.a i.b)))
structure DsJ where
 x:List Lv
 y:List Lv
 M:List VM
def yPf (i:DsI):List SAnn:=[{ι:=DsJ,slots:=fun j=>[(0,.nm 0 0),(10,roV 3 (j.x.map lvE)),(11,roV 3 (j.y.map lvE))],rows:=fun j=>DfO (i.d.add j.M)}]
def yYm:SAnn:={ι:=Dfr,slots:=fun _=>[(0,.nm 0 0)],rows:=fun d=>DfO d,slots0:=fun _=>[(0,.nm 0 0)],rows0:=fun d=>DfO d}
def lvT (t:Nat):SAnn:={ι:=Lv,slots:=fun _=>[(t,.nm 0 0)],rows:=fun l=>[.cells [zA l.price,zA l.qty,zA l.count] 41],slots0:=fun _=>[(t,.nm 0 0)],rows0:=fun l=>[.cells [zA l.price,zA l.qty,zA l.count] 41]}
def yRn:List (Nat×SAnn):=[(24,bj 41),(36,bj 73),(12,bj 29),(14,yYm),(48,bj 109),(58,lvT 12)]
structure DvI where
 v:Vw
 w:Vw
 seq:Int
def Vw.levs (v:Vw):Nat:=(v.map fun b=>b.1.levels.length+b.2.levels.length).sum
def diffC:Con:=con1 DvI (fun i=>[vwV i.v,vwV i.w,zA i.seq]) (fun _=>[]) (fun i=>i.v.length=i.w.length∧(-4000000000000000000≤i.seq∧i.seq≤4000000000000000000)∧Vw.levs i.v≤100000000∧Vw.levs i.w≤100000000∧i.v.length≤1000000) (fun _=> .own 0) (fun i=>[yOt (vF i.seq (yN 0 i.v i.w))])
def yVy (i:DvI):List SAnn:=[
 {ι:=Nat,slots:=fun j=>[(7,.nm 0 0),(24,zA j)],rows:=fun j=>DfO (Dfr.add ⟨i.seq,[]⟩ (yN 0 (i.v.take j) (i.w.take j)))},
 {ι:=Unit,slots:=fun _=>[],rows:=fun _=>[],un:=3}]
def mencC:Con:=con1 MsgM (fun m=>[zWh m]) (fun _=>[]) (fun _=>True) (fun m=> .tup [roV 1 (bE m.enc),zA m.form]) (fun _=>[])
def yXd:List (Nat×SAnn):=[(4,bj 23),(46,ij 5)]
def mdecC:Con:=con1 (List UInt8) (fun b=>[roV 1 (bE b)]) (fun _=>[]) (fun b=>b.length≤1099511627776) (fun b=> .tup [zWh (qQ b).1,zA (qQ b).2]) (fun _=>[])
def yXq:List (Nat×SAnn):=[(20,bj 43)]
open Go Cv Go.Proofs
def zFt (a:Nat) (b:Nat) (c:BsI) (d:Nat→Prop) (e:Nat→Nat):Prop:=(↑a:Int)=ap.wrap ((↑b:Int)+1)∧(zU c.l c.s).fst.price=(zU c.l c.s).fst.price∧(zU c.l c.s).fst.qty=(zU c.l c.s).fst.qty∧(zU c.l c.s).fst.a.inst=(zU c.l c.s).fst.a.inst∧(zU c.l c.s).fst.a.side=(zU c.l c.s).fst.a.side∧(zU c.l c.s).fst.b.inst=(zU c.l c.s).fst.b.inst∧(zU c.l c.s).fst.b.side=(zU c.l c.s).fst.b.side∧d a∧e a<e b∧True
def qO (a:Nat) (b:BsI):=(fU (ab a b.l) (zU b.l b.s).fst)
def yNa (i:BsI):Prop:=
 ∃(a:BsI),aa zL a.l=aa zL i.l∧a.s=i.s∧(dR a)∧∀(b:Unit),True→cnd (!(zU a.l a.s).snd) (∃(c:Unit),(qA i.l i.s).fst.price=0∧(qA i.l i.s).fst.qty=0∧(qA i.l i.s).fst.count=0∧(qA i.l i.s).snd=am∧True) (∃(c:Nat),(qO c i).fst=(zU a.l a.s).fst.qty∧(qO c i).snd=0∧(↑c:Int)=0∧(zU i.l i.s).fst.price=(zU a.l a.s).fst.price∧(zU i.l i.s).fst.qty=(zU a.l a.s).fst.qty∧(zU i.l i.s).fst.a.inst=(zU a.l a.s).fst.a.inst∧(zU i.l i.s).fst.a.side=(zU a.l a.s).fst.a.side∧(zU i.l i.s).fst.b.inst=(zU a.l a.s).fst.b.inst∧(zU i.l i.s).fst.b.side=(zU a.l a.s).fst.b.side∧∃(d:Nat→Prop),∃(e:Nat→Nat),d c∧∀(f:Nat),d f→cnd (decide ((↑f:Int)<(vY i))) ((0≤(↑f:Int)∧(↑f:Int)<(vY i))∧∃(g:Int),∃(h:Int),∃(j:Int),∃(k:Int),∃(l:Int),∃(m:Int),zE (aa zL i.l) (↑f:Int).toNat 0 6=ar [dI g,dI h,dI j,dI k,dI l,dI m]∧cnd (g==(zU i.l i.s).fst.price) (∃(n:Nat),((qO n i).fst=if h>(qO f i).fst then h else(qO f i).fst)∧(qO n i).snd=ap.wrap ((qO f i).snd+1)∧zFt n f i d e) (∃(n:Nat),(qO n i).fst=(qO f i).fst∧(qO n i).snd=(qO f i).snd∧zFt n f i d e)) (∃(g:Unit),(qA i.l i.s).fst.price=(zU i.l i.s).fst.price∧(qA i.l i.s).fst.qty=(qO f i).fst∧(qA i.l i.s).fst.count=(qO f i).snd∧(qA i.l i.s).snd=ao∧True))
def Vlookt297:=(Sx.V.agg [V.d vR])
def yMo (i:LkI):Prop:=
 ∃(a:Prd),sb a.code=sb i.p.code∧iE a.months=iE i.p.months∧a.tick=i.p.tick∧a.low=i.p.low∧a.high=i.p.high∧a.wide=i.p.wide∧a.rule=i.p.rule∧a.top=i.p.top∧a.least=i.p.least∧a.part=i.p.part∧iE a.settle=iE i.p.settle∧(zY a)∧∀(b:Unit),True→cnd (a.check !=0) (∃(c:Unit),aa zB (qT i.p i.B)=[]∧zF i.s=zF i.s∧True) (∃(c:MSt),zF c=zF i.s∧(fW c)∧∀(d:Unit),True→∃(e:Prd),sb e.code=sb i.p.code∧iE e.months=iE i.p.months∧e.tick=i.p.tick∧e.low=i.p.low∧e.high=i.p.high∧e.wide=i.p.wide∧e.rule=i.p.rule∧e.top=i.p.top∧e.least=i.p.least∧e.part=i.p.part∧iE e.settle=iE i.p.settle∧(zY e)∧∀(f:Unit),True→∃(g:Nat),(↑g:Int)=0∧aa zB (ab g (qT i.p i.B))=[]∧aa zX (aa qU i.B)=aa zX c.tops∧∃(h:Nat→Prop),∃(j:Nat→Nat),h g∧∀(k:Nat),h k→cnd (decide ((↑k:Int)<(↑e.count:Int))) (((0:Int)≤(0:Int)∧0<(↑(2:Nat):Int))∧∃(l:Int),zE [[dI 1],[dI 2]] (aq 0) 0 1=ar [dI l]∧∃(m:SoI),m.inst=(↑k:Int)∧zD m.sd=l∧zF m.s=zF c∧(m.s.Rep m.p m.B∧m.B.length≤1000)∧∀(n:Unit),True→∃(p:tM),sb p.i.p.code=sb i.p.code∧iE p.i.p.months=iE i.p.months∧p.i.p.tick=i.p.tick∧p.i.p.low=i.p.low∧p.i.p.high=i.p.high∧p.i.p.wide=i.p.wide∧p.i.p.rule=i.p.rule∧p.i.p.top=i.p.top∧p.i.p.least=i.p.least∧p.i.p.part=i.p.part∧iE p.i.p.settle=iE i.p.settle∧aa zX p.i.tops=aa zX (aa qU i.B)∧p.i.inst=(↑k:Int)∧zD p.s=l∧(kD p)∧∀(q:Unit),True→∃(r:BsI),aa zL r.l=aa zL (xS p.i (zD p.s))∧r.s=l∧(dR r)∧∀(s:Unit),True→(gR)∧∃(t:Int),zE [[dI 1],[dI 2]] (ap.wrap ((0:Int)+(1:Int))).toNat 0 1=ar [dI t]∧∃(u:SoI),u.inst=(↑k:Int)∧zD u.sd=t∧zF u.s=zF m.s∧(u.s.Rep u.p u.B∧u.B.length≤1000)∧∀(v:Unit),True→∃(w:tM),sb w.i.p.code=sb i.p.code∧iE w.i.p.months=iE i.p.months∧w.i.p.tick=i.p.tick∧w.i.p.low=i.p.low∧w.i.p.high=i.p.high∧w.i.p.wide=i.p.wide∧w.i.p.rule=i.p.rule∧w.i.p.top=i.p.top∧w.i.p.least=i.p.least∧w.i.p.part=i.p.part∧iE w.i.p.settle=iE i.p.settle∧aa zX w.i.tops=aa zX (aa qU i.B)∧w.i.inst=(↑k:Int)∧zD w.s=t∧(kD w)∧∀(x:Unit),True→∃(y:BsI),aa zL y.l=aa zL (xS w.i (zD w.s))∧y.s=t∧(dR y)∧∀(z:Unit),True→((aa zB (ab k (qT i.p i.B))).length+1)*(112:Nat)≤(140737488355328:Nat)∧∃(a_1:Nat),(↑a_1:Int)=ap.wrap ((↑k:Int)+1)∧aa zB (ab a_1 (qT i.p i.B))=aa zB (ab k (qT i.p i.B))++[[D.ro 3 (aa lvE (bJ m)),dI ((qA r.l r.s).fst.price),dI ((qA r.l r.s).fst.qty),dI ((qA r.l r.s).fst.count),D.v (.bool (qA r.l r.s).snd),D.ro 3 (aa lvE (bJ u)),dI ((qA y.l y.s).fst.price),dI ((qA y.l y.s).fst.qty),dI ((qA y.l y.s).fst.count),D.v (.bool (qA y.l y.s).snd)]]∧aj 6 (aa zX (aa qU i.B))=aj 6 (aa zX (aa qU i.B))∧h a_1∧j a_1<j k∧zF u.s=zF c∧af Vlookt297.cl 34=af Vlookt297.cl 34∧af [V.d (D.v (Value.string (sb i.p.code))),V.own 1,V.d (dI i.p.tick),V.d (dI i.p.low),V.d (dI i.p.high),V.d (dI i.p.wide),V.d (dI i.p.rule),V.d (dI i.p.top),V.d (dI i.p.least),V.d (dI i.p.part),V.own ((1:Nat)+(1:Nat))] 25=af [V.d (D.v (Value.string (sb i.p.code))),V.own 1,V.d (dI i.p.tick),V.d (dI i.p.low),V.d (dI i.p.high),V.d (dI i.p.wide),V.d (dI i.p.rule),V.d (dI i.p.top),V.d (dI i.p.least),V.d (dI i.p.part),V.own ((1:Nat)+(1:Nat))] 25∧aj 1 (iE i.p.settle)=aj 1 (iE i.p.settle)∧aj 1 (iE i.p.months)=aj 1 (iE i.p.months)) (∃(l:Unit),aa zB (qT i.p i.B)=aa zB (ab k (qT i.p i.B))∧zF i.s=zF c∧True))
def yMj (i:yIt):Prop:=
 cnd ((↑(aa lvE i.x).length:Int) !=(↑(aa lvE i.y).length:Int)) (∃(a:Unit),yGv i.x i.y=am∧True) (∃(a:Nat),(↑a:Int)=0∧∃(b:Nat→Prop),∃(c:Nat→Nat),b a∧∀(d:Nat),b d→cnd (decide ((↑d:Int)<(↑(aa lvE i.x).length:Int))) (∃(e:Bool),∃(f:Bool→Prop),((0≤(↑d:Int)∧(↑d:Int)<(↑(aa lvE i.x).length:Int))∧∃(g:Int),∃(h:Int),∃(j:Int),zE (aa lvE i.x) (↑d:Int).toNat 0 3=ar [dI g,dI h,dI j]∧(0≤(↑d:Int)∧(↑d:Int)<(↑(aa lvE i.y).length:Int))∧∃(k:Int),∃(l:Int),∃(m:Int),zE (aa lvE i.y) (↑d:Int).toNat 0 3=ar [dI k,dI l,dI m]∧∃(n:Bool),n=!(g==k && (h==l && (j==m && ao)))∧f n∧True)∧∀(g:Bool),f g→cnd g (∃(h:Unit),yGv i.x i.y=am∧True) (jL d b c)) (∃(e:Unit),yGv i.x i.y=ao∧True))
def yVn (i:yDa):Prop:=
 ∃(a:yIt),aa lvE a.x=aa lvE i.a.levels∧aa lvE a.y=aa lvE i.b.levels∧(a.x.length≤1099511627776∧a.y.length≤1099511627776)∧∀(b:Unit),True→cnd (yGv a.x a.y) (cnd (i.a.imp.price==i.b.imp.price && (i.a.imp.qty==i.b.imp.qty && (i.a.imp.count==i.b.imp.count && ao))) (∃(c:Unit),z9c i.a i.b=(i.a.has==i.b.has)∧True) (∃(c:Unit),z9c i.a i.b=am∧True)) (∃(c:Unit),z9c i.a i.b=am∧True)
def zTf (a:Bool→Prop) (b:Bool) (c:List (List D)) (d:List (List D)) (e:Int) (f:Int) (g:Int) (h:Bool) (j:Int) (k:Int) (l:Int) (m:Bool) (n:List (List D)) (p:List (List D)) (q:Int) (r:Int) (s:Int) (t:Bool) (u:Int) (v:Int) (w:Int) (x:Bool):Prop:=a b∧aj 3 c=aj 3 c∧aj 3 d=aj 3 d∧af [V.own ((0:Nat)+(0:Nat)+(1:Nat)+(1:Nat)+(1:Nat)+(1:Nat)),V.d (dI e),V.d (dI f),V.d (dI g),V.d (D.v (.bool h)),V.own ((0:Nat)+(0:Nat)+(1:Nat)+(1:Nat)+(1:Nat)+(1:Nat)+1),V.d (dI j),V.d (dI k),V.d (dI l),V.d (D.v (.bool m))] 44=af [V.own ((0:Nat)+(0:Nat)+(1:Nat)+(1:Nat)+(1:Nat)+(1:Nat)),V.d (dI e),V.d (dI f),V.d (dI g),V.d (D.v (.bool h)),V.own ((0:Nat)+(0:Nat)+(1:Nat)+(1:Nat)+(1:Nat)+(1:Nat)+1),V.d (dI j),V.d (dI k),V.d (dI l),V.d (D.v (.bool m))] 44∧aj 3 n=aj 3 n∧aj 3 p=aj 3 p∧af [V.own ((0:Nat)+(0:Nat)+1),V.d (dI q),V.d (dI r),V.d (dI s),V.d (D.v (.bool t)),V.own ((0:Nat)+(0:Nat)+(1:Nat)+(1:Nat)),V.d (dI u),V.d (dI v),V.d (dI w),V.d (D.v (.bool x))] 44=af [V.own ((0:Nat)+(0:Nat)+1),V.d (dI q),V.d (dI r),V.d (dI s),V.d (D.v (.bool t)),V.own ((0:Nat)+(0:Nat)+(1:Nat)+(1:Nat)),V.d (dI u),V.d (dI v),V.d (dI w),V.d (D.v (.bool x))] 44
def yWf (i:zMe):Prop:=
 cnd ((↑(aa zB i.v).length:Int) !=(↑(aa zB i.w).length:Int)) (∃(a:Unit),lW i.v i.w=am∧True) (∃(a:Nat),(↑a:Int)=0∧∃(b:Nat→Prop),∃(c:Nat→Nat),b a∧∀(d:Nat),b d→cnd (decide ((↑d:Int)<(↑(aa zB i.v).length:Int))) ((0≤(↑d:Int)∧(↑d:Int)<(↑(aa zB i.v).length:Int))∧∃(e:List (List D)),∃(f:Int),∃(g:Int),∃(h:Int),∃(j:Bool),∃(k:List (List D)),∃(l:Int),∃(m:Int),∃(n:Int),∃(p:Bool),zE (aa zB i.v) (↑d:Int).toNat 0 10=ar [D.ro 3 e,dI f,dI g,dI h,D.v (.bool j),D.ro 3 k,dI l,dI m,dI n,D.v (.bool p)]∧(0≤(↑d:Int)∧(↑d:Int)<(↑(aa zB i.w).length:Int))∧∃(q:List (List D)),∃(r:Int),∃(s:Int),∃(t:Int),∃(u:Bool),∃(v:List (List D)),∃(w:Int),∃(x:Int),∃(y:Int),∃(z:Bool),zE (aa zB i.w) (↑d:Int).toNat 0 10=ar [D.ro 3 q,dI r,dI s,dI t,D.v (.bool u),D.ro 3 v,dI w,dI x,dI y,D.v (.bool z)]∧∃(a_1:Bool),∃(a_2:Bool→Prop),(∃(a_3:yDa),aa lvE a_3.a.levels=e∧a_3.a.imp.price=f∧a_3.a.imp.qty=g∧a_3.a.imp.count=h∧a_3.a.has=j∧aa lvE a_3.b.levels=q∧a_3.b.imp.price=r∧a_3.b.imp.qty=s∧a_3.b.imp.count=t∧a_3.b.has=u∧(a_3.a.levels.length≤1099511627776∧a_3.b.levels.length≤1099511627776)∧∀(a_4:Unit),True→cnd (z9c a_3.a a_3.b) (∃(a_5:yDa),aa lvE a_5.a.levels=k∧a_5.a.imp.price=l∧a_5.a.imp.qty=m∧a_5.a.imp.count=n∧a_5.a.has=p∧aa lvE a_5.b.levels=v∧a_5.b.imp.price=w∧a_5.b.imp.qty=x∧a_5.b.imp.count=y∧a_5.b.has=z∧(a_5.a.levels.length≤1099511627776∧a_5.b.levels.length≤1099511627776)∧∀(a_6:Unit),True→∃(a_7:Bool),a_7=!z9c a_5.a a_5.b∧zTf a_2 a_7 v q r s t u w x y z k e f g h j l m n p) (∃(a_5:Bool),a_5=!false∧zTf a_2 a_5 v q r s t u w x y z k e f g h j l m n p))∧∀(a_3:Bool),a_2 a_3→cnd a_3 (∃(a_4:Unit),lW i.v i.w=am∧True) (jL d b c)) (∃(e:Unit),lW i.v i.w=ao∧True))
def wN (a:Sd×Sd):Prop:=a.fst.levels.length≤1099511627776∧a.snd.levels.length≤1099511627776
def hU (a:zMe):Prop:=(ae a.v≤1099511627776∧∀(b:Sd×Sd),b∈a.v→wN b)∧ae a.w≤1099511627776∧∀(b:Sd×Sd),b∈a.w→wN b
def yDq (i:zMe):Prop:=
 ∃(a:zMe),aa zB a.v=aa zB i.v∧aa zB a.w=aa zB i.w∧(hU a)∧∀(b:Unit),True→∃(c:Unit),lW i.v i.w=lW a.v a.w∧True
def yDc (i:DtI):Prop:=
 True∧((aa qJ i.d.out).length+1)*(56:Nat)≤(140737488355328:Nat)∧∃(a:Unit),i.d.seq+(↑(1:Nat):Int)=ap.wrap (i.d.seq+1)∧aa qJ (i.d.out++vF i.d.seq [i.m])=aa qJ i.d.out++[[dI (ap.wrap (i.d.seq+1)),dI (↑i.m.inst:Int),dI i.m.side,dI i.m.l.price,dI i.m.l.qty,dI i.m.l.count,D.v (.bool i.m.imp)]]∧True
def kG (a:DsI) (b:DsJ):=(a.d.out++vF a.d.seq b.M)
def mW (a:DsI):Prop:=af [V.own ((2:Nat)+(1:Nat)+1),V.d (dI a.b.imp.price),V.d (dI a.b.imp.qty),V.d (dI a.b.imp.count),V.d (D.v (.bool a.b.has))] 43=af [V.own ((2:Nat)+(1:Nat)+1),V.d (dI a.b.imp.price),V.d (dI a.b.imp.qty),V.d (dI a.b.imp.count),V.d (D.v (.bool a.b.has))] 43∧aj 3 (aa lvE a.b.levels)=aj 3 (aa lvE a.b.levels)∧af [V.own 2,V.d (dI a.a.imp.price),V.d (dI a.a.imp.qty),V.d (dI a.a.imp.count),V.d (D.v (.bool a.a.has))] 43=af [V.own 2,V.d (dI a.a.imp.price),V.d (dI a.a.imp.qty),V.d (dI a.a.imp.count),V.d (D.v (.bool a.a.has))] 43∧aj 3 (aa lvE a.a.levels)=aj 3 (aa lvE a.a.levels)
def zFg (a:DsI) (b:DsJ) (c:DsJ):Prop:=af (vI (fJ ((2:Nat)+(1:Nat)+(1:Nat)+(1:Nat)+1) [((1:Nat),(1:Nat)),((0:Nat),(0:Nat))] 0 (DfO (a.d.add b.M))) [zA (a.d.seq+(↑c.M.length:Int)),V.own 1]) (120:TypeId)=af (vI (fJ ((2:Nat)+(1:Nat)+(1:Nat)+(1:Nat)+1) [((1:Nat),(1:Nat)),((0:Nat),(0:Nat))] 0 (DfO (a.d.add b.M))) [zA (a.d.seq+(↑c.M.length:Int)),V.own 1]) (120:TypeId)∧ak zWj 7 (aa qJ (kG a c))=ak zWj 7 (aa qJ (kG a c))∧mW a
def mZ (a:Bool→Prop) (b:Bool) (c:DsI) (d:DsJ) (e:DsJ):Prop:=a b∧zFg c d e
def zFd (a:DsI) (b:Int) (c:Int) (d:Bool→Prop) (e:DsJ) (f:DsJ):Prop:=∃(g:I3),g.side=a.s∧g.x=b∧g.y=c∧True∧∀(h:Unit),True→∃(j:Bool),j=xB g.side g.x g.y∧mZ d j a e f
def eF (a:Bool→Prop) (b:DsI) (c:DsJ) (d:DsJ):Prop:=∃(e:Bool),e=ao∧mZ a e b c d
def zGm (a:Lv→Prop) (b:Lv) (c:DsI) (d:DsJ) (e:DsJ):Prop:=a b∧zFg c d e
def zEu (a:DsJ→Prop) (b:DsJ) (c:DsJ→Nat) (d:DsJ) (e:DsI):Prop:=a b∧c b<c d∧mW e
def zFq (a:DsI) (b:DsJ) (c:DtI) (d:DsJ→Prop) (e:DsJ→Nat) (f:DsJ):Prop:=a.d.seq+(↑b.M.length:Int)=c.d.seq+(↑(1:Nat):Int)∧aa qJ (kG a b)=aa qJ (c.d.out++vF c.d.seq [c.m])∧zEu d b e f a
def zHa (a:Dfr→Prop) (b:Dfr) (c:DsI):Prop:=a b∧mW c
def b9 (a:DtI):Prop:=(-4611686018427387904)≤a.d.seq∧a.d.seq+(↑(1:Nat):Int)≤4611686018427387904∧a.d.out.length+(1:Nat)≤(1000000000:Nat)
def dS (a:DsJ):=(↑(aa lvE a.y).length:Int)
def dH (a:DsJ):Prop:=(0:Int)≤(0:Int)∧0<(dS a)
def gI (a:DsJ):=(↑(aa lvE a.x).length:Int)
def bY (a:DsJ):Prop:=(0:Int)≤(0:Int)∧0<(gI a)
def dK (a:DsI):=(a.d.out++vF a.d.seq (xE a.n a.s a.a a.b))
def dE (a:DsI):=(↑(xE a.n a.s a.a a.b).length:Int)
def yEf (i:DsI):Prop:=
 ∃(a:DsJ),aa lvE a.x=aa lvE i.a.levels∧aa lvE a.y=aa lvE i.b.levels∧i.d.seq+(↑a.M.length:Int)=i.d.seq∧aa qJ (kG i a)=aa qJ i.d.out∧∃(b:DsJ→Prop),∃(c:DsJ→Nat),b a∧∀(d:DsJ),b d→cnd (decide (ap.wrap ((gI d)+(dS d))>0)) (∃(e:Bool),∃(f:Bool→Prop),cnd ((dS d)==0) (eF f i a d) (cnd (decide ((gI d)>0)) ((bY d)∧∃(g:Int),zE (aa lvE d.x) (aq 0) ((0:Nat)+(0:Nat)) 1=ar [dI g]∧(dH d)∧∃(h:Int),zE (aa lvE d.y) (aq 0) ((0:Nat)+(0:Nat)) 1=ar [dI h]∧zFd i g h f a d) (∃(g:Bool),g=am∧mZ f g i a d))∧∀(g:Bool),f g→cnd g ((bY d)∧∃(h:Int),zE (aa lvE d.x) (aq 0) ((0:Nat)+(0:Nat)) 1=ar [dI h]∧∃(j:DtI),(↑j.m.inst:Int)=(↑i.n:Int)∧j.m.side=i.s∧j.m.l.price=h∧j.m.l.qty=0∧j.m.l.count=0∧j.m.imp=am∧j.d.seq=i.d.seq+(↑d.M.length:Int)∧aa qJ j.d.out=aa qJ (kG i d)∧(b9 j)∧∀(k:Unit),True→((0:Int)≤(1:Int)∧1≤(gI d))∧∃(l:DsJ),aa lvE l.x=ac (aq 1) (aa lvE d.x)∧aa lvE l.y=aa lvE d.y∧zFq i l j b c d) (∃(h:Bool),∃(j:Bool→Prop),cnd ((gI d)==0) (eF j i a d) ((dH d)∧∃(k:Int),zE (aa lvE d.y) (aq 0) ((0:Nat)+(0:Nat)) 1=ar [dI k]∧(bY d)∧∃(l:Int),zE (aa lvE d.x) (aq 0) ((0:Nat)+(0:Nat)) 1=ar [dI l]∧zFd i k l j a d)∧∀(k:Bool),j k→cnd k ((dH d)∧∃(l:Int),∃(m:Int),∃(n:Int),zE (aa lvE d.y) (aq 0) 0 3=ar [dI l,dI m,dI n]∧∃(p:DtI),(↑p.m.inst:Int)=(↑i.n:Int)∧p.m.side=i.s∧p.m.l.price=l∧p.m.l.qty=m∧p.m.l.count=n∧p.m.imp=am∧p.d.seq=i.d.seq+(↑d.M.length:Int)∧aa qJ p.d.out=aa qJ (kG i d)∧(b9 p)∧∀(q:Unit),True→((0:Int)≤(1:Int)∧1≤(dS d))∧∃(r:DsJ),aa lvE r.x=aa lvE d.x∧aa lvE r.y=ac (aq 1) (aa lvE d.y)∧zFq i r p b c d) (∃(l:Dfr),l.seq=i.d.seq+(↑d.M.length:Int)∧aa qJ l.out=aa qJ (kG i d)∧∃(m:Dfr→Prop),(∃(n:Bool),∃(p:Bool→Prop),((bY d)∧∃(q:Int),∃(r:Int),∃(s:Int),zE (aa lvE d.x) (aq 0) 0 3=ar [dI q,dI r,dI s]∧(dH d)∧∃(t:Int),∃(u:Int),∃(v:Int),zE (aa lvE d.y) (aq 0) 0 3=ar [dI t,dI u,dI v]∧∃(w:Bool),w=!(q==t && (r==u && (s==v && ao)))∧p w∧af (vI (zNt ((2:Nat)+(1:Nat)+(1:Nat)+(1:Nat)+(1:Nat)+(2:Nat)+(0:Nat)+(0:Nat)) (jU [((1:Nat),(2:Nat)+(1:Nat)+(1:Nat)+(1:Nat)+1+((0:Nat)+(1:Nat))),((0:Nat),(0:Nat))] 0 (DfO l)) 2) [zA l.seq,V.own 1]) (120:TypeId)=af (vI (zNt ((2:Nat)+(1:Nat)+(1:Nat)+(1:Nat)+(1:Nat)+(2:Nat)+(0:Nat)+(0:Nat)) (jU [((1:Nat),(2:Nat)+(1:Nat)+(1:Nat)+(1:Nat)+1+((0:Nat)+(1:Nat))),((0:Nat),(0:Nat))] 0 (DfO l)) 2) [zA l.seq,V.own 1]) (120:TypeId)∧ak zWj 7 (aa qJ l.out)=ak zWj 7 (aa qJ l.out)∧mW i)∧∀(q:Bool),p q→cnd q ((dH d)∧∃(r:Int),∃(s:Int),∃(t:Int),zE (aa lvE d.y) (aq 0) 0 3=ar [dI r,dI s,dI t]∧∃(u:DtI),(↑u.m.inst:Int)=(↑i.n:Int)∧u.m.side=i.s∧u.m.l.price=r∧u.m.l.qty=s∧u.m.l.count=t∧u.m.imp=am∧u.d.seq=l.seq∧aa qJ u.d.out=aa qJ l.out∧(b9 u)∧∀(v:Unit),True→∃(w:Dfr),w.seq=u.d.seq+(↑(1:Nat):Int)∧aa qJ w.out=aa qJ (u.d.out++vF u.d.seq [u.m])∧zHa m w i) (∃(r:Dfr),r.seq=l.seq∧aa qJ r.out=aa qJ l.out∧zHa m r i))∧∀(n:Dfr),m n→((0:Int)≤(1:Int)∧1≤(gI d))∧((0:Int)≤(1:Int)∧1≤(dS d))∧∃(p:DsJ),aa lvE p.x=ac (aq 1) (aa lvE d.x)∧aa lvE p.y=ac (aq 1) (aa lvE d.y)∧i.d.seq+(↑p.M.length:Int)=n.seq∧aa qJ (kG i p)=aa qJ n.out∧zEu b p c d i))) (∃(e:Bool),∃(f:Bool→Prop),cnd (!(i.a.imp.price==i.b.imp.price && (i.a.imp.qty==i.b.imp.qty && (i.a.imp.count==i.b.imp.count && ao)))) (eF f i a d) (∃(g:Bool),g=!i.a.has==i.b.has∧mZ f g i a d)∧∀(g:Bool),f g→cnd g (∃(h:Lv),h.price=i.b.imp.price∧h.qty=i.b.imp.qty∧h.count=i.b.imp.count∧∃(j:Lv→Prop),cnd (!i.b.has) (∃(k:Lv),k.price=0∧k.qty=0∧k.count=0∧zGm j k i a d) (∃(k:Lv),k.price=h.price∧k.qty=h.qty∧k.count=h.count∧zGm j k i a d)∧∀(k:Lv),j k→∃(l:DtI),(↑l.m.inst:Int)=(↑i.n:Int)∧l.m.side=i.s∧l.m.l.price=k.price∧l.m.l.qty=k.qty∧l.m.l.count=k.count∧l.m.imp=ao∧l.d.seq=i.d.seq+(↑d.M.length:Int)∧aa qJ l.d.out=aa qJ (kG i d)∧(b9 l)∧∀(m:Unit),True→∃(n:Unit),i.d.seq+(dE i)=l.d.seq+(↑(1:Nat):Int)∧aa qJ (dK i)=aa qJ (l.d.out++vF l.d.seq [l.m])∧True) (∃(h:Unit),i.d.seq+(dE i)=i.d.seq+(↑d.M.length:Int)∧aa qJ (dK i)=aa qJ (kG i d)∧True))
def zHi (a:DsI):Prop:=(-4611686018427387904)≤a.d.seq∧a.d.seq+(↑(a.a.levels.length+a.b.levels.length+1):Int)≤4611686018427387904∧a.d.out.length+(a.a.levels.length+a.b.levels.length+1)≤1000000000
def nK (a:DvI) (b:Nat):=([]++vF a.seq (yN 0 (ab b a.v) (ab b a.w)))
def lN (a:Nat) (b:DvI):=(↑(yN 0 (ab a b.v) (ab a b.w)).length:Int)
def nM (a:DvI):=(↑(aa zB a.v).length:Int)
def yNw (i:DvI):Prop:=
 cnd ((nM i) !=(↑(aa zB i.w).length:Int)) (∃(a:Unit),aa qJ (vF i.seq (yN 0 i.v i.w))=[]∧True) (∃(a:Nat),(↑a:Int)=0∧i.seq+(lN a i)=i.seq∧aa qJ (nK i a)=[]∧∃(b:Nat→Prop),∃(c:Nat→Nat),b a∧∀(d:Nat),b d→cnd (decide ((↑d:Int)<(nM i))) (((0:Int)≤(0:Int)∧0<(↑(2:Nat):Int))∧∃(e:Int),zE [[dI 1],[dI 2]] (aq 0) 0 1=ar [dI e]∧(0≤(↑d:Int)∧(↑d:Int)<(nM i))∧∃(f:List (List D)),∃(g:Int),∃(h:Int),∃(j:Int),∃(k:Bool),zE (aa zB i.v) (↑d:Int).toNat (0+nat_lit 0*5) 5=ar [D.ro 3 f,dI g,dI h,dI j,D.v (.bool k)]∧(0≤(↑d:Int)∧(↑d:Int)<(↑(aa zB i.w).length:Int))∧∃(l:List (List D)),∃(m:Int),∃(n:Int),∃(p:Int),∃(q:Bool),zE (aa zB i.w) (↑d:Int).toNat (0+nat_lit 0*5) 5=ar [D.ro 3 l,dI m,dI n,dI p,D.v (.bool q)]∧∃(r:DsI),(↑r.n:Int)=(↑d:Int)∧r.s=e∧aa lvE r.a.levels=f∧r.a.imp.price=g∧r.a.imp.qty=h∧r.a.imp.count=j∧r.a.has=k∧aa lvE r.b.levels=l∧r.b.imp.price=m∧r.b.imp.qty=n∧r.b.imp.count=p∧r.b.has=q∧r.d.seq=i.seq+(lN d i)∧aa qJ r.d.out=aa qJ (nK i d)∧(zHi r)∧∀(s:Unit),True→(gR)∧∃(t:Int),zE [[dI 1],[dI 2]] (ap.wrap ((0:Int)+(1:Int))).toNat 0 1=ar [dI t]∧(0≤(↑d:Int)∧(↑d:Int)<(nM i))∧∃(u:List (List D)),∃(v:Int),∃(w:Int),∃(x:Int),∃(y:Bool),zE (aa zB i.v) (↑d:Int).toNat (0+(nat_lit 0+nat_lit 1) % Vtopst364.natAbs*5) 5=ar [D.ro 3 u,dI v,dI w,dI x,D.v (.bool y)]∧(0≤(↑d:Int)∧(↑d:Int)<(↑(aa zB i.w).length:Int))∧∃(z:List (List D)),∃(a_1:Int),∃(a_2:Int),∃(a_3:Int),∃(a_4:Bool),zE (aa zB i.w) (↑d:Int).toNat (0+(nat_lit 0+nat_lit 1) % Vtopst364.natAbs*5) 5=ar [D.ro 3 z,dI a_1,dI a_2,dI a_3,D.v (.bool a_4)]∧∃(a_5:DsI),(↑a_5.n:Int)=(↑d:Int)∧a_5.s=t∧aa lvE a_5.a.levels=u∧a_5.a.imp.price=v∧a_5.a.imp.qty=w∧a_5.a.imp.count=x∧a_5.a.has=y∧aa lvE a_5.b.levels=z∧a_5.b.imp.price=a_1∧a_5.b.imp.qty=a_2∧a_5.b.imp.count=a_3∧a_5.b.has=a_4∧a_5.d.seq=r.d.seq+(dE r)∧aa qJ a_5.d.out=aa qJ (dK r)∧(zHi a_5)∧∀(a_6:Unit),True→∃(a_7:Nat),(↑a_7:Int)=ap.wrap ((↑d:Int)+1)∧i.seq+(lN a_7 i)=a_5.d.seq+(dE a_5)∧aa qJ (nK i a_7)=aa qJ (dK a_5)∧b a_7∧c a_7<c d∧af [V.own ((0:Nat)+(1:Nat)+1)] 34=af [V.own ((0:Nat)+(1:Nat)+1)] 34∧aj 10 (aa zB i.w)=aj 10 (aa zB i.w)∧af [V.own 0] 34=af [V.own 0] 34∧aj 10 (aa zB i.v)=aj 10 (aa zB i.v)) (∃(e:Unit),aa qJ (vF i.seq (yN 0 i.v i.w))=aa qJ (nK i d)∧True))
def zFc (a:MsgM):Prop:=af [V.d (dI a.seq),V.d (dI a.inst),V.d (dI a.side),V.d (dI a.price),V.d (dI a.qty),V.d (dI a.count),V.d (D.v (.bool a.implied))] 28=af [V.d (dI a.seq),V.d (dI a.inst),V.d (dI a.side),V.d (dI a.price),V.d (dI a.qty),V.d (dI a.count),V.d (D.v (.bool a.implied))] 28
def zHg (a:Int→Prop) (b:Int) (c:WN) (d:MsgM):Prop:=a b∧ag (List UInt8) 2 WrU (c.l++le c.n 8)=ag (List UInt8) 2 WrU (c.l++le c.n 8)∧zFc d
def lD (a:Bool→Prop) (b:Bool) (c:MsgM):Prop:=a b∧zFc c
def zFu (a:Bool→Prop) (b:MsgM):Prop:=∃(c:Bool),c=ao∧lD a c b
def yNr (m:MsgM):Prop:=
 ∃(a:Bool),∃(b:Bool→Prop),cnd (decide (m.inst<0)) (zFu b m) (cnd (decide (m.inst>255)) (zFu b m) (cnd (m.side !=1) (∃(c:Bool),c=(m.side !=2)∧lD b c m) (∃(c:Bool),c=am∧lD b c m)))∧∀(c:Bool),b c→cnd c (∃(d:Unit),bE m.enc=[]∧m.form=12∧True) (∃(d:Unit),True∧∀(e:Unit),True→∃(f:WN),f.n=m.seq∧ag (List UInt8) 2 WrU f.l=ag (List UInt8) 2 WrU []∧f.ok∧∀(g:Unit),True→∃(h:WN),h.n=m.inst∧ag (List UInt8) 2 WrU h.l=ag (List UInt8) 2 WrU (f.l++le f.n 8)∧h.ok∧∀(j:Unit),True→∃(k:WN),k.n=m.side∧ag (List UInt8) 2 WrU k.l=ag (List UInt8) 2 WrU (h.l++[lob h.n])∧k.ok∧∀(l:Unit),True→∃(n:WN),n.n=m.price∧ag (List UInt8) 2 WrU n.l=ag (List UInt8) 2 WrU (k.l++[lob k.n])∧n.ok∧∀(p:Unit),True→∃(q:WN),q.n=m.qty∧ag (List UInt8) 2 WrU q.l=ag (List UInt8) 2 WrU (n.l++le n.n 8)∧q.ok∧∀(r:Unit),True→∃(s:WN),s.n=m.count∧ag (List UInt8) 2 WrU s.l=ag (List UInt8) 2 WrU (q.l++le q.n 8)∧s.ok∧∀(t:Unit),True→∃(u:Int),∃(v:Int→Prop),cnd m.implied (∃(w:Int),w=1∧zHg v w s m) (∃(w:Int),w=0∧zHg v w s m)∧∀(w:Int),v w→∃(x:WN),x.n=w∧ag (List UInt8) 2 WrU x.l=ag (List UInt8) 2 WrU (s.l++le s.n 8)∧x.ok∧∀(y:Unit),True→∃(z:List UInt8),ag (List UInt8) 2 WrU z=ag (List UInt8) 2 WrU (x.l++[lob x.n])∧z.length≤1099511627776∧∀(a_1:Unit),True→∃(a_2:Unit),bE m.enc=bE z∧m.form=0∧True)
def uD (a:RB):=(dI (ap.wrap (kO (a.n 8).got)))
def zDv (a:Bool→Prop) (b:Bool) (c:RB) (d:RB) (e:RB) (f:RB) (g:RB) (h:RB) (j:RB) (k:RB):Prop:=a b∧ag (List UInt8×Bool) 1 RdU (c.l,c.b)=ag (List UInt8×Bool) 1 RdU ((d.n 1).left,(d.n 1).bad)∧af [V.d (uD e),V.d (dI (kO (f.n 1).got)),V.d (dI (kO (g.n 1).got)),V.d (uD h),V.d (uD j),V.d (uD k),V.d (D.v (.bool (kO (d.n 1).got==1)))] 28=af [V.d (uD e),V.d (dI (kO (f.n 1).got)),V.d (dI (kO (g.n 1).got)),V.d (uD h),V.d (uD j),V.d (uD k),V.d (D.v (.bool (kO (d.n 1).got==1)))] 28∧af (Sx.V.agg [V.d (dI 0),V.d (dI 0),V.d (dI 0),V.d (dI 0),V.d (dI 0),V.d (dI 0),V.d (D.v (.bool am))]).cl 28=af (Sx.V.agg [V.d (dI 0),V.d (dI 0),V.d (dI 0),V.d (dI 0),V.d (dI 0),V.d (dI 0),V.d (D.v (.bool am))]).cl 28
def zKu (a:Bool→Prop) (b:RB) (c:RB) (d:RB) (e:RB) (f:RB) (g:RB) (h:RB) (j:RB):Prop:=∃(k:Bool),k=ao∧zDv a k b c d e f g h j
def yNc (b:List UInt8):Prop:=
 ∃(a:List UInt8),bE a=bE b∧a.length≤1099511627776∧∀(c:Unit),True→∃(d:RB),ag (List UInt8×Bool) 1 RdU (d.l,d.b)=ag (List UInt8×Bool) 1 RdU (a,am)∧d.l.length≤1099511627776∧∀(e:Unit),True→∃(f:RB),ag (List UInt8×Bool) 1 RdU (f.l,f.b)=ag (List UInt8×Bool) 1 RdU ((d.n 8).left,(d.n 8).bad)∧f.l.length≤1099511627776∧∀(g:Unit),True→∃(h:RB),ag (List UInt8×Bool) 1 RdU (h.l,h.b)=ag (List UInt8×Bool) 1 RdU ((f.n 1).left,(f.n 1).bad)∧h.l.length≤1099511627776∧∀(j:Unit),True→∃(k:RB),ag (List UInt8×Bool) 1 RdU (k.l,k.b)=ag (List UInt8×Bool) 1 RdU ((h.n 1).left,(h.n 1).bad)∧k.l.length≤1099511627776∧∀(l:Unit),True→∃(m:RB),ag (List UInt8×Bool) 1 RdU (m.l,m.b)=ag (List UInt8×Bool) 1 RdU ((k.n 8).left,(k.n 8).bad)∧m.l.length≤1099511627776∧∀(n:Unit),True→∃(p:RB),ag (List UInt8×Bool) 1 RdU (p.l,p.b)=ag (List UInt8×Bool) 1 RdU ((m.n 8).left,(m.n 8).bad)∧p.l.length≤1099511627776∧∀(q:Unit),True→∃(r:RB),ag (List UInt8×Bool) 1 RdU (r.l,r.b)=ag (List UInt8×Bool) 1 RdU ((p.n 8).left,(p.n 8).bad)∧r.l.length≤1099511627776∧∀(s:Unit),True→∃(t:Bool),∃(u:Bool→Prop),(∃(v:RB),ag (List UInt8×Bool) 1 RdU (v.l,v.b)=ag (List UInt8×Bool) 1 RdU ((r.n 1).left,(r.n 1).bad)∧v.l.length≤1099511627776∧∀(w:Unit),True→cnd ((if v.b=ao then(10:Int)else if 0<v.l.length then(15:Int)else(0:Int)) !=0) (zKu u v r d f h k m p) (cnd (decide (kO (r.n 1).got>1)) (zKu u v r d f h k m p) (cnd (kO (h.n 1).got !=1) (∃(x:Bool),x=(kO (h.n 1).got !=2)∧zDv u x v r d f h k m p) (∃(x:Bool),x=am∧zDv u x v r d f h k m p))))∧∀(v:Bool),u v→cnd v (∃(w:Unit),(qQ b).fst.seq=0∧(qQ b).fst.inst=0∧(qQ b).fst.side=0∧(qQ b).fst.price=0∧(qQ b).fst.qty=0∧(qQ b).fst.count=0∧(qQ b).fst.implied=am∧(qQ b).snd=12∧True) (∃(w:Unit),(qQ b).fst.seq=ap.wrap (kO (d.n 8).got)∧(qQ b).fst.inst=kO (f.n 1).got∧(qQ b).fst.side=kO (h.n 1).got∧(qQ b).fst.price=ap.wrap (kO (k.n 8).got)∧(qQ b).fst.qty=ap.wrap (kO (m.n 8).got)∧(qQ b).fst.count=ap.wrap (kO (p.n 8).got)∧(qQ b).fst.implied=(kO (r.n 1).got==1)∧(qQ b).snd=0∧True)
open Go Cv Go.Proofs
open Classical
theorem zLm {l:List Quote} {k:Nat} {q:Quote} (b:Quote) (h:l[k]? =ar q):fU (l.take (k+1)) b=if q.price=b.price then(if q.qty>(fU (l.take k) b).1 then q.qty else(fU (l.take k) b).1,(fU (l.take k) b).2+1)else fU (l.take k) b:=by
 rw[fU,y1i,h,y3f,y5o,y2u,List.foldl_nil]
 rfl
theorem zWm (b:Quote) (l:List Quote):∀k,k≤l.length→0≤(fU (l.take k) b).2∧(fU (l.take k) b).2≤k
 |0,_=>⟨by rw[y3x];exact y3p 0,by rw[y3x];exact y3p 0⟩
 |k+1,h=>by
  obtain⟨q,hq⟩:=z8 (l:=l) (i:=k) (by omega)
  have:=zWm b l k (by omega)
  rw[zLm b hq]
  split
  ·dsimp only;constructor<;>omega
  ·constructor<;>omega
theorem yUa (i:BsI) (h:showC.cnd i):yNa i:=by
 obtain⟨hs,hl⟩:(i.s=1∨i.s=2)∧i.l.length≤1000000:=h
 have hml:(i.l.map zL).length=i.l.length:=y0a _
 unfold yNa qO zFt dR vY dI
 rw[hml]
 refine⟨i,rfl,rfl,⟨hs,hl⟩,fun _ _=>Cv.cnd.mk (fun c=> ?_) (fun c=> ?_)⟩
 ·have e:qA i.l i.s=(⟨0,0,0⟩,am):=by rw[qA,yZx (by simpa using c)]
  rw[e];exact⟨(),k0q⟩
 have e:qA i.l i.s=(⟨(zU i.l i.s).1.price,(fU i.l (zU i.l i.s).1).1,(fU i.l (zU i.l i.s).1).2⟩,ao):=by rw[qA,yZy (by simpa using c)]
 rw[e]
 generalize (zU i.l i.s).1=b
 refine⟨0,rfl,rfl,rfl,rfl,rfl,rfl,rfl,rfl,rfl,fun k=>k≤i.l.length,fun k=>i.l.length-k,y1n _,fun k hk=>zJ (fun hlt=> ?_) (fun hlt=> ?_)⟩
 ·obtain⟨q,hq⟩:=z8 (l:=i.l) (i:=k) (by omega)
  have st:=zLm b hq
  have bd:=zWm b i.l k hk
  have hk:k≤i.l.length:=hk
  refine⟨⟨by omega,by omega⟩,q.price,q.qty,q.a.inst,q.a.side,q.b.inst,q.b.side,elA hq (by simp[zL]) rfl,Cv.cnd.mk (fun e=>⟨k+1,?_⟩) (fun e=>⟨k+1,?_⟩)⟩
  ·rw[st,yZy (by simpa using e)]
   exact⟨rfl,by dsimp only;rw[w64 (by omega)],wjn (by omega),rfl,rfl,rfl,rfl,rfl,rfl,by dsimp only;omega,by dsimp only;omega,trivial⟩
  ·rw[st,yZx (by simpa using e)]
   exact⟨rfl,rfl,wjn (by omega),rfl,rfl,rfl,rfl,rfl,rfl,by dsimp only;omega,by dsimp only;omega,trivial⟩
 ·have hk:k≤i.l.length:=hk
  obtain rfl:k=i.l.length:=by omega
  rw[y3n]
  exact⟨(),k0q⟩
theorem yKu:showC.ok Tryz.prog 108:=okw mixed (gokc zYb gok0) 0 (fun _=>[]) (fun i=>yOo i) [] Tryz.func108 yUa
theorem m9 (p:Prd) (B:List (List zK)):(qT p B).length=p.count:=by rw[qT,y0a,List.length_range]
theorem z7o (p:Prd) (B:List (List zK)) {j:Nat} (h:j<p.count):(qT p B)[j]? =ar (zCe p B j 1,zCe p B j 2):=by
 rw[qT,y0z,y4p h];rfl
theorem yXf (i:LkI) (h:lookC.cnd i):yMo i:=by
 obtain⟨hR,hB⟩:i.s.Rep i.p i.B∧BOk i.p i.B:=h
 have hcl:=xQ i.p
 have hbl:=hB.bl
 have hcnt:i.s.cntOk:=hR.cnt (by omega)
 have hto:vD (i.B.map qU):=hB.tops
 have hll:=m9 i.p i.B
 unfold yMo gR bJ kD gU dR fW Vlookt297 vR zY dI
 refine⟨i.p,rfl,rfl,rfl,rfl,rfl,rfl,rfl,rfl,rfl,rfl,rfl,hB.ps,fun _ _=>Cv.cnd.mk (fun c=>absurd hB.pc (by simpa using c)) (fun _=>⟨i.s,rfl,hcnt,fun _ _=>⟨i.p,rfl,rfl,rfl,rfl,rfl,rfl,rfl,rfl,rfl,rfl,rfl,hB.ps,fun _ _=>⟨0,rfl,rfl,by rw[hR.tops],fun j=>j≤i.p.count,fun j=>i.p.count-j,y1n _,fun j hj=>zJ (fun hlt=> ?_) (fun hlt=> ?_)⟩⟩⟩)⟩
 ·have hlt:j<i.p.count:=by omega
  have hat:atB i.B (j:Int)=i.B.getD j []:=by rw[atB,yZx (by omega),y0s]
  have hq:∀s,(xS ⟨i.p,i.B.map qU,j⟩ s).length≤1000000:=fun s=>y3m (zHx _ _) (by decide)
  refine⟨⟨by decide,by decide⟩,1,rfl,⟨i.s,i.p,i.B,j,am⟩,rfl,rfl,rfl,⟨hR,by dsimp only;omega⟩,fun _ _=>⟨⟨⟨i.p,i.B.map qU,j⟩,am⟩,rfl,rfl,rfl,rfl,rfl,rfl,rfl,rfl,rfl,rfl,rfl,rfl,rfl,rfl,⟨hB.ps,hto⟩,fun _ _=>⟨⟨xS ⟨i.p,i.B.map qU,j⟩ 1,1⟩,rfl,rfl,⟨.inl rfl,hq 1⟩,fun _ _=>⟨⟨by decide,by decide⟩,2,rfl,⟨i.s,i.p,i.B,j,ao⟩,rfl,rfl,rfl,⟨hR,by dsimp only;omega⟩,fun _ _=>⟨⟨⟨i.p,i.B.map qU,j⟩,ao⟩,rfl,rfl,rfl,rfl,rfl,rfl,rfl,rfl,rfl,rfl,rfl,rfl,rfl,rfl,⟨hB.ps,hto⟩,fun _ _=>⟨⟨xS ⟨i.p,i.B.map qU,j⟩ 2,2⟩,rfl,rfl,⟨.inr rfl,hq 2⟩,fun _ _=>⟨?_,j+1,wjn (by omega),?_,rfl,by dsimp only;omega,by dsimp only;omega,rfl,k0q⟩⟩⟩⟩⟩⟩⟩
  ·rw[y0a,y0t];omega
  ·rw[y1i,z7o i.p i.B hlt,y3f,y0j,y0l,y3r]
   dsimp only
   rw[hat]
   rfl
 ·have hj:j≤i.p.count:=hj
  rw[y0p (by omega)]
  exact⟨(),k0q⟩
theorem z6c:lookC.ok Tryz.prog 48:=okw mixed (gokc tH (gokc yIj (gokc bI (gokc yIl (gokc zPt (gokc yKu gok0)))))) 1 (fun _=>[]) (fun i=>yWd i) [] Tryz.func48 yXf
open Go Cv Go.Proofs
open Classical
theorem zPf {α:Type} {x y:List α} {k:Nat} {a b:α} (ha:x[k]? =ar a) (hb:y[k]? =ar b) (h:x.take k=y.take k) (e:a=b):x.take (k+1)=y.take (k+1):=by rw[y1i,y1i,h,ha,hb,e]
theorem zUn (a b:Lv):(a.price==b.price && (a.qty==b.qty && (a.count==b.count && ao)))=decide (a=b):=by
 rw[y4n,decide_eq_true_iff]
 obtain⟨p,q,c⟩:=a
 obtain⟨p2,q2,c2⟩:=b
 simp
theorem yXj (i:yIt) (h:eqLvC.cnd i):yMj i:=by
 obtain⟨hx,hy⟩:i.x.length≤1099511627776∧i.y.length≤1099511627776:=h
 have hmx:(i.x.map lvE).length=i.x.length:=y0a _
 have hmy:(i.y.map lvE).length=i.y.length:=y0a _
 unfold yMj jL j7 dI
 rw[hmx,hmy]
 refine Cv.cnd.mk (fun c=>⟨(),y0k (fun e=>by rw[e]at c;simp at c),trivial⟩) (fun c=> ?_)
 have hxy:i.x.length=i.y.length:=by have:(i.x.length:Int)=i.y.length:=(by simpa using c);omega
 refine⟨0,rfl,fun k=>k≤i.x.length∧i.x.take k=i.y.take k,fun k=>i.x.length-k,⟨y1n _,rfl⟩,fun k hk=>zJ (fun e=> ?_) (fun e=> ?_)⟩
 ·obtain⟨hk1,hk2⟩:=hk
  obtain⟨a,ha⟩:=z8 (l:=i.x) (i:=k) (by omega)
  obtain⟨b,hb⟩:=z8 (l:=i.y) (i:=k) (by omega)
  refine⟨am,fun t=>t= !decide (a=b),⟨⟨by omega,by omega⟩,a.price,a.qty,a.count,elA ha (by simp[lvE]) rfl,⟨by omega,by omega⟩,b.price,b.qty,b.count,elA hb (by simp[lvE]) rfl,_,rfl,?_,trivial⟩,?_⟩
  ·rw[zUn a b]
  ·rintro _ rfl
   refine Cv.cnd.mk (fun c=>⟨(),y0k (fun e2=> ?_),trivial⟩) (fun c=>⟨k+1,by rw[w64 (by omega)];rfl,⟨by omega,zPf ha hb hk2 (by simpa using c)⟩,by dsimp only;omega,trivial⟩)
   have c:a≠b:=by simpa using c
   rw[e2]at ha
   rw[ha]at hb
   exact c (Option.some.inj hb)
 ·obtain⟨hk1,hk2⟩:=hk
  rw[y0p (by omega),y0p (by omega)]at hk2
  exact⟨(),y0n hk2,trivial⟩
theorem yJp:eqLvC.ok Tryz.prog 125:=okw mixed gok0 0 (fun _=>yWm) (fun _=>yWz) [] Tryz.func125 yXj
theorem yZp (i:yDa) (h:fsdC.cnd i):yVn i:=by
 obtain⟨⟨al,ai,ah⟩,⟨bl,bi,bh⟩⟩:=i
 obtain⟨ha,hb⟩:al.length≤1099511627776∧bl.length≤1099511627776:=h
 unfold yVn
 refine⟨⟨al,bl⟩,rfl,rfl,⟨ha,hb⟩,fun _ _=>zJ (fun e=> ?_) (fun e=>⟨(),y0k (fun x=>e (congrArg Sd.levels x)),trivial⟩)⟩
 dsimp only
 rw[zUn]
 refine zJ (fun e2=>⟨(),?_,trivial⟩) (fun e2=>⟨(),y0k (fun x=>e2 (congrArg Sd.imp x)),trivial⟩)
 have e:al=bl:=e
 have e2:ai=bi:=e2
 subst e e2
 show decide ((⟨al,ai,ah⟩:Sd)=⟨al,ai,bh⟩)=(ah==bh)
 rw[y4n,decide_eq_true_iff,beq_iff_eq]
 exact⟨fun x=>congrArg Sd.has x,fun x=>by have x:ah=bh:=x;rw[x]⟩
theorem yPn:fsdC.ok Tryz.prog 65:=okw mixed (gokc yJp gok0) 0 (fun _=>[]) (fun _=>[]) [] Tryz.func65 yZp
theorem z8d {v:Vw} {k:Nat} {b:Sd×Sd} (h:v[k]? =ar b):zE (v.map zB) k 0 10=ar [D.ro 3 (b.1.levels.map lvE),.v (.int .i64 b.1.imp.price),.v (.int .i64 b.1.imp.qty),.v (.int .i64 b.1.imp.count),.v (.bool b.1.has),.ro 3 (b.2.levels.map lvE),.v (.int .i64 b.2.imp.price),.v (.int .i64 b.2.imp.qty),.v (.int .i64 b.2.imp.count),.v (.bool b.2.has)]∧
 zE (v.map zB) k 0 5=ar [D.ro 3 (b.1.levels.map lvE),.v (.int .i64 b.1.imp.price),.v (.int .i64 b.1.imp.qty),.v (.int .i64 b.1.imp.count),.v (.bool b.1.has)]∧
 zE (v.map zB) k 5 5=ar [D.ro 3 (b.2.levels.map lvE),.v (.int .i64 b.2.imp.price),.v (.int .i64 b.2.imp.qty),.v (.int .i64 b.2.imp.count),.v (.bool b.2.has)]:=
 ⟨elA h (by simp[zB]) rfl,elA h (by simp[zB]) rfl,elA h (by simp[zB]) rfl⟩
theorem yXv (i:zMe) (h:eqFC.cnd i):yWf i:=by
 obtain⟨⟨hv,hvs⟩,⟨hw,hws⟩⟩:qC i.v∧qC i.w:=h
 have hmx:(i.v.map zB).length=i.v.length:=y0a _
 have hmy:(i.w.map zB).length=i.w.length:=y0a _
 unfold yWf jL j7 zTf dI
 rw[hmx,hmy]
 refine Cv.cnd.mk (fun c=>⟨(),y0k (fun e=>by rw[e]at c;simp at c),trivial⟩) (fun c=> ?_)
 have hxy:i.v.length=i.w.length:=by have:(i.v.length:Int)=i.w.length:=(by simpa using c);omega
 refine⟨0,rfl,fun k=>k≤i.v.length∧i.v.take k=i.w.take k,fun k=>i.v.length-k,⟨y1n _,rfl⟩,fun k hk=>zJ (fun e=> ?_) (fun e=> ?_)⟩
 ·obtain⟨hk1,hk2⟩:=hk
  obtain⟨a,ha⟩:=z8 (l:=i.v) (i:=k) (by omega)
  obtain⟨b,hb⟩:=z8 (l:=i.w) (i:=k) (by omega)
  have sa:=hvs a (y0g ha)
  have sb:=hws b (y0g hb)
  refine⟨⟨by omega,by omega⟩,_,_,_,_,_,_,_,_,_,_,(z8d ha).1,⟨by omega,by omega⟩,_,_,_,_,_,_,_,_,_,_,(z8d hb).1,am,fun t=>t= !decide (a=b),⟨⟨a.1,b.1⟩,rfl,rfl,rfl,rfl,rfl,rfl,rfl,rfl,rfl,rfl,⟨sa.1,sb.1⟩,fun _ _=>zJ (fun e1=>⟨⟨a.2,b.2⟩,rfl,rfl,rfl,rfl,rfl,rfl,rfl,rfl,rfl,rfl,⟨sa.2,sb.2⟩,fun _ _=>⟨_,rfl,?_,k0q⟩⟩) (fun e1=>⟨_,rfl,?_,k0q⟩)⟩,?_⟩
  ·show(!decide (a.2=b.2))= !decide (a=b)
   rw[y4n,y4e,y4e,decide_eq_false_iff_not,decide_eq_false_iff_not]
   exact⟨fun x y=>x (by rw[y]),fun x y=>x (Prod.ext e1 y)⟩
  ·have e1:¬a.1=b.1:=e1
   rw[y0k fun x=>e1 (congrArg Prod.fst x)]
  ·rintro _ rfl
   refine Cv.cnd.mk (fun c=>⟨(),y0k (fun e2=> ?_),trivial⟩) (fun c=>⟨k+1,by rw[w64 (by omega)];rfl,⟨by omega,zPf ha hb hk2 (by simpa using c)⟩,by dsimp only;omega,trivial⟩)
   have c:a≠b:=by simpa using c
   rw[e2]at ha
   rw[ha]at hb
   exact c (Option.some.inj hb)
 ·obtain⟨hk1,hk2⟩:=hk
  rw[y0p (by omega),y0p (by omega)]at hk2
  exact⟨(),y0n hk2,trivial⟩
theorem yTx:eqFC.ok Tryz.prog 63:=okw mixed (gokc yPn gok0) 1 (fun _=>yYx) (fun _=>yZm) [] Tryz.func63 yXv
theorem ySj (i:zMe) (h:fsameC.cnd i):yDq i:=by
 unfold yDq hU wN
 exact⟨i,rfl,rfl,h,fun _ _=>⟨(),rfl,trivial⟩⟩
theorem fsame_ok:fsameC.ok Tryz.prog 19:=okw mixed (gokc yTx gok0) 0 (fun _=>[]) (fun _=>[]) [] Tryz.func19 ySj
theorem zMl (q:Int):∀(A B:List VM),vF q (A++B)=vF q A++vF (q+A.length) B
 |[],B=>by simp[vF]
 |a::A,B=>by
  rw[y1p,vF,vF,zMl,y0f,y1p]
  congr 3
  omega
theorem zIz (d:Dfr) (A B:List VM):(d.add A).add B=d.add (A++B):=by
 rw[Dfr.add,Dfr.add,Dfr.add,zMl,y0e,y0i]
 congr 1
 dsimp only
 omega
theorem yRk (i:DtI) (h:dtellC.cnd i):yDc i:=by
 obtain⟨h1,h2,h3⟩:i.d.ok 1:=h
 unfold yDc dI
 have e:ap.wrap (i.d.seq+1)=i.d.seq+1:=w64 (by omega)
 rw[e]
 exact⟨trivial,by rw[y0a];omega,(),rfl,by rw[y0j];rfl,trivial⟩
theorem yDg:dtellC.ok Tryz.prog 124:=okw mixed gok0 0 (fun _=>[]) (fun _=>[]) [] Tryz.func124 yRk
theorem nF {s:Int}:∀(k:Nat) (X Y:List Lv),(xK s k X Y).length≤k
 |0,X,Y=>by rw[xK];exact y1f 0
 |k+1,[],[]=>by rw[xK];exact y1n _
 |k+1,x::X,[]=>by rw[xK,y0f];have:=nF (s:=s) k X [];omega
 |k+1,[],y::Y=>by rw[xK,y0f];have:=nF (s:=s) k [] Y;omega
 |k+1,x::X,y::Y=>by
  have h1:=nF (s:=s) k X (y::Y)
  have h2:=nF (s:=s) k (x::X) Y
  have h3:=nF (s:=s) k X Y
  rw[xK]
  split
  ·rw[y0f];omega
  split
  ·rw[y0f];omega
  rw[y0e]
  split
  ·simp only[y2t];omega
  ·simp only[y2m];omega
theorem zYx (n:Nat) (s:Int) (a b:Sd):(xE n s a b).length≤a.levels.length+b.levels.length+1:=by
 have:=nF (s:=s) (a.levels.length+b.levels.length) a.levels b.levels
 rw[xE,y0e,y0a]
 split
 ·rw[y2m];omega
 ·simp only[y2t];omega
theorem zTj:∀(n j:Nat) {v w:Vw} {a b:Sd×Sd},v[j]? =ar a→w[j]? =ar b→yN n (v.take (j+1)) (w.take (j+1))=yN n (v.take j) (w.take j)++(xE (n+j) 1 a.1 b.1++xE (n+j) 2 a.2 b.2)
 |n,0,x::v,y::w,a,b,h1,h2=>by
  obtain rfl:x=a:=by simpa using h1
  obtain rfl:y=b:=by simpa using h2
  simp[yN]
 |n,j+1,x::v,y::w,a,b,h1,h2=>by
  have:=zTj (n+1) j (v:=v) (w:=w) (a:=a) (b:=b) (by simpa using h1) (by simpa using h2)
  rw[y1j,y1j,y1j,y1j,yN,yN,this,y0i,y0i,y0i,y3v n 1 j,y5k 1 j]
 |_,0,[],_,_,_,h1,_=>by simp at h1
 |_,j+1,[],_,_,_,h1,_=>by simp at h1
 |_,0,_::_,[],_,_,_,h2=>by simp at h2
 |_,j+1,_::_,[],_,_,_,h2=>by simp at h2
theorem eZ {v:Vw} {j:Nat} {a:Sd×Sd} (h:v[j]? =ar a):Vw.levs (v.take (j+1))=Vw.levs (v.take j)+(a.1.levels.length+a.2.levels.length):=by
 rw[Vw.levs,Vw.levs,y1i,h,y3f,y0j,y6g]
 simp
theorem z4z (v:Vw) (j:Nat):Vw.levs (v.take j)≤Vw.levs v:=by
 conv=>rhs;rw[← y2g j v]
 rw[Vw.levs,Vw.levs,y0j,y6g]
 omega
theorem yEa (v w:Vw):∀j,j≤v.length→j≤w.length→(yN 0 (v.take j) (w.take j)).length≤Vw.levs (v.take j)+Vw.levs (w.take j)+2*j
 |0,_,_=>by rw[y3x,yN];exact y1n _;simp
 |j+1,h1,h2=>by
  obtain⟨a,ha⟩:=z8 (l:=v) (i:=j) (by omega)
  obtain⟨b,hb⟩:=z8 (l:=w) (i:=j) (by omega)
  have:=yEa v w j (by omega) (by omega)
  have s1:=zYx (0+j) 1 a.1 b.1
  have s2:=zYx (0+j) 2 a.2 b.2
  rw[zTj 0 j ha hb,eZ ha,eZ hb,y0e,y0e]
  omega
open Go Cv Go.Proofs
theorem zDc (q:Int):∀M:List VM,(vF q M).length=M.length
 |[]=>rfl
 |m::M=>by rw[vF,y0f,zDc,y0f]
theorem tl1 (q:Int) (M:List VM) (m:VM):q+((M++[m]).length:Nat)=q+(M.length:Nat)+((1:Nat):Int):=by
 rw[y0e,y2m];omega
theorem tl2 (o:List MsgM) (q:Int) (M:List VM) (m:VM):(o++vF q (M++[m])).map qJ=((o++vF q M)++vF (q+(M.length:Nat)) [m]).map qJ:=by rw[zMl,y0i]
theorem lvx (x:Lv) (X:List Lv):zE ((x::X).map lvE) 0 0 1=ar [D.v (.int .i64 x.price)]∧zE ((x::X).map lvE) 0 0 3=ar [D.v (.int .i64 x.price),.v (.int .i64 x.qty),.v (.int .i64 x.count)]:=⟨rfl,rfl⟩
theorem z9o (s:Int) (k:Nat):xK s k [] []=[]:=by cases k<;>rw[xK]
theorem yRx (i:DsI) (h:dsideC.cnd i):yEf i:=by
 obtain⟨d,n,s,⟨al,ai,ah⟩,⟨bl,bi,bh⟩⟩:=i
 obtain⟨h1,h2,h3⟩:Dfr.ok d (al.length+bl.length+1):=h
 unfold yEf zHa zFq zEu zGm eF zFd mZ zFg mW kG dE dK bY gI dH dS b9 dI
 refine⟨⟨al,bl,[]⟩,rfl,rfl,by simp,by simp[vF],fun j=>∃k,j.x.length+j.y.length≤k∧(xK s (al.length+bl.length) al bl).map (fun l=>(⟨n,s,l,am⟩:VM))=j.M++(xK s k j.x j.y).map (fun l=>(⟨n,s,l,am⟩:VM))∧k+j.M.length≤al.length+bl.length,fun j=>j.x.length+j.y.length,⟨al.length+bl.length,y1f _,rfl,y1f _⟩,?_⟩
 rintro⟨x,y,M⟩ ⟨k,hk,hM,hl⟩
 dsimp only at hk hM hl ⊢
 have hx:(x.map lvE).length=x.length:=y0a _
 have hy:(y.map lvE).length=y.length:=y0a _
 have ok1:Dfr.ok ⟨d.seq+(M.length:Nat),d.out++vF d.seq M⟩ 1:=⟨by dsimp only;omega,by dsimp only;omega,by dsimp only;rw[y0e,zDc];omega⟩
 rw[hx,hy,w64 (by omega)]
 refine zJ (fun c=> ?_) (fun c=> ?_)
 ·obtain⟨k',rfl⟩:∃k',k=k'+1:=⟨k-1,by omega⟩
  rcases x with _|⟨a,X⟩
  ·rcases y with _|⟨b,Y⟩
   ·exact absurd c (by simp)
   refine⟨am,fun t=>t=am,Cv.cnd.mk (fun e=> ?_) (fun _=>Cv.cnd.mk (fun e=>absurd e (by simp)) (fun _=>⟨am,rfl,rfl,k0q⟩)),?_⟩
   ·exfalso;simp at e;omega
   rintro _ rfl
   refine Cv.cnd.mk (fun c=>absurd c (by decide)) (fun _=>⟨am,fun t=>t=ao,Cv.cnd.mk (fun _=>⟨ao,rfl,rfl,k0q⟩) (fun e=>absurd e (by simp)),?_⟩)
   rintro _ rfl
   refine Cv.cnd.mk (fun _=> ?_) (fun c=>absurd c (by decide))
   rw[y0f]at hk
   refine⟨⟨by decide,by rw[y0f];omega⟩,b.price,b.qty,b.count,(lvx b Y).2,⟨_,⟨n,s,b,am⟩⟩,rfl,rfl,rfl,rfl,rfl,rfl,rfl,rfl,ok1,fun _ _=>⟨⟨by decide,by rw[y0f];omega⟩,⟨[],Y,M++[⟨n,s,b,am⟩]⟩,rfl,rfl,tl1 _ _ _,tl2 _ _ _ _,⟨k',by dsimp only;omega,?_,by dsimp only;rw[y0e,y2m];omega⟩,by dsimp only;rw[y0f];omega,k0q⟩⟩
   rw[hM,xK,y0l,y0i];rfl
  rcases y with _|⟨b,Y⟩
  ·refine⟨am,fun t=>t=ao,Cv.cnd.mk (fun _=>⟨ao,rfl,rfl,k0q⟩) (fun e=>absurd e (by simp)),?_⟩
   rintro _ rfl
   refine Cv.cnd.mk (fun _=> ?_) (fun c=>absurd c (by decide))
   rw[y0f]at hk
   refine⟨⟨by decide,by rw[y0f];omega⟩,a.price,(lvx a X).1,⟨_,⟨n,s,⟨a.price,0,0⟩,am⟩⟩,rfl,rfl,rfl,rfl,rfl,rfl,rfl,rfl,ok1,fun _ _=>⟨⟨by decide,by rw[y0f];omega⟩,⟨X,[],M++[⟨n,s,⟨a.price,0,0⟩,am⟩]⟩,rfl,rfl,tl1 _ _ _,tl2 _ _ _ _,⟨k',by dsimp only;simp only[y2t]at hk ⊢;omega,?_,by dsimp only;rw[y0e,y2m];omega⟩,by dsimp only;rw[y0f];omega,k0q⟩⟩
   rw[hM,xK,y0l,y0i];rfl
  rw[y0f,y0f]at hk
  have la:(0:Int)≤0∧(0:Int)<((a::X).length:Nat):=⟨by decide,by rw[y0f];omega⟩
  have lb:(0:Int)≤0∧(0:Int)<((b::Y).length:Nat):=⟨by decide,by rw[y0f];omega⟩
  have la1:(0:Int)≤1∧(1:Int)≤((a::X).length:Nat):=⟨by decide,by rw[y0f];omega⟩
  have lb1:(0:Int)≤1∧(1:Int)≤((b::Y).length:Nat):=⟨by decide,by rw[y0f];omega⟩
  refine⟨am,fun t=>t=btr s a.price b.price,Cv.cnd.mk (fun e=> ?_) (fun _=>Cv.cnd.mk (fun _=>⟨la,a.price,(lvx a X).1,lb,b.price,(lvx b Y).1,⟨s,a.price,b.price⟩,rfl,rfl,rfl,trivial,fun _ _=>⟨_,rfl,rfl,k0q⟩⟩) (fun e=> ?_)),?_⟩
  ·exfalso;simp at e;omega
  ·exfalso;simp at e
  rintro _ rfl
  refine Cv.cnd.mk (fun c1=> ?_) (fun c1=> ?_)
  ·refine⟨la,a.price,(lvx a X).1,⟨_,⟨n,s,⟨a.price,0,0⟩,am⟩⟩,rfl,rfl,rfl,rfl,rfl,rfl,rfl,rfl,ok1,fun _ _=>⟨la1,⟨X,b::Y,M++[⟨n,s,⟨a.price,0,0⟩,am⟩]⟩,rfl,rfl,tl1 _ _ _,tl2 _ _ _ _,⟨k',by dsimp only;rw[y0f];omega,?_,by dsimp only;rw[y0e,y2m];omega⟩,by dsimp only;rw[y0f,y0f];omega,k0q⟩⟩
   rw[hM,xK,yZy c1,y0l,y0i];rfl
  have c1:¬btr s a.price b.price=ao:=by simp[c1]
  refine⟨am,fun t=>t=btr s b.price a.price,Cv.cnd.mk (fun e=> ?_) (fun _=>⟨lb,b.price,(lvx b Y).1,la,a.price,(lvx a X).1,⟨s,b.price,a.price⟩,rfl,rfl,rfl,trivial,fun _ _=>⟨_,rfl,rfl,k0q⟩⟩),?_⟩
  ·exfalso;simp at e;omega
  rintro _ rfl
  refine Cv.cnd.mk (fun c2=> ?_) (fun c2=> ?_)
  ·refine⟨lb,b.price,b.qty,b.count,(lvx b Y).2,⟨_,⟨n,s,b,am⟩⟩,rfl,rfl,rfl,rfl,rfl,rfl,rfl,rfl,ok1,fun _ _=>⟨lb1,⟨a::X,Y,M++[⟨n,s,b,am⟩]⟩,rfl,rfl,tl1 _ _ _,tl2 _ _ _ _,⟨k',by dsimp only;rw[y0f];omega,?_,by dsimp only;rw[y0e,y2m];omega⟩,by dsimp only;rw[y0f,y0f];omega,k0q⟩⟩
   rw[hM,xK,yZx c1,yZy c2,y0l,y0i];rfl
  have c2:¬btr s b.price a.price=ao:=by simp[c2]
  by_cases hab:a=b
  ·refine⟨⟨_,_⟩,rfl,rfl,fun D=>D=⟨d.seq+(M.length:Nat),d.out++vF d.seq M⟩,⟨am,fun t=>t=am,⟨la,a.price,a.qty,a.count,(lvx a X).2,lb,b.price,b.qty,b.count,(lvx b Y).2,_,rfl,by rw[zUn,y0n hab];rfl,k0q⟩,?_⟩,?_⟩
   ·rintro _ rfl
    exact Cv.cnd.mk (fun c=>absurd c (by decide)) (fun _=>⟨_,rfl,rfl,rfl,k0q⟩)
   rintro _ rfl
   refine⟨la1,lb1,⟨X,Y,M⟩,rfl,rfl,rfl,rfl,⟨k',by dsimp only;omega,?_,by dsimp only;omega⟩,by dsimp only;rw[y0f,y0f];omega,k0q⟩
   rw[hM,xK,yZx c1,yZx c2,yZy hab];rfl
  ·refine⟨⟨_,_⟩,rfl,rfl,fun D=>D=Dfr.add ⟨d.seq+(M.length:Nat),d.out++vF d.seq M⟩ [⟨n,s,b,am⟩],⟨am,fun t=>t=ao,⟨la,a.price,a.qty,a.count,(lvx a X).2,lb,b.price,b.qty,b.count,(lvx b Y).2,_,rfl,by rw[zUn,y0k hab];rfl,k0q⟩,?_⟩,?_⟩
   ·rintro _ rfl
    exact Cv.cnd.mk (fun _=>⟨lb,b.price,b.qty,b.count,(lvx b Y).2,⟨_,⟨n,s,b,am⟩⟩,rfl,rfl,rfl,rfl,rfl,rfl,rfl,rfl,ok1,fun _ _=>⟨_,rfl,rfl,rfl,k0q⟩⟩) (fun c=>absurd c (by decide))
   rintro _ rfl
   refine⟨la1,lb1,⟨X,Y,M++[⟨n,s,b,am⟩]⟩,rfl,rfl,tl1 _ _ _,tl2 _ _ _ _,⟨k',by dsimp only;omega,?_,by dsimp only;rw[y0e,y2m];omega⟩,by dsimp only;rw[y0f,y0f];omega,k0q⟩
   rw[hM,xK,yZx c1,yZx c2,yZx hab,y0j,y0i];rfl
 obtain rfl:x=[]:=y0y (by omega)
 obtain rfl:y=[]:=y0y (by omega)
 rw[z9o,y3r,y0v]at hM
 rw[zUn]
 refine⟨am,fun t=>t=zSb ⟨al,ai,ah⟩ ⟨bl,bi,bh⟩,Cv.cnd.mk (fun e=>⟨ao,rfl,?_,k0q⟩) (fun e=>⟨_,rfl,?_,k0q⟩),?_⟩
 ·have e:ai≠bi:=by simpa using e
  rw[zSb];simp[e]
 ·have e:ai=bi:=by simpa using e
  rw[zSb,e];cases ah<;>cases bh<;>simp
 rintro _ rfl
 refine Cv.cnd.mk (fun e=>⟨bi,rfl,rfl,rfl,fun l=>l=zBa ⟨bl,bi,bh⟩,Cv.cnd.mk (fun e2=>⟨lv0,rfl,rfl,rfl,?_,k0q⟩) (fun e2=>⟨bi,rfl,rfl,rfl,?_,k0q⟩),?_⟩) (fun e=> ?_)
 ·rw[zBa,yZx (by simpa using e2)]
 ·rw[zBa,yZy (by simpa using e2)]
 ·rintro _ rfl
  have hsd:xE n s ⟨al,ai,ah⟩ ⟨bl,bi,bh⟩=M++[⟨n,s,zBa ⟨bl,bi,bh⟩,ao⟩]:=by rw[xE,yZy e,hM]
  rw[hsd]
  exact⟨⟨_,⟨n,s,zBa ⟨bl,bi,bh⟩,ao⟩⟩,rfl,rfl,rfl,rfl,rfl,rfl,rfl,rfl,ok1,fun _ _=>⟨(),tl1 _ _ _,tl2 _ _ _ _,trivial⟩⟩
 ·have hsd:xE n s ⟨al,ai,ah⟩ ⟨bl,bi,bh⟩=M:=by rw[xE,yZx (by simp[e]),hM,y0v]
  rw[hsd]
  exact⟨(),rfl,rfl,trivial⟩
theorem z9p:dsideC.ok Tryz.prog 62:=okw mixed (gokc yDg (gokc zQo gok0)) 0 (fun _=>yRn) (fun i=>yPf i) [] Tryz.func62 yRx
theorem yXb (i:DvI) (h:diffC.cnd i):yNw i:=by
 obtain⟨hvw,⟨s1,s2⟩,l1,l2,hn⟩:i.v.length=i.w.length∧(-4000000000000000000≤i.seq∧i.seq≤4000000000000000000)∧Vw.levs i.v≤100000000∧Vw.levs i.w≤100000000∧i.v.length≤1000000:=h
 have hmx:(i.v.map zB).length=i.v.length:=y0a _
 have hmy:(i.w.map zB).length=i.w.length:=y0a _
 unfold yNw Vtopst364 gR dE dK nM lN nK zHi dI
 rw[hmx,hmy]
 refine Cv.cnd.mk (fun c=> ?_) (fun _=> ?_)
 ·have c:(i.v.length:Int)≠i.w.length:=by simpa using c
  omega
 refine⟨0,rfl,by simp[yN],by simp[yN,vF],fun j=>j≤i.v.length,fun j=>i.v.length-j,y1n _,fun j hj=>zJ (fun e=> ?_) (fun e=> ?_)⟩
 ·have hj:j≤i.v.length:=hj
  obtain⟨a,ha⟩:=z8 (l:=i.v) (i:=j) (by omega)
  obtain⟨b,hb⟩:=z8 (l:=i.w) (i:=j) (by omega)
  have hd:=yEa i.v i.w j hj (by omega)
  have t1:=eZ ha
  have t2:=eZ hb
  have u1:=z4z i.v (j+1)
  have u2:=z4z i.w (j+1)
  have q1:=zYx j 1 a.1 b.1
  have hvt:=zTj 0 j ha hb
  rw[y0w]at hvt
  have bdv:(0:Int)≤j∧(j:Int)<(i.v.length:Nat):=⟨by omega,e⟩
  have bdw:(0:Int)≤j∧(j:Int)<(i.w.length:Nat):=⟨by omega,by omega⟩
  obtain⟨D,hD⟩:∃D:Dfr,D=Dfr.add ⟨i.seq,[]⟩ (yN 0 (i.v.take j) (i.w.take j)):=⟨_,rfl⟩
  have hDs:D.seq=i.seq+((yN 0 (i.v.take j) (i.w.take j)).length:Nat):=by rw[hD];rfl
  have hDo:D.out=[]++vF i.seq (yN 0 (i.v.take j) (i.w.take j)):=by rw[hD];rfl
  have hDl:D.out.length=(yN 0 (i.v.take j) (i.w.take j)).length:=by rw[hDo,y2e,zDc]
  refine⟨⟨by decide,by decide⟩,1,rfl,bdv,_,_,_,_,_,(z8d ha).2.1,bdw,_,_,_,_,_,(z8d hb).2.1,⟨D,j,1,a.1,b.1⟩,rfl,rfl,rfl,rfl,rfl,rfl,rfl,rfl,rfl,rfl,rfl,rfl,hDs,by rw[hDo],⟨by dsimp only;omega,by dsimp only;omega,by dsimp only;omega⟩,fun _ _=>⟨⟨by decide,by decide⟩,2,rfl,bdv,_,_,_,_,_,(z8d ha).2.2,bdw,_,_,_,_,_,(z8d hb).2.2,⟨D.add (xE j 1 a.1 b.1),j,2,a.2,b.2⟩,rfl,rfl,rfl,rfl,rfl,rfl,rfl,rfl,rfl,rfl,rfl,rfl,rfl,rfl,⟨by simp only[Dfr.add];omega,by simp only[Dfr.add];omega,by simp only[Dfr.add];rw[y0e,zDc];omega⟩,fun _ _=>⟨j+1,wjn (by omega),?_,?_,by dsimp only;omega,by dsimp only;omega,k0q⟩⟩⟩
  ·show(Dfr.add ⟨i.seq,[]⟩ (yN 0 (i.v.take (j+1)) (i.w.take (j+1)))).seq=((D.add (xE j 1 a.1 b.1)).add (xE j 2 a.2 b.2)).seq
   rw[hvt,hD,zIz,zIz]
  ·show(Dfr.add ⟨i.seq,[]⟩ (yN 0 (i.v.take (j+1)) (i.w.take (j+1)))).out.map qJ=((D.add (xE j 1 a.1 b.1)).add (xE j 2 a.2 b.2)).out.map qJ
   rw[hvt,hD,zIz,zIz]
 ·have hj:j≤i.v.length:=hj
  rw[y0p (by omega),y0p (by omega)]
  exact⟨(),rfl,trivial⟩
theorem fdiff_ok:diffC.ok Tryz.prog 18:=okw mixed (gokc z9p gok0) 1 (fun _=>[]) (fun i=>yVy i) [] Tryz.func18 yXb
open Go Cv Go.Proofs
theorem yVb (m:MsgM) (h:mencC.cnd m):yNr m:=by
 unfold yNr zFu lD zHg zFc dI
 refine⟨am,fun b=>b=decide (m.inst<0∨255<m.inst∨(m.side≠1∧m.side≠2)),zJ (fun e=>⟨ao,rfl,(y0n (.inl e)).symm,k0q⟩) (fun e=>zJ (fun e2=>⟨ao,rfl,(y0n (.inr (.inl e2))).symm,k0q⟩) (fun e2=>Cv.cnd.mk (fun e3=>⟨_,rfl,?_,k0q⟩) (fun e3=>⟨_,rfl,?_,k0q⟩))),?_⟩
 ·have e3:m.side≠1:=by simpa using e3
  show(m.side !=2)=decide _
  rw[y4n,decide_eq_true_iff,bne_iff_ne]
  exact⟨fun x=> .inr (.inr ⟨e3,x⟩),fun x=>((x.resolve_left e).resolve_left e2).2⟩
 ·have e3:m.side=1:=by simpa using e3
  exact(y0k fun x=>((x.resolve_left e).resolve_left e2).1 e3).symm
 rintro _ rfl
 refine zJ (fun e=> ?_) (fun e=> ?_)
 ·have hf:m.form=12:=by rw[MsgM.form,yZy e]
  exact⟨(),by rw[MsgM.enc,yZy (by rw[hf];decide)];rfl,hf,trivial⟩
 have hf:m.form=0:=by rw[MsgM.form,yZx e]
 have he:m.enc=m.body:=by rw[MsgM.enc,yZx (by simp[hf])]
 refine⟨(),trivial,fun _ _=>⟨⟨[],m.seq⟩,rfl,rfl,by simp[WN.ok],fun _ _=>⟨⟨_,m.inst⟩,rfl,rfl,by simp[WN.ok,mE],fun _ _=>⟨⟨_,m.side⟩,rfl,rfl,by simp[WN.ok,mE],fun _ _=>⟨⟨_,m.price⟩,rfl,rfl,by simp[WN.ok,mE],fun _ _=>⟨⟨_,m.qty⟩,rfl,rfl,by simp[WN.ok,mE],fun _ _=>⟨⟨_,m.count⟩,rfl,rfl,by simp[WN.ok,mE],fun _ _=>⟨0,fun x=>x=if m.implied=ao then 1 else 0,Cv.cnd.mk (fun e=>⟨1,rfl,by rw[yZy e],k0q⟩) (fun e=>⟨0,rfl,by rw[yZx (by simp[e])],k0q⟩),?_⟩⟩⟩⟩⟩⟩⟩⟩
 rintro _ rfl
 refine⟨⟨_,if m.implied=ao then 1 else 0⟩,rfl,rfl,by simp[WN.ok,mE],fun _ _=>⟨_,rfl,by simp[mE],fun _ _=>⟨(),?_,hf,trivial⟩⟩⟩
 rw[he,MsgM.body]
 simp
theorem menc_ok:mencC.ok Tryz.prog 25:=okw mixed (gokc yIh (gokc yKw (gokc yJh (gokc yLf gok0)))) 0 (fun _=>yXd) (fun _=>[]) [] Tryz.func25 yVb
theorem yUn (b:List UInt8) (h:mdecC.cnd b):yNc b:=by
 have h:b.length≤1099511627776:=h
 obtain⟨r0,hr⟩:∃r0,r0=RB.mk b am:=⟨_,rfl⟩
 have h0:r0.ok:=by rw[hr];exact h
 have h1:=zIy h0
 have h2:=zTz h1
 have h3:=zTz h2
 have h4:=zIy h3
 have h5:=zIy h4
 have h6:=zIy h5
 have h7:=zTz h6
 obtain⟨M,hm⟩:∃M:MsgM,M=⟨r0.long.1,r0.long.2.byte.1,r0.long.2.byte.2.byte.1,r0.long.2.byte.2.byte.2.long.1,r0.long.2.byte.2.byte.2.long.2.long.1,r0.long.2.byte.2.byte.2.long.2.long.2.long.1,decide (r0.long.2.byte.2.byte.2.long.2.long.2.long.2.byte.1=1)⟩:=⟨_,rfl⟩
 have hdec:qQ b=if r0.long.2.byte.2.byte.2.long.2.long.2.long.2.byte.2.endOf≠0∨1<r0.long.2.byte.2.byte.2.long.2.long.2.long.2.byte.1∨(r0.long.2.byte.2.byte.1≠1∧r0.long.2.byte.2.byte.1≠2)then(yXl,12)else(M,0):=by
  rw[hm,hr];rfl
 unfold yNc zKu zDv uD dI
 generalize qQ b=X at hdec ⊢
 refine⟨b,rfl,h,fun _ _=>⟨r0,by rw[hr],h0,fun _ _=>⟨r0.long.2,rfl,h1,fun _ _=>⟨r0.long.2.byte.2,rfl,h2,fun _ _=>⟨r0.long.2.byte.2.byte.2,rfl,h3,fun _ _=>⟨r0.long.2.byte.2.byte.2.long.2,rfl,h4,fun _ _=>⟨r0.long.2.byte.2.byte.2.long.2.long.2,rfl,h5,fun _ _=>⟨r0.long.2.byte.2.byte.2.long.2.long.2.long.2,rfl,h6,fun _ _=>⟨am,fun x=>x=decide (r0.long.2.byte.2.byte.2.long.2.long.2.long.2.byte.2.endOf≠0∨1<r0.long.2.byte.2.byte.2.long.2.long.2.long.2.byte.1∨(r0.long.2.byte.2.byte.1≠1∧r0.long.2.byte.2.byte.1≠2)),⟨r0.long.2.byte.2.byte.2.long.2.long.2.long.2.byte.2,rfl,h7,fun _ _=> ?_⟩,?_⟩⟩⟩⟩⟩⟩⟩⟩⟩
 ·refine Cv.cnd.mk (fun e=>⟨ao,rfl,(y0n (.inl ((bne_iff_ne (a:=r0.long.2.byte.2.byte.2.long.2.long.2.long.2.byte.2.endOf) (b:=0)).1 e))).symm,rfl,k0q⟩) (fun e=>zJ (fun e2=>⟨ao,rfl,(y0n (.inr (.inl e2))).symm,rfl,k0q⟩) (fun e2=>Cv.cnd.mk (fun e3=>⟨_,rfl,?_,rfl,k0q⟩) (fun e3=>⟨_,rfl,?_,rfl,k0q⟩)))
  ·have e:¬r0.long.2.byte.2.byte.2.long.2.long.2.long.2.byte.2.endOf≠0:=not_not_intro ((bne_eq_false_iff_eq (a:=r0.long.2.byte.2.byte.2.long.2.long.2.long.2.byte.2.endOf) (b:=0)).1 e)
   have e3:r0.long.2.byte.2.byte.1≠1:=(bne_iff_ne (a:=r0.long.2.byte.2.byte.1) (b:=1)).1 e3
   show(r0.long.2.byte.2.byte.1 !=2)=decide _
   rw[y4n,decide_eq_true_iff,bne_iff_ne]
   exact⟨fun x=> .inr (.inr ⟨e3,x⟩),fun x=>((x.resolve_left e).resolve_left e2).2⟩
  ·have e:¬r0.long.2.byte.2.byte.2.long.2.long.2.long.2.byte.2.endOf≠0:=not_not_intro ((bne_eq_false_iff_eq (a:=r0.long.2.byte.2.byte.2.long.2.long.2.long.2.byte.2.endOf) (b:=0)).1 e)
   have e3:r0.long.2.byte.2.byte.1=1:=(bne_eq_false_iff_eq (a:=r0.long.2.byte.2.byte.1) (b:=1)).1 e3
   exact(y0k fun x=>((x.resolve_left e).resolve_left e2).1 e3).symm
 rintro _ rfl
 refine zJ (fun e=> ?_) (fun e=> ?_)
 ·rw[yZy e]at hdec
  rw[hdec]
  exact⟨(),rfl,rfl,rfl,rfl,rfl,rfl,rfl,rfl,trivial⟩
 ·rw[yZx e]at hdec
  rw[hdec,hm]
  exact⟨(),rfl,rfl,rfl,rfl,rfl,rfl,rfl,rfl,trivial⟩
theorem mdec_ok:mdecC.ok Tryz.prog 26:=okw mixed (gokc yKd (gokc z9x (gokc yFj (gokc yLn gok0)))) 0 (fun _=>yXq) (fun _=>[]) [] Tryz.func26 yUn
open Go Cv Go.Proofs
@[reducible] def wS:Nat:=44
@[reducible] def tLv:Nat:=41
def clVwC:Con:=con1 (List (List D)) (fun l=>[roV 10 l]) (fun _=>[]) (fun l=>l.length*112≤140737488355328) (fun _=> .own 0) (fun l=>[.own wS 10 l])
def clLvC:Con:=con1 (List (List D)) (fun l=>[roV 3 l]) (fun _=>[]) (fun l=>l.length*24≤140737488355328) (fun _=> .own 0) (fun l=>[.own tLv 3 l])
structure CpI where
 v:Vw
 n:Nat
 s:Bool
def yYy (s:Bool) (p:Sd×Sd):Sd:=bif s then p.2 else p.1
def z1c (v:Vw) (n:Nat) (s:Bool):Sd:=match v[n]? with
 |some p=>yYy s p
 |none=>⟨[],lv0,am⟩
def CpI.f (i:CpI):Nat:=bif i.s then 5 else 0
def CpI.lv (i:CpI):List (List D):=(z1c i.v i.n i.s).levels.map lvE
def fcopyC:Con:=con1 CpI (fun i=>[vwV i.v]) (fun _=>[]) (fun i=>i.n<i.v.length∧i.v.length≤1000000∧qC i.v) (fun _=> .agg [.own 0])
 (fun i=>[.hol ao wS 10 (i.v.map zB) i.n i.f ao (ar 1),.own tLv 3 i.lv])
def yRr (i:CpI):List SAnn:=[
 {ι:=Nat,slots:=fun j=>[(1,.nm 0 0),(12,zA j)],rows:=fun j=>[.cells [.own 1] 34,.hol am wS 10 (i.v.map zB) i.n i.f (decide (i.n<j)) (ar 2),.own tLv 3 (bif decide (i.n<j)then i.lv else[])]},
 {ι:=Unit,slots:=fun _=>[],rows:=fun _=>[],un:=3}]
def MsgM.fine (k:Int) (m:MsgM):Int:=if m.inst<0∨k≤m.inst then 20 else if m.side≠1∧m.side≠2 then 21 else if(m.qty<0∨m.count<0)∨¬(m.qty=0↔m.count=0)then 24 else 0
structure FnI where
 k:Int
 m:MsgM
def ffineC:Con:=con1 FnI (fun i=>[zA i.k,zWh i.m]) (fun _=>[]) (fun _=>True) (fun i=>zA (i.m.fine i.k)) (fun _=>[])
structure IxI where
 L:List Lv
 m:MsgM
def oI:Option Nat→Int
 |some k=>k
 |none=> -1
def z8r (m:MsgM):AObj:= .cells [zA m.seq,zA m.inst,zA m.side,zA m.price,zA m.qty,zA m.count,yF m.implied] zWj
def ixA:List SAnn:=[{ι:=Nat,slots:=fun k=>[(8,zA k)],rows:=fun _=>[]}]
def ixPC:Con:=con1 IxI (fun i=>[.own 0,.fn 55 [] [.nm 1 0]]) (fun i=>[.own tLv 3 (i.L.map lvE),z8r i.m]) (fun i=>i.L.length≤1099511627776) (fun i=>zA (oI (i.L.findIdx? fun y=>decide (y.price=i.m.price)))) (fun i=>[.own tLv 3 (i.L.map lvE),z8r i.m])
def ixBC:Con:=con1 IxI (fun i=>[.own 0,.fn 57 [] [.nm 1 0]]) (fun i=>[.own tLv 3 (i.L.map lvE),z8r i.m]) (fun i=>i.L.length≤1099511627776) (fun i=>zA (oI (i.L.findIdx? fun y=>xB i.m.side i.m.price y.price))) (fun i=>[.own tLv 3 (i.L.map lvE),z8r i.m])
def delLC:Con:=yJr tLv 3
def insLC:Con:=yDw tLv 3 24
structure ApI where
 v:Vw
 m:MsgM
def MsgM.lv (m:MsgM):Lv:=⟨m.price,m.qty,m.count⟩
def zIo (s:Int) (x:Sd) (m:MsgM):Sd:=if m.implied=ao then(if 0<m.qty then⟨x.levels,m.lv,ao⟩else⟨x.levels,lv0,am⟩)else⟨jS s x.levels m.lv,x.imp,x.has⟩
def apV (v:Vw) (m:MsgM):Vw:=v.modify m.inst.toNat fun p=>if m.side=1 then(zIo 1 p.1 m,p.2)else(p.1,zIo 2 p.2 m)
def yWw (s:Int):Con:=con1 ApI (fun i=>[vwV i.v,.agg [zA i.m.seq,zA i.m.inst,zA s,zA i.m.price,zA i.m.qty,zA i.m.count,yF i.m.implied]]) (fun _=>[])
 (fun i=>i.m.side=s∧i.m.fine i.v.length=0∧i.v.length≤1000000∧qC i.v) (fun i=> .tup [vwV (apV i.v i.m),zA 0]) (fun _=>[])
def ap1C:Con:=yWw 1
def ap2C:Con:=yWw 2
def applyC:Con:=con1 ApI (fun i=>[vwV i.v,zWh i.m]) (fun _=>[]) (fun i=>i.m.fine i.v.length=0∧i.v.length≤1000000∧qC i.v) (fun i=> .tup [vwV (apV i.v i.m),zA 0]) (fun _=>[])
end Sx
