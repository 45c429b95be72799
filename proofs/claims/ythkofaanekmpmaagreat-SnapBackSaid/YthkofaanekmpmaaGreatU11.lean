/- Texts of ours, one behind the other: a walk that the kernel reckons, and contracts of functions. No condition. -/
import Derived.Test.YthkofaanekmpmaaGreatU10
namespace Sx
set_option linter.unusedVariables false
set_option linter.unusedSimpArgs false
set_option maxRecDepth 100000
open Go Cv Go.Proofs
open Go Cv Go.Proofs
open Go Cv Go.Proofs
open Go Cv Go.Proofs
open Go Cv Go.Proofs
def upd (f:Int→Int) (k v:Int):Int→Int:=fun x=>if x=k then v else f x
def one (r:Rep) (m:Int):Int:=if r.kind=3∧r.inst=m then(if r.side=1 then r.qty else-r.qty)else 0
def vq (p:Prd) (k s q m:Int):Int:=
 if(p.legs k).2.2=true then(if(p.legs k).1=m then(if s=1 then q else-q)else 0)-(if(p.legs k).2.1=m then(if s=1 then q else-q)else 0)
 else if k=m then(if s=1 then q else-q)else 0
open Go Cv Go.Proofs
theorem z3b {s:Int}:∀{F:List zH},zUe s F→yGn s (grp F)
 |[],_=>List.Pairwise.nil
 |o::F,h=>by
  rw[zUe,y0d]at h
  have ih:=z3b h.2
  rw[grp]
  cases hg:grp F with
  |nil=>exact List.pairwise_singleton _ _
  |cons v vs=>
   rw[hg]at ih
   dsimp only
   have hv:=ih
   rw[yGn,y0d]at hv
   by_cases e:v.price=o.price
   ·rw[yWl e]
    exact y0d.2 ⟨fun w hw=>hv.1 w hw,hv.2⟩
   ·rw[yWj e]
    obtain⟨o',r,e2,e3⟩:=zKe hg
    have hb:btr s o.price v.price=true:=by
     rw[← e3]
     refine yFa (h.1 o' (by rw[e2];exact yWp)) (by rw[e3];exact e)
    refine y0d.2 ⟨fun w hw=> ?_,ih⟩
    rcases yXe.1 hw with rfl|hw
    ·exact hb
    ·exact yLz hb (hv.1 w hw)
theorem yGk {p:Prd} {B:List (List zH)} (h:BWf p B) {k:Nat} {L:List zH} (hL:B[k]? =some L) {s:Int} (hs:s=1∨s=2):yGn s (uM L s)∧yUy (uM L s):=
 ⟨z3b (h.srt k L hL s hs),fun l hl=>(z3y (fun o ho=>(h.od k L hL).1 o (yYn.1 ho).1) hl).1⟩
open Go Cv Go.Proofs
open Classical
def gY (l:List Quote) (b:Quote):Int×Int:=l.foldl (fun a q=>if q.price=b.price then(if q.qty>a.1 then q.qty else a.1,a.2+1)else a) (b.qty,0)
def qC (l:List Quote) (s:Int):Lv×Bool:=if(zS l s).2 then(⟨(zS l s).1.price,(gY l (zS l s).1).1,(gY l (zS l s).1).2⟩,true)else(⟨0,0,0⟩,false)
def showC:Con:=con1 BsI (fun i=>[roV 6 (i.l.map zJ),zA i.s]) (fun _=>[]) (fun i=>(i.s=1∨i.s=2)∧i.l.length≤1000000) (fun i=> .tup [zA (qC i.l i.s).1.price,zA (qC i.l i.s).1.qty,zA (qC i.l i.s).1.count,yF (qC i.l i.s).2]) (fun _=>[])
def yPk (i:BsI):List SAnn:=[{ι:=Nat,slots:=fun k=>[(8,.nm 0 0),(10,zA (gY (i.l.take k) (zS i.l i.s).1).1),(11,zA (gY (i.l.take k) (zS i.l i.s).1).2),(26,zA k)],rows:=fun _=>[.cells (zPy (zS i.l i.s).1).cl 259]}]
def zBm (p:Prd) (B:List (List zH)) (n:Nat) (s:Int):Sd:=⟨uM (B.getD n []) s,(qC (xR ⟨p,B.map qU,n⟩ s) s).1,(qC (xR ⟨p,B.map qU,n⟩ s) s).2⟩
def gE (p:Prd) (B:List (List zH)):Vw:=(List.range p.count).map fun n=>(zBm p B n 1,zBm p B n 2)
structure LkI where
 s:MSt
 p:Prd
 B:List (List zH)
def lookC:Con:=con1 LkI (fun i=>[prdV i.p,.nm 0 0]) (fun i=>[zD i.s]) (fun i=>i.s.Rep i.p i.B∧BOk i.p i.B) (fun i=>vwV (gE i.p i.B)) (fun i=>[zD i.s])
def ySx (i:LkI):List SAnn:=[
 {ι:=Nat,slots:=fun j=>[(5,.nm 0 0),(6,.own 2),(27,zA j)],rows:=fun j=>[.cells [.own 1] 34,.own 44 10 (((gE i.p i.B).take j).map yI),.fro 6 ((i.B.map qU).map zX)]},
 {ι:=Unit,slots:=fun _=>[],rows:=fun _=>[],un:=3}]
noncomputable def z8d (a b:List Lv):Bool:=decide (a=b)
noncomputable def z4i (a b:Sd):Bool:=decide (a=b)
noncomputable def zMu (a b:Vw):Bool:=decide (a=b)
structure yFo where
 x:List Lv
 y:List Lv
noncomputable def eqLvC:Con:=con1 yFo (fun i=>[roV 3 (i.x.map lvE),roV 3 (i.y.map lvE)]) (fun _=>[]) (fun i=>i.x.length≤1099511627776∧i.y.length≤1099511627776) (fun i=>yF (z8d i.x i.y)) (fun _=>[])
def yTe:List SAnn:=[{ι:=Nat,slots:=fun k=>[(13,zA k)],rows:=fun _=>[]}]
def yTg:List (Nat×SAnn):=[(24,bj 24)]
structure yAp where
 a:Sd
 b:Sd
noncomputable def fsdC:Con:=con1 yAp (fun i=>[sdV i.a,sdV i.b]) (fun _=>[]) (fun i=>i.a.levels.length≤1099511627776∧i.b.levels.length≤1099511627776) (fun i=>yF (z4i i.a i.b)) (fun _=>[])
structure zRx where
 v:Vw
 w:Vw
noncomputable def eqFC:Con:=con1 zRx (fun i=>[roV 10 (i.v.map yI),roV 10 (i.w.map yI),.fn 64 [] []]) (fun _=>[]) (fun i=>uR i.v∧uR i.w) (fun i=>yF (zMu i.v i.w)) (fun _=>[])
def yVc:List SAnn:=[{ι:=Nat,slots:=fun k=>[(17,zA k)],rows:=fun _=>[]}]
def yVi:List (Nat×SAnn):=[(28,bj 30)]
noncomputable def fsameC:Con:=con1 zRx (fun i=>[vwV i.v,vwV i.w]) (fun _=>[]) (fun i=>uR i.v∧uR i.w) (fun i=>yF (zMu i.v i.w)) (fun _=>[])
open Go Cv Go.Proofs
def zLu (a:Nat) (b:Nat) (c:BsI) (d:Nat→Prop) (e:Nat→Nat):Prop:=(↑a:Int)=IntKind.i64.wrap ((↑b:Int)+1)∧(zS c.l c.s).fst.price=(zS c.l c.s).fst.price∧(zS c.l c.s).fst.qty=(zS c.l c.s).fst.qty∧(zS c.l c.s).fst.a.inst=(zS c.l c.s).fst.a.inst∧(zS c.l c.s).fst.a.side=(zS c.l c.s).fst.a.side∧(zS c.l c.s).fst.b.inst=(zS c.l c.s).fst.b.inst∧(zS c.l c.s).fst.b.side=(zS c.l c.s).fst.b.side∧d a∧e a<e b∧True
def qL (a:Nat) (b:BsI):=(gY (List.take a b.l) (zS b.l b.s).fst)
def yJw (i:BsI):Prop:=
 ∃(a:BsI),List.map zJ a.l=List.map zJ i.l∧a.s=i.s∧(fD a)∧∀(b:Unit),True→cnd (!(zS a.l a.s).snd) (∃(c:Unit),(qC i.l i.s).fst.price=0∧(qC i.l i.s).fst.qty=0∧(qC i.l i.s).fst.count=0∧(qC i.l i.s).snd=false∧True) (∃(c:Nat),(qL c i).fst=(zS a.l a.s).fst.qty∧(qL c i).snd=0∧(↑c:Int)=0∧(zS i.l i.s).fst.price=(zS a.l a.s).fst.price∧(zS i.l i.s).fst.qty=(zS a.l a.s).fst.qty∧(zS i.l i.s).fst.a.inst=(zS a.l a.s).fst.a.inst∧(zS i.l i.s).fst.a.side=(zS a.l a.s).fst.a.side∧(zS i.l i.s).fst.b.inst=(zS a.l a.s).fst.b.inst∧(zS i.l i.s).fst.b.side=(zS a.l a.s).fst.b.side∧∃(d:Nat→Prop),∃(e:Nat→Nat),d c∧∀(f:Nat),d f→cnd (decide ((↑f:Int)<(vO i))) ((0≤(↑f:Int)∧(↑f:Int)<(vO i))∧∃(g:Int),∃(h:Int),∃(j:Int),∃(k:Int),∃(l:Int),∃(m:Int),zE (List.map zJ i.l) (↑f:Int).toNat 0 6=some [dI g,dI h,dI j,dI k,dI l,dI m]∧cnd (g==(zS i.l i.s).fst.price) (∃(n:Nat),((qL n i).fst=if h>(qL f i).fst then h else(qL f i).fst)∧(qL n i).snd=IntKind.i64.wrap ((qL f i).snd+1)∧zLu n f i d e) (∃(n:Nat),(qL n i).fst=(qL f i).fst∧(qL n i).snd=(qL f i).snd∧zLu n f i d e)) (∃(g:Unit),(qC i.l i.s).fst.price=(zS i.l i.s).fst.price∧(qC i.l i.s).fst.qty=(qL f i).fst∧(qC i.l i.s).fst.count=(qL f i).snd∧(qC i.l i.s).snd=true∧True))
def yJs (i:LkI):Prop:=
 ∃(a:Prd),sb a.code=sb i.p.code∧iE a.months=iE i.p.months∧a.tick=i.p.tick∧a.low=i.p.low∧a.high=i.p.high∧a.wide=i.p.wide∧a.rule=i.p.rule∧a.top=i.p.top∧a.least=i.p.least∧a.part=i.p.part∧iE a.settle=iE i.p.settle∧(z7 a)∧∀(b:Unit),True→cnd (a.check !=0) (∃(c:Unit),List.map yI (gE i.p i.B)=[]∧zD i.s=zD i.s∧True) (∃(c:MSt),zD c=zD i.s∧(fM c)∧∀(d:Unit),True→∃(e:Prd),sb e.code=sb i.p.code∧iE e.months=iE i.p.months∧e.tick=i.p.tick∧e.low=i.p.low∧e.high=i.p.high∧e.wide=i.p.wide∧e.rule=i.p.rule∧e.top=i.p.top∧e.least=i.p.least∧e.part=i.p.part∧iE e.settle=iE i.p.settle∧(z7 e)∧∀(f:Unit),True→∃(g:Nat),(↑g:Int)=0∧List.map yI (List.take g (gE i.p i.B))=[]∧List.map zX (List.map qU i.B)=List.map zX c.tops∧∃(h:Nat→Prop),∃(j:Nat→Nat),h g∧∀(k:Nat),h k→cnd (decide ((↑k:Int)<(↑e.count:Int))) (((0:Int)≤(0:Int)∧0<(↑(2:Nat):Int))∧∃(l:Int),zE [[dI 1],[dI 2]] (Int.toNat 0) 0 1=some [dI l]∧∃(m:SoI),m.inst=(↑k:Int)∧zC m.sd=l∧zD m.s=zD c∧(m.s.Rep m.p m.B∧m.B.length≤1000)∧∀(n:Unit),True→∃(p:rS),sb p.i.p.code=sb i.p.code∧iE p.i.p.months=iE i.p.months∧p.i.p.tick=i.p.tick∧p.i.p.low=i.p.low∧p.i.p.high=i.p.high∧p.i.p.wide=i.p.wide∧p.i.p.rule=i.p.rule∧p.i.p.top=i.p.top∧p.i.p.least=i.p.least∧p.i.p.part=i.p.part∧iE p.i.p.settle=iE i.p.settle∧List.map zX p.i.tops=List.map zX (List.map qU i.B)∧p.i.inst=(↑k:Int)∧zC p.s=l∧(kA p)∧∀(q:Unit),True→∃(r:BsI),List.map zJ r.l=List.map zJ (xR p.i (zC p.s))∧r.s=l∧(fD r)∧∀(s:Unit),True→(cC)∧∃(t:Int),zE [[dI 1],[dI 2]] (IntKind.i64.wrap ((0:Int)+(1:Int))).toNat 0 1=some [dI t]∧∃(u:SoI),u.inst=(↑k:Int)∧zC u.sd=t∧zD u.s=zD m.s∧(u.s.Rep u.p u.B∧u.B.length≤1000)∧∀(v:Unit),True→∃(w:rS),sb w.i.p.code=sb i.p.code∧iE w.i.p.months=iE i.p.months∧w.i.p.tick=i.p.tick∧w.i.p.low=i.p.low∧w.i.p.high=i.p.high∧w.i.p.wide=i.p.wide∧w.i.p.rule=i.p.rule∧w.i.p.top=i.p.top∧w.i.p.least=i.p.least∧w.i.p.part=i.p.part∧iE w.i.p.settle=iE i.p.settle∧List.map zX w.i.tops=List.map zX (List.map qU i.B)∧w.i.inst=(↑k:Int)∧zC w.s=t∧(kA w)∧∀(x:Unit),True→∃(y:BsI),List.map zJ y.l=List.map zJ (xR w.i (zC w.s))∧y.s=t∧(fD y)∧∀(z:Unit),True→((List.map yI (List.take k (gE i.p i.B))).length+1)*(112:Nat)≤(140737488355328:Nat)∧∃(a_1:Nat),(↑a_1:Int)=IntKind.i64.wrap ((↑k:Int)+1)∧List.map yI (List.take a_1 (gE i.p i.B))=List.map yI (List.take k (gE i.p i.B))++[[D.ro 3 (List.map lvE (cF m)),dI ((qC r.l r.s).fst.price),dI ((qC r.l r.s).fst.qty),dI ((qC r.l r.s).fst.count),D.v (.bool (qC r.l r.s).snd),D.ro 3 (List.map lvE (cF u)),dI ((qC y.l y.s).fst.price),dI ((qC y.l y.s).fst.qty),dI ((qC y.l y.s).fst.count),D.v (.bool (qC y.l y.s).snd)]]∧AObj.fro 6 (List.map zX (List.map qU i.B))=AObj.fro 6 (List.map zX (List.map qU i.B))∧h a_1∧j a_1<j k∧zD u.s=zD c∧Sx.AObj.cells Vdect262.cl 34=Sx.AObj.cells Vdect262.cl 34∧Sx.AObj.cells [V.d (D.v (Value.string (sb i.p.code))),V.own 1,V.d (dI i.p.tick),V.d (dI i.p.low),V.d (dI i.p.high),V.d (dI i.p.wide),V.d (dI i.p.rule),V.d (dI i.p.top),V.d (dI i.p.least),V.d (dI i.p.part),V.own ((1:Nat)+(1:Nat))] 25=Sx.AObj.cells [V.d (D.v (Value.string (sb i.p.code))),V.own 1,V.d (dI i.p.tick),V.d (dI i.p.low),V.d (dI i.p.high),V.d (dI i.p.wide),V.d (dI i.p.rule),V.d (dI i.p.top),V.d (dI i.p.least),V.d (dI i.p.part),V.own ((1:Nat)+(1:Nat))] 25∧AObj.fro 1 (iE i.p.settle)=AObj.fro 1 (iE i.p.settle)∧AObj.fro 1 (iE i.p.months)=AObj.fro 1 (iE i.p.months)) (∃(l:Unit),List.map yI (gE i.p i.B)=List.map yI (List.take k (gE i.p i.B))∧zD i.s=zD c∧True))
def yKh (i:yFo):Prop:=
 cnd ((↑(List.map lvE i.x).length:Int) !=(↑(List.map lvE i.y).length:Int)) (∃(a:Unit),z8d i.x i.y=false∧True) (∃(a:Nat),(↑a:Int)=0∧∃(b:Nat→Prop),∃(c:Nat→Nat),b a∧∀(d:Nat),b d→cnd (decide ((↑d:Int)<(↑(List.map lvE i.x).length:Int))) (∃(e:Bool),∃(f:Bool→Prop),((0≤(↑d:Int)∧(↑d:Int)<(↑(List.map lvE i.x).length:Int))∧∃(g:Int),∃(h:Int),∃(j:Int),zE (List.map lvE i.x) (↑d:Int).toNat 0 3=some [dI g,dI h,dI j]∧(0≤(↑d:Int)∧(↑d:Int)<(↑(List.map lvE i.y).length:Int))∧∃(k:Int),∃(l:Int),∃(m:Int),zE (List.map lvE i.y) (↑d:Int).toNat 0 3=some [dI k,dI l,dI m]∧∃(n:Bool),n=!(g==k && (h==l && (j==m && true)))∧f n∧True)∧∀(g:Bool),f g→cnd g (∃(h:Unit),z8d i.x i.y=false∧True) (jB d b c)) (∃(e:Unit),z8d i.x i.y=true∧True))
def yRi (i:yAp):Prop:=
 ∃(a:yFo),List.map lvE a.x=List.map lvE i.a.levels∧List.map lvE a.y=List.map lvE i.b.levels∧(a.x.length≤1099511627776∧a.y.length≤1099511627776)∧∀(b:Unit),True→cnd (z8d a.x a.y) (cnd (i.a.imp.price==i.b.imp.price && (i.a.imp.qty==i.b.imp.qty && (i.a.imp.count==i.b.imp.count && true))) (∃(c:Unit),z4i i.a i.b=(i.a.has==i.b.has)∧True) (∃(c:Unit),z4i i.a i.b=false∧True)) (∃(c:Unit),z4i i.a i.b=false∧True)
def zRg (a:Bool→Prop) (b:Bool) (c:List (List D)) (d:List (List D)) (e:Int) (f:Int) (g:Int) (h:Bool) (j:Int) (k:Int) (l:Int) (m:Bool) (n:List (List D)) (p:List (List D)) (q:Int) (r:Int) (s:Int) (t:Bool) (u:Int) (v:Int) (w:Int) (x:Bool):Prop:=a b∧AObj.fro 3 c=AObj.fro 3 c∧AObj.fro 3 d=AObj.fro 3 d∧Sx.AObj.cells [V.own ((0:Nat)+(0:Nat)+(1:Nat)+(1:Nat)+(1:Nat)+(1:Nat)),V.d (dI e),V.d (dI f),V.d (dI g),V.d (D.v (.bool h)),V.own ((0:Nat)+(0:Nat)+(1:Nat)+(1:Nat)+(1:Nat)+(1:Nat)+1),V.d (dI j),V.d (dI k),V.d (dI l),V.d (D.v (.bool m))] 44=Sx.AObj.cells [V.own ((0:Nat)+(0:Nat)+(1:Nat)+(1:Nat)+(1:Nat)+(1:Nat)),V.d (dI e),V.d (dI f),V.d (dI g),V.d (D.v (.bool h)),V.own ((0:Nat)+(0:Nat)+(1:Nat)+(1:Nat)+(1:Nat)+(1:Nat)+1),V.d (dI j),V.d (dI k),V.d (dI l),V.d (D.v (.bool m))] 44∧AObj.fro 3 n=AObj.fro 3 n∧AObj.fro 3 p=AObj.fro 3 p∧Sx.AObj.cells [V.own ((0:Nat)+(0:Nat)+1),V.d (dI q),V.d (dI r),V.d (dI s),V.d (D.v (.bool t)),V.own ((0:Nat)+(0:Nat)+(1:Nat)+(1:Nat)),V.d (dI u),V.d (dI v),V.d (dI w),V.d (D.v (.bool x))] 44=Sx.AObj.cells [V.own ((0:Nat)+(0:Nat)+1),V.d (dI q),V.d (dI r),V.d (dI s),V.d (D.v (.bool t)),V.own ((0:Nat)+(0:Nat)+(1:Nat)+(1:Nat)),V.d (dI u),V.d (dI v),V.d (dI w),V.d (D.v (.bool x))] 44
def yQf (i:zRx):Prop:=
 cnd ((↑(List.map yI i.v).length:Int) !=(↑(List.map yI i.w).length:Int)) (∃(a:Unit),zMu i.v i.w=false∧True) (∃(a:Nat),(↑a:Int)=0∧∃(b:Nat→Prop),∃(c:Nat→Nat),b a∧∀(d:Nat),b d→cnd (decide ((↑d:Int)<(↑(List.map yI i.v).length:Int))) ((0≤(↑d:Int)∧(↑d:Int)<(↑(List.map yI i.v).length:Int))∧∃(e:List (List D)),∃(f:Int),∃(g:Int),∃(h:Int),∃(j:Bool),∃(k:List (List D)),∃(l:Int),∃(m:Int),∃(n:Int),∃(p:Bool),zE (List.map yI i.v) (↑d:Int).toNat 0 10=some [D.ro 3 e,dI f,dI g,dI h,D.v (.bool j),D.ro 3 k,dI l,dI m,dI n,D.v (.bool p)]∧(0≤(↑d:Int)∧(↑d:Int)<(↑(List.map yI i.w).length:Int))∧∃(q:List (List D)),∃(r:Int),∃(s:Int),∃(t:Int),∃(u:Bool),∃(v:List (List D)),∃(w:Int),∃(x:Int),∃(y:Int),∃(z:Bool),zE (List.map yI i.w) (↑d:Int).toNat 0 10=some [D.ro 3 q,dI r,dI s,dI t,D.v (.bool u),D.ro 3 v,dI w,dI x,dI y,D.v (.bool z)]∧∃(a_1:Bool),∃(a_2:Bool→Prop),(∃(a_3:yAp),List.map lvE a_3.a.levels=e∧a_3.a.imp.price=f∧a_3.a.imp.qty=g∧a_3.a.imp.count=h∧a_3.a.has=j∧List.map lvE a_3.b.levels=q∧a_3.b.imp.price=r∧a_3.b.imp.qty=s∧a_3.b.imp.count=t∧a_3.b.has=u∧(a_3.a.levels.length≤1099511627776∧a_3.b.levels.length≤1099511627776)∧∀(a_4:Unit),True→cnd (z4i a_3.a a_3.b) (∃(a_5:yAp),List.map lvE a_5.a.levels=k∧a_5.a.imp.price=l∧a_5.a.imp.qty=m∧a_5.a.imp.count=n∧a_5.a.has=p∧List.map lvE a_5.b.levels=v∧a_5.b.imp.price=w∧a_5.b.imp.qty=x∧a_5.b.imp.count=y∧a_5.b.has=z∧(a_5.a.levels.length≤1099511627776∧a_5.b.levels.length≤1099511627776)∧∀(a_6:Unit),True→∃(a_7:Bool),a_7=!z4i a_5.a a_5.b∧zRg a_2 a_7 v q r s t u w x y z k e f g h j l m n p) (∃(a_5:Bool),a_5=!false∧zRg a_2 a_5 v q r s t u w x y z k e f g h j l m n p))∧∀(a_3:Bool),a_2 a_3→cnd a_3 (∃(a_4:Unit),zMu i.v i.w=false∧True) (jB d b c)) (∃(e:Unit),zMu i.v i.w=true∧True))
def pI (a:zRx):Prop:=(List.length a.v≤1099511627776∧∀(b:Sd×Sd),b∈a.v→wJ b)∧List.length a.w≤1099511627776∧∀(b:Sd×Sd),b∈a.w→wJ b
def yCc (i:zRx):Prop:=
 ∃(a:zRx),List.map yI a.v=List.map yI i.v∧List.map yI a.w=List.map yI i.w∧(pI a)∧∀(b:Unit),True→∃(c:Unit),zMu i.v i.w=zMu a.v a.w∧True
open Go Cv Go.Proofs
open Classical
theorem zLx {l:List Quote} {k:Nat} {q:Quote} (b:Quote) (h:l[k]? =some q):gY (l.take (k+1)) b=if q.price=b.price then(if q.qty>(gY (l.take k) b).1 then q.qty else(gY (l.take k) b).1,(gY (l.take k) b).2+1)else gY (l.take k) b:=by
 rw[gY,yXt,h,y0c,y0r,yZw,List.foldl_nil]
 rfl
theorem zVi (b:Quote) (l:List Quote):∀k,k≤l.length→0≤(gY (l.take k) b).2∧(gY (l.take k) b).2≤k
 |0,_=>⟨by rw[y1r];exact y1f 0,by rw[y1r];exact y1f 0⟩
 |k+1,h=>by
  obtain⟨q,hq⟩:=yD (l:=l) (i:=k) (by omega)
  have:=zVi b l k (by omega)
  rw[zLx b hq]
  split
  ·dsimp only;constructor<;>omega
  ·constructor<;>omega
theorem yQl (i:BsI) (h:showC.cnd i):yJw i:=by
 obtain⟨hs,hl⟩:(i.s=1∨i.s=2)∧i.l.length≤1000000:=h
 have hml:(i.l.map zJ).length=i.l.length:=yWk _
 unfold yJw zLu qL fD vO dI
 rw[hml]
 refine⟨i,rfl,rfl,⟨hs,hl⟩,fun _ _=>Cv.cnd.mk (fun c=> ?_) (fun c=> ?_)⟩
 ·have e:qC i.l i.s=(⟨0,0,0⟩,false):=by rw[qC,yWj (by simpa using c)]
  rw[e];exact⟨(),k0q⟩
 have e:qC i.l i.s=(⟨(zS i.l i.s).1.price,(gY i.l (zS i.l i.s).1).1,(gY i.l (zS i.l i.s).1).2⟩,true):=by rw[qC,yWl (by simpa using c)]
 rw[e]
 generalize (zS i.l i.s).1=b
 refine⟨0,rfl,rfl,rfl,rfl,rfl,rfl,rfl,rfl,rfl,fun k=>k≤i.l.length,fun k=>i.l.length-k,yYh _,fun k hk=>zI (fun hlt=> ?_) (fun hlt=> ?_)⟩
 ·obtain⟨q,hq⟩:=yD (l:=i.l) (i:=k) (by omega)
  have st:=zLx b hq
  have bd:=zVi b i.l k hk
  have hk:k≤i.l.length:=hk
  refine⟨⟨by omega,by omega⟩,q.price,q.qty,q.a.inst,q.a.side,q.b.inst,q.b.side,elA hq (by simp[zJ]) rfl,Cv.cnd.mk (fun e=>⟨k+1,?_⟩) (fun e=>⟨k+1,?_⟩)⟩
  ·rw[st,yWl (by simpa using e)]
   exact⟨rfl,by dsimp only;rw[w64 (by omega)],wjn (by omega),rfl,rfl,rfl,rfl,rfl,rfl,by dsimp only;omega,by dsimp only;omega,trivial⟩
  ·rw[st,yWj (by simpa using e)]
   exact⟨rfl,rfl,wjn (by omega),rfl,rfl,rfl,rfl,rfl,rfl,by dsimp only;omega,by dsimp only;omega,trivial⟩
 ·have hk:k≤i.l.length:=hk
  obtain rfl:k=i.l.length:=by omega
  rw[y0a]
  exact⟨(),k0q⟩
theorem yHr:showC.ok Tryz.prog 108:=okw mixed (gokc zTc gok0) 0 (fun _=>[]) (fun i=>yPk i) [] Tryz.func108 yQl
theorem zOo (p:Prd) (B:List (List zH)):(gE p B).length=p.count:=by rw[gE,yWk,List.length_range]
theorem z5u (p:Prd) (B:List (List zH)) {j:Nat} (h:j<p.count):(gE p B)[j]? =some (zBm p B j 1,zBm p B j 2):=by
 rw[gE,yXr,y0t h];rfl
theorem yRz (i:LkI) (h:lookC.cnd i):yJs i:=by
 obtain⟨hR,hB⟩:i.s.Rep i.p i.B∧BOk i.p i.B:=h
 have hcl:=x5 i.p
 have hbl:=hB.bl
 have hcnt:i.s.cntOk:=hR.cnt (by omega)
 have hto:wY (i.B.map qU):=hB.tops
 have hll:=zOo i.p i.B
 unfold yJs cC cF kA gC fD fM Vdect262 qS z7 dI
 refine⟨i.p,rfl,rfl,rfl,rfl,rfl,rfl,rfl,rfl,rfl,rfl,rfl,hB.ps,fun _ _=>Cv.cnd.mk (fun c=>absurd hB.pc (by simpa using c)) (fun _=>⟨i.s,rfl,hcnt,fun _ _=>⟨i.p,rfl,rfl,rfl,rfl,rfl,rfl,rfl,rfl,rfl,rfl,rfl,hB.ps,fun _ _=>⟨0,rfl,rfl,by rw[hR.tops],fun j=>j≤i.p.count,fun j=>i.p.count-j,yYh _,fun j hj=>zI (fun hlt=> ?_) (fun hlt=> ?_)⟩⟩⟩)⟩
 ·have hlt:j<i.p.count:=by omega
  have hat:atB i.B (j:Int)=i.B.getD j []:=by rw[atB,yWj (by omega),yXa]
  have hq:∀s,(xR ⟨i.p,i.B.map qU,j⟩ s).length≤1000000:=fun s=>yZq (zGe _ _) (by decide)
  refine⟨⟨by decide,by decide⟩,1,rfl,⟨i.s,i.p,i.B,j,false⟩,rfl,rfl,rfl,⟨hR,by dsimp only;omega⟩,fun _ _=>⟨⟨⟨i.p,i.B.map qU,j⟩,false⟩,rfl,rfl,rfl,rfl,rfl,rfl,rfl,rfl,rfl,rfl,rfl,rfl,rfl,rfl,⟨hB.ps,hto⟩,fun _ _=>⟨⟨xR ⟨i.p,i.B.map qU,j⟩ 1,1⟩,rfl,rfl,⟨.inl rfl,hq 1⟩,fun _ _=>⟨⟨by decide,by decide⟩,2,rfl,⟨i.s,i.p,i.B,j,true⟩,rfl,rfl,rfl,⟨hR,by dsimp only;omega⟩,fun _ _=>⟨⟨⟨i.p,i.B.map qU,j⟩,true⟩,rfl,rfl,rfl,rfl,rfl,rfl,rfl,rfl,rfl,rfl,rfl,rfl,rfl,rfl,⟨hB.ps,hto⟩,fun _ _=>⟨⟨xR ⟨i.p,i.B.map qU,j⟩ 2,2⟩,rfl,rfl,⟨.inr rfl,hq 2⟩,fun _ _=>⟨?_,j+1,wjn (by omega),?_,rfl,by dsimp only;omega,by dsimp only;omega,rfl,k0q⟩⟩⟩⟩⟩⟩⟩
  ·rw[yWk,yXd];omega
  ·rw[yXt,z5u i.p i.B hlt,y0c,yWv,yWz,y0h]
   dsimp only
   rw[hat]
   rfl
 ·have hj:j≤i.p.count:=hj
  rw[yWu (by omega)]
  exact⟨(),k0q⟩
theorem yIh:lookC.ok Tryz.prog 48:=okw mixed (gokc sX (gokc yEk (gokc cO (gokc yFu (gokc zPd (gokc yHr gok0)))))) 1 (fun _=>[]) (fun i=>ySx i) [] Tryz.func48 yRz
open Go Cv Go.Proofs
open Classical
theorem zNg {α:Type} {x y:List α} {k:Nat} {a b:α} (ha:x[k]? =some a) (hb:y[k]? =some b) (h:x.take k=y.take k) (e:a=b):x.take (k+1)=y.take (k+1):=by rw[yXt,yXt,h,ha,hb,e]
theorem yJt (a b:Lv):(a.price==b.price && (a.qty==b.qty && (a.count==b.count && true)))=decide (a=b):=by
 rw[y1z,decide_eq_true_iff]
 obtain⟨p,q,c⟩:=a
 obtain⟨p2,q2,c2⟩:=b
 simp
theorem yRa (i:yFo) (h:eqLvC.cnd i):yKh i:=by
 obtain⟨hx,hy⟩:i.x.length≤1099511627776∧i.y.length≤1099511627776:=h
 have hmx:(i.x.map lvE).length=i.x.length:=yWk _
 have hmy:(i.y.map lvE).length=i.y.length:=yWk _
 unfold yKh jB kI dI
 rw[hmx,hmy]
 refine Cv.cnd.mk (fun c=>⟨(),yWx (fun e=>by rw[e]at c;simp at c),trivial⟩) (fun c=> ?_)
 have hxy:i.x.length=i.y.length:=by have:(i.x.length:Int)=i.y.length:=(by simpa using c);omega
 refine⟨0,rfl,fun k=>k≤i.x.length∧i.x.take k=i.y.take k,fun k=>i.x.length-k,⟨yYh _,rfl⟩,fun k hk=>zI (fun e=> ?_) (fun e=> ?_)⟩
 ·obtain⟨hk1,hk2⟩:=hk
  obtain⟨a,ha⟩:=yD (l:=i.x) (i:=k) (by omega)
  obtain⟨b,hb⟩:=yD (l:=i.y) (i:=k) (by omega)
  refine⟨false,fun t=>t= !decide (a=b),⟨⟨by omega,by omega⟩,a.price,a.qty,a.count,elA ha (by simp[lvE]) rfl,⟨by omega,by omega⟩,b.price,b.qty,b.count,elA hb (by simp[lvE]) rfl,_,rfl,?_,trivial⟩,?_⟩
  ·rw[yJt a b]
  ·rintro _ rfl
   refine Cv.cnd.mk (fun c=>⟨(),yWx (fun e2=> ?_),trivial⟩) (fun c=>⟨k+1,by rw[w64 (by omega)];rfl,⟨by omega,zNg ha hb hk2 (by simpa using c)⟩,by dsimp only;omega,trivial⟩)
   have c:a≠b:=by simpa using c
   rw[e2]at ha
   rw[ha]at hb
   exact c (Option.some.inj hb)
 ·obtain⟨hk1,hk2⟩:=hk
  rw[yWu (by omega),yWu (by omega)]at hk2
  exact⟨(),yXc hk2,trivial⟩
theorem yIv:eqLvC.ok Tryz.prog 125:=okw mixed gok0 0 (fun _=>yTg) (fun _=>yTe) [] Tryz.func125 yRa
theorem yUx (i:yAp) (h:fsdC.cnd i):yRi i:=by
 obtain⟨⟨al,ai,ah⟩,⟨bl,bi,bh⟩⟩:=i
 obtain⟨ha,hb⟩:al.length≤1099511627776∧bl.length≤1099511627776:=h
 unfold yRi
 refine⟨⟨al,bl⟩,rfl,rfl,⟨ha,hb⟩,fun _ _=>zI (fun e=> ?_) (fun e=>⟨(),yWx (fun x=>e (congrArg Sd.levels x)),trivial⟩)⟩
 dsimp only
 rw[yJt]
 refine zI (fun e2=>⟨(),?_,trivial⟩) (fun e2=>⟨(),yWx (fun x=>e2 (congrArg Sd.imp x)),trivial⟩)
 have e:al=bl:=e
 have e2:ai=bi:=e2
 subst e e2
 show decide ((⟨al,ai,ah⟩:Sd)=⟨al,ai,bh⟩)=(ah==bh)
 rw[y1z,decide_eq_true_iff,beq_iff_eq]
 exact⟨fun x=>congrArg Sd.has x,fun x=>by have x:ah=bh:=x;rw[x]⟩
theorem yNf:fsdC.ok Tryz.prog 65:=okw mixed (gokc yIv gok0) 0 (fun _=>[]) (fun _=>[]) [] Tryz.func65 yUx
theorem ySr {v:Vw} {k:Nat} {b:Sd×Sd} (h:v[k]? =some b):zE (v.map yI) k 0 10=some [D.ro 3 (b.1.levels.map lvE),.v (.int .i64 b.1.imp.price),.v (.int .i64 b.1.imp.qty),.v (.int .i64 b.1.imp.count),.v (.bool b.1.has),.ro 3 (b.2.levels.map lvE),.v (.int .i64 b.2.imp.price),.v (.int .i64 b.2.imp.qty),.v (.int .i64 b.2.imp.count),.v (.bool b.2.has)]∧
 zE (v.map yI) k 0 5=some [D.ro 3 (b.1.levels.map lvE),.v (.int .i64 b.1.imp.price),.v (.int .i64 b.1.imp.qty),.v (.int .i64 b.1.imp.count),.v (.bool b.1.has)]∧
 zE (v.map yI) k 5 5=some [D.ro 3 (b.2.levels.map lvE),.v (.int .i64 b.2.imp.price),.v (.int .i64 b.2.imp.qty),.v (.int .i64 b.2.imp.count),.v (.bool b.2.has)]:=
 ⟨elA h (by simp[yI]) rfl,elA h (by simp[yI]) rfl,elA h (by simp[yI]) rfl⟩
theorem yUm (i:zRx) (h:eqFC.cnd i):yQf i:=by
 obtain⟨⟨hv,hvs⟩,⟨hw,hws⟩⟩:uR i.v∧uR i.w:=h
 have hmx:(i.v.map yI).length=i.v.length:=yWk _
 have hmy:(i.w.map yI).length=i.w.length:=yWk _
 unfold yQf jB kI zRg dI
 rw[hmx,hmy]
 refine Cv.cnd.mk (fun c=>⟨(),yWx (fun e=>by rw[e]at c;simp at c),trivial⟩) (fun c=> ?_)
 have hxy:i.v.length=i.w.length:=by have:(i.v.length:Int)=i.w.length:=(by simpa using c);omega
 refine⟨0,rfl,fun k=>k≤i.v.length∧i.v.take k=i.w.take k,fun k=>i.v.length-k,⟨yYh _,rfl⟩,fun k hk=>zI (fun e=> ?_) (fun e=> ?_)⟩
 ·obtain⟨hk1,hk2⟩:=hk
  obtain⟨a,ha⟩:=yD (l:=i.v) (i:=k) (by omega)
  obtain⟨b,hb⟩:=yD (l:=i.w) (i:=k) (by omega)
  have sa:=hvs a (yWt ha)
  have sb:=hws b (yWt hb)
  refine⟨⟨by omega,by omega⟩,_,_,_,_,_,_,_,_,_,_,(ySr ha).1,⟨by omega,by omega⟩,_,_,_,_,_,_,_,_,_,_,(ySr hb).1,false,fun t=>t= !decide (a=b),⟨⟨a.1,b.1⟩,rfl,rfl,rfl,rfl,rfl,rfl,rfl,rfl,rfl,rfl,⟨sa.1,sb.1⟩,fun _ _=>zI (fun e1=>⟨⟨a.2,b.2⟩,rfl,rfl,rfl,rfl,rfl,rfl,rfl,rfl,rfl,rfl,⟨sa.2,sb.2⟩,fun _ _=>⟨_,rfl,?_,k0q⟩⟩) (fun e1=>⟨_,rfl,?_,k0q⟩)⟩,?_⟩
  ·show(!decide (a.2=b.2))= !decide (a=b)
   rw[y1z,yZh,yZh,decide_eq_false_iff_not,decide_eq_false_iff_not]
   exact⟨fun x y=>x (by rw[y]),fun x y=>x (Prod.ext e1 y)⟩
  ·have e1:¬a.1=b.1:=e1
   rw[yWx fun x=>e1 (congrArg Prod.fst x)]
  ·rintro _ rfl
   refine Cv.cnd.mk (fun c=>⟨(),yWx (fun e2=> ?_),trivial⟩) (fun c=>⟨k+1,by rw[w64 (by omega)];rfl,⟨by omega,zNg ha hb hk2 (by simpa using c)⟩,by dsimp only;omega,trivial⟩)
   have c:a≠b:=by simpa using c
   rw[e2]at ha
   rw[ha]at hb
   exact c (Option.some.inj hb)
 ·obtain⟨hk1,hk2⟩:=hk
  rw[yWu (by omega),yWu (by omega)]at hk2
  exact⟨(),yXc hk2,trivial⟩
theorem yOa:eqFC.ok Tryz.prog 63:=okw mixed (gokc yNf gok0) 1 (fun _=>yVi) (fun _=>yVc) [] Tryz.func63 yUm
theorem yPt (i:zRx) (h:fsameC.cnd i):yCc i:=by
 unfold yCc pI wJ
 exact⟨i,rfl,rfl,h,fun _ _=>⟨(),rfl,trivial⟩⟩
theorem fsame_ok:fsameC.ok Tryz.prog 19:=okw mixed (gokc yOa gok0) 0 (fun _=>[]) (fun _=>[]) [] Tryz.func19 yPt
open Go Cv Go.Proofs
open Go Cv Go.Proofs
theorem yIz:∀{l:List zH} {v:Lv},v∈grp l→(1≤v.count∧v.count≤l.length)∧∃o∈l,o.price=v.price
 |[],v,h=>by cases h
 |o::l,v,h=>by
  have ih:∀v∈grp l,(1≤v.count∧v.count≤l.length)∧∃o∈l,o.price=v.price:=fun v hv=>yIz hv
  rw[grp]at h
  rw[yWr]
  split at h
  ·rw[yYc]at h
   subst h
   exact⟨by dsimp only;omega,o,yWp,rfl⟩
  ·rename_i w ws e
   rw[e]at ih
   have hw:=ih w yWp
   split at h
   ·rename_i ep
    rcases yXe.1 h with rfl|h
    ·exact⟨by dsimp only;omega,o,yWp,ep.symm⟩
    ·obtain⟨a,x,hx,hp⟩:=ih v (yWq _ h)
     exact⟨by omega,x,yWq _ hx,hp⟩
   ·rcases yXe.1 h with rfl|h
    ·exact⟨by dsimp only;omega,o,yWp,rfl⟩
    ·obtain⟨a,x,hx,hp⟩:=ih v h
     exact⟨by omega,x,yWq _ hx,hp⟩
theorem z1z:∀l:List zH,(grp l).length≤l.length
 |[]=>yXl 0
 |o::l=>by
  have ih:=z1z l
  rw[grp,yWr]
  cases e:grp l with
  |nil=>simp
  |cons w ws=>
   rw[e,yWr]at ih
   dsimp only
   split
   ·rw[yWr];omega
   ·rw[yWr,yWr];omega
theorem yMf {s:Int} {L:List Lv} (h:yGn s L) (hp:∀l∈L,1≤l.qty∧1≤l.count) (i:Nat):LvAt s L i:=by
 intro a ha
 have hm:=hp a (yWt ha)
 refine⟨hm.1,hm.2,?_⟩
 rintro j b rfl hb
 obtain⟨h1,e1⟩:=yWn.1 ha
 obtain⟨h2,e2⟩:=yWn.1 hb
 have:=(List.pairwise_iff_getElem.1 h) j (j+1) h2 h1 (y1u j)
 rw[e1,e2]at this
 exact this
theorem z1p {p:Prd} {B:List (List zH)} (h:BWf p B) {k:Nat} {L:List zH} (hL:B[k]? =some L) {s:Int} (hs:s=1∨s=2):
 (∀i,LvAt s (uM L s) i)∧(uM L s).length≤255∧∀l∈uM L s,(1≤l.qty∧l.qty≤250000000)∧l.fit:=by
 obtain⟨h1,h2,h3⟩:=h.od k L hL
 have hf:(L.filter fun o=>decide (o.side=s)).length≤L.length:=yZr _ _
 have hl:=z1z (L.filter fun o=>decide (o.side=s))
 have hall:∀l∈uM L s,(1≤l.qty∧l.qty≤250000000)∧(1≤l.count∧l.count≤250)∧(-2000000≤l.price∧l.price≤2000000):=fun l hm=>by
  have q:=z3y (fun o ho=>h1 o (yYn.1 ho).1) hm
  obtain⟨c,o,ho,e⟩:=yIz hm
  have hp:=h.ok.prices hL o (yYn.1 ho).1
  rw[e]at hp
  exact⟨by omega,by omega,hp⟩
 refine⟨yMf (yGk h hL hs).1 fun l hm=>⟨(hall l hm).1.1,(hall l hm).2.1.1⟩,by rw[uM];omega,fun l hm=> ?_⟩
 obtain⟨a,b,c⟩:=hall l hm
 exact⟨a,⟨by omega,by omega⟩,⟨by omega,by omega⟩,⟨by omega,by omega⟩⟩
theorem zUl {p:Prd} {B:List (List zH)} (h:BWf p B) {k:Nat} {L:List zH} (hL:B[k]? =some L) {s:Int} (hs:s=1∨s=2) (hb:(bestL L s).2=true):1≤(bestL L s).1.qty∧(bestL L s).1.qty≤250000000:=by
 have hm:(bestL L s).1∈uM L s:=by
  rw[bestL]at hb ⊢
  split at hb
  ·cases hb
  ·rename_i v vs e
   rw[e]
   exact yWp
 exact((z1p h hL hs).2.2 _ hm).1
theorem yKv {p:Prd} {B:List (List zH)} (h:BWf p B) {i s:Int} (hi:0≤i∧i<(B.map qU).length) (hs:s=1∨s=2) (hh:((B.map qU).getD i.toNat top0).has s=true):1≤((B.map qU).getD i.toNat top0).qty s∧((B.map qU).getD i.toNat top0).qty s≤250000000:=by
 rw[yWk]at hi
 obtain⟨L,hL⟩:=yD (l:=B) (i:=i.toNat) (by omega)
 have e:(B.map qU).getD i.toNat top0=qU L:=by rw[yWs,yXr,hL];rfl
 rw[e]at hh ⊢
 obtain⟨t1,t2,t3,t4,t5,t6⟩:=zHu L
 rcases hs with rfl|rfl
 ·rw[Top.has,yWl rfl,t3]at hh
  rw[Top.qty,yWl rfl,t2]
  exact zUl h hL (.inl rfl) hh
 ·rw[Top.has,yWj (by decide),t6]at hh
  rw[Top.qty,yWj (by decide),t5]
  exact zUl h hL (.inr rfl) hh
theorem yFs {p:Prd} {B:List (List zH)} (h:BWf p B) {n s:Int} (hs:s=1∨s=2) {q:Quote} (hq:q∈xR ⟨p,B.map qU,n⟩ s):(1≤q.qty∧q.qty≤250000000)∧(-2000000≤q.price∧q.price≤2000000):=by
 rw[xR,yYn]at hq
 obtain⟨ok,-⟩:=z2b h.ok.pc (by rw[yWk,h.ok.bl]) hs hq.1
 have qa:=yKv h ok.a ok.sa ok.ha
 have qb:=yKv h ok.b ok.sb ok.hb
 have hp:p.price n q.price=0:=by simpa using hq.2
 exact⟨by rw[ok.qty];omega,rR h.ok.pc hp⟩
theorem zFr (b:Quote) {M:Int}:∀(l:List Quote) (a:Int×Int),(∀q∈l,1≤q.qty∧q.qty≤M)→1≤a.1→a.1≤M→
 (1≤(l.foldl (fun a q=>if q.price=b.price then(if q.qty>a.1 then q.qty else a.1,a.2+1)else a) a).1∧(l.foldl (fun a q=>if q.price=b.price then(if q.qty>a.1 then q.qty else a.1,a.2+1)else a) a).1≤M)∧
 a.2≤(l.foldl (fun a q=>if q.price=b.price then(if q.qty>a.1 then q.qty else a.1,a.2+1)else a) a).2∧(l.foldl (fun a q=>if q.price=b.price then(if q.qty>a.1 then q.qty else a.1,a.2+1)else a) a).2≤a.2+l.length∧
 (b∈l→a.2+1≤(l.foldl (fun a q=>if q.price=b.price then(if q.qty>a.1 then q.qty else a.1,a.2+1)else a) a).2)
 |[],a,_,h1,h2=>⟨⟨h1,h2⟩,y1f _,by simp,fun h=>by cases h⟩
 |q::l,a,hq,h1,h2=>by
  have q0:=hq q yWp
  rw[yZw,yWr]
  by_cases e:q.price=b.price
  ·rw[yWl e]
   obtain⟨r1,r2,r3,r4⟩:=zFr b (M:=M) l (if q.qty>a.1 then q.qty else a.1,a.2+1) (fun x hx=>hq x (yWq _ hx)) (by dsimp only;split<;>omega) (by dsimp only;split<;>omega)
   dsimp only at r2 r3
   exact⟨r1,by omega,by omega,fun _=>r2⟩
  ·rw[yWj e]
   obtain⟨r1,r2,r3,r4⟩:=zFr b (M:=M) l a (fun x hx=>hq x (yWq _ hx)) h1 h2
   refine⟨r1,r2,by omega,fun hb=> ?_⟩
   rcases yXe.1 hb with rfl|hb
   ·exact absurd rfl e
   ·exact r4 hb
theorem z7j {l:List Quote} {s:Int} (hl:l.length≤100) (h:∀q∈l,(1≤q.qty∧q.qty≤250000000)∧(-2000000≤q.price∧q.price≤2000000)):
 ((qC l s).2=true→1≤(qC l s).1.qty∧1≤(qC l s).1.count)∧((qC l s).2=false→(qC l s).1=⟨0,0,0⟩)∧(qC l s).1.fit:=by
 by_cases e:(zS l s).2=true
 ·have hm:=zEd e
  have hb:=h _ hm
  have:=zFr (zS l s).1 (M:=250000000) l ((zS l s).1.qty,0) (fun q hq=>(h q hq).1) hb.1.1 hb.1.2
  have e2:qC l s=(⟨(zS l s).1.price,(gY l (zS l s).1).1,(gY l (zS l s).1).2⟩,true):=by rw[qC,yWl e]
  rw[e2]
  rw[← gY]at this
  obtain⟨r1,r2,r3,r4⟩:=this
  have r4:=r4 hm
  dsimp only at r2 r3 r4 ⊢
  exact⟨fun _=>⟨r1.1,by omega⟩,fun x=>(by cases x),⟨by dsimp only;omega,by dsimp only;omega⟩,⟨by dsimp only;omega,by dsimp only;omega⟩,⟨by dsimp only;omega,by dsimp only;omega⟩⟩
 ·have e2:qC l s=(⟨0,0,0⟩,false):=by rw[qC,yWj e]
  rw[e2]
  exact⟨fun x=>(by cases x),fun _=>rfl,⟨by decide,by decide⟩,⟨by decide,by decide⟩,⟨by decide,by decide⟩⟩
theorem zXh {p:Prd} {B:List (List zH)} (h:BWf p B):qM (gE p B)∧z8e (gE p B)∧uR (gE p B):=by
 have hc:=x5 p
 have hlen:=zOo p B
 have hside:∀k,k<p.count→∀s,s=1∨s=2→SdRight s (zBm p B k s)∧(zBm p B k s).fit:=fun k hk s hs=>by
  obtain⟨L,hL⟩:=yD (l:=B) (i:=k) (by rw[h.ok.bl];exact hk)
  have e:B.getD k []=L:=zR hL
  obtain⟨a1,a2,a3⟩:=z1p h hL hs
  obtain⟨b1,b2,b3⟩:=z7j (s:=s) (zGe ⟨p,B.map qU,k⟩ s) (fun q hq=>yFs h hs hq)
  rw[zBm,e]
  exact⟨⟨a1,a2,b1,b2⟩,fun x hx=>(a3 x hx).2,b3⟩
 have hmem:∀b∈gE p B,∃k,k<p.count∧b=(zBm p B k 1,zBm p B k 2):=fun b hb=>by
  rw[gE]at hb
  obtain⟨k,hk,rfl⟩:=yYa.1 hb
  exact⟨k,yZl.1 hk,rfl⟩
 refine⟨⟨fun b hb=> ?_,by omega⟩,fun b hb=> ?_,⟨by omega,fun b hb=> ?_⟩⟩
 ·obtain⟨k,hk,rfl⟩:=hmem b hb
  exact⟨(hside k hk 1 (.inl rfl)).1,(hside k hk 2 (.inr rfl)).1⟩
 ·obtain⟨k,hk,rfl⟩:=hmem b hb
  exact⟨(hside k hk 1 (.inl rfl)).2,(hside k hk 2 (.inr rfl)).2⟩
 ·obtain⟨k,hk,rfl⟩:=hmem b hb
  have a:=(hside k hk 1 (.inl rfl)).1.2.1
  have c:=(hside k hk 2 (.inr rfl)).1.2.1
  dsimp only
  omega
open Go Cv Go.Proofs
def known20C:Con:=con1 Unit (fun _=>[]) (fun _=>[]) (fun _=>True) (fun _=>yF true) (fun _=>[])
structure MdI where
 x:Prd
 l:List Cmd
@[reducible] def MdI.ok (i:MdI):Prop:=i.x.raw∧(∀c∈i.l,c.raw)∧i.l.length≤9223372036854775807
structure MdJ where
 m:Mkt
 k:Nat
structure rO (v:Vw):Prop where
 r:qM v
 f:z8e v
 s:uR v
def madeC:Con where
 ι:=MdI
 pat:=fun i=>[prdV i.x,roV 9 (i.l.map cmdE)]
 pre:=fun _=>[]
 cnd:=fun i=>i.ok
 alts:=fun i=>[{o:=Vw,res:=fun v=>vwV v,post:=fun _=>[],rel:=fun v=>rO v}]
def yRb:List SAnn:=[{ι:=MdJ,slots:=fun j=>[(6,.nm 0 0),(8,zA j.k)],rows:=fun j=>[lA j.m]}]
def yTv:List (Nat×SAnn):=[(24,bj 30)]
open Go Cv Go.Proofs
def z9g (u:Unit):Prop:=
 ∃(i:rG),List.map yI i.v=[]∧i.seq=7∧(List.length i.v≤1099511627776∧∀(b:Sd×Sd),b∈i.v→b.fst.levels.length≤1099511627776∧b.snd.levels.length≤1099511627776)∧∀(o:Unit),True→∃(i_1:rG),List.map yI i_1.v=[[D.ro 3 [[D.v (.int .i64 0),D.v (.int .i64 0),D.v (.int .i64 0)]],D.v (.int .i64 0),D.v (.int .i64 0),D.v (.int .i64 0),D.v (.bool false),D.ro 3 [],D.v (.int .i64 0),D.v (.int .i64 0),D.v (.int .i64 0),D.v (.bool false)]]∧i_1.seq=7∧(List.length i_1.v≤1099511627776∧∀(b:Sd×Sd),b∈i_1.v→b.fst.levels.length≤1099511627776∧b.snd.levels.length≤1099511627776)∧∀(o:Unit),True→cnd ((↑(bE (yE i.v i.seq)).length:Int)==13) (cnd (wG i.v==0) (∃(o:Unit),true=(wG i_1.v==12)∧True) (∃(o:Unit),true=false∧True)) (∃(o:Unit),true=false∧True)
def zLm (a:Prd) (b:MdI):Prop:=AObj.fro 1 (iE (vH a))=AObj.fro 1 (iE (vH a))∧AObj.fro 1 (iE (qF (kN a).toNat))=AObj.fro 1 (iE (qF (kN a).toNat))∧Sx.AObj.cells [V.d (D.v (Value.string (sb [(206:UInt8),(169:UInt8)]))),V.own ((0:Nat)+(1:Nat)+(1:Nat)+(1:Nat)+1+((0:Nat)-(0:Nat))+1),V.d (dI (zV a)),V.d (dI ((-20)*zV a)),V.d (dI (100*zV a)),V.d (dI (zV a*(xX a))),V.d (dI (1+zG a.rule 0 2)),V.d (dI (zG a.top 0 9)),V.d (dI (1+zG a.least 0 4)),V.d (dI (zG a.part 0 100)),V.own ((0:Nat)+(1:Nat)+(1:Nat)+(1:Nat)+1+((0:Nat)-(0:Nat))+(1:Nat)+(1:Nat))] 25=Sx.AObj.cells [V.d (D.v (Value.string (sb [(206:UInt8),(169:UInt8)]))),V.own ((0:Nat)+(1:Nat)+(1:Nat)+(1:Nat)+1+((0:Nat)-(0:Nat))+1),V.d (dI (zV a)),V.d (dI ((-20)*zV a)),V.d (dI (100*zV a)),V.d (dI (zV a*(xX a))),V.d (dI (1+zG a.rule 0 2)),V.d (dI (zG a.top 0 9)),V.d (dI (1+zG a.least 0 4)),V.d (dI (zG a.part 0 100)),V.own ((0:Nat)+(1:Nat)+(1:Nat)+(1:Nat)+1+((0:Nat)-(0:Nat))+(1:Nat)+(1:Nat))] 25∧Sx.AObj.cells Vdect262.cl 34=Sx.AObj.cells Vdect262.cl 34∧Sx.AObj.cells [V.d (D.v (Value.string (sb b.x.code))),V.own 0,V.d (dI b.x.tick),V.d (dI b.x.low),V.d (dI b.x.high),V.d (dI b.x.wide),V.d (dI b.x.rule),V.d (dI b.x.top),V.d (dI b.x.least),V.d (dI b.x.part),V.own ((0:Nat)+(1:Nat))] 25=Sx.AObj.cells [V.d (D.v (Value.string (sb b.x.code))),V.own 0,V.d (dI b.x.tick),V.d (dI b.x.low),V.d (dI b.x.high),V.d (dI b.x.wide),V.d (dI b.x.rule),V.d (dI b.x.top),V.d (dI b.x.least),V.d (dI b.x.part),V.own ((0:Nat)+(1:Nat))] 25∧AObj.fro 1 (iE b.x.settle)=AObj.fro 1 (iE b.x.settle)∧AObj.fro 1 (iE b.x.months)=AObj.fro 1 (iE b.x.months)
def zLl (a:Bool→Prop) (b:Bool) (c:MdJ) (d:Prd) (e:MdI):Prop:=a b∧lA c.m=lA c.m∧zLm d e
def yJd (i:MdI):Prop:=
 ∃(a:Prd),sb a.code=sb i.x.code∧iE a.months=iE i.x.months∧a.tick=i.x.tick∧a.low=i.x.low∧a.high=i.x.high∧a.wide=i.x.wide∧a.rule=i.x.rule∧a.top=i.x.top∧a.least=i.x.least∧a.part=i.x.part∧iE a.settle=iE i.x.settle∧(((-9223372036854775808)≤a.tick∧a.tick≤9223372036854775807)∧((-9223372036854775808)≤a.wide∧a.wide≤9223372036854775807)∧((-9223372036854775808)≤a.rule∧a.rule≤9223372036854775807)∧((-9223372036854775808)≤a.top∧a.top≤9223372036854775807)∧((-9223372036854775808)≤a.least∧a.least≤9223372036854775807)∧((-9223372036854775808)≤a.part∧a.part≤9223372036854775807)∧a.months.length≤9223372036854775807)∧∀(b:Unit),True→∃(c:Prd),sb c.code=sb [(206:UInt8),(169:UInt8)]∧iE c.months=iE (qF (kN a).toNat)∧c.tick=zV a∧c.low=(-20)*zV a∧c.high=100*zV a∧c.wide=zV a*(xX a)∧c.rule=1+zG a.rule 0 2∧c.top=zG a.top 0 9∧c.least=1+zG a.least 0 4∧c.part=zG a.part 0 100∧iE c.settle=iE (vH a)∧(z7 c)∧(∀(d:Unit),c.check=0→∃(e:MdJ),(↑e.k:Int)=0∧lA e.m=lA (Mkt.mk c (sI c) [])∧∃(f:MdJ→Prop),∃(g:MdJ→Nat),f e∧∀(h:MdJ),f h→∃(j:Bool),∃(k:Bool→Prop),cnd (decide ((↑h.k:Int)<(↑(List.map cmdE i.l).length:Int))) (∃(l:Bool),l=decide ((↑h.k:Int)<30)∧zLl k l h a i) (∃(l:Bool),l=false∧zLl k l h a i)∧∀(l:Bool),k l→cnd l ((0≤(↑h.k:Int)∧(↑h.k:Int)<(↑(List.map cmdE i.l).length:Int))∧∃(m:Int),∃(n:Int),∃(p:Int),∃(q:Int),∃(r:Int),∃(s:Int),∃(t:Int),∃(u:Int),∃(v:ByteArray),zE (List.map cmdE i.l) (↑h.k:Int).toNat 0 9=some [dI m,dI n,dI p,dI q,dI r,dI s,dI t,dI u,D.v (Value.string v)]∧∃(w:TmI),sb w.p.code=sb [(206:UInt8),(169:UInt8)]∧iE w.p.months=iE (qF (kN a).toNat)∧w.p.tick=zV a∧w.p.low=(-20)*zV a∧w.p.high=100*zV a∧w.p.wide=zV a*(xX a)∧w.p.rule=1+zG a.rule 0 2∧w.p.top=zG a.top 0 9∧w.p.least=1+zG a.least 0 4∧w.p.part=zG a.part 0 100∧iE w.p.settle=iE (vH a)∧w.c.kind=m∧w.c.id=n∧w.c.inst=p∧w.c.side=q∧w.c.price=r∧w.c.qty=s∧w.c.least=t∧w.c.time=u∧sb w.c.label=v∧w.i=(↑h.k:Int)∧(w.p.check=0∧(w.p.code.length≤1099511627776∧w.p.months.length≤1099511627776∧w.p.settle.length≤1099511627776)∧(((-9223372036854775808)≤w.c.kind∧w.c.kind≤9223372036854775807)∧((-9223372036854775808)≤w.c.id∧w.c.id≤9223372036854775807)∧((-9223372036854775808)≤w.c.inst∧w.c.inst≤9223372036854775807)∧((-9223372036854775808)≤w.c.side∧w.c.side≤9223372036854775807)∧((-9223372036854775808)≤w.c.price∧w.c.price≤9223372036854775807)∧((-9223372036854775808)≤w.c.qty∧w.c.qty≤9223372036854775807)∧((-9223372036854775808)≤w.c.least∧w.c.least≤9223372036854775807)∧(-9223372036854775808)≤w.c.time∧w.c.time≤9223372036854775807)∧0≤w.i∧w.i≤1000000)∧∀(x:Unit),True→∃(y:EnI),y.c.kind=(qT w).kind∧y.c.id=(qT w).id∧y.c.inst=(qT w).inst∧y.c.side=(qT w).side∧y.c.price=(qT w).price∧y.c.qty=(qT w).qty∧y.c.least=(qT w).least∧y.c.time=(qT w).time∧sb y.c.label=sb (qT w).label∧lA y.m=lA h.m∧((y.m.Rep y.p y.B y.U∧BOk y.p y.B)∧y.c.label.length≤140737488355328∧((-9223372036854775808)≤y.c.qty∧y.c.qty≤9223372036854775807)∧y.X=doF y.p y.B y.U y.c)∧∀(z:Mkt),z.Rep y.p y.X.B y.X.U→∃(a_1:MdJ),(↑a_1.k:Int)=IntKind.i64.wrap ((↑h.k:Int)+1)∧lA a_1.m=lA z∧f a_1∧g a_1<g h∧zLm a i) (∃(m:Mkt),lA m=lA h.m∧(m.s.books.length≤1000000∧∀(n:Book),n∈m.s.books→cM n)∧∀(n:Unit),True→(sb [(206:UInt8),(169:UInt8)]=sb [(206:UInt8),(169:UInt8)]∧True∧zV a=zV a∧(-20)*zV a=(-20)*zV a∧100*zV a=100*zV a∧zV a*(xX a)=zV a*(xX a)∧1+zG a.rule 0 (2:Int)=(1:Int)+zG a.rule 0 2∧zG a.top 0 9=zG a.top 0 (9:Int)∧(1:Int)+zG a.least 0 (4:Int)=(1:Int)+zG a.least 0 4∧zG a.part 0 100=zG a.part 0 100∧True∧True)∧∃(p:LkI),sb p.p.code=sb [(206:UInt8),(169:UInt8)]∧iE p.p.months=iE (qF (kN a).toNat)∧p.p.tick=zV a∧p.p.low=(-20)*zV a∧p.p.high=100*zV a∧p.p.wide=zV a*(xX a)∧p.p.rule=1+zG a.rule 0 2∧p.p.top=zG a.top 0 9∧p.p.least=1+zG a.least 0 4∧p.p.part=zG a.part 0 100∧iE p.p.settle=iE (vH a)∧zD p.s=zD m.s∧(p.s.Rep p.p p.B∧BOk p.p p.B)∧∀(q:Unit),True→∃(r:Vw),List.map yI r=List.map yI (gE p.p p.B)∧rO r))∧∀(d:Unit),c.check≠0→∃(e:Vw),List.map yI e=[]∧rO e
open Go Cv Go.Proofs
def z2t:Vw:=[(⟨[⟨0,0,0⟩],⟨0,0,0⟩,false⟩,⟨[],⟨0,0,0⟩,false⟩)]
theorem z5s:¬qM z2t:=fun h=>by
 have:=((h.1 _ (yYc.2 rfl)).1.1 0 _ rfl).1
 simp at this
theorem zKj:qM []:=⟨fun b hb=>by simp at hb,by simp⟩
theorem known20_ok:known20C.ok Tryz.prog 24:=okw (V:=z9g) mixed (gokc yLn gok0) 0 (fun _=>[]) (fun _=>[]) [] Tryz.func24 fun(_:Unit) _=>by
 have e0:yE [] 7=xE [] 7++le (kC (xE [] 7)) 4:=by rw[yE,yWl zKj]
 have l0:(yE [] 7).length=13:=by rw[e0,yWi,jX];rfl
 have e1:wG []=0:=by rw[wG,yWl zKj]
 have e2:wG z2t=12:=by rw[wG,yWj z5s]
 refine⟨⟨[],7⟩,rfl,rfl,⟨by simp,fun b hb=>by simp at hb⟩,fun _ _=>⟨⟨z2t,7⟩,rfl,rfl,⟨by simp[z2t],fun b hb=>by
  obtain rfl:b=_:=yYc.1 hb
  simp⟩,fun _ _=>Cv.cnd.mk (fun _=>Cv.cnd.mk (fun _=>⟨(),by rw[e2];rfl,trivial⟩) (fun f=> ?_)) (fun f=> ?_)⟩⟩
 ·dsimp only at f
  rw[e1]at f;cases f
 ·dsimp only at f
  rw[vK,l0]at f;cases f
theorem yRd (i:MdI) (h:madeC.cnd i):yJd i:=by
 obtain⟨hraw,hok,hlen⟩:i.ok:=h
 have hc:=zSw i.x
 have hs:=zWs i.x
 have hml:(List.map cmdE i.l).length=i.l.length:=yWk _
 unfold yJd zLl zLm Vdect262 qS cM vH xX z7 dI
 rw[hml]
 refine⟨i.x,rfl,rfl,rfl,rfl,rfl,rfl,rfl,rfl,rfl,rfl,rfl,hraw,fun _ _=>⟨jQ i.x,rfl,rfl,rfl,rfl,rfl,rfl,rfl,rfl,rfl,rfl,rfl,hs,fun _ _=> ?_,fun _ hne=>absurd hc hne⟩⟩
 refine⟨⟨mk0 (jQ i.x),0⟩,rfl,rfl,fun j=>(j.k≤30∧j.k≤i.l.length)∧∃B U,j.m.Rep (jQ i.x) B U∧BOk (jQ i.x) B,fun j=>30-j.k,⟨⟨yYh _,yYh _⟩,_,_,yHi _,BOk.new hc hs⟩,?_⟩
 rintro⟨m,k⟩ ⟨⟨hk1,hk2⟩,B,U,hM,hB⟩
 dsimp only at hk1 hk2 hM ⊢
 refine⟨true,fun b=>b=decide (k<i.l.length∧k<30),zI (fun c=>⟨_,rfl,decide_eq_decide.2 ⟨fun x=>⟨by omega,by omega⟩,fun x=>by omega⟩,k0q⟩) (fun c=>⟨_,rfl,(yWx (by omega)).symm,k0q⟩),?_⟩
 rintro _ rfl
 have hwf:=hM.s.wf hB
 refine zI (fun hb=> ?_) (fun _=> ?_)
 ·obtain⟨hb1,hb2⟩:=hb
  obtain⟨a,ha⟩:=yD (l:=i.l) (i:=k) hb1
  have e2:=yVx ha
  have hcr:=hok a (yWt ha)
  have hlb:=zZz ⟨jQ i.x,a,(k:Int)⟩
  have hq:=yBp ⟨jQ i.x,a,(k:Int)⟩
  refine⟨⟨by omega,by omega⟩,a.kind,a.id,a.inst,a.side,a.price,a.qty,a.least,a.time,sb a.label,e2,⟨jQ i.x,a,(k:Int)⟩,rfl,rfl,rfl,rfl,rfl,rfl,rfl,rfl,rfl,rfl,rfl,rfl,rfl,rfl,rfl,rfl,rfl,rfl,rfl,rfl,rfl,⟨hc,hs,hcr,by dsimp only;omega,by dsimp only;omega⟩,fun _ _=> ?_⟩
  generalize qT ⟨jQ i.x,a,(k:Int)⟩=D at*
  exact⟨⟨m,jQ i.x,B,U,D,doF (jQ i.x) B U D⟩,rfl,rfl,rfl,rfl,rfl,rfl,rfl,rfl,rfl,rfl,⟨⟨hM,hB⟩,by dsimp only;rw[hlb];decide,by dsimp only;omega,rfl⟩,fun o ho=>⟨⟨o,k+1⟩,wjn (by omega),rfl,⟨⟨by dsimp only;omega,by dsimp only;omega⟩,_,_,ho,yOf hwf _ _⟩,by dsimp only;omega,k0q⟩⟩
 ·obtain⟨q1,q2,q3⟩:=zXh hwf
  exact⟨m,rfl,hM.s.small hB,fun _ _=>⟨⟨rfl,trivial,rfl,rfl,rfl,rfl,rfl,rfl,rfl,rfl,trivial,trivial⟩,⟨m.s,jQ i.x,B⟩,rfl,rfl,rfl,rfl,rfl,rfl,rfl,rfl,rfl,rfl,rfl,rfl,⟨hM.s,hB⟩,fun _ _=>⟨gE (jQ i.x) B,rfl,⟨q1,q2,q3⟩⟩⟩⟩
theorem made_ok:madeC.ok Tryz.prog 20:=okw mixed (gokc yCd (gokc yFl (gokc yId (gokc ySb (gokc yAt (gokc yIh gok0)))))) 0 (fun _=>yTv) (fun _=>yRb) [] Tryz.func20 yRd
open Classical in
theorem ySy {v:Vw} (g:rO v):wG v=0:=by rw[wG,yWl g.r]
theorem yQp {v:Vw} (g:rO v) (a:Int):4≤(yE v a).length:=by rw[yE,yWl g.r,yWi,jX];omega
end Sx
