/- Texts of ours, one behind the other: a walk that the kernel reckons, and contracts of functions. No condition. -/
import Derived.Test.YtogkpgfggfbhaaaGreatX10
namespace Sx
set_option linter.unusedVariables false
set_option linter.unusedSimpArgs false
set_option maxRecDepth 100000
open Go Cv Go.Proofs
open Go Cv Go.Proofs
open Go Cv Go.Proofs
open Go Cv Go.Proofs
open Go Cv Go.Proofs
def upd (f:Int→Int) (k v:Int):Int→Int:=fun x=>if x=k then v else f x
def one (r:Rep) (m:Int):Int:=if r.kind=3∧r.inst=m then(if r.side=1 then r.qty else-r.qty)else 0
def vq (p:Prd) (k s q m:Int):Int:=
 if(p.legs k).2.2=true then(if(p.legs k).1=m then(if s=1 then q else-q)else 0)-(if(p.legs k).2.1=m then(if s=1 then q else-q)else 0)
 else if k=m then(if s=1 then q else-q)else 0
open Go Cv Go.Proofs
theorem z2d {s:Int}:∀{F:List zI},zTy s F→yEw s (grp F)
 |[],_=>List.Pairwise.nil
 |o::F,h=>by
  rw[zTy,yYx]at h
  have ih:=z2d h.2
  rw[grp]
  cases hg:grp F with
  |nil=>exact List.pairwise_singleton _ _
  |cons v vs=>
   rw[hg]at ih
   dsimp only
   have hv:=ih
   rw[yEw,yYx]at hv
   by_cases e:v.price=o.price
   ·rw[yVl e]
    exact yYx.2 ⟨fun w hw=>hv.1 w hw,hv.2⟩
   ·rw[yVj e]
    obtain⟨o',r,e2,e3⟩:=zJj hg
    have hb:btr s o.price v.price=true:=by
     rw[← e3]
     refine yHb (h.1 o' (by rw[e2];exact yVp)) (by rw[e3];exact e)
    refine yYx.2 ⟨fun w hw=> ?_,ih⟩
    rcases yWf.1 hw with rfl|hw
    ·exact hb
    ·exact yPb hb (hv.1 w hw)
theorem yEm {p:Prd} {B:List (List zI)} (h:BWf p B) {k:Nat} {L:List zI} (hL:B[k]? =some L) {s:Int} (hs:s=1∨s=2):yEw s (uP L s)∧yUn (uP L s):=
 ⟨z2d (h.srt k L hL s hs),fun l hl=>(z2u (fun o ho=>(h.od k L hL).1 o (yXl.1 ho).1) hl).1⟩
open Go Cv Go.Proofs
open Classical
def fC (l:List Quote) (b:Quote):Int×Int:=l.foldl (fun a q=>if q.price=b.price then(if q.qty>a.1 then q.qty else a.1,a.2+1)else a) (b.qty,0)
def qF (l:List Quote) (s:Int):Lv×Bool:=if(zU l s).2 then(⟨(zU l s).1.price,(fC l (zU l s).1).1,(fC l (zU l s).1).2⟩,true)else(⟨0,0,0⟩,false)
def showC:Con:=con1 BsI (fun i=>[roV 6 (i.l.map zK),zA i.s]) (fun _=>[]) (fun i=>(i.s=1∨i.s=2)∧i.l.length≤1000000) (fun i=> .tup [zA (qF i.l i.s).1.price,zA (qF i.l i.s).1.qty,zA (qF i.l i.s).1.count,yF (qF i.l i.s).2]) (fun _=>[])
def yMq (i:BsI):List SAnn:=[{ι:=Nat,slots:=fun k=>[(8,.nm 0 0),(10,zA (fC (i.l.take k) (zU i.l i.s).1).1),(11,zA (fC (i.l.take k) (zU i.l i.s).1).2),(26,zA k)],rows:=fun _=>[.cells (zQt (zU i.l i.s).1).cl 257]}]
def zCt (p:Prd) (B:List (List zI)) (n:Nat) (s:Int):Sd:=⟨uP (B.getD n []) s,(qF (xV ⟨p,B.map kB,n⟩ s) s).1,(qF (xV ⟨p,B.map kB,n⟩ s) s).2⟩
def gH (p:Prd) (B:List (List zI)):Vw:=(List.range p.count).map fun n=>(zCt p B n 1,zCt p B n 2)
structure LkI where
 s:MSt
 p:Prd
 B:List (List zI)
def lookC:Con:=con1 LkI (fun i=>[prdV i.p,.nm 0 0]) (fun i=>[zD i.s]) (fun i=>i.s.Rep i.p i.B∧BOk i.p i.B) (fun i=>vwV (gH i.p i.B)) (fun i=>[zD i.s])
def yRp (i:LkI):List SAnn:=[
 {ι:=Nat,slots:=fun j=>[(5,.nm 0 0),(6,.own 2),(27,zA j)],rows:=fun j=>[.cells [.own 1] 71,.own 79 10 (((gH i.p i.B).take j).map zF),.fro 6 ((i.B.map kB).map zY)]},
 {ι:=Unit,slots:=fun _=>[],rows:=fun _=>[],un:=3}]
noncomputable def yBh (a b:List Lv):Bool:=decide (a=b)
noncomputable def z4g (a b:Sd):Bool:=decide (a=b)
noncomputable def bW (a b:Vw):Bool:=decide (a=b)
structure yIg where
 x:List Lv
 y:List Lv
noncomputable def eqLvC:Con:=con1 yIg (fun i=>[roV 3 (i.x.map lvE),roV 3 (i.y.map lvE)]) (fun _=>[]) (fun i=>i.x.length≤1099511627776∧i.y.length≤1099511627776) (fun i=>yF (yBh i.x i.y)) (fun _=>[])
def ySe:List SAnn:=[{ι:=Nat,slots:=fun k=>[(13,zA k)],rows:=fun _=>[]}]
def yPw:List (Nat×SAnn):=[(24,bj 24)]
structure yBp where
 a:Sd
 b:Sd
noncomputable def fsdC:Con:=con1 yBp (fun i=>[sdV i.a,sdV i.b]) (fun _=>[]) (fun i=>i.a.levels.length≤1099511627776∧i.b.levels.length≤1099511627776) (fun i=>yF (z4g i.a i.b)) (fun _=>[])
structure aZ where
 v:Vw
 w:Vw
noncomputable def eqFC:Con:=con1 aZ (fun i=>[roV 10 (i.v.map zF),roV 10 (i.w.map zF),.fn 76 [] []]) (fun _=>[]) (fun i=>gX i.v∧gX i.w) (fun i=>yF (bW i.v i.w)) (fun _=>[])
def yUv:List SAnn:=[{ι:=Nat,slots:=fun k=>[(17,zA k)],rows:=fun _=>[]}]
def yTs:List (Nat×SAnn):=[(28,bj 30)]
noncomputable def fsameC:Con:=con1 aZ (fun i=>[vwV i.v,vwV i.w]) (fun _=>[]) (fun i=>gX i.v∧gX i.w) (fun i=>yF (bW i.v i.w)) (fun _=>[])
open Go Cv Go.Proofs
def zDb (a:Nat) (b:Nat) (c:BsI) (d:Nat→Prop) (e:Nat→Nat):Prop:=(↑a:Int)=IntKind.i64.wrap ((↑b:Int)+1)∧(zU c.l c.s).fst.price=(zU c.l c.s).fst.price∧(zU c.l c.s).fst.qty=(zU c.l c.s).fst.qty∧(zU c.l c.s).fst.a.inst=(zU c.l c.s).fst.a.inst∧(zU c.l c.s).fst.a.side=(zU c.l c.s).fst.a.side∧(zU c.l c.s).fst.b.inst=(zU c.l c.s).fst.b.inst∧(zU c.l c.s).fst.b.side=(zU c.l c.s).fst.b.side∧d a∧e a<e b∧True
def qO (a:Nat) (b:BsI):=(fC (List.take a b.l) (zU b.l b.s).fst)
def yJl (i:BsI):Prop:=
 ∃(a:BsI),List.map zK a.l=List.map zK i.l∧a.s=i.s∧(fN a)∧∀(b:Unit),True→cnd (!(zU a.l a.s).snd) (∃(c:Unit),(qF i.l i.s).fst.price=0∧(qF i.l i.s).fst.qty=0∧(qF i.l i.s).fst.count=0∧(qF i.l i.s).snd=false∧True) (∃(c:Nat),(qO c i).fst=(zU a.l a.s).fst.qty∧(qO c i).snd=0∧(↑c:Int)=0∧(zU i.l i.s).fst.price=(zU a.l a.s).fst.price∧(zU i.l i.s).fst.qty=(zU a.l a.s).fst.qty∧(zU i.l i.s).fst.a.inst=(zU a.l a.s).fst.a.inst∧(zU i.l i.s).fst.a.side=(zU a.l a.s).fst.a.side∧(zU i.l i.s).fst.b.inst=(zU a.l a.s).fst.b.inst∧(zU i.l i.s).fst.b.side=(zU a.l a.s).fst.b.side∧∃(d:Nat→Prop),∃(e:Nat→Nat),d c∧∀(f:Nat),d f→cnd (decide ((↑f:Int)<(vH i))) ((0≤(↑f:Int)∧(↑f:Int)<(vH i))∧∃(g:Int),∃(h:Int),∃(j:Int),∃(k:Int),∃(l:Int),∃(m:Int),zE (List.map zK i.l) (↑f:Int).toNat 0 6=some [dI g,dI h,dI j,dI k,dI l,dI m]∧cnd (g==(zU i.l i.s).fst.price) (∃(n:Nat),((qO n i).fst=if h>(qO f i).fst then h else(qO f i).fst)∧(qO n i).snd=IntKind.i64.wrap ((qO f i).snd+1)∧zDb n f i d e) (∃(n:Nat),(qO n i).fst=(qO f i).fst∧(qO n i).snd=(qO f i).snd∧zDb n f i d e)) (∃(g:Unit),(qF i.l i.s).fst.price=(zU i.l i.s).fst.price∧(qF i.l i.s).fst.qty=(qO f i).fst∧(qF i.l i.s).fst.count=(qO f i).snd∧(qF i.l i.s).snd=true∧True))
def yKc (i:LkI):Prop:=
 ∃(a:Prd),sb a.code=sb i.p.code∧iE a.months=iE i.p.months∧a.tick=i.p.tick∧a.low=i.p.low∧a.high=i.p.high∧a.wide=i.p.wide∧a.rule=i.p.rule∧a.top=i.p.top∧a.least=i.p.least∧a.part=i.p.part∧iE a.settle=iE i.p.settle∧(z7 a)∧∀(b:Unit),True→cnd (a.check !=0) (∃(c:Unit),List.map zF (gH i.p i.B)=[]∧zD i.s=zD i.s∧True) (∃(c:MSt),zD c=zD i.s∧(fS c)∧∀(d:Unit),True→∃(e:Prd),sb e.code=sb i.p.code∧iE e.months=iE i.p.months∧e.tick=i.p.tick∧e.low=i.p.low∧e.high=i.p.high∧e.wide=i.p.wide∧e.rule=i.p.rule∧e.top=i.p.top∧e.least=i.p.least∧e.part=i.p.part∧iE e.settle=iE i.p.settle∧(z7 e)∧∀(f:Unit),True→∃(g:Nat),(↑g:Int)=0∧List.map zF (List.take g (gH i.p i.B))=[]∧List.map zY (List.map kB i.B)=List.map zY c.tops∧∃(h:Nat→Prop),∃(j:Nat→Nat),h g∧∀(k:Nat),h k→cnd (decide ((↑k:Int)<(↑e.count:Int))) (((0:Int)≤(0:Int)∧0<(↑(2:Nat):Int))∧∃(l:Int),zE [[dI 1],[dI 2]] (Int.toNat 0) 0 1=some [dI l]∧∃(m:SoI),m.inst=(↑k:Int)∧zC m.sd=l∧zD m.s=zD c∧(m.s.Rep m.p m.B∧m.B.length≤1000)∧∀(n:Unit),True→∃(p:sO),sb p.i.p.code=sb i.p.code∧iE p.i.p.months=iE i.p.months∧p.i.p.tick=i.p.tick∧p.i.p.low=i.p.low∧p.i.p.high=i.p.high∧p.i.p.wide=i.p.wide∧p.i.p.rule=i.p.rule∧p.i.p.top=i.p.top∧p.i.p.least=i.p.least∧p.i.p.part=i.p.part∧iE p.i.p.settle=iE i.p.settle∧List.map zY p.i.tops=List.map zY (List.map kB i.B)∧p.i.inst=(↑k:Int)∧zC p.s=l∧(kF p)∧∀(q:Unit),True→∃(r:BsI),List.map zK r.l=List.map zK (xV p.i (zC p.s))∧r.s=l∧(fN r)∧∀(s:Unit),True→(cL)∧∃(t:Int),zE [[dI 1],[dI 2]] (IntKind.i64.wrap ((0:Int)+(1:Int))).toNat 0 1=some [dI t]∧∃(u:SoI),u.inst=(↑k:Int)∧zC u.sd=t∧zD u.s=zD m.s∧(u.s.Rep u.p u.B∧u.B.length≤1000)∧∀(v:Unit),True→∃(w:sO),sb w.i.p.code=sb i.p.code∧iE w.i.p.months=iE i.p.months∧w.i.p.tick=i.p.tick∧w.i.p.low=i.p.low∧w.i.p.high=i.p.high∧w.i.p.wide=i.p.wide∧w.i.p.rule=i.p.rule∧w.i.p.top=i.p.top∧w.i.p.least=i.p.least∧w.i.p.part=i.p.part∧iE w.i.p.settle=iE i.p.settle∧List.map zY w.i.tops=List.map zY (List.map kB i.B)∧w.i.inst=(↑k:Int)∧zC w.s=t∧(kF w)∧∀(x:Unit),True→∃(y:BsI),List.map zK y.l=List.map zK (xV w.i (zC w.s))∧y.s=t∧(fN y)∧∀(z:Unit),True→((List.map zF (List.take k (gH i.p i.B))).length+1)*(112:Nat)≤(140737488355328:Nat)∧∃(a_1:Nat),(↑a_1:Int)=IntKind.i64.wrap ((↑k:Int)+1)∧List.map zF (List.take a_1 (gH i.p i.B))=List.map zF (List.take k (gH i.p i.B))++[[D.ro 3 (List.map lvE (cK m)),dI ((qF r.l r.s).fst.price),dI ((qF r.l r.s).fst.qty),dI ((qF r.l r.s).fst.count),D.v (.bool (qF r.l r.s).snd),D.ro 3 (List.map lvE (cK u)),dI ((qF y.l y.s).fst.price),dI ((qF y.l y.s).fst.qty),dI ((qF y.l y.s).fst.count),D.v (.bool (qF y.l y.s).snd)]]∧AObj.fro 6 (List.map zY (List.map kB i.B))=AObj.fro 6 (List.map zY (List.map kB i.B))∧h a_1∧j a_1<j k∧zD u.s=zD c∧Sx.AObj.cells Vdect296.cl 71=Sx.AObj.cells Vdect296.cl 71∧Sx.AObj.cells [V.d (D.v (Value.string (sb i.p.code))),V.own 1,V.d (dI i.p.tick),V.d (dI i.p.low),V.d (dI i.p.high),V.d (dI i.p.wide),V.d (dI i.p.rule),V.d (dI i.p.top),V.d (dI i.p.least),V.d (dI i.p.part),V.own ((1:Nat)+(1:Nat))] 26=Sx.AObj.cells [V.d (D.v (Value.string (sb i.p.code))),V.own 1,V.d (dI i.p.tick),V.d (dI i.p.low),V.d (dI i.p.high),V.d (dI i.p.wide),V.d (dI i.p.rule),V.d (dI i.p.top),V.d (dI i.p.least),V.d (dI i.p.part),V.own ((1:Nat)+(1:Nat))] 26∧AObj.fro 1 (iE i.p.settle)=AObj.fro 1 (iE i.p.settle)∧AObj.fro 1 (iE i.p.months)=AObj.fro 1 (iE i.p.months)) (∃(l:Unit),List.map zF (gH i.p i.B)=List.map zF (List.take k (gH i.p i.B))∧zD i.s=zD c∧True))
def yJo (i:yIg):Prop:=
 cnd ((↑(List.map lvE i.x).length:Int) !=(↑(List.map lvE i.y).length:Int)) (∃(a:Unit),yBh i.x i.y=false∧True) (∃(a:Nat),(↑a:Int)=0∧∃(b:Nat→Prop),∃(c:Nat→Nat),b a∧∀(d:Nat),b d→cnd (decide ((↑d:Int)<(↑(List.map lvE i.x).length:Int))) (∃(e:Bool),∃(f:Bool→Prop),((0≤(↑d:Int)∧(↑d:Int)<(↑(List.map lvE i.x).length:Int))∧∃(g:Int),∃(h:Int),∃(j:Int),zE (List.map lvE i.x) (↑d:Int).toNat 0 3=some [dI g,dI h,dI j]∧(0≤(↑d:Int)∧(↑d:Int)<(↑(List.map lvE i.y).length:Int))∧∃(k:Int),∃(l:Int),∃(m:Int),zE (List.map lvE i.y) (↑d:Int).toNat 0 3=some [dI k,dI l,dI m]∧∃(n:Bool),n=!(g==k && (h==l && (j==m && true)))∧f n∧True)∧∀(g:Bool),f g→cnd g (∃(h:Unit),yBh i.x i.y=false∧True) (jL d b c)) (∃(e:Unit),yBh i.x i.y=true∧True))
def ySf (i:yBp):Prop:=
 ∃(a:yIg),List.map lvE a.x=List.map lvE i.a.levels∧List.map lvE a.y=List.map lvE i.b.levels∧(a.x.length≤1099511627776∧a.y.length≤1099511627776)∧∀(b:Unit),True→cnd (yBh a.x a.y) (cnd (i.a.imp.price==i.b.imp.price && (i.a.imp.qty==i.b.imp.qty && (i.a.imp.count==i.b.imp.count && true))) (∃(c:Unit),z4g i.a i.b=(i.a.has==i.b.has)∧True) (∃(c:Unit),z4g i.a i.b=false∧True)) (∃(c:Unit),z4g i.a i.b=false∧True)
def zQw (a:Bool→Prop) (b:Bool) (c:List (List D)) (d:List (List D)) (e:Int) (f:Int) (g:Int) (h:Bool) (j:Int) (k:Int) (l:Int) (m:Bool) (n:List (List D)) (p:List (List D)) (q:Int) (r:Int) (s:Int) (t:Bool) (u:Int) (v:Int) (w:Int) (x:Bool):Prop:=a b∧AObj.fro 3 c=AObj.fro 3 c∧AObj.fro 3 d=AObj.fro 3 d∧Sx.AObj.cells [V.own ((0:Nat)+(0:Nat)+(1:Nat)+(1:Nat)+(1:Nat)+(1:Nat)),V.d (dI e),V.d (dI f),V.d (dI g),V.d (D.v (.bool h)),V.own ((0:Nat)+(0:Nat)+(1:Nat)+(1:Nat)+(1:Nat)+(1:Nat)+1),V.d (dI j),V.d (dI k),V.d (dI l),V.d (D.v (.bool m))] 79=Sx.AObj.cells [V.own ((0:Nat)+(0:Nat)+(1:Nat)+(1:Nat)+(1:Nat)+(1:Nat)),V.d (dI e),V.d (dI f),V.d (dI g),V.d (D.v (.bool h)),V.own ((0:Nat)+(0:Nat)+(1:Nat)+(1:Nat)+(1:Nat)+(1:Nat)+1),V.d (dI j),V.d (dI k),V.d (dI l),V.d (D.v (.bool m))] 79∧AObj.fro 3 n=AObj.fro 3 n∧AObj.fro 3 p=AObj.fro 3 p∧Sx.AObj.cells [V.own ((0:Nat)+(0:Nat)+1),V.d (dI q),V.d (dI r),V.d (dI s),V.d (D.v (.bool t)),V.own ((0:Nat)+(0:Nat)+(1:Nat)+(1:Nat)),V.d (dI u),V.d (dI v),V.d (dI w),V.d (D.v (.bool x))] 79=Sx.AObj.cells [V.own ((0:Nat)+(0:Nat)+1),V.d (dI q),V.d (dI r),V.d (dI s),V.d (D.v (.bool t)),V.own ((0:Nat)+(0:Nat)+(1:Nat)+(1:Nat)),V.d (dI u),V.d (dI v),V.d (dI w),V.d (D.v (.bool x))] 79
def yPv (i:aZ):Prop:=
 cnd ((↑(List.map zF i.v).length:Int) !=(↑(List.map zF i.w).length:Int)) (∃(a:Unit),bW i.v i.w=false∧True) (∃(a:Nat),(↑a:Int)=0∧∃(b:Nat→Prop),∃(c:Nat→Nat),b a∧∀(d:Nat),b d→cnd (decide ((↑d:Int)<(↑(List.map zF i.v).length:Int))) ((0≤(↑d:Int)∧(↑d:Int)<(↑(List.map zF i.v).length:Int))∧∃(e:List (List D)),∃(f:Int),∃(g:Int),∃(h:Int),∃(j:Bool),∃(k:List (List D)),∃(l:Int),∃(m:Int),∃(n:Int),∃(p:Bool),zE (List.map zF i.v) (↑d:Int).toNat 0 10=some [D.ro 3 e,dI f,dI g,dI h,D.v (.bool j),D.ro 3 k,dI l,dI m,dI n,D.v (.bool p)]∧(0≤(↑d:Int)∧(↑d:Int)<(↑(List.map zF i.w).length:Int))∧∃(q:List (List D)),∃(r:Int),∃(s:Int),∃(t:Int),∃(u:Bool),∃(v:List (List D)),∃(w:Int),∃(x:Int),∃(y:Int),∃(z:Bool),zE (List.map zF i.w) (↑d:Int).toNat 0 10=some [D.ro 3 q,dI r,dI s,dI t,D.v (.bool u),D.ro 3 v,dI w,dI x,dI y,D.v (.bool z)]∧∃(a_1:Bool),∃(a_2:Bool→Prop),(∃(a_3:yBp),List.map lvE a_3.a.levels=e∧a_3.a.imp.price=f∧a_3.a.imp.qty=g∧a_3.a.imp.count=h∧a_3.a.has=j∧List.map lvE a_3.b.levels=q∧a_3.b.imp.price=r∧a_3.b.imp.qty=s∧a_3.b.imp.count=t∧a_3.b.has=u∧(a_3.a.levels.length≤1099511627776∧a_3.b.levels.length≤1099511627776)∧∀(a_4:Unit),True→cnd (z4g a_3.a a_3.b) (∃(a_5:yBp),List.map lvE a_5.a.levels=k∧a_5.a.imp.price=l∧a_5.a.imp.qty=m∧a_5.a.imp.count=n∧a_5.a.has=p∧List.map lvE a_5.b.levels=v∧a_5.b.imp.price=w∧a_5.b.imp.qty=x∧a_5.b.imp.count=y∧a_5.b.has=z∧(a_5.a.levels.length≤1099511627776∧a_5.b.levels.length≤1099511627776)∧∀(a_6:Unit),True→∃(a_7:Bool),a_7=!z4g a_5.a a_5.b∧zQw a_2 a_7 v q r s t u w x y z k e f g h j l m n p) (∃(a_5:Bool),a_5=!false∧zQw a_2 a_5 v q r s t u w x y z k e f g h j l m n p))∧∀(a_3:Bool),a_2 a_3→cnd a_3 (∃(a_4:Unit),bW i.v i.w=false∧True) (jL d b c)) (∃(e:Unit),bW i.v i.w=true∧True))
def xP (a:aZ):Prop:=(List.length a.v≤1099511627776∧∀(b:Sd×Sd),b∈a.v→vD b)∧List.length a.w≤1099511627776∧∀(b:Sd×Sd),b∈a.w→vD b
def yCn (i:aZ):Prop:=
 ∃(a:aZ),List.map zF a.v=List.map zF i.v∧List.map zF a.w=List.map zF i.w∧(xP a)∧∀(b:Unit),True→∃(c:Unit),bW i.v i.w=bW a.v a.w∧True
open Go Cv Go.Proofs
open Classical
theorem zIh {l:List Quote} {k:Nat} {q:Quote} (b:Quote) (h:l[k]? =some q):fC (l.take (k+1)) b=if q.price=b.price then(if q.qty>(fC (l.take k) b).1 then q.qty else(fC (l.take k) b).1,(fC (l.take k) b).2+1)else fC (l.take k) b:=by
 rw[fC,yWs,h,yYw,y0t,yYv,List.foldl_nil]
 rfl
theorem zTg (b:Quote) (l:List Quote):∀k,k≤l.length→0≤(fC (l.take k) b).2∧(fC (l.take k) b).2≤k
 |0,_=>⟨by rw[y0j];exact yZw 0,by rw[y0j];exact yZw 0⟩
 |k+1,h=>by
  obtain⟨q,hq⟩:=yD (l:=l) (i:=k) (by omega)
  have:=zTg b l k (by omega)
  rw[zIh b hq]
  split
  ·dsimp only;constructor<;>omega
  ·constructor<;>omega
theorem yPo (i:BsI) (h:showC.cnd i):yJl i:=by
 obtain⟨hs,hl⟩:(i.s=1∨i.s=2)∧i.l.length≤1000000:=h
 have hml:(i.l.map zK).length=i.l.length:=yVk _
 unfold yJl qO zDb fN vH dI
 rw[hml]
 refine⟨i,rfl,rfl,⟨hs,hl⟩,fun _ _=>Cv.cnd.mk (fun c=> ?_) (fun c=> ?_)⟩
 ·have e:qF i.l i.s=(⟨0,0,0⟩,false):=by rw[qF,yVj (by simpa using c)]
  rw[e];exact⟨(),by(repeat'(first|exact trivial|exact rfl|apply And.intro))⟩
 have e:qF i.l i.s=(⟨(zU i.l i.s).1.price,(fC i.l (zU i.l i.s).1).1,(fC i.l (zU i.l i.s).1).2⟩,true):=by rw[qF,yVl (by simpa using c)]
 rw[e]
 generalize (zU i.l i.s).1=b
 refine⟨0,rfl,rfl,rfl,rfl,rfl,rfl,rfl,rfl,rfl,fun k=>k≤i.l.length,fun k=>i.l.length-k,yXf _,fun k hk=>zJ (fun hlt=> ?_) (fun hlt=> ?_)⟩
 ·obtain⟨q,hq⟩:=yD (l:=i.l) (i:=k) (by omega)
  have st:=zIh b hq
  have bd:=zTg b i.l k hk
  have hk:k≤i.l.length:=hk
  refine⟨⟨by omega,by omega⟩,q.price,q.qty,q.a.inst,q.a.side,q.b.inst,q.b.side,elA hq (by simp[zK]) rfl,Cv.cnd.mk (fun e=>⟨k+1,?_⟩) (fun e=>⟨k+1,?_⟩)⟩
  ·rw[st,yVl (by simpa using e)]
   exact⟨rfl,by dsimp only;rw[w64 (by omega)],wjn (by omega),rfl,rfl,rfl,rfl,rfl,rfl,by dsimp only;omega,by dsimp only;omega,trivial⟩
  ·rw[st,yVj (by simpa using e)]
   exact⟨rfl,rfl,wjn (by omega),rfl,rfl,rfl,rfl,rfl,rfl,by dsimp only;omega,by dsimp only;omega,trivial⟩
 ·have hk:k≤i.l.length:=hk
  obtain rfl:k=i.l.length:=by omega
  rw[yYz]
  exact⟨(),by(repeat'(first|exact trivial|exact rfl|apply And.intro))⟩
theorem yGy:showC.ok Tryz.prog 118:=okw mixed (gokc zUa gok0) 0 (fun _=>[]) (fun i=>yMq i) [] Tryz.func118 yPo
theorem zMx (p:Prd) (B:List (List zI)):(gH p B).length=p.count:=by rw[gH,yVk,List.length_range]
theorem z5o (p:Prd) (B:List (List zI)) {j:Nat} (h:j<p.count):(gH p B)[j]? =some (zCt p B j 1,zCt p B j 2):=by
 rw[gH,yWt,yZk h];rfl
theorem yQj (i:LkI) (h:lookC.cnd i):yKc i:=by
 obtain⟨hR,hB⟩:i.s.Rep i.p i.B∧BOk i.p i.B:=h
 have hcl:=xZ i.p
 have hbl:=hB.bl
 have hcnt:i.s.cntOk:=hR.cnt (by omega)
 have hto:wY (i.B.map kB):=hB.tops
 have hll:=zMx i.p i.B
 unfold yKc cL cK kF hZ fN fS Vdect296 qU z7 dI
 refine⟨i.p,rfl,rfl,rfl,rfl,rfl,rfl,rfl,rfl,rfl,rfl,rfl,hB.ps,fun _ _=>Cv.cnd.mk (fun c=>absurd hB.pc (by simpa using c)) (fun _=>⟨i.s,rfl,hcnt,fun _ _=>⟨i.p,rfl,rfl,rfl,rfl,rfl,rfl,rfl,rfl,rfl,rfl,rfl,hB.ps,fun _ _=>⟨0,rfl,rfl,by rw[hR.tops],fun j=>j≤i.p.count,fun j=>i.p.count-j,yXf _,fun j hj=>zJ (fun hlt=> ?_) (fun hlt=> ?_)⟩⟩⟩)⟩
 ·have hlt:j<i.p.count:=by omega
  have hat:atB i.B (j:Int)=i.B.getD j []:=by rw[atB,yVj (by omega),yWb]
  have hq:∀s,(xV ⟨i.p,i.B.map kB,j⟩ s).length≤1000000:=fun s=>yYp (zGk _ _) (by decide)
  refine⟨⟨by decide,by decide⟩,1,rfl,⟨i.s,i.p,i.B,j,false⟩,rfl,rfl,rfl,⟨hR,by dsimp only;omega⟩,fun _ _=>⟨⟨⟨i.p,i.B.map kB,j⟩,false⟩,rfl,rfl,rfl,rfl,rfl,rfl,rfl,rfl,rfl,rfl,rfl,rfl,rfl,rfl,⟨hB.ps,hto⟩,fun _ _=>⟨⟨xV ⟨i.p,i.B.map kB,j⟩ 1,1⟩,rfl,rfl,⟨.inl rfl,hq 1⟩,fun _ _=>⟨⟨by decide,by decide⟩,2,rfl,⟨i.s,i.p,i.B,j,true⟩,rfl,rfl,rfl,⟨hR,by dsimp only;omega⟩,fun _ _=>⟨⟨⟨i.p,i.B.map kB,j⟩,true⟩,rfl,rfl,rfl,rfl,rfl,rfl,rfl,rfl,rfl,rfl,rfl,rfl,rfl,rfl,⟨hB.ps,hto⟩,fun _ _=>⟨⟨xV ⟨i.p,i.B.map kB,j⟩ 2,2⟩,rfl,rfl,⟨.inr rfl,hq 2⟩,fun _ _=>⟨?_,j+1,wjn (by omega),?_,rfl,by dsimp only;omega,by dsimp only;omega,rfl,by(repeat'(first|exact trivial|exact rfl|apply And.intro))⟩⟩⟩⟩⟩⟩⟩
  ·rw[yVk,yWe];omega
  ·rw[yWs,z5o i.p i.B hlt,yYw,yVu,yVz,yZc]
   dsimp only
   rw[hat]
   rfl
 ·have hj:j≤i.p.count:=hj
  rw[yVx (by omega)]
  exact⟨(),by(repeat'(first|exact trivial|exact rfl|apply And.intro))⟩
theorem yEq:lookC.ok Tryz.prog 63:=okw mixed (gokc rZ (gokc yEx (gokc cS (gokc yHg (gokc zPb (gokc yGy gok0)))))) 1 (fun _=>[]) (fun i=>yRp i) [] Tryz.func63 yQj
open Go Cv Go.Proofs
open Classical
theorem zNv {α:Type} {x y:List α} {k:Nat} {a b:α} (ha:x[k]? =some a) (hb:y[k]? =some b) (h:x.take k=y.take k) (e:a=b):x.take (k+1)=y.take (k+1):=by rw[yWs,yWs,h,ha,hb,e]
theorem yIp (a b:Lv):(a.price==b.price && (a.qty==b.qty && (a.count==b.count && true)))=decide (a=b):=by
 rw[y0a,decide_eq_true_iff]
 obtain⟨p,q,c⟩:=a
 obtain⟨p2,q2,c2⟩:=b
 simp
theorem yRw (i:yIg) (h:eqLvC.cnd i):yJo i:=by
 obtain⟨hx,hy⟩:i.x.length≤1099511627776∧i.y.length≤1099511627776:=h
 have hmx:(i.x.map lvE).length=i.x.length:=yVk _
 have hmy:(i.y.map lvE).length=i.y.length:=yVk _
 unfold yJo jL kI dI
 rw[hmx,hmy]
 refine Cv.cnd.mk (fun c=>⟨(),yVw (fun e=>by rw[e]at c;simp at c),trivial⟩) (fun c=> ?_)
 have hxy:i.x.length=i.y.length:=by have:(i.x.length:Int)=i.y.length:=(by simpa using c);omega
 refine⟨0,rfl,fun k=>k≤i.x.length∧i.x.take k=i.y.take k,fun k=>i.x.length-k,⟨yXf _,rfl⟩,fun k hk=>zJ (fun e=> ?_) (fun e=> ?_)⟩
 ·obtain⟨hk1,hk2⟩:=hk
  obtain⟨a,ha⟩:=yD (l:=i.x) (i:=k) (by omega)
  obtain⟨b,hb⟩:=yD (l:=i.y) (i:=k) (by omega)
  refine⟨false,fun t=>t= !decide (a=b),⟨⟨by omega,by omega⟩,a.price,a.qty,a.count,elA ha (by simp[lvE]) rfl,⟨by omega,by omega⟩,b.price,b.qty,b.count,elA hb (by simp[lvE]) rfl,_,rfl,?_,trivial⟩,?_⟩
  ·rw[yIp a b]
  ·rintro _ rfl
   refine Cv.cnd.mk (fun c=>⟨(),yVw (fun e2=> ?_),trivial⟩) (fun c=>⟨k+1,by rw[w64 (by omega)];rfl,⟨by omega,zNv ha hb hk2 (by simpa using c)⟩,by dsimp only;omega,trivial⟩)
   have c:a≠b:=by simpa using c
   rw[e2]at ha
   rw[ha]at hb
   exact c (Option.some.inj hb)
 ·obtain⟨hk1,hk2⟩:=hk
  rw[yVx (by omega),yVx (by omega)]at hk2
  exact⟨(),yWd hk2,trivial⟩
theorem yEg:eqLvC.ok Tryz.prog 125:=okw mixed gok0 0 (fun _=>yPw) (fun _=>ySe) [] Tryz.func125 yRw
theorem yUk (i:yBp) (h:fsdC.cnd i):ySf i:=by
 obtain⟨⟨al,ai,ah⟩,⟨bl,bi,bh⟩⟩:=i
 obtain⟨ha,hb⟩:al.length≤1099511627776∧bl.length≤1099511627776:=h
 unfold ySf
 refine⟨⟨al,bl⟩,rfl,rfl,⟨ha,hb⟩,fun _ _=>zJ (fun e=> ?_) (fun e=>⟨(),yVw (fun x=>e (congrArg Sd.levels x)),trivial⟩)⟩
 dsimp only
 rw[yIp]
 refine zJ (fun e2=>⟨(),?_,trivial⟩) (fun e2=>⟨(),yVw (fun x=>e2 (congrArg Sd.imp x)),trivial⟩)
 have e:al=bl:=e
 have e2:ai=bi:=e2
 subst e e2
 show decide ((⟨al,ai,ah⟩:Sd)=⟨al,ai,bh⟩)=(ah==bh)
 rw[y0a,decide_eq_true_iff,beq_iff_eq]
 exact⟨fun x=>congrArg Sd.has x,fun x=>by have x:ah=bh:=x;rw[x]⟩
theorem yLl:fsdC.ok Tryz.prog 77:=okw mixed (gokc yEg gok0) 0 (fun _=>[]) (fun _=>[]) [] Tryz.func77 yUk
theorem yQr {v:Vw} {k:Nat} {b:Sd×Sd} (h:v[k]? =some b):zE (v.map zF) k 0 10=some [D.ro 3 (b.1.levels.map lvE),.v (.int .i64 b.1.imp.price),.v (.int .i64 b.1.imp.qty),.v (.int .i64 b.1.imp.count),.v (.bool b.1.has),.ro 3 (b.2.levels.map lvE),.v (.int .i64 b.2.imp.price),.v (.int .i64 b.2.imp.qty),.v (.int .i64 b.2.imp.count),.v (.bool b.2.has)]∧
 zE (v.map zF) k 0 5=some [D.ro 3 (b.1.levels.map lvE),.v (.int .i64 b.1.imp.price),.v (.int .i64 b.1.imp.qty),.v (.int .i64 b.1.imp.count),.v (.bool b.1.has)]∧
 zE (v.map zF) k 5 5=some [D.ro 3 (b.2.levels.map lvE),.v (.int .i64 b.2.imp.price),.v (.int .i64 b.2.imp.qty),.v (.int .i64 b.2.imp.count),.v (.bool b.2.has)]:=
 ⟨elA h (by simp[zF]) rfl,elA h (by simp[zF]) rfl,elA h (by simp[zF]) rfl⟩
theorem yUl (i:aZ) (h:eqFC.cnd i):yPv i:=by
 obtain⟨⟨hv,hvs⟩,⟨hw,hws⟩⟩:gX i.v∧gX i.w:=h
 have hmx:(i.v.map zF).length=i.v.length:=yVk _
 have hmy:(i.w.map zF).length=i.w.length:=yVk _
 unfold yPv jL kI zQw dI
 rw[hmx,hmy]
 refine Cv.cnd.mk (fun c=>⟨(),yVw (fun e=>by rw[e]at c;simp at c),trivial⟩) (fun c=> ?_)
 have hxy:i.v.length=i.w.length:=by have:(i.v.length:Int)=i.w.length:=(by simpa using c);omega
 refine⟨0,rfl,fun k=>k≤i.v.length∧i.v.take k=i.w.take k,fun k=>i.v.length-k,⟨yXf _,rfl⟩,fun k hk=>zJ (fun e=> ?_) (fun e=> ?_)⟩
 ·obtain⟨hk1,hk2⟩:=hk
  obtain⟨a,ha⟩:=yD (l:=i.v) (i:=k) (by omega)
  obtain⟨b,hb⟩:=yD (l:=i.w) (i:=k) (by omega)
  have sa:=hvs a (yVv ha)
  have sb:=hws b (yVv hb)
  refine⟨⟨by omega,by omega⟩,_,_,_,_,_,_,_,_,_,_,(yQr ha).1,⟨by omega,by omega⟩,_,_,_,_,_,_,_,_,_,_,(yQr hb).1,false,fun t=>t= !decide (a=b),⟨⟨a.1,b.1⟩,rfl,rfl,rfl,rfl,rfl,rfl,rfl,rfl,rfl,rfl,⟨sa.1,sb.1⟩,fun _ _=>zJ (fun e1=>⟨⟨a.2,b.2⟩,rfl,rfl,rfl,rfl,rfl,rfl,rfl,rfl,rfl,rfl,⟨sa.2,sb.2⟩,fun _ _=>⟨_,rfl,?_,by(repeat'(first|exact trivial|exact rfl|apply And.intro))⟩⟩) (fun e1=>⟨_,rfl,?_,by(repeat'(first|exact trivial|exact rfl|apply And.intro))⟩)⟩,?_⟩
  ·show(!decide (a.2=b.2))= !decide (a=b)
   rw[y0a,yYl,yYl,decide_eq_false_iff_not,decide_eq_false_iff_not]
   exact⟨fun x y=>x (by rw[y]),fun x y=>x (Prod.ext e1 y)⟩
  ·have e1:¬a.1=b.1:=e1
   rw[yVw fun x=>e1 (congrArg Prod.fst x)]
  ·rintro _ rfl
   refine Cv.cnd.mk (fun c=>⟨(),yVw (fun e2=> ?_),trivial⟩) (fun c=>⟨k+1,by rw[w64 (by omega)];rfl,⟨by omega,zNv ha hb hk2 (by simpa using c)⟩,by dsimp only;omega,trivial⟩)
   have c:a≠b:=by simpa using c
   rw[e2]at ha
   rw[ha]at hb
   exact c (Option.some.inj hb)
 ·obtain⟨hk1,hk2⟩:=hk
  rw[yVx (by omega),yVx (by omega)]at hk2
  exact⟨(),yWd hk2,trivial⟩
theorem yOf:eqFC.ok Tryz.prog 75:=okw mixed (gokc yLl gok0) 1 (fun _=>yTs) (fun _=>yUv) [] Tryz.func75 yUl
theorem yMj (i:aZ) (h:fsameC.cnd i):yCn i:=by
 unfold yCn xP vD
 exact⟨i,rfl,rfl,h,fun _ _=>⟨(),rfl,trivial⟩⟩
theorem fsame_ok:fsameC.ok Tryz.prog 32:=okw mixed (gokc yOf gok0) 0 (fun _=>[]) (fun _=>[]) [] Tryz.func32 yMj
open Go Cv Go.Proofs
open Go Cv Go.Proofs
theorem yKd:∀{l:List zI} {v:Lv},v∈grp l→(1≤v.count∧v.count≤l.length)∧∃o∈l,o.price=v.price
 |[],v,h=>by cases h
 |o::l,v,h=>by
  have ih:∀v∈grp l,(1≤v.count∧v.count≤l.length)∧∃o∈l,o.price=v.price:=fun v hv=>yKd hv
  rw[grp]at h
  rw[yVt]
  split at h
  ·rw[yXc]at h
   subst h
   exact⟨by dsimp only;omega,o,yVp,rfl⟩
  ·rename_i w ws e
   rw[e]at ih
   have hw:=ih w yVp
   split at h
   ·rename_i ep
    rcases yWf.1 h with rfl|h
    ·exact⟨by dsimp only;omega,o,yVp,ep.symm⟩
    ·obtain⟨a,x,hx,hp⟩:=ih v (yVr _ h)
     exact⟨by omega,x,yVr _ hx,hp⟩
   ·rcases yWf.1 h with rfl|h
    ·exact⟨by dsimp only;omega,o,yVp,rfl⟩
    ·obtain⟨a,x,hx,hp⟩:=ih v h
     exact⟨by omega,x,yVr _ hx,hp⟩
theorem z3z:∀l:List zI,(grp l).length≤l.length
 |[]=>yWj 0
 |o::l=>by
  have ih:=z3z l
  rw[grp,yVt]
  cases e:grp l with
  |nil=>simp
  |cons w ws=>
   rw[e,yVt]at ih
   dsimp only
   split
   ·rw[yVt];omega
   ·rw[yVt,yVt];omega
theorem yNy {s:Int} {L:List Lv} (h:yEw s L) (hp:∀l∈L,1≤l.qty∧1≤l.count) (i:Nat):LvAt s L i:=by
 intro a ha
 have hm:=hp a (yVv ha)
 refine⟨hm.1,hm.2,?_⟩
 rintro j b rfl hb
 obtain⟨h1,e1⟩:=yVn.1 ha
 obtain⟨h2,e2⟩:=yVn.1 hb
 have:=(List.pairwise_iff_getElem.1 h) j (j+1) h2 h1 (y0m j)
 rw[e1,e2]at this
 exact this
theorem z3c {p:Prd} {B:List (List zI)} (h:BWf p B) {k:Nat} {L:List zI} (hL:B[k]? =some L) {s:Int} (hs:s=1∨s=2):
 (∀i,LvAt s (uP L s) i)∧(uP L s).length≤255∧∀l∈uP L s,(1≤l.qty∧l.qty≤250000000)∧l.fit:=by
 obtain⟨h1,h2,h3⟩:=h.od k L hL
 have hf:(L.filter fun o=>decide (o.side=s)).length≤L.length:=yYq _ _
 have hl:=z3z (L.filter fun o=>decide (o.side=s))
 have hall:∀l∈uP L s,(1≤l.qty∧l.qty≤250000000)∧(1≤l.count∧l.count≤250)∧(-2000000≤l.price∧l.price≤2000000):=fun l hm=>by
  have q:=z2u (fun o ho=>h1 o (yXl.1 ho).1) hm
  obtain⟨c,o,ho,e⟩:=yKd hm
  have hp:=h.ok.prices hL o (yXl.1 ho).1
  rw[e]at hp
  exact⟨by omega,by omega,hp⟩
 refine⟨yNy (yEm h hL hs).1 fun l hm=>⟨(hall l hm).1.1,(hall l hm).2.1.1⟩,by rw[uP];omega,fun l hm=> ?_⟩
 obtain⟨a,b,c⟩:=hall l hm
 exact⟨a,⟨by omega,by omega⟩,⟨by omega,by omega⟩,⟨by omega,by omega⟩⟩
theorem zVn {p:Prd} {B:List (List zI)} (h:BWf p B) {k:Nat} {L:List zI} (hL:B[k]? =some L) {s:Int} (hs:s=1∨s=2) (hb:(bestL L s).2=true):1≤(bestL L s).1.qty∧(bestL L s).1.qty≤250000000:=by
 have hm:(bestL L s).1∈uP L s:=by
  rw[bestL]at hb ⊢
  split at hb
  ·cases hb
  ·rename_i v vs e
   rw[e]
   exact yVp
 exact((z3c h hL hs).2.2 _ hm).1
theorem yJw {p:Prd} {B:List (List zI)} (h:BWf p B) {i s:Int} (hi:0≤i∧i<(B.map kB).length) (hs:s=1∨s=2) (hh:((B.map kB).getD i.toNat top0).has s=true):1≤((B.map kB).getD i.toNat top0).qty s∧((B.map kB).getD i.toNat top0).qty s≤250000000:=by
 rw[yVk]at hi
 obtain⟨L,hL⟩:=yD (l:=B) (i:=i.toNat) (by omega)
 have e:(B.map kB).getD i.toNat top0=kB L:=by rw[yVs,yWt,hL];rfl
 rw[e]at hh ⊢
 obtain⟨t1,t2,t3,t4,t5,t6⟩:=zHe L
 rcases hs with rfl|rfl
 ·rw[Top.has,yVl rfl,t3]at hh
  rw[Top.qty,yVl rfl,t2]
  exact zVn h hL (.inl rfl) hh
 ·rw[Top.has,yVj (by decide),t6]at hh
  rw[Top.qty,yVj (by decide),t5]
  exact zVn h hL (.inr rfl) hh
theorem yGl {p:Prd} {B:List (List zI)} (h:BWf p B) {n s:Int} (hs:s=1∨s=2) {q:Quote} (hq:q∈xV ⟨p,B.map kB,n⟩ s):(1≤q.qty∧q.qty≤250000000)∧(-2000000≤q.price∧q.price≤2000000):=by
 rw[xV,yXl]at hq
 obtain⟨ok,-⟩:=z1v h.ok.pc (by rw[yVk,h.ok.bl]) hs hq.1
 have qa:=yJw h ok.a ok.sa ok.ha
 have qb:=yJw h ok.b ok.sb ok.hb
 have hp:p.price n q.price=0:=by simpa using hq.2
 exact⟨by rw[ok.qty];omega,sI h.ok.pc hp⟩
theorem zFg (b:Quote) {M:Int}:∀(l:List Quote) (a:Int×Int),(∀q∈l,1≤q.qty∧q.qty≤M)→1≤a.1→a.1≤M→
 (1≤(l.foldl (fun a q=>if q.price=b.price then(if q.qty>a.1 then q.qty else a.1,a.2+1)else a) a).1∧(l.foldl (fun a q=>if q.price=b.price then(if q.qty>a.1 then q.qty else a.1,a.2+1)else a) a).1≤M)∧
 a.2≤(l.foldl (fun a q=>if q.price=b.price then(if q.qty>a.1 then q.qty else a.1,a.2+1)else a) a).2∧(l.foldl (fun a q=>if q.price=b.price then(if q.qty>a.1 then q.qty else a.1,a.2+1)else a) a).2≤a.2+l.length∧
 (b∈l→a.2+1≤(l.foldl (fun a q=>if q.price=b.price then(if q.qty>a.1 then q.qty else a.1,a.2+1)else a) a).2)
 |[],a,_,h1,h2=>⟨⟨h1,h2⟩,yZw _,by simp,fun h=>by cases h⟩
 |q::l,a,hq,h1,h2=>by
  have q0:=hq q yVp
  rw[yYv,yVt]
  by_cases e:q.price=b.price
  ·rw[yVl e]
   obtain⟨r1,r2,r3,r4⟩:=zFg b (M:=M) l (if q.qty>a.1 then q.qty else a.1,a.2+1) (fun x hx=>hq x (yVr _ hx)) (by dsimp only;split<;>omega) (by dsimp only;split<;>omega)
   dsimp only at r2 r3
   exact⟨r1,by omega,by omega,fun _=>r2⟩
  ·rw[yVj e]
   obtain⟨r1,r2,r3,r4⟩:=zFg b (M:=M) l a (fun x hx=>hq x (yVr _ hx)) h1 h2
   refine⟨r1,r2,by omega,fun hb=> ?_⟩
   rcases yWf.1 hb with rfl|hb
   ·exact absurd rfl e
   ·exact r4 hb
theorem yCg {l:List Quote} {s:Int} (hl:l.length≤100) (h:∀q∈l,(1≤q.qty∧q.qty≤250000000)∧(-2000000≤q.price∧q.price≤2000000)):
 ((qF l s).2=true→1≤(qF l s).1.qty∧1≤(qF l s).1.count)∧((qF l s).2=false→(qF l s).1=⟨0,0,0⟩)∧(qF l s).1.fit:=by
 by_cases e:(zU l s).2=true
 ·have hm:=zDd e
  have hb:=h _ hm
  have:=zFg (zU l s).1 (M:=250000000) l ((zU l s).1.qty,0) (fun q hq=>(h q hq).1) hb.1.1 hb.1.2
  have e2:qF l s=(⟨(zU l s).1.price,(fC l (zU l s).1).1,(fC l (zU l s).1).2⟩,true):=by rw[qF,yVl e]
  rw[e2]
  rw[← fC]at this
  obtain⟨r1,r2,r3,r4⟩:=this
  have r4:=r4 hm
  dsimp only at r2 r3 r4 ⊢
  exact⟨fun _=>⟨r1.1,by omega⟩,fun x=>(by cases x),⟨by dsimp only;omega,by dsimp only;omega⟩,⟨by dsimp only;omega,by dsimp only;omega⟩,⟨by dsimp only;omega,by dsimp only;omega⟩⟩
 ·have e2:qF l s=(⟨0,0,0⟩,false):=by rw[qF,yVj e]
  rw[e2]
  exact⟨fun x=>(by cases x),fun _=>rfl,⟨by decide,by decide⟩,⟨by decide,by decide⟩,⟨by decide,by decide⟩⟩
theorem zXe {p:Prd} {B:List (List zI)} (h:BWf p B):kC (gH p B)∧zYt (gH p B)∧gX (gH p B):=by
 have hc:=xZ p
 have hlen:=zMx p B
 have hside:∀k,k<p.count→∀s,s=1∨s=2→SdRight s (zCt p B k s)∧(zCt p B k s).fit:=fun k hk s hs=>by
  obtain⟨L,hL⟩:=yD (l:=B) (i:=k) (by rw[h.ok.bl];exact hk)
  have e:B.getD k []=L:=zT hL
  obtain⟨a1,a2,a3⟩:=z3c h hL hs
  obtain⟨b1,b2,b3⟩:=yCg (s:=s) (zGk ⟨p,B.map kB,k⟩ s) (fun q hq=>yGl h hs hq)
  rw[zCt,e]
  exact⟨⟨a1,a2,b1,b2⟩,fun x hx=>(a3 x hx).2,b3⟩
 have hmem:∀b∈gH p B,∃k,k<p.count∧b=(zCt p B k 1,zCt p B k 2):=fun b hb=>by
  rw[gH]at hb
  obtain⟨k,hk,rfl⟩:=yWy.1 hb
  exact⟨k,yYh.1 hk,rfl⟩
 refine⟨⟨fun b hb=> ?_,by omega⟩,fun b hb=> ?_,⟨by omega,fun b hb=> ?_⟩⟩
 ·obtain⟨k,hk,rfl⟩:=hmem b hb
  exact⟨(hside k hk 1 (.inl rfl)).1,(hside k hk 2 (.inr rfl)).1⟩
 ·obtain⟨k,hk,rfl⟩:=hmem b hb
  exact⟨(hside k hk 1 (.inl rfl)).2,(hside k hk 2 (.inr rfl)).2⟩
 ·obtain⟨k,hk,rfl⟩:=hmem b hb
  have a:=(hside k hk 1 (.inl rfl)).1.2.1
  have c:=(hside k hk 2 (.inr rfl)).1.2.1
  dsimp only
  omega
open Go Cv Go.Proofs
def known20C:Con:=con1 Unit (fun _=>[]) (fun _=>[]) (fun _=>True) (fun _=>yF true) (fun _=>[])
structure MdI where
 x:Prd
 l:List Cmd
@[reducible] def MdI.ok (i:MdI):Prop:=i.x.raw∧(∀c∈i.l,c.raw)∧i.l.length≤9223372036854775807
structure MdJ where
 m:Mkt
 k:Nat
structure qY (v:Vw):Prop where
 r:kC v
 f:zYt v
 s:gX v
def madeC:Con where
 ι:=MdI
 pat:=fun i=>[prdV i.x,roV 9 (i.l.map cmdE)]
 pre:=fun _=>[]
 cnd:=fun i=>i.ok
 alts:=fun i=>[{o:=Vw,res:=fun v=>vwV v,post:=fun _=>[],rel:=fun v=>qY v}]
def yRf:List SAnn:=[{ι:=MdJ,slots:=fun j=>[(6,.nm 0 0),(8,zA j.k)],rows:=fun j=>[pX j.m]}]
def yQu:List (Nat×SAnn):=[(24,bj 30)]
structure ScI where
 x:Prd
 l:List Cmd
 m:List Cmd
 seq:Int
 other:Int
@[reducible] def ScI.ok (i:ScI):Prop:=MdI.ok ⟨i.x,i.l⟩∧MdI.ok ⟨i.x,i.m⟩∧yO i.seq∧yO i.other
def scC:Con:=con1 ScI (fun i=>[prdV i.x,roV 9 (i.l.map cmdE),roV 9 (i.m.map cmdE),zA i.seq,zA i.other]) (fun _=>[]) (fun i=>i.ok) (fun _=>yF true) (fun _=>[])
def scA:List SAnn:=[{ι:=Nat,slots:=fun k=>[(62,zA k)],rows:=fun _=>[]}]
def scJ:List (Nat×SAnn):=[(24,bj 59)]
end Sx
