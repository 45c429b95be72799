/- Texts of ours, one behind the other: a walk that the kernel reckons, and contracts of functions. No condition. -/
import Derived.Test.YthkofaanekmpmaaGreatZ12
namespace Sx
set_option linter.unusedVariables false
set_option maxRecDepth 100000
open Go Cv Go.Proofs
def lR (a:LkI) (b:VsI):Prop:=zF a.s=zF a.s∧Sx.AObj.cells [V.d (D.v (Value.string (sb b.p.code))),V.own 0,V.d (dI b.p.tick),V.d (dI b.p.low),V.d (dI b.p.high),V.d (dI b.p.wide),V.d (dI b.p.rule),V.d (dI b.p.top),V.d (dI b.p.least),V.d (dI b.p.part),V.own ((0:Nat)+(1:Nat))] 25=Sx.AObj.cells [V.d (D.v (Value.string (sb b.p.code))),V.own 0,V.d (dI b.p.tick),V.d (dI b.p.low),V.d (dI b.p.high),V.d (dI b.p.wide),V.d (dI b.p.rule),V.d (dI b.p.top),V.d (dI b.p.least),V.d (dI b.p.part),V.own ((0:Nat)+(1:Nat))] 25∧AObj.fro 1 (iE b.p.settle)=AObj.fro 1 (iE b.p.settle)∧AObj.fro 1 (iE b.p.months)=AObj.fro 1 (iE b.p.months)
def zGb (a:Bool→Prop) (b:Bool) (c:VsJ) (d:LkI) (e:VsI):Prop:=a b∧g9 c.m=g9 c.m∧AObj.own z2l 1 (List.map vwE c.V)=AObj.own z2l 1 (List.map vwE c.V)∧lR d e
def lZ (a:VsI):Prop:=sb a.p.code=sb a.p.code∧True∧a.p.tick=a.p.tick∧a.p.low=a.p.low∧a.p.high=a.p.high∧a.p.wide=a.p.wide∧a.p.rule=a.p.rule∧a.p.top=a.p.top∧a.p.least=a.p.least∧a.p.part=a.p.part∧True∧True
def yEm (i:VsI):Prop:=
 ∃(a:Prd),sb a.code=sb i.p.code∧iE a.months=iE i.p.months∧a.tick=i.p.tick∧a.low=i.p.low∧a.high=i.p.high∧a.wide=i.p.wide∧a.rule=i.p.rule∧a.top=i.p.top∧a.least=i.p.least∧a.part=i.p.part∧iE a.settle=iE i.p.settle∧(zY a)∧(∀(b:Unit),a.check=0→∃(c:Mkt),g9 c=g9 (Mkt.mk a (aV a) [])∧(kX c)∧∀(d:Unit),True→(lZ i)∧∃(e:LkI),sb e.p.code=sb i.p.code∧iE e.p.months=iE i.p.months∧e.p.tick=i.p.tick∧e.p.low=i.p.low∧e.p.high=i.p.high∧e.p.wide=i.p.wide∧e.p.rule=i.p.rule∧e.p.top=i.p.top∧e.p.least=i.p.least∧e.p.part=i.p.part∧iE e.p.settle=iE i.p.settle∧zF e.s=zF c.s∧(e.s.Rep e.p e.B∧BOk e.p e.B)∧∀(f:Unit),True→∃(g:VsJ),(↑g.k:Int)=0∧g9 g.m=g9 c∧List.map vwE g.V=[[D.ro 10 (List.map zC (qM e.p e.B))]]∧∃(h:VsJ→Prop),∃(j:VsJ→Nat),h g∧∀(k:VsJ),h k→∃(l:Bool),∃(m:Bool→Prop),cnd (decide ((↑k.k:Int)<(↑(List.map cmdE i.l).length:Int))) (∃(n:Bool),n=decide ((↑k.k:Int)<30)∧zGb m n k e i) (∃(n:Bool),n=false∧zGb m n k e i)∧∀(n:Bool),m n→cnd n ((0≤(↑k.k:Int)∧(↑k.k:Int)<(↑(List.map cmdE i.l).length:Int))∧∃(p:Int),∃(q:Int),∃(r:Int),∃(s:Int),∃(t:Int),∃(u:Int),∃(v:Int),∃(w:Int),∃(x:ByteArray),zE (List.map cmdE i.l) (↑k.k:Int).toNat 0 9=some [dI p,dI q,dI r,dI s,dI t,dI u,dI v,dI w,D.v (Value.string x)]∧∃(y:TmI),sb y.p.code=sb i.p.code∧iE y.p.months=iE i.p.months∧y.p.tick=i.p.tick∧y.p.low=i.p.low∧y.p.high=i.p.high∧y.p.wide=i.p.wide∧y.p.rule=i.p.rule∧y.p.top=i.p.top∧y.p.least=i.p.least∧y.p.part=i.p.part∧iE y.p.settle=iE i.p.settle∧y.c.kind=p∧y.c.id=q∧y.c.inst=r∧y.c.side=s∧y.c.price=t∧y.c.qty=u∧y.c.least=v∧y.c.time=w∧sb y.c.label=x∧y.i=(↑k.k:Int)∧(y.p.check=0∧(y.p.code.length≤1099511627776∧y.p.months.length≤1099511627776∧y.p.settle.length≤1099511627776)∧(((-9223372036854775808)≤y.c.kind∧y.c.kind≤9223372036854775807)∧((-9223372036854775808)≤y.c.id∧y.c.id≤9223372036854775807)∧((-9223372036854775808)≤y.c.inst∧y.c.inst≤9223372036854775807)∧((-9223372036854775808)≤y.c.side∧y.c.side≤9223372036854775807)∧((-9223372036854775808)≤y.c.price∧y.c.price≤9223372036854775807)∧((-9223372036854775808)≤y.c.qty∧y.c.qty≤9223372036854775807)∧((-9223372036854775808)≤y.c.least∧y.c.least≤9223372036854775807)∧(-9223372036854775808)≤y.c.time∧y.c.time≤9223372036854775807)∧0≤y.i∧y.i≤1000000)∧∀(z:Unit),True→∃(a_1:EnI),a_1.c.kind=(qK y).kind∧a_1.c.id=(qK y).id∧a_1.c.inst=(qK y).inst∧a_1.c.side=(qK y).side∧a_1.c.price=(qK y).price∧a_1.c.qty=(qK y).qty∧a_1.c.least=(qK y).least∧a_1.c.time=(qK y).time∧sb a_1.c.label=sb (qK y).label∧g9 a_1.m=g9 k.m∧(cB a_1)∧∀(a_2:Mkt),a_2.Rep a_1.p a_1.X.B a_1.X.U→∃(a_3:Mkt),g9 a_3=g9 a_2∧(kX a_3)∧∀(a_4:Unit),True→(lZ i)∧∃(a_5:LkI),sb a_5.p.code=sb i.p.code∧iE a_5.p.months=iE i.p.months∧a_5.p.tick=i.p.tick∧a_5.p.low=i.p.low∧a_5.p.high=i.p.high∧a_5.p.wide=i.p.wide∧a_5.p.rule=i.p.rule∧a_5.p.top=i.p.top∧a_5.p.least=i.p.least∧a_5.p.part=i.p.part∧iE a_5.p.settle=iE i.p.settle∧zF a_5.s=zF a_3.s∧(a_5.s.Rep a_5.p a_5.B∧BOk a_5.p a_5.B)∧∀(a_6:Unit),True→((List.map vwE k.V).length+1)*(24:Nat)≤(140737488355328:Nat)∧∃(a_7:VsJ),(↑a_7.k:Int)=IntKind.i64.wrap ((↑k.k:Int)+1)∧g9 a_7.m=g9 a_3∧List.map vwE a_7.V=List.map vwE k.V++[[D.ro 10 (List.map zC (qM a_5.p a_5.B))]]∧h a_7∧j a_7<j k∧lR e i) (∃(p:List Vw),List.map vwE p=List.map vwE k.V∧p≠[]∧p.length≤31∧∀(q:Vw),q∈p→VwG i.p q))∧∀(b:Unit),a.check≠0→∃(c:List Vw),List.map vwE c=[]∧c≠[]∧c.length≤31∧∀(d:Vw),d∈c→VwG i.p d
set_option linter.unusedSimpArgs false
open Go Cv Go.Proofs
theorem zIr {n lo hi:Int} (h:lo≤hi):lo≤zI n lo hi∧zI n lo hi≤hi:=by
 have h1:=Int.emod_nonneg n (show hi-lo+1≠0 by omega)
 have h2:=Int.emod_lt_of_pos n (show 0<hi-lo+1 by omega)
 rw[zI]
 constructor<;>omega
theorem ySk {V:List Vw} {k:Nat} {v:Vw} (h:V[k]? =some v):zE (V.map vwE) k 0 1=some [D.ro 10 (v.map zC)]:=by
 rw[zE,yXq,h];rfl
open Classical in
open Classical in
theorem yQj (i:VsI) (h:viewsC.cnd i):yEm i:=by
 obtain⟨hc,hs,hok,hlen⟩:i.p.check=0∧i.p.small∧(∀c∈i.l,c.raw)∧i.l.length≤9223372036854775807:=h
 have hml:(List.map cmdE i.l).length=i.l.length:=yWu _
 have hB0:BOk i.p (List.replicate i.p.count []):=BOk.new hc hs
 have hM0:=z5f i.p
 unfold yEm zGb lZ lR cB kX wC zY dI
 rw[hml]
 refine⟨i.p,rfl,rfl,rfl,rfl,rfl,rfl,rfl,rfl,rfl,rfl,rfl,hs,fun _ _=> ?_,fun _ hne=>absurd hc hne⟩
 refine⟨mk0 i.p,rfl,hM0.s.small hB0,fun _ _=>⟨⟨rfl,trivial,rfl,rfl,rfl,rfl,rfl,rfl,rfl,rfl,trivial,trivial⟩,⟨(mk0 i.p).s,i.p,List.replicate i.p.count []⟩,rfl,rfl,rfl,rfl,rfl,rfl,rfl,rfl,rfl,rfl,rfl,rfl,⟨hM0.s,hB0⟩,fun _ _=> ?_⟩⟩
 refine⟨⟨mk0 i.p,0,[qM i.p (List.replicate i.p.count [])]⟩,rfl,rfl,rfl,fun j=>(j.k≤30∧j.k≤i.l.length)∧(j.V.length=j.k+1∧∀v∈j.V,VwG i.p v)∧∃B U,j.m.Rep i.p B U∧BOk i.p B,fun j=>30-j.k,⟨⟨yYc _,yYc _⟩,⟨rfl,fun v hv=> ?_⟩,_,_,hM0,hB0⟩,?_⟩
 ·rw[yYl]at hv
  subst hv
  exact yDt (hM0.s.wf hB0)
 rintro⟨m,k,V⟩ ⟨⟨hk1,hk2⟩,⟨hVl,hV⟩,B,U,hM,hB⟩
 dsimp only at hk1 hk2 hM hVl hV ⊢
 refine⟨true,fun b=>b=decide (k<i.l.length∧k<30),zK (fun c=>⟨_,rfl,decide_eq_decide.2 ⟨fun x=>⟨by omega,by omega⟩,fun x=>by omega⟩,k0q⟩) (fun c=>⟨_,rfl,(yXf (by omega)).symm,k0q⟩),?_⟩
 rintro _ rfl
 have hwf:=hM.s.wf hB
 refine zK (fun hb=> ?_) (fun _=> ?_)
 ·obtain⟨hb1,hb2⟩:=hb
  obtain⟨a,ha⟩:=zW (l:=i.l) (i:=k) hb1
  have e2:=yUw ha
  have hcr:=hok a (yXd ha)
  have hlb:=zZs ⟨i.p,a,(k:Int)⟩
  have hq:=z9o ⟨i.p,a,(k:Int)⟩
  have hvl:(V.map vwE).length=V.length:=yWu _
  refine⟨⟨by omega,by omega⟩,a.kind,a.id,a.inst,a.side,a.price,a.qty,a.least,a.time,sb a.label,e2,⟨i.p,a,(k:Int)⟩,rfl,rfl,rfl,rfl,rfl,rfl,rfl,rfl,rfl,rfl,rfl,rfl,rfl,rfl,rfl,rfl,rfl,rfl,rfl,rfl,rfl,⟨hc,hs,hcr,by dsimp only;omega,by dsimp only;omega⟩,fun _ _=> ?_⟩
  generalize qK ⟨i.p,a,(k:Int)⟩=D at*
  refine⟨⟨m,i.p,B,U,D,doF i.p B U D⟩,rfl,rfl,rfl,rfl,rfl,rfl,rfl,rfl,rfl,rfl,⟨⟨hM,hB⟩,by dsimp only;rw[hlb];decide,by dsimp only;omega,rfl⟩,fun o ho=> ?_⟩
  have hB2:=yEf hwf U D
  refine⟨o,rfl,ho.s.small hB2,fun _ _=>⟨⟨rfl,trivial,rfl,rfl,rfl,rfl,rfl,rfl,rfl,rfl,trivial,trivial⟩,⟨o.s,i.p,(doF i.p B U D).B⟩,rfl,rfl,rfl,rfl,rfl,rfl,rfl,rfl,rfl,rfl,rfl,rfl,⟨ho.s,hB2⟩,fun _ _=>⟨by omega,⟨o,k+1,V++[qM i.p (doF i.p B U D).B]⟩,wjn (by omega),rfl,by rw[yXe];rfl,⟨⟨by dsimp only;omega,by dsimp only;omega⟩,⟨by rw[yWx,hVl];rfl,fun v hv=> ?_⟩,_,_,ho,hB2⟩,by dsimp only;omega,k0q⟩⟩⟩
  rcases yXy.1 hv with hv|hv
  ·exact hV v hv
  ·rw[yYl]at hv
   subst hv
   exact yDt (ho.s.wf hB2)
 ·exact⟨V,rfl,fun e=>by rw[e]at hVl;simp at hVl,by omega,hV⟩
theorem views_ok:viewsC.ok Tryz.prog 13:=okw mixed (gokc z5q (gokc zUv (gokc z3a (gokc yHp (gokc yKu gok0))))) 0 (fun _=>yOl) (fun _=>yOp) [] Tryz.func13 yQj
open Go Cv Go.Proofs
open Classical in
open Go Cv Go.Proofs
noncomputable def sameLC:Con:=con1 zBq (fun i=>[.own 0,.own 1]) (fun i=>[.own tLv 3 (i.x.map lvE),.own tLv 3 (i.y.map lvE)]) (fun i=>i.x.length≤1000000∧i.y.length≤1000000) (fun i=>z7 (zBz i.x i.y)) (fun i=>[.own tLv 3 (i.x.map lvE),.own tLv 3 (i.y.map lvE)])
def yRj:List SAnn:=[{ι:=Nat,slots:=fun k=>[(5,zA k)],rows:=fun _=>[]}]
structure FlI2 where
 x:Prd
 l:List Cmd
 m:MsgM
@[reducible] def FlI2.ok (i:FlI2):Prop:=i.x.raw∧(∀c∈i.l,c.raw)∧i.l.length≤9223372036854775807∧(i64r i.m.inst∧i64r i.m.side∧i.m.raw)
def fvC:Con:=con1 FlI2 (fun i=>[prdV i.x,roV 9 (i.l.map cmdE),zZx i.m]) (fun _=>[]) (fun i=>i.ok) (fun _=>z7 true) (fun _=>[])
structure FlJ where
 L:List Lv
 b:Bool
 k:Nat
def fvA:List SAnn:=[
 {ι:=Nat,slots:=fun k=>[(12,zA k)],rows:=fun _=>[]},
 {ι:=Unit,slots:=fun _=>[],rows:=fun _=>[],un:=3},
 {ι:=FlJ,slots:=fun j=>[(17,.own 0),(20,zA j.k)],rows:=fun j=>[.own tLv 3 (j.L.map lvE)]},
 {ι:=FlJ,slots:=fun j=>[(18,.own 0),(19,z7 j.b),(21,zA j.k)],rows:=fun j=>[.own tLv 3 (j.L.map lvE)]}]
def nj:SAnn:={ι:=Unit,slots:=fun _=>[],rows:=fun _=>[]}
@[reducible] def zCe:Nat:=43
def ySh (x:Sd) (n:Nat):AObj:= .cells [.own n,zA x.imp.price,zA x.imp.qty,zA x.imp.count,z7 x.has] zCe
def yUy:SAnn:={ι:=Sd×Sd,slots:=fun _=>[(14,.nm 0 0),(15,.nm 1 0)],rows:=fun x=>[ySh x.1 2,ySh x.2 3,.fro 3 (x.1.levels.map lvE),.fro 3 (x.2.levels.map lvE)]}
def bj3 (t:Nat):SAnn:={ι:=Bool,slots:=fun b=>[(t,z7 b)],rows:=fun _=>[],keep:=fun n=>Nat.beq n 3||Nat.ble 8 n}
def fvJ:List (Nat×SAnn):=[(48,bj3 80),(80,yUy),(84,bj 16),(88,bj 121),(92,bj 154),(100,bj 166),(90,nj),(128,bj 190),(148,bj 222),(160,bj 285),(168,bj 304)]
end Sx
