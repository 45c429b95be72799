/- Texts of ours, one behind the other: a walk that the kernel reckons, and contracts of functions. No condition. -/
import Derived.Laws.Externs
import Derived.Test.YtpgpnnncaidcjaaGreatU6
namespace Sx
set_option linter.unusedVariables false
set_option maxRecDepth 100000
open Go Cv Go.Proofs
def lH (a:Cmd) (b:Cmd) (c:Cmd→Prop) (d:TmI):Prop:=sb a.label=sb b.label∧c a∧Sx.AObj.cells (Sx.V.agg [V.d (D.v (.int .i64 0)),V.d (D.v (.int .i64 0)),V.d (D.v (.int .i64 0)),V.d (D.v (.int .i64 0)),V.d (D.v (.int .i64 0)),V.d (D.v (.int .i64 0)),V.d (D.v (.int .i64 0)),V.d (D.v (.int .i64 0)),V.d gO]).cl 35=Sx.AObj.cells (Sx.V.agg [V.d (D.v (.int .i64 0)),V.d (D.v (.int .i64 0)),V.d (D.v (.int .i64 0)),V.d (D.v (.int .i64 0)),V.d (D.v (.int .i64 0)),V.d (D.v (.int .i64 0)),V.d (D.v (.int .i64 0)),V.d (D.v (.int .i64 0)),V.d gO]).cl 35∧Sx.AObj.cells [V.d (D.v (.int .i64 d.c.kind)),V.d (D.v (.int .i64 d.c.id)),V.d (D.v (.int .i64 d.c.inst)),V.d (D.v (.int .i64 d.c.side)),V.d (D.v (.int .i64 d.c.price)),V.d (D.v (.int .i64 d.c.qty)),V.d (D.v (.int .i64 d.c.least)),V.d (D.v (.int .i64 d.c.time)),V.d (D.v (Value.string (sb d.c.label)))] 35=Sx.AObj.cells [V.d (D.v (.int .i64 d.c.kind)),V.d (D.v (.int .i64 d.c.id)),V.d (D.v (.int .i64 d.c.inst)),V.d (D.v (.int .i64 d.c.side)),V.d (D.v (.int .i64 d.c.price)),V.d (D.v (.int .i64 d.c.qty)),V.d (D.v (.int .i64 d.c.least)),V.d (D.v (.int .i64 d.c.time)),V.d (D.v (Value.string (sb d.c.label)))] 35∧Sx.AObj.cells [V.d (D.v (Value.string (sb d.p.code))),V.own 0,V.d (D.v (.int .i64 d.p.tick)),V.d (D.v (.int .i64 d.p.low)),V.d (D.v (.int .i64 d.p.high)),V.d (D.v (.int .i64 d.p.wide)),V.d (D.v (.int .i64 d.p.rule)),V.d (D.v (.int .i64 d.p.top)),V.d (D.v (.int .i64 d.p.least)),V.d (D.v (.int .i64 d.p.part)),V.own ((0:Nat)+(1:Nat))] 29=Sx.AObj.cells [V.d (D.v (Value.string (sb d.p.code))),V.own 0,V.d (D.v (.int .i64 d.p.tick)),V.d (D.v (.int .i64 d.p.low)),V.d (D.v (.int .i64 d.p.high)),V.d (D.v (.int .i64 d.p.wide)),V.d (D.v (.int .i64 d.p.rule)),V.d (D.v (.int .i64 d.p.top)),V.d (D.v (.int .i64 d.p.least)),V.d (D.v (.int .i64 d.p.part)),V.own ((0:Nat)+(1:Nat))] 29∧AObj.fro 1 (iE d.p.settle)=AObj.fro 1 (iE d.p.settle)∧AObj.fro 1 (iE d.p.months)=AObj.fro 1 (iE d.p.months)
def zIg (a:Cmd) (b:Cmd) (c:Cmd→Prop) (d:TmI):Prop:=a.time=b.time∧lH a b c d
def zGq (a:Cmd) (b:Cmd) (c:Cmd→Prop) (d:TmI):Prop:=a.id=b.id∧a.inst=b.inst∧a.side=b.side∧a.price=b.price∧a.qty=b.qty∧a.least=b.least∧zIg a b c d
def nF (a:Cmd) (b:Cmd→Prop) (c:TmI):Prop:=∃(d:Cmd),d.kind=a.kind∧zGq d a b c
def zAf (a:TmI) (b:WiI) (c:Cmd):Prop:=(qX a).qty=IntKind.i64.wrap (x9 b)∧(qX a).least=c.least∧(qX a).time=c.time∧sb (qX a).label=sb c.label∧True
def uW (a:cF):Prop:=a.p.code.length≤1099511627776∧a.p.months.length≤1099511627776∧a.p.settle.length≤1099511627776
def zAd (a:TmI) (b:Cmd):Prop:=(qX a).qty=b.qty∧(qX a).least=b.least∧(qX a).time=b.time∧sb (qX a).label=sb b.label∧True
def z7d (t:TmI):Prop:=
 ∃(a:WiI),a.n=t.c.kind∧a.lo=0∧a.hi=8∧(xA a)∧∀(b:Unit),True→∃(c:WiI),c.n=t.c.id∧c.lo=0∧c.hi=30∧(xA c)∧∀(d:Unit),True→∃(e:Cmd),e.kind=IntKind.i64.wrap (x9 a)∧e.id=IntKind.i64.wrap (x9 c)∧e.inst=0∧e.side=0∧e.price=0∧e.qty=0∧e.least=0∧e.time=0∧sb e.label=ByteArray.mk #[]∧∃(f:Cmd→Prop),cnd (decide (e.kind>4)) (∃(g:Cmd),g.kind=1∧zGq g e f t) (nF e f t)∧∀(g:Cmd),f g→∃(h:Prd),sb h.code=sb t.p.code∧iE h.months=iE t.p.months∧h.tick=t.p.tick∧h.low=t.p.low∧h.high=t.p.high∧h.wide=t.p.wide∧h.rule=t.p.rule∧h.top=t.p.top∧h.least=t.p.least∧h.part=t.p.part∧iE h.settle=iE t.p.settle∧(xZ h)∧∀(j:Unit),True→∃(k:WiI),k.n=t.c.inst∧k.lo=0∧k.hi=IntKind.i64.wrap ((↑h.count:Int)-1)∧(xA k)∧∀(l:Unit),True→∃(m:WiI),m.n=t.c.side∧m.lo=0∧m.hi=1∧(xA m)∧∀(n:Unit),True→∃(p:WiI),p.n=t.c.qty∧p.lo=0∧p.hi=11∧(xA p)∧∀(q:Unit),True→∃(r:WiI),r.n=t.c.price∧r.lo=0∧r.hi=9∧(xA r)∧∀(s:Unit),True→t.p.tick=t.p.tick∧cnd (g.kind==1) (∃(u:Cmd),u.kind=g.kind∧u.id=IntKind.i64.wrap (t.i+1)∧u.inst=zJ k.n k.lo k.hi∧u.side=IntKind.i64.wrap (x9 m)∧u.price=IntKind.i64.wrap (t.p.tick*zJ r.n r.lo r.hi)∧u.qty=IntKind.i64.wrap (x9 p)∧u.least=g.least∧u.time=1∧sb u.label=sb g.label∧∃(v:Cmd→Prop),(IntKind.i64=IntKind.i64∧(5:Int)≠(0:Int)∧cnd (t.c.time.tmod (5:Int)==(2:Int)) (∃(w:Cmd),w.kind=u.kind∧w.id=u.id∧w.inst=u.inst∧w.side=u.side∧w.price=u.price∧w.qty=u.qty∧w.least=u.least∧w.time=2∧lH w u v t) (nF u v t))∧∀(w:Cmd),v w→∃(x:Cmd),x.kind=w.kind∧x.id=w.id∧x.inst=w.inst∧x.side=w.side∧x.price=w.price∧x.qty=w.qty∧x.least=w.least∧x.time=w.time∧sb x.label=sb w.label∧∃(y:Cmd→Prop),(IntKind.i64=IntKind.i64∧(5:Int)≠(0:Int)∧cnd (t.c.time.tmod (5:Int)==(3:Int)) (∃(z:Cmd),z.kind=x.kind∧z.id=x.id∧z.inst=x.inst∧z.side=x.side∧z.price=x.price∧z.qty=x.qty∧z.least=x.least∧z.time=3∧lH z x y t) (nF x y t))∧∀(z:Cmd),y z→∃(a_1:Cmd),a_1.kind=z.kind∧a_1.id=z.id∧a_1.inst=z.inst∧a_1.side=z.side∧a_1.price=z.price∧a_1.qty=z.qty∧a_1.least=z.least∧a_1.time=z.time∧sb a_1.label=sb z.label∧∃(a_2:Cmd→Prop),(IntKind.i64=IntKind.i64∧(4:Int)≠(0:Int)∧cnd (t.c.least.tmod (4:Int)==(1:Int)) (∃(a_3:WiI),a_3.n=t.c.least∧a_3.lo=0∧a_3.hi=a_1.qty∧(xA a_3)∧∀(a_4:Unit),True→∃(a_5:Cmd),a_5.kind=a_1.kind∧a_5.id=a_1.id∧a_5.inst=a_1.inst∧a_5.side=a_1.side∧a_5.price=a_1.price∧a_5.qty=a_1.qty∧a_5.least=zJ a_3.n a_3.lo a_3.hi∧zIg a_5 a_1 a_2 t) (nF a_1 a_2 t))∧∀(a_3:Cmd),a_2 a_3→∃(a_4:cF),sb a_4.p.code=sb t.p.code∧iE a_4.p.months=iE t.p.months∧a_4.p.tick=t.p.tick∧a_4.p.low=t.p.low∧a_4.p.high=t.p.high∧a_4.p.wide=t.p.wide∧a_4.p.rule=t.p.rule∧a_4.p.top=t.p.top∧a_4.p.least=t.p.least∧a_4.p.part=t.p.part∧iE a_4.p.settle=iE t.p.settle∧a_4.n=a_3.inst∧(uW a_4)∧∀(a_5:Unit),True→cnd (!(a_4.p.legs a_4.n).snd.snd) (∃(a_6:Unit),(qX t).kind=a_3.kind∧(qX t).id=a_3.id∧(qX t).inst=a_3.inst∧(qX t).side=a_3.side∧(qX t).price=IntKind.i64.wrap (a_3.price+IntKind.i64.wrap (8*t.p.tick))∧zAd t a_3) (∃(a_6:Unit),(qX t).kind=a_3.kind∧(qX t).id=a_3.id∧(qX t).inst=a_3.inst∧(qX t).side=a_3.side∧(qX t).price=IntKind.i64.wrap (a_3.price-IntKind.i64.wrap (4*t.p.tick))∧zAd t a_3)) (cnd (g.kind==4) (∃(u:Unit),(qX t).kind=g.kind∧(qX t).id=g.id∧(qX t).inst=0∧(qX t).side=0∧(qX t).price=IntKind.i64.wrap (IntKind.i64.wrap (t.p.tick*zJ r.n r.lo r.hi)+IntKind.i64.wrap (5*t.p.tick))∧zAf t p g) (∃(u:Unit),(qX t).kind=g.kind∧(qX t).id=g.id∧(qX t).inst=0∧(qX t).side=0∧(qX t).price=IntKind.i64.wrap (t.p.tick*zJ r.n r.lo r.hi)∧zAf t p g))
theorem yKf (hG:GOk Tryz.prog ([(12,withinC),(46,r5countC),(47,r5legsC)])) (h:∀(t:TmI),tameC.cnd t→z7d t):tameC.ok Tryz.prog 21:=okw mixed hG 0 (fun _=>yMt) (fun _=>[]) [] Tryz.func21 h
set_option linter.unusedSimpArgs false
open Go Cv Go.Proofs
theorem yLv (t:TmI) (h:tameC.cnd t):z7d t:=by
 obtain⟨hc,hs,⟨r1,r2,r3,r4,r5,r6,r7,r8⟩,i0,i1⟩:t.p.check=0∧t.p.small∧t.c.raw∧0≤t.i∧t.i≤1000000:=h
 have ok:=qY hc
 have t1:=ok.t1
 have t2:=ok.t2
 have m2:=ok.m2
 have hcl:=qG t.p
 have hcd:=uT hc
 have bk:=xO (n:=t.c.kind) (lo:=0) (hi:=8) (by omega)
 have bi:=xO (n:=t.c.id) (lo:=0) (hi:=30) (by omega)
 have bs:=xO (n:=t.c.side) (lo:=0) (hi:=1) (by omega)
 have bq:=xO (n:=t.c.qty) (lo:=0) (hi:=11) (by omega)
 have bp:=xO (n:=t.c.price) (lo:=0) (hi:=9) (by omega)
 have mb:=zGo (a:=t.p.tick) (b:=zJ t.c.price 0 9) (m:=1000) (n:=9) (by omega) (by omega)
 have wp:IntKind.i64.wrap (t.p.tick*zJ t.c.price 0 9)=t.p.tick*zJ t.c.price 0 9:=w64 (by omega)
 unfold z7d nF zGq zIg lH gO zAd uW zAf x9 xA xZ
 refine⟨⟨t.c.kind,0,8⟩,rfl,rfl,rfl,⟨r1,by dsimp only;omega,by dsimp only;omega,by dsimp only;omega⟩,fun _ _=>⟨⟨t.c.id,0,30⟩,rfl,rfl,rfl,⟨r2,by dsimp only;omega,by dsimp only;omega,by dsimp only;omega⟩,fun _ _=> ?_⟩⟩
 dsimp only
 rw[w64 (x:=1+zJ t.c.kind 0 8) (by omega),w64 (x:=1+zJ t.c.id 0 30) (by omega)]
 refine⟨⟨1+zJ t.c.kind 0 8,1+zJ t.c.id 0 30,0,0,0,0,0,0,[]⟩,rfl,rfl,rfl,rfl,rfl,rfl,rfl,rfl,rfl,fun c=>c=⟨c0 t.c,1+zJ t.c.id 0 30,0,0,0,0,0,0,[]⟩,zK (fun e=>⟨⟨c0 t.c,1+zJ t.c.id 0 30,0,0,0,0,0,0,[]⟩,?_,rfl,rfl,rfl,rfl,rfl,rfl,rfl,rfl,rfl,by(repeat'(first|exact trivial|exact rfl|apply And.intro))⟩) (fun e=>⟨⟨c0 t.c,1+zJ t.c.id 0 30,0,0,0,0,0,0,[]⟩,?_,rfl,rfl,rfl,rfl,rfl,rfl,rfl,rfl,rfl,by(repeat'(first|exact trivial|exact rfl|apply And.intro))⟩),fun c hcc=> ?_⟩
 ·dsimp only at e ⊢;rw[c0,if_pos (by omega)]
 ·dsimp only at e ⊢;rw[c0,if_neg (by omega)]
 subst hcc
 refine⟨t.p,rfl,rfl,rfl,rfl,rfl,rfl,rfl,rfl,rfl,rfl,rfl,hs,fun _ _=> ?_⟩
 rw[w64 (x:=(t.p.count:Int)-1) (by omega)]
 refine⟨⟨t.c.inst,0,(t.p.count:Int)-1⟩,rfl,rfl,rfl,⟨r3,by dsimp only;omega,by dsimp only;omega,by dsimp only;omega⟩,fun _ _=>⟨⟨t.c.side,0,1⟩,rfl,rfl,rfl,⟨r4,by dsimp only;omega,by dsimp only;omega,by dsimp only;omega⟩,fun _ _=>⟨⟨t.c.qty,0,11⟩,rfl,rfl,rfl,⟨r6,by dsimp only;omega,by dsimp only;omega,by dsimp only;omega⟩,fun _ _=>⟨⟨t.c.price,0,9⟩,rfl,rfl,rfl,⟨r5,by dsimp only;omega,by dsimp only;omega,by dsimp only;omega⟩,fun _ _=>⟨rfl,?_⟩⟩⟩⟩⟩
 dsimp only
 rw[wp,w64 (x:=1+zJ t.c.side 0 1) (by omega),w64 (x:=1+zJ t.c.qty 0 11) (by omega),w64 (x:=t.i+1) (by omega)]
 refine Cv.cnd.mk (fun k=> ?_) (fun k=> ?_)
 ·have k:c0 t.c=1:=by simpa using k
  refine⟨{xE t with id:=t.i+1,time:=1},rfl,rfl,rfl,rfl,rfl,rfl,rfl,rfl,rfl,fun c=>c={xE t with id:=t.i+1,time:=if t.c.time.tmod 5=2 then 2 else 1},⟨rfl,by decide,Cv.cnd.mk (fun e=>⟨{xE t with id:=t.i+1,time:=2},rfl,rfl,rfl,rfl,rfl,rfl,rfl,rfl,rfl,?_,by(repeat'(first|exact trivial|exact rfl|apply And.intro))⟩) (fun e=>⟨{xE t with id:=t.i+1,time:=1},rfl,rfl,rfl,rfl,rfl,rfl,rfl,rfl,rfl,?_,by(repeat'(first|exact trivial|exact rfl|apply And.intro))⟩)⟩,fun c hcc=> ?_⟩
  ·have e:t.c.time.tmod 5=2:=by simpa using e
   rw[if_pos e]
  ·have e:¬t.c.time.tmod 5=2:=by simpa using e
   rw[if_neg e]
  subst hcc
  refine⟨{xE t with id:=t.i+1,time:=if t.c.time.tmod 5=2 then 2 else 1},rfl,rfl,rfl,rfl,rfl,rfl,rfl,rfl,rfl,fun c=>c={xE t with id:=t.i+1,time:=cY t.c},⟨rfl,by decide,Cv.cnd.mk (fun e=>⟨{xE t with id:=t.i+1,time:=3},rfl,rfl,rfl,rfl,rfl,rfl,rfl,rfl,rfl,?_,by(repeat'(first|exact trivial|exact rfl|apply And.intro))⟩) (fun e=>⟨{xE t with id:=t.i+1,time:=if t.c.time.tmod 5=2 then 2 else 1},rfl,rfl,rfl,rfl,rfl,rfl,rfl,rfl,rfl,?_,by(repeat'(first|exact trivial|exact rfl|apply And.intro))⟩)⟩,fun c hcc=> ?_⟩
  ·have e:t.c.time.tmod 5=3:=by simpa using e
   rw[cY,if_pos e]
  ·have e:¬t.c.time.tmod 5=3:=by simpa using e
   rw[cY,if_neg e]
  subst hcc
  have hq:(xE t).qty=1+zJ t.c.qty 0 11:=rfl
  refine⟨{xE t with id:=t.i+1,time:=cY t.c},rfl,rfl,rfl,rfl,rfl,rfl,rfl,rfl,rfl,fun c=>c={xE t with id:=t.i+1,time:=cY t.c,least:=rG t.c (xE t).qty},⟨rfl,by decide,Cv.cnd.mk (fun e=>⟨⟨t.c.least,0,(xE t).qty⟩,rfl,rfl,rfl,⟨r7,by dsimp only;omega,by dsimp only;omega,by dsimp only;omega⟩,fun _ _=>⟨{xE t with id:=t.i+1,time:=cY t.c,least:=zJ t.c.least 0 (xE t).qty},rfl,rfl,rfl,rfl,rfl,rfl,rfl,rfl,rfl,?_,by(repeat'(first|exact trivial|exact rfl|apply And.intro))⟩⟩) (fun e=>⟨{xE t with id:=t.i+1,time:=cY t.c},rfl,rfl,rfl,rfl,rfl,rfl,rfl,rfl,rfl,?_,by(repeat'(first|exact trivial|exact rfl|apply And.intro))⟩)⟩,fun c hcc=> ?_⟩
  ·have e:t.c.least.tmod 4=1:=by simpa using e
   rw[rG,if_pos e]
  ·have e:¬t.c.least.tmod 4=1:=by simpa using e
   rw[rG,if_neg e];rfl
  subst hcc
  refine⟨⟨t.p,(xE t).inst⟩,rfl,rfl,rfl,rfl,rfl,rfl,rfl,rfl,rfl,rfl,rfl,rfl,hs,fun _ _=> ?_⟩
  dsimp only
  have hp:(xE t).price=t.p.tick*zJ t.c.price 0 9:=rfl
  have hk1:(xE t).kind=1:=k
  rw[w64 (x:=8*t.p.tick) (by omega),w64 (x:=4*t.p.tick) (by omega),w64 (x:=(xE t).price+8*t.p.tick) (by omega),w64 (x:=(xE t).price-4*t.p.tick) (by omega)]
  refine Cv.cnd.mk (fun e=>⟨(),?_⟩) (fun e=>⟨(),?_⟩)
  ·have e:(t.p.legs (xE t).inst).2.2=false:=by simpa using e
   have:qX t={xE t with id:=t.i+1,time:=cY t.c,least:=rG t.c (xE t).qty,price:=(xE t).price+8*t.p.tick}:=by
    simp only[qX,hk1,if_true,e,Bool.false_eq_true,if_false]
   rw[this];(repeat'(first|exact trivial|exact rfl|apply And.intro))
  ·have e:(t.p.legs (xE t).inst).2.2=true:=by simpa using e
   have:qX t={xE t with id:=t.i+1,time:=cY t.c,least:=rG t.c (xE t).qty,price:=(xE t).price-4*t.p.tick}:=by
    simp only[qX,hk1,if_true,e]
   rw[this];(repeat'(first|exact trivial|exact rfl|apply And.intro))
 ·have k:¬c0 t.c=1:=by simpa using k
  have k:¬(xE t).kind=1:=k
  rw[w64 (x:=5*t.p.tick) (by omega),w64 (x:=t.p.tick*zJ t.c.price 0 9+5*t.p.tick) (by omega)]
  have et:qX t={xE t with price:=if(xE t).kind=4 then(xE t).price+5*t.p.tick else(xE t).price,side:=0,inst:=0}:=by
   simp only[qX,k,if_false]
  rw[et]
  refine Cv.cnd.mk (fun e=>⟨(),?_⟩) (fun e=>⟨(),?_⟩)
  ·have e:c0 t.c=4:=by simpa using e
   have e:(xE t).kind=4:=e
   simp only[if_pos e];(repeat'(first|exact trivial|exact rfl|apply And.intro))
  ·have e:¬c0 t.c=4:=by simpa using e
   have e:¬(xE t).kind=4:=e
   simp only[if_neg e];(repeat'(first|exact trivial|exact rfl|apply And.intro))
theorem tame_ok:tameC.ok Tryz.prog 21:=yKf (gokc zJn (gokc zTp (gokc z0m gok0))) yLv
open Go Cv Go.Proofs
structure ShI where
 a:Int
 b:Int
 c:Int
def add64C:Con:=con1 ShI (fun i=>[sB i.a,sB i.b,sB i.c]) (fun _=>[]) (fun i=>0≤i.a∧0≤i.b∧0≤i.c∧i.c≤1) (fun i=> .tup [sB ((i.a+i.b+i.c) % 18446744073709551616),sB ((i.a+i.b+i.c) / 18446744073709551616)]) (fun _=>[])
theorem z0t {P : Program} {f : FuncId} {fn : Func} (hf : P.funcs[f]? = some fn) (hname : (fn.name == "runtime.NumGoroutine") = false) (hb : fn.body.isNone = true) (hn : Extern.findNext fn = none) (he : Extern.find fn = some add64Entry) : add64C.ok P f := by
 intro i hc k L E w ys R hv
 obtain⟨h1,h2,h3,h4⟩:0≤i.a∧0≤i.b∧0≤i.c∧i.c≤1:=hc
 simp only[add64C,con1,VRL,VR,DR]at hv
 obtain⟨_,_,rfl,⟨rfl,_⟩,_,_,rfl,⟨rfl,_⟩,_,_,rfl,⟨rfl,_⟩,rfl⟩:=hv
 unfold Does
 rw[run_callFunc_extern hf hname hb hn he,run_add64 i.a i.b i.c h1 h2 h3 h4]
 simp only[Result.andThen]
 refine⟨_,List.mem_singleton.2 rfl,(),trivial,E,Ev.le.refl _,?_,R⟩
 simp only[add64C,con1,VR,VRL,DR]
 exact⟨_,rfl,_,_,rfl,⟨rfl,rfl⟩,_,_,rfl,⟨rfl,rfl⟩,rfl⟩
theorem z2b:add64C.ok Tryz.prog 157:=z0t Tryz.func157 (by kernel_rfl) (by kernel_rfl) (by kernel_rfl) (by kernel_rfl)
structure M2 where
 a:Int
 b:Int
def mul64C:Con:=con1 M2 (fun i=>[sB i.a,sB i.b]) (fun _=>[]) (fun i=>0≤i.a∧i.a≤2000000000∧0≤i.b∧i.b≤2000000000) (fun i=> .tup [sB 0,sB (i.a*i.b)]) (fun _=>[])
def div64C:Con:=con1 M2 (fun i=>[sB 0,sB i.a,sB i.b]) (fun _=>[]) (fun i=>0≤i.a∧i.a≤4000000000000000000∧1≤i.b∧i.b≤2000000000) (fun i=> .tup [sB (i.a / i.b),sB (i.a % i.b)]) (fun _=>[])
def ishareC:Con:=con1 ShI (fun i=>[zB i.a,zB i.b,zB i.c]) (fun _=>[]) (fun i=>0≤i.a∧i.a≤2000000000∧0≤i.b∧i.b≤2000000000∧1≤i.c∧i.c≤2000000000) (fun i=> .tup [zB (i.a*i.b / i.c),yO true]) (fun _=>[])
def isumC:Con:=con1 (List Int) (fun l=>[iV l]) (fun _=>[]) (fun l=>l.length≤1000∧∀x∈l,0≤x∧x≤1000000) (fun l=> .tup [zB l.sum,yO true]) (fun _=>[])
def yMb (l:List Int):List SAnn:=[{ι:=Nat,slots:=fun j=>[(4,sB (l.take j).sum),(5,zB 0),(11,zB j)],rows:=fun _=>[]}]
structure LqI where
 l:List Int
 q:Int
def yM (l:List Int) (q:Int):Bool:=decide (l.length≤250) && decide (0≤q) && l.all (fun n=>decide (1≤n) && decide (n≤1000000)) && decide (q≤l.sum)
def rightC:Con:=con1 LqI (fun i=>[iV i.l,zB i.q]) (fun _=>[]) (fun i=>i.l.length≤1000000∧yQ i.q) (fun i=>yO (yM i.l i.q)) (fun _=>[])
def yGo (i:LqI):List SAnn:=[{ι:=Nat,slots:=fun j=>[(5,zB (i.l.take j).sum),(17,zB j)],rows:=fun _=>[]}]
def vT:List Int→Int→List Int
 |[],_=>[]
 |n::l,q=>min n q::vT l (q-min n q)
def vX (l:List Int) (q:Int):List Int:=if yM l q=true then vT l q else[]
def fifoC:Con:=con1 LqI (fun i=>[iV i.l,zB i.q]) (fun _=>[]) (fun i=>i.l.length≤1000000∧yQ i.q) (fun _=> .own 0) (fun i=>[.own 2 1 (iE (vX i.l i.q))])
def yNg (i:LqI):List SAnn:=[{ι:=Nat,slots:=fun j=>[(5,.own 0),(1,zB (i.q-((vT i.l i.q).take j).sum)),(15,zB j)],rows:=fun j=>[.own 2 1 (iE ((vT i.l i.q).take j))]}]
open Go Cv Go.Proofs
def tN (a:M2):=(IntKind.u64.wrap (IntKind.u64.wrap (mU IntKind.u64 a.a (32:Int)*zDf IntKind.u64 a.b (4294967295:Int))+mU IntKind.u64 (IntKind.u64.wrap (zDf IntKind.u64 a.a (4294967295:Int)*zDf IntKind.u64 a.b (4294967295:Int))) (32:Int)))
def zTf (i:M2):Prop:=
 (0:Int)≤(32:Int)∧(0:Int)≤(32:Int)∧(0:Int)≤(32:Int)∧(0:Int)≤(32:Int)∧(0:Int)≤(32:Int)∧∃(a:Unit),0=IntKind.u64.wrap (IntKind.u64.wrap (IntKind.u64.wrap (mU IntKind.u64 i.a 32*mU IntKind.u64 i.b 32)+mU IntKind.u64 (tN i) 32)+mU IntKind.u64 (IntKind.u64.wrap (zDf IntKind.u64 (tN i) 4294967295+IntKind.u64.wrap (zDf IntKind.u64 i.a 4294967295*mU IntKind.u64 i.b 32))) 32)∧i.a*i.b=IntKind.u64.wrap (i.a*i.b)∧True
theorem yCm (hG:GOk Tryz.prog ([])) (h:∀(i:M2),mul64C.cnd i→zTf i):mul64C.ok Tryz.prog 150:=okw mixed hG 0 (fun _=>[]) (fun _=>[]) [] Tryz.func150 h
def zWq (i:M2):Prop:=
 cnd (i.b==0) False (cnd (decide (i.b≤0)) False (IntKind.u64=IntKind.u64∧i.b≠0∧IntKind.u64=IntKind.u64∧i.b≠0∧∃(a:Unit),i.a / i.b=IntKind.u64.wrap (i.a.tdiv i.b)∧i.a % i.b=i.a.tmod i.b∧True))
theorem yDl (hG:GOk Tryz.prog ([])) (h:∀(i:M2),div64C.cnd i→zWq i):div64C.ok Tryz.prog 151:=okw mixed hG 0 (fun _=>[]) (fun _=>[]) [] Tryz.func151 h
def zOl (i:ShI):Prop:=
 cnd (decide (i.a<0)) (∃(a:Unit),i.a*i.b / i.c=0∧true=false∧True) (cnd (decide (i.b<0)) (∃(a:Unit),i.a*i.b / i.c=0∧true=false∧True) (cnd (decide (i.c<1)) (∃(a:Unit),i.a*i.b / i.c=0∧true=false∧True) (∃(a:M2),a.a=IntKind.u64.wrap i.a∧a.b=IntKind.u64.wrap i.b∧(0≤a.a∧a.a≤(2000000000:Int)∧(0:Int)≤a.b∧a.b≤2000000000)∧∀(b:Unit),True→cnd (decide (0≥IntKind.u64.wrap i.c)) (∃(c:Unit),i.a*i.b / i.c=0∧true=false∧True) (∃(c:M2),(0:Int)=(0:Int)∧c.a=a.a*a.b∧c.b=IntKind.u64.wrap i.c∧(0≤c.a∧c.a≤(4000000000000000000:Int)∧(1:Int)≤c.b∧c.b≤2000000000)∧∀(d:Unit),True→cnd (decide (c.a / c.b>9223372036854775807)) (∃(e:Unit),i.a*i.b / i.c=0∧true=false∧True) (∃(e:Unit),i.a*i.b / i.c=IntKind.i64.wrap (c.a / c.b)∧true=true∧True)))))
theorem z7v (hG:GOk Tryz.prog ([(150,mul64C),(151,div64C)])) (h:∀(i:ShI),ishareC.cnd i→zOl i):ishareC.ok Tryz.prog 143:=okw mixed hG 0 (fun _=>[]) (fun _=>[]) [] Tryz.func143 h
def z7y (l:List Int):Prop:=
 ∃(a:Nat),(List.take a l).sum=(0:Int)∧(0:Int)=0∧(↑a:Int)=0∧∃(b:Nat→Prop),∃(c:Nat→Nat),b a∧∀(d:Nat),b d→cnd (decide ((↑d:Int)<(↑(iE l).length:Int))) ((0≤(↑d:Int)∧(↑d:Int)<(↑(iE l).length:Int))∧∃(e:Int),zF (iE l) (↑d:Int).toNat 0 1=some [D.v (.int .i64 e)]∧∃(f:ShI),f.a=(List.take d l).sum∧f.b=IntKind.u64.wrap e∧f.c=0∧(0≤f.a∧0≤f.b∧0≤f.c∧f.c≤1)∧∀(g:Unit),True→(0:Int)≤(63:Int)∧∃(h:Nat),(List.take h l).sum=(f.a+f.b+f.c) % (18446744073709551616:Int)∧(0:Int)=IntKind.i64.wrap (0+IntKind.i64.wrap (mU IntKind.i64 e 63+IntKind.i64.wrap ((f.a+f.b+f.c) / (18446744073709551616:Int))))∧wT h d b c) ((0:Int)≤(63:Int)∧cnd (0 !=mU IntKind.i64 (IntKind.i64.wrap (List.take d l).sum) 63) (∃(e:Unit),l.sum=0∧true=false∧True) (∃(e:Unit),l.sum=IntKind.i64.wrap (List.take d l).sum∧true=true∧True))
theorem yIf (hG:GOk Tryz.prog ([(157,add64C)])) (h:∀(l:List Int),isumC.cnd l→z7y l):isumC.ok Tryz.prog 154:=okw mixed hG 0 (fun _=>[]) (fun l=>yMb l) [] Tryz.func154 h
def zVh (i:LqI):Prop:=
 cnd (decide ((↑(iE i.l).length:Int)>250)) (∃(a:Unit),yM i.l i.q=false∧True) (cnd (decide (i.q<0)) (∃(a:Unit),yM i.l i.q=false∧True) (∃(a:Nat),(List.take a i.l).sum=0∧(↑a:Int)=0∧∃(b:Nat→Prop),∃(c:Nat→Nat),b a∧∀(d:Nat),b d→cnd (decide ((↑d:Int)<(↑(iE i.l).length:Int))) ((0≤(↑d:Int)∧(↑d:Int)<(↑(iE i.l).length:Int))∧∃(e:Int),zF (iE i.l) (↑d:Int).toNat 0 1=some [D.v (.int .i64 e)]∧cnd (decide (e<1)) (∃(f:Unit),yM i.l i.q=false∧True) (cnd (decide (e>1000000)) (∃(f:Unit),yM i.l i.q=false∧True) (∃(f:Nat),(List.take f i.l).sum=IntKind.i64.wrap ((List.take d i.l).sum+e)∧wT f d b c))) (∃(e:Unit),yM i.l i.q=decide (i.q≤(List.take d i.l).sum)∧True)))
theorem yAh (hG:GOk Tryz.prog ([])) (h:∀(i:LqI),rightC.cnd i→zVh i):rightC.ok Tryz.prog 141:=okw mixed hG 0 (fun _=>[]) (fun i=>yGo i) [] Tryz.func141 h
def jS (a:LqI):Prop:=a.l.length≤(1000000:Nat)∧(-9223372036854775808:Int)≤a.q∧a.q≤9223372036854775807
def jQ (a:Nat) (b:LqI):=(List.take a (vT b.l b.q))
def z5i (i:LqI):Prop:=
 ∃(a:LqI),iE a.l=iE i.l∧a.q=i.q∧(jS a)∧∀(b:Unit),True→cnd (!yM a.l a.q) (∃(c:Unit),iE (vX i.l i.q)=[]∧True) (∃(c:Nat),i.q-(jQ c i).sum=i.q∧(↑c:Int)=0∧iE (jQ c i)=[]∧∃(d:Nat→Prop),∃(e:Nat→Nat),d c∧∀(f:Nat),d f→cnd (decide ((↑f:Int)<(↑(iE i.l).length:Int))) ((0≤(↑f:Int)∧(↑f:Int)<(↑(iE i.l).length:Int))∧∃(g:Int),zF (iE i.l) (↑f:Int).toNat 0 1=some [D.v (.int .i64 g)]∧((iE (jQ f i)).length+1)*(8:Nat)≤(70368744177664:Nat)∧∃(h:Nat),i.q-(jQ h i).sum=IntKind.i64.wrap (i.q-(jQ f i).sum-min g (i.q-(jQ f i).sum))∧(↑h:Int)=IntKind.i64.wrap ((↑f:Int)+1)∧iE (jQ h i)=iE (jQ f i)++[[D.v (.int .i64 (min g (i.q-(jQ f i).sum)))]]∧d h∧e h<e f∧True) (∃(g:Unit),iE (vX i.l i.q)=iE (jQ f i)∧True))
theorem yJa (hG:GOk Tryz.prog ([(141,rightC)])) (h:∀(i:LqI),fifoC.cnd i→z5i i):fifoC.ok Tryz.prog 128:=okw mixed hG 0 (fun _=>[]) (fun i=>yNg i) [] Tryz.func128 h
open Go Cv Go.Proofs
theorem zLz {x:Int} (h0:0≤x) (h1:x<4294967296):zDf .u64 x 4294967295=x:=by
 have e:zDf .u64 x 4294967295=IntKind.u64.wrap ((BitVec.ofInt 64 x &&& BitVec.ofInt 64 4294967295).toNat:Int):=rfl
 obtain⟨n,rfl⟩:=Int.eq_ofNat_of_zero_le h0
 have hn:n<4294967296:=by omega
 rw[e,BitVec.toNat_and,BitVec.ofInt_natCast,BitVec.toNat_ofNat,show(BitVec.ofInt 64 4294967295).toNat=2 ^ 32-1 by decide,Nat.and_two_pow_sub_one_eq_mod]
 rw[show n % 2 ^ 64 % 2 ^ 32=n by omega,zFw (by omega)]
theorem zDx {x:Int} (h0:0≤x) (h1:x<4294967296):mU .u64 x 32=0:=by
 have:=zDw .u64 x 32 (by decide)
 rw[show((32:Nat):Int)=32 by rfl]at this
 rw[this];omega
theorem zZs {a b m n:Int} (ha:0≤a∧a≤m) (hb:0≤b∧b≤n):0≤a*b∧a*b≤m*n:=
 ⟨Int.mul_nonneg ha.1 hb.1,Int.mul_le_mul ha.2 hb.2 hb.1 (by omega)⟩
theorem yLk (i:M2) (h:mul64C.cnd i):zTf i:=by
 obtain⟨h1,h2,h3,h4⟩:0≤i.a∧i.a≤2000000000∧0≤i.b∧i.b≤2000000000:=h
 have hm:=zZs ⟨h1,h2⟩ ⟨h3,h4⟩
 have hs:mU IntKind.u64 (i.a*i.b) 32=(i.a*i.b) / 4294967296:=by
  have:=zDw .u64 (i.a*i.b) 32 (by decide)
  rw[show((32:Nat):Int)=32 by rfl]at this
  exact this
 unfold zTf tN
 refine⟨by decide,by decide,by decide,by decide,by decide,(),?_,?_,trivial⟩
 ·rw[zLz h1 (by omega),zLz h3 (by omega),zDx h1 (by omega),zDx h3 (by omega),zFw (x:=i.a*i.b) (by omega),hs]
  simp only[Int.zero_mul,Int.mul_zero,Int.zero_add,Int.add_zero]
  rw[zFw (x:=0) (by omega)]
  simp only[Int.zero_add,Int.add_zero]
  rw[zFw (x:=i.a*i.b / 4294967296) (by omega),zDx (x:=i.a*i.b / 4294967296) (by omega) (by omega),zLz (x:=i.a*i.b / 4294967296) (by omega) (by omega),zFw (x:=i.a*i.b / 4294967296) (by omega),zDx (x:=i.a*i.b / 4294967296) (by omega) (by omega)]
  rfl
 ·rw[zFw (by omega)]
theorem z8q:mul64C.ok Tryz.prog 150:=yCm gok0 yLk
theorem yHn (i:M2) (h:div64C.cnd i):zWq i:=by
 obtain⟨h1,h2,h3,h4⟩:0≤i.a∧i.a≤4000000000000000000∧1≤i.b∧i.b≤2000000000:=h
 unfold zWq
 have hd:0≤i.a / i.b∧i.a / i.b≤i.a:=⟨Int.ediv_nonneg h1 (by omega),Int.ediv_le_self _ h1⟩
 refine Cv.cnd.mk (fun c=>absurd (eq_of_beq c) (by omega)) (fun _=>zK (fun c=>by omega) (fun _=>⟨rfl,by omega,rfl,by omega,(),?_,?_,trivial⟩))
 ·rw[Int.tdiv_eq_ediv_of_nonneg h1,zFw (by omega)]
 ·rw[Int.tmod_eq_emod_of_nonneg h1]
theorem z8w:div64C.ok Tryz.prog 151:=yDl gok0 yHn
theorem yAu (i:ShI) (h:ishareC.cnd i):zOl i:=by
 obtain⟨h1,h2,h3,h4,h5,h6⟩:0≤i.a∧i.a≤2000000000∧0≤i.b∧i.b≤2000000000∧1≤i.c∧i.c≤2000000000:=h
 have hm:=zZs ⟨h1,h2⟩ ⟨h3,h4⟩
 have hd:0≤i.a*i.b / i.c∧i.a*i.b / i.c≤i.a*i.b:=⟨Int.ediv_nonneg hm.1 (by omega),Int.ediv_le_self _ hm.1⟩
 unfold zOl
 rw[zFw (x:=i.a) (by omega),zFw (x:=i.b) (by omega),zFw (x:=i.c) (by omega)]
 refine zK (fun c=>by omega) (fun _=>zK (fun c=>by omega) (fun _=>zK (fun c=>by omega) (fun _=>⟨⟨i.a,i.b⟩,rfl,rfl,⟨h1,h2,h3,h4⟩,fun _ _=>zK (fun c=>by omega) (fun _=>⟨⟨i.a*i.b,i.c⟩,rfl,rfl,rfl,⟨hm.1,by dsimp only;omega,h5,h6⟩,fun _ _=>zK (fun c=>by dsimp only at c;omega) (fun _=>⟨(),?_,rfl,trivial⟩)⟩)⟩)))
 rw[w64 (by dsimp only;omega)]
theorem zLe:ishareC.ok Tryz.prog 143:=z7v (gokc z8q (gokc z8w gok0)) yAu
theorem wjn {j:Nat} (h:j≤1000000):((j+1:Nat):Int)=IntKind.i64.wrap ((j:Int)+1):=by rw[w64 (by omega)];rfl
theorem jG {l:List Int} {j:Nat} {x:Int} (h:l[j]? =some x):(l.take (j+1)).sum=(l.take j).sum+x:=by
 rw[List.take_add_one,h];simp
theorem k7 {l:List Int} (h:∀x∈l,0≤x∧x≤1000000):∀j:Nat,0≤(l.take j).sum∧(l.take j).sum≤1000000*j
 |0=>by simp
 |j+1=>by
  have ih:=k7 h j
  cases hx:l[j]? with
  |none=>
   have:l.take (j+1)=l.take j:=by
    rw[List.take_add_one,hx];simp
   rw[this];omega
  |some x=>
   have:=h x (List.mem_of_getElem? hx)
   rw[jG hx];omega
theorem yMs (l:List Int) (h:isumC.cnd l):z7y l:=by
 obtain⟨hl,hb⟩:l.length≤1000∧∀x∈l,0≤x∧x≤1000000:=h
 unfold z7y wT
 simp only[xI]
 refine⟨0,by(first|exact rfl|exact trivial),by(first|exact rfl|exact trivial),by(first|exact rfl|exact trivial),fun j=>j≤l.length,fun j=>l.length-j,Nat.zero_le _,fun j hj=>zK (fun c=> ?_) (fun c=> ?_)⟩
 ·have hj':j<l.length:=by omega
  obtain⟨x,hx⟩:=yA (l:=l) (i:=j) hj'
  have bx:=hb x (List.mem_of_getElem? hx)
  have bs:=k7 hb j
  refine⟨⟨by omega,by omega⟩,x,elI hx,⟨(l.take j).sum,x,0⟩,rfl,by rw[zFw (by omega)],rfl,⟨bs.1,bx.1,by dsimp only;omega,by dsimp only;omega⟩,fun _ _=>⟨by decide,j+1,?_,?_,wjn (by omega),hj',by dsimp only;omega,trivial⟩⟩
  ·rw[jG hx];dsimp only;omega
  ·have e:mU IntKind.i64 x 63=x / 9223372036854775808:=by
    have:=zDw .i64 x 63 (by decide)
    rw[show((63:Nat):Int)=63 by rfl]at this
    exact this
   dsimp only
   rw[e,show x / 9223372036854775808=0 by omega,show((l.take j).sum+x+0) / 18446744073709551616=0 by omega]
   rfl
 ·have hj':j=l.length:=by omega
  subst hj'
  have bs:=k7 hb l.length
  rw[List.take_length]at bs
  have e:mU IntKind.i64 l.sum 63=l.sum / 9223372036854775808:=by
   have:=zDw .i64 l.sum 63 (by decide)
   rw[show((63:Nat):Int)=63 by rfl]at this
   exact this
  rw[List.take_length,w64 (x:=l.sum) (by omega),e,show l.sum / 9223372036854775808=0 by omega]
  exact⟨by decide,Cv.cnd.mk (fun c=>absurd c (by decide)) (fun _=>⟨(),by(first|exact rfl|exact trivial),by(first|exact rfl|exact trivial),trivial⟩)⟩
theorem yDg:isumC.ok Tryz.prog 154:=yIf (gokc z2b gok0) yMs
theorem yKz (i:LqI) (h:rightC.cnd i):zVh i:=by
 obtain⟨hl,hq⟩:i.l.length≤1000000∧yQ i.q:=h
 unfold zVh wT
 simp only[xI]
 refine zK (fun c=>⟨(),?_,trivial⟩) (fun c1=>zK (fun c=>⟨(),?_,trivial⟩) (fun c2=> ?_))
 ·rw[yM,decide_eq_false (by omega:¬i.l.length≤250)];rfl
 ·rw[yM,decide_eq_false (by omega:¬0≤i.q)];simp
 refine⟨0,by(first|exact rfl|exact trivial),by(first|exact rfl|exact trivial),fun j=>j≤i.l.length∧∀k<j,∀x,i.l[k]? =some x→1≤x∧x≤1000000,fun j=>i.l.length-j,⟨Nat.zero_le _,fun k hk=>absurd hk (Nat.not_lt_zero k)⟩,fun j hj=>zK (fun c=> ?_) (fun c=> ?_)⟩
 ·obtain⟨hj0,hjb⟩:=hj
  have hj':j<i.l.length:=by omega
  obtain⟨x,hx⟩:=yA (l:=i.l) (i:=j) hj'
  have bad (hn:¬(1≤x∧x≤1000000)):yM i.l i.q=false:=by
   have:(i.l.all fun n=>decide (1≤n) && decide (n≤1000000))=false:=by
    rw[List.all_eq_false]
    exact⟨x,List.mem_of_getElem? hx,by simpa using hn⟩
   rw[yM,this];simp
  have bs:0≤(i.l.take j).sum∧(i.l.take j).sum≤1000000*j:=by
   have:=k7 (l:=i.l.take j) (fun y hy=>by
    obtain⟨k,hk⟩:=List.mem_iff_getElem?.1 hy
    have hkj:k<j:=by
     have:=(List.getElem?_eq_some_iff.1 hk).1
     rw[List.length_take]at this;omega
    rw[List.getElem?_take_of_lt hkj]at hk
    have:=hjb k hkj y hk;omega) j
   rwa [List.take_take,Nat.min_self]at this
  refine⟨⟨by omega,by omega⟩,x,elI hx,zK (fun d=>⟨(),bad (by omega),trivial⟩) (fun d=>zK (fun e=>⟨(),bad (by omega),trivial⟩) (fun e=>⟨j+1,?_,wjn (by omega),⟨hj',fun k hk y hy=> ?_⟩,by dsimp only;omega,trivial⟩))⟩
  ·rw[jG hx,w64 (by omega)]
  ·by_cases hkj:k=j
   ·rw[hkj,hx]at hy;cases hy;omega
   ·exact hjb k (by omega) y hy
 ·obtain⟨hj0,hjb⟩:=hj
  have hj':j=i.l.length:=by omega
  subst hj'
  have:(i.l.all fun n=>decide (1≤n) && decide (n≤1000000))=true:=by
   rw[List.all_eq_true]
   intro y hy
   obtain⟨k,hk⟩:=List.mem_iff_getElem?.1 hy
   have:=hjb k ((List.getElem?_eq_some_iff.1 hk).1) y hk
   simpa using this
  refine⟨(),?_,trivial⟩
  rw[yM,this,decide_eq_true (by omega:i.l.length≤250),decide_eq_true (by omega:0≤i.q),List.take_length]
  rfl
theorem lX:rightC.ok Tryz.prog 141:=yAh gok0 yKz
theorem kW {l:List Int} {q:Int} (h:yM l q=true):l.length≤250∧0≤q∧(∀x∈l,1≤x∧x≤1000000)∧q≤l.sum:=by
 simp only[yM,Bool.and_eq_true,decide_eq_true_eq,List.all_eq_true]at h
 exact⟨h.1.1.1,h.1.1.2,h.1.2,h.2⟩
theorem zDt {l:List Int} {q:Int} (h:yM l q=true):q≤250000000:=by
 obtain⟨h1,h2,h3,h4⟩:=kW h
 have:=k7 (l:=l) (fun x hx=>by have:=h3 x hx;omega) l.length
 rw[List.take_length]at this
 omega
theorem nN:∀(l:List Int) (q:Int),(vT l q).length=l.length
 |[],_=>rfl
 |n::l,q=>by rw[vT,List.length_cons,List.length_cons,nN l]
theorem zHd:∀(l:List Int) (q:Int) (j:Nat) (n:Int),l[j]? =some n→(vT l q)[j]? =some (min n (q-((vT l q).take j).sum))
 |[],_,_,_,h=>by simp at h
 |m::l,q,0,n,h=>by simp at h;subst h;simp[vT]
 |m::l,q,j+1,n,h=>by
  rw[List.getElem?_cons_succ]at h
  rw[vT,List.getElem?_cons_succ,zHd l _ j n h,List.take_succ_cons,List.sum_cons]
  congr 2;omega
theorem zAj:∀(l:List Int) (q:Int) (j:Nat),0≤q→(∀x∈l,0≤x)→0≤q-((vT l q).take j).sum∧q-((vT l q).take j).sum≤q
 |[],q,j,h,_=>by simp[vT,h]
 |m::l,q,0,h,_=>by simp[h]
 |m::l,q,j+1,h,hb=>by
  have hm:=hb m List.mem_cons_self
  have:=zAj l (q-min m q) j (by omega) (fun x hx=>hb x (List.mem_cons_of_mem _ hx))
  rw[vT,List.take_succ_cons,List.sum_cons]
  omega
theorem yNa (i:LqI) (h:fifoC.cnd i):z5i i:=by
 obtain⟨hl,hq⟩:i.l.length≤1000000∧yQ i.q:=h
 unfold z5i jQ jS
 refine⟨i,rfl,rfl,⟨hl,hq⟩,fun _ _=>Cv.cnd.mk (fun c=> ?_) (fun c=> ?_)⟩
 ·have c:yM i.l i.q=false:=by simpa using c
  refine⟨(),?_,trivial⟩
  rw[vX,if_neg (by rw[c];decide)];rfl
 have c:yM i.l i.q=true:=by simpa using c
 obtain⟨h1,h2,h3,h4⟩:=kW c
 have hq2:=zDt c
 have h3':∀x∈i.l,0≤x:=fun x hx=>by have:=h3 x hx;omega
 simp only[xI]
 refine⟨0,by simp,rfl,rfl,fun j=>j≤i.l.length,fun j=>i.l.length-j,Nat.zero_le _,fun j hj=>zK (fun d=> ?_) (fun d=> ?_)⟩
 ·have hj':j<i.l.length:=by omega
  obtain⟨x,hx⟩:=yA (l:=i.l) (i:=j) hj'
  have bx:=h3 x (List.mem_of_getElem? hx)
  have g:=zHd i.l i.q j x hx
  have r:=zAj i.l i.q j h2 h3'
  refine⟨⟨by omega,by omega⟩,x,elI hx,by rw[List.length_take];omega,j+1,?_,wjn (by omega),?_,hj',by dsimp only;omega,trivial⟩
  ·rw[jG g,w64 (by omega)];omega
  ·rw[List.take_add_one,g];simp[iE]
 ·have hj':j=i.l.length:=by omega
  subst hj'
  refine⟨(),?_,trivial⟩
  rw[vX,if_pos c,List.take_of_length_le (by rw[nN];omega)]
theorem zZw:fifoC.ok Tryz.prog 128:=yJa (gokc lX gok0) yNa
open Go Cv Go.Proofs
structure Ent where
 slot:Int
 id:Int
 qty:Int
 top:Bool
 deriving DecidableEq
def yNr:Ent:=⟨0,0,0,false⟩
def zDd (e:Ent):List D:=[.v (.int .i64 e.slot),.v (.int .i64 e.id),.v (.int .i64 e.qty),.v (.bool e.top)]
@[reducible] def yOx (e:Ent):V:= .agg [zB e.slot,zB e.id,zB e.qty,yO e.top]
def Slot.ent (s:Slot):Ent:=⟨s.n,s.id,s.qty,s.top⟩
def Arena.slotAt (a:Arena) (k:Nat):Slot:=a.slots.getD k slot0
def Arena.getF (a:Arena) (n:Int):Ent×Bool:=if a.usedAt n=true then((a.slotAt n.toNat).ent,true)else(yNr,false)
def agetC:Con:=con1 ArN (fun i=>[.nm 0 0,zB i.n]) (fun i=>[jD i.a]) (fun i=>i.a.slots.length≤1000000) (fun i=> .tup [yOx (i.a.getF i.n).1,yO (i.a.getF i.n).2]) (fun i=>[jD i.a])
def zRa (sl:List Slot):Int→List Nat→Prop
 |at_,[]=>at_= -1
 |at_,k::l=>at_=k∧k<sl.length∧zRa sl (sl.getD k slot0).back l
structure ArL where
 a:Arena
 n:Int
 l:List Nat
def mS (l:List Nat) (j:Nat):Int:=match l[j]? with
 |some k=>k
 |none=> -1
def Arena.ents (a:Arena) (l:List Nat):List Ent:=l.map fun k=>(a.slotAt k).ent
structure Arena.listOk (a:Arena) (n:Int) (l:List Nat):Prop where
 len:l.length≤1000000
 ch:if 0≤n∧n<a.queues.length then zRa a.slots (a.queues.getD n.toNat dG).first l else l=[]
def alistC:Con:=con1 ArL (fun i=>[.nm 0 0,zB i.n]) (fun i=>[jD i.a]) (fun i=>i.a.listOk i.n i.l) (fun _=> .own 1) (fun i=>[jD i.a,.own 168 4 ((i.a.ents i.l).map zDd)])
def yIc (i:ArL):List SAnn:=[{ι:=Nat,slots:=fun j=>[(5,.own 0),(6,zB (mS i.l j))],rows:=fun j=>[.own 168 4 ((i.a.ents (i.l.take j)).map zDd)]}]
structure TkI where
 a:Arena
 n:Int
 qty:Int
def Arena.dropF (a:Arena) (k:Nat):Arena:=
 let s:=a.slotAt k
 let q:=a.queues.getD s.queue.toNat dG
 let sl1:=if s.ahead= -1 then a.slots else a.slots.modify s.ahead.toNat fun x=>{x with back:=s.back}
 let sl2:=if s.back= -1 then sl1 else sl1.modify s.back.toNat fun x=>{x with ahead:=s.ahead}
 ⟨sl2.set k slot0,a.queues.set s.queue.toNat ⟨if s.ahead= -1 then s.back else q.first,if s.back= -1 then s.ahead else q.last,q.total,IntKind.i64.wrap (q.count-1)⟩,IntKind.i64.wrap (a.free+1)⟩
def Arena.less (a:Arena) (k:Nat) (qty:Int):Arena:=
 {a with slots:=a.slots.modify k fun s=>{s with qty:=s.qty-qty},queues:=a.queues.modify (a.slotAt k).queue.toNat fun q=>{q with total:=IntKind.i64.wrap (q.total-qty)}}
def Arena.takeF (a:Arena) (n qty:Int):Arena×Int:=
 if a.usedAt n=false then(a,26)else if qty<1∨(a.slotAt n.toNat).qty<qty then(a,24)
 else if(a.slotAt n.toNat).qty=qty then((a.less n.toNat qty).dropF n.toNat,0)else(a.less n.toNat qty,0)
def Arena.okAt (a:Arena):Prop:=a.slots.length≤1000000∧∀(k:Nat) (s:Slot),a.slots[k]? =some s→s.used=true→(0≤s.queue∧s.queue<a.queues.length)∧s.qty≤1000000∧(s.ahead= -1∨(0≤s.ahead∧s.ahead<a.slots.length∧s.ahead≠k))∧(s.back= -1∨(0≤s.back∧s.back<a.slots.length∧s.back≠k))
def atakeC:Con:=con1 TkI (fun i=>[.nm 0 0,zB i.n,zB i.qty]) (fun i=>[jD i.a]) (fun i=>i.a.okAt) (fun i=>zB (i.a.takeF i.n i.qty).2) (fun i=>[jD (i.a.takeF i.n i.qty).1])
open Go Cv Go.Proofs
def eX (a:ArN):Prop:=∃(b:Unit),(a.a.getF a.n).fst.slot=0∧(a.a.getF a.n).fst.id=0∧(a.a.getF a.n).fst.qty=0∧(a.a.getF a.n).fst.top=false∧(a.a.getF a.n).snd=false∧jA a
def z4x (i:ArN):Prop:=
 cnd (decide (i.n<0)) (eX i) (cnd (decide (i.n≥(↑(List.map zR i.a.slots).length:Int))) (eX i) ((0≤i.n∧i.n<(↑(List.map zR i.a.slots).length:Int))∧∃(a:Bool),zF (List.map zR i.a.slots) i.n.toNat ((0:Nat)+(0:Nat)) 1=some [D.v (.bool a)]∧cnd (!a) (eX i) ((0≤i.n∧i.n<(↑(List.map zR i.a.slots).length:Int))∧∃(b:Int),∃(c:Int),∃(d:Int),∃(e:Bool),zF (List.map zR i.a.slots) i.n.toNat ((0:Nat)+(1:Nat)) 4=some [D.v (.int .i64 b),D.v (.int .i64 c),D.v (.int .i64 d),D.v (.bool e)]∧∃(f:Unit),(i.a.getF i.n).fst.slot=b∧(i.a.getF i.n).fst.id=c∧(i.a.getF i.n).fst.qty=d∧(i.a.getF i.n).fst.top=e∧(i.a.getF i.n).snd=true∧jA i)))
theorem yLa (hG:GOk Tryz.prog ([])) (h:∀(i:ArN),agetC.cnd i→z4x i):agetC.ok Tryz.prog 99:=okw mixed hG 1 (fun _=>[]) (fun _=>[]) [0] Tryz.func99 h
def sH (a:ArL):Prop:=∃(b:Unit),a.a.free=a.a.free∧List.map zR a.a.slots=List.map zR a.a.slots∧List.map zN a.a.queues=List.map zN a.a.queues∧List.map zDd (a.a.ents a.l)=[]∧True
def zVl (i:ArL):Prop:=
 cnd (decide (i.n≥0)) (cnd (!decide (i.n<(↑(List.map zN i.a.queues).length:Int))) (sH i) ((0≤i.n∧i.n<(↑(List.map zN i.a.queues).length:Int))∧∃(a:Int),zF (List.map zN i.a.queues) i.n.toNat ((0:Nat)+(0:Nat)) 1=some [D.v (.int .i64 a)]∧∃(b:Nat),mS i.l b=a∧List.map zDd (i.a.ents (List.take b i.l))=[]∧∃(c:Nat→Prop),∃(d:Nat→Nat),c b∧∀(e:Nat),c e→cnd (mS i.l e !=(-1)) ((0≤mS i.l e∧mS i.l e<(↑(List.map zR i.a.slots).length:Int))∧∃(f:Int),∃(g:Int),∃(h:Int),∃(j:Bool),zF (List.map zR i.a.slots) (mS i.l e).toNat ((0:Nat)+(1:Nat)) 4=some [D.v (.int .i64 f),D.v (.int .i64 g),D.v (.int .i64 h),D.v (.bool j)]∧((List.map zDd (i.a.ents (List.take e i.l))).length+1)*(32:Nat)≤(70368744177664:Nat)∧(0≤mS i.l e∧mS i.l e<(↑(List.map zR i.a.slots).length:Int))∧∃(k:Int),zF (List.map zR i.a.slots) (mS i.l e).toNat ((0:Nat)+(7:Nat)) 1=some [D.v (.int .i64 k)]∧∃(l:Nat),mS i.l l=k∧List.map zDd (i.a.ents (List.take l i.l))=List.map zDd (i.a.ents (List.take e i.l))++[[D.v (.int .i64 f),D.v (.int .i64 g),D.v (.int .i64 h),D.v (.bool j)]]∧c l∧d l<d e∧Sx.AObj.cells (hZ (jP 0 1 3) [V.own 1,V.own 2,zB i.a.free]) (185:TypeId)=Sx.AObj.cells (hZ (jP 0 1 3) [V.own 1,V.own 2,zB i.a.free]) (185:TypeId)∧AObj.own 193 8 (List.map zR i.a.slots)=AObj.own 193 8 (List.map zR i.a.slots)∧AObj.own 199 4 (List.map zN i.a.queues)=AObj.own 199 4 (List.map zN i.a.queues)) (∃(f:Unit),i.a.free=i.a.free∧List.map zR i.a.slots=List.map zR i.a.slots∧List.map zN i.a.queues=List.map zN i.a.queues∧List.map zDd (i.a.ents i.l)=List.map zDd (i.a.ents (List.take e i.l))∧True))) (sH i)
theorem yAm (hG:GOk Tryz.prog ([])) (h:∀(i:ArL),alistC.cnd i→zVl i):alistC.ok Tryz.prog 140:=okw mixed hG 1 (fun _=>[]) (fun i=>yIc i) [0] Tryz.func140 h
def tH (a:TkI):Prop:=(a.a.takeF a.n a.qty).fst.free=a.a.free∧List.map zR (a.a.takeF a.n a.qty).fst.slots=List.map zR a.a.slots∧List.map zN (a.a.takeF a.n a.qty).fst.queues=List.map zN a.a.queues∧True
def aX (a:TkI):Prop:=∃(b:Unit),(a.a.takeF a.n a.qty).snd=26∧tH a
def tO (a:TkI):Prop:=∃(b:Unit),(a.a.takeF a.n a.qty).snd=24∧tH a
def y9 (a:TkI) (b:Int):=(yC (List.map zR a.a.slots) a.n.toNat ((0:Nat)+(1:Nat)+(2:Nat)) [D.v (.int .i64 (IntKind.i64.wrap (b-a.qty)))])
def jF (a:TkI) (b:Int) (c:Int) (d:Int):=(yC (y9 a b) c.toNat ((0:Nat)+(7:Nat)) [D.v (.int .i64 d)])
def r9 (a:TkI) (b:Int) (c:Int) (d:Int) (e:Int) (f:Int):=(yC (jF a b c d) e.toNat ((0:Nat)+(6:Nat)) [D.v (.int .i64 f)])
def j5 (a:TkI) (b:Int) (c:Int):=(yC (List.map zN a.a.queues) b.toNat ((0:Nat)+(2:Nat)) [D.v (.int .i64 (IntKind.i64.wrap (c-a.qty)))])
def gS (a:TkI) (b:Int) (c:Int) (d:Int) (e:Int):=(yC (j5 a b c) d.toNat ((0:Nat)+(0:Nat)) [D.v (.int .i64 e)])
def aT (a:TkI) (b:Int) (c:Int) (d:Int) (e:Int) (f:Int):=(yC (gS a b c d e) d.toNat ((0:Nat)+(1:Nat)) [D.v (.int .i64 f)])
def sF (a:TkI) (b:Int) (c:Int) (d:Int):=(yC (y9 a b) c.toNat ((0:Nat)+(6:Nat)) [D.v (.int .i64 d)])
def aS (a:TkI) (b:Int) (c:Int) (d:Int) (e:Int):=(yC (j5 a b c) d.toNat ((0:Nat)+(1:Nat)) [D.v (.int .i64 e)])
def sA (a:Int) (b:TkI) (c:Int):Prop:=0≤a∧a<(↑(y9 b c).length:Int)
def zTm (i:TkI):Prop:=
 cnd (decide (i.n<0)) (aX i) (cnd (decide (i.n≥(↑(List.map zR i.a.slots).length:Int))) (aX i) ((0≤i.n∧i.n<(↑(List.map zR i.a.slots).length:Int))∧∃(a:Bool),zF (List.map zR i.a.slots) i.n.toNat ((0:Nat)+(0:Nat)) 1=some [D.v (.bool a)]∧cnd (!a) (aX i) ((0≤i.n∧i.n<(↑(List.map zR i.a.slots).length:Int))∧cnd (decide (i.qty<1)) (tO i) (∃(b:Int),zF (List.map zR i.a.slots) i.n.toNat ((0:Nat)+(1:Nat)+2) 1=some [D.v (.int .i64 b)]∧cnd (decide (i.qty>b)) (tO i) (∃(c:Int),zF (List.map zR i.a.slots) i.n.toNat ((0:Nat)+(1:Nat)+2) 1=some [D.v (.int .i64 c)]∧i.n.toNat<(List.map zR i.a.slots).length∧∃(d:Int),zF (y9 i c) i.n.toNat ((0:Nat)+(5:Nat)) 1=some [D.v (.int .i64 d)]∧(0≤d∧d<(↑(List.map zN i.a.queues).length:Int))∧∃(e:Int),zF (List.map zN i.a.queues) d.toNat ((0:Nat)+(2:Nat)) 1=some [D.v (.int .i64 e)]∧(0≤d∧d<(↑(List.map zN i.a.queues).length:Int))∧d.toNat<(List.map zN i.a.queues).length∧∃(f:Int),zF (y9 i c) i.n.toNat ((0:Nat)+(1:Nat)+2) 1=some [D.v (.int .i64 f)]∧cnd (f==0) (∃(g:Int),zF (y9 i c) i.n.toNat ((0:Nat)+(5:Nat)) 1=some [D.v (.int .i64 g)]∧(0≤g∧g<(↑(j5 i d e).length:Int))∧∃(h:Int),zF (y9 i c) i.n.toNat ((0:Nat)+(6:Nat)) 1=some [D.v (.int .i64 h)]∧cnd (h==(-1)) (∃(j:Int),zF (y9 i c) i.n.toNat ((0:Nat)+(7:Nat)) 1=some [D.v (.int .i64 j)]∧g.toNat<(j5 i d e).length∧∃(k:Int),zF (y9 i c) i.n.toNat ((0:Nat)+(7:Nat)) 1=some [D.v (.int .i64 k)]∧cnd (k==(-1)) (∃(l:Int),zF (y9 i c) i.n.toNat ((0:Nat)+(6:Nat)) 1=some [D.v (.int .i64 l)]∧g.toNat<(gS i d e g j).length∧∃(m:Int),zF (aT i d e g j l) g.toNat ((0:Nat)+(3:Nat)) 1=some [D.v (.int .i64 m)]∧g.toNat<(aT i d e g j l).length∧i.n.toNat<(y9 i c).length∧∃(n:Unit),(i.a.takeF i.n i.qty).snd=0∧(i.a.takeF i.n i.qty).fst.free=IntKind.i64.wrap (i.a.free+1)∧List.map zR (i.a.takeF i.n i.qty).fst.slots=yC (y9 i c) i.n.toNat 0 [D.v (.bool false),D.v (.int .i64 0),D.v (.int .i64 0),D.v (.int .i64 0),D.v (.bool false),D.v (.int .i64 0),D.v (.int .i64 0),D.v (.int .i64 0)]∧List.map zN (i.a.takeF i.n i.qty).fst.queues=yC (aT i d e g j l) g.toNat ((0:Nat)+(3:Nat)) [D.v (.int .i64 (IntKind.i64.wrap (m-1)))]∧True) (∃(l:Int),zF (y9 i c) i.n.toNat ((0:Nat)+(7:Nat)) 1=some [D.v (.int .i64 l)]∧∃(m:Int),zF (y9 i c) i.n.toNat ((0:Nat)+(6:Nat)) 1=some [D.v (.int .i64 m)]∧(sA l i c)∧l.toNat<(y9 i c).length∧∃(n:Int),zF (gS i d e g j) g.toNat ((0:Nat)+(3:Nat)) 1=some [D.v (.int .i64 n)]∧g.toNat<(gS i d e g j).length∧i.n.toNat<(sF i c l m).length∧∃(p:Unit),(i.a.takeF i.n i.qty).snd=0∧(i.a.takeF i.n i.qty).fst.free=IntKind.i64.wrap (i.a.free+1)∧List.map zR (i.a.takeF i.n i.qty).fst.slots=yC (sF i c l m) i.n.toNat 0 [D.v (.bool false),D.v (.int .i64 0),D.v (.int .i64 0),D.v (.int .i64 0),D.v (.bool false),D.v (.int .i64 0),D.v (.int .i64 0),D.v (.int .i64 0)]∧List.map zN (i.a.takeF i.n i.qty).fst.queues=yC (gS i d e g j) g.toNat ((0:Nat)+(3:Nat)) [D.v (.int .i64 (IntKind.i64.wrap (n-1)))]∧True)) (∃(j:Int),zF (y9 i c) i.n.toNat ((0:Nat)+(6:Nat)) 1=some [D.v (.int .i64 j)]∧∃(k:Int),zF (y9 i c) i.n.toNat ((0:Nat)+(7:Nat)) 1=some [D.v (.int .i64 k)]∧(sA j i c)∧j.toNat<(y9 i c).length∧∃(l:Int),zF (jF i c j k) i.n.toNat ((0:Nat)+(7:Nat)) 1=some [D.v (.int .i64 l)]∧cnd (l==(-1)) (∃(m:Int),zF (jF i c j k) i.n.toNat ((0:Nat)+(6:Nat)) 1=some [D.v (.int .i64 m)]∧g.toNat<(j5 i d e).length∧∃(n:Int),zF (aS i d e g m) g.toNat ((0:Nat)+(3:Nat)) 1=some [D.v (.int .i64 n)]∧g.toNat<(aS i d e g m).length∧i.n.toNat<(jF i c j k).length∧∃(p:Unit),(i.a.takeF i.n i.qty).snd=0∧(i.a.takeF i.n i.qty).fst.free=IntKind.i64.wrap (i.a.free+1)∧List.map zR (i.a.takeF i.n i.qty).fst.slots=yC (jF i c j k) i.n.toNat 0 [D.v (.bool false),D.v (.int .i64 0),D.v (.int .i64 0),D.v (.int .i64 0),D.v (.bool false),D.v (.int .i64 0),D.v (.int .i64 0),D.v (.int .i64 0)]∧List.map zN (i.a.takeF i.n i.qty).fst.queues=yC (aS i d e g m) g.toNat ((0:Nat)+(3:Nat)) [D.v (.int .i64 (IntKind.i64.wrap (n-1)))]∧True) (∃(m:Int),zF (jF i c j k) i.n.toNat ((0:Nat)+(7:Nat)) 1=some [D.v (.int .i64 m)]∧∃(n:Int),zF (jF i c j k) i.n.toNat ((0:Nat)+(6:Nat)) 1=some [D.v (.int .i64 n)]∧(0≤m∧m<(↑(jF i c j k).length:Int))∧m.toNat<(jF i c j k).length∧∃(p:Int),zF (j5 i d e) g.toNat ((0:Nat)+(3:Nat)) 1=some [D.v (.int .i64 p)]∧g.toNat<(j5 i d e).length∧i.n.toNat<(r9 i c j k m n).length∧∃(q:Unit),(i.a.takeF i.n i.qty).snd=0∧(i.a.takeF i.n i.qty).fst.free=IntKind.i64.wrap (i.a.free+1)∧List.map zR (i.a.takeF i.n i.qty).fst.slots=yC (r9 i c j k m n) i.n.toNat 0 [D.v (.bool false),D.v (.int .i64 0),D.v (.int .i64 0),D.v (.int .i64 0),D.v (.bool false),D.v (.int .i64 0),D.v (.int .i64 0),D.v (.int .i64 0)]∧List.map zN (i.a.takeF i.n i.qty).fst.queues=yC (j5 i d e) g.toNat ((0:Nat)+(3:Nat)) [D.v (.int .i64 (IntKind.i64.wrap (p-1)))]∧True))) (∃(g:Unit),(i.a.takeF i.n i.qty).snd=0∧(i.a.takeF i.n i.qty).fst.free=i.a.free∧List.map zR (i.a.takeF i.n i.qty).fst.slots=yC (List.map zR i.a.slots) i.n.toNat ((0:Nat)+(1:Nat)+2) [D.v (.int .i64 (IntKind.i64.wrap (c-i.qty)))]∧List.map zN (i.a.takeF i.n i.qty).fst.queues=yC (List.map zN i.a.queues) d.toNat ((0:Nat)+(2:Nat)) [D.v (.int .i64 (IntKind.i64.wrap (e-i.qty)))]∧True))))))
theorem z9u (hG:GOk Tryz.prog ([])) (h:∀(i:TkI),atakeC.cnd i→zTm i):atakeC.ok Tryz.prog 120:=okw mixed hG 1 (fun _=>[]) (fun _=>[]) [0] Tryz.func120 h
open Go Cv Go.Proofs
theorem zDs {a:Arena} {n:Int} (h:n<0∨(a.slots.length:Int)≤n):a.usedAt n=false:=by
 rcases h with h|h
 ·rw[Arena.usedAt,decide_eq_false (by omega),Bool.false_and]
 ·rw[Arena.usedAt,decide_eq_false (show ¬n<(a.slots.length:Int)by omega),Bool.false_and,Bool.and_false]
theorem zZq {a:Arena} {n:Int} {s:Slot} (h0:0≤n) (hs:a.slots[n.toNat]? =some s):a.usedAt n=s.used:=by
 have hl:=(List.getElem?_eq_some_iff.1 hs).1
 rw[Arena.usedAt,decide_eq_true h0,decide_eq_true (show n<(a.slots.length:Int)by omega),zI hs];simp
theorem xP {a:Arena} {k:Nat} {s:Slot} (hs:a.slots[k]? =some s):a.slotAt k=s:=zI hs
theorem yMw (i:ArN) (h:agetC.cnd i):z4x i:=by
 have h:i.a.slots.length≤1000000:=h
 unfold z4x eX jA
 simp only[List.length_map]
 have no (e:i.a.usedAt i.n=false):i.a.getF i.n=(yNr,false):=by rw[Arena.getF,if_neg (by rw[e];decide)]
 refine zK (fun c=> ?_) (fun c=>zK (fun d=> ?_) (fun d=> ?_))
 ·rw[no (zDs (.inl c))];(repeat'(first|exact rfl|exact trivial|assumption|apply And.intro|refine fun(_:Unit) (_:True)=>?_|refine Exists.intro () ?_|omega|(dsimp only;omega)))
 ·rw[no (zDs (.inr (by omega)))];(repeat'(first|exact rfl|exact trivial|assumption|apply And.intro|refine fun(_:Unit) (_:True)=>?_|refine Exists.intro () ?_|omega|(dsimp only;omega)))
 ·obtain⟨s,hs⟩:=yA (l:=i.a.slots) (i:=i.n.toNat) (by omega)
  have eu:=zZq (a:=i.a) (n:=i.n) (by omega) hs
  refine⟨⟨by omega,by omega⟩,s.used,elA hs (by simp[zR]) rfl,Cv.cnd.mk (fun u=> ?_) (fun u=> ?_)⟩
  ·rw[no (by rw[eu];simpa using u)];(repeat'(first|exact rfl|exact trivial|assumption|apply And.intro|refine fun(_:Unit) (_:True)=>?_|refine Exists.intro () ?_|omega|(dsimp only;omega)))
  ·have e:i.a.usedAt i.n=true:=by rw[eu];simpa using u
   have et:i.a.getF i.n=(s.ent,true):=by rw[Arena.getF,if_pos e,xP hs]
   rw[et]
   refine⟨⟨by omega,by omega⟩,s.n,s.id,s.qty,s.top,elA hs (by simp[zR]) rfl,?_⟩
   (repeat'(first|exact rfl|exact trivial|assumption|apply And.intro|refine fun(_:Unit) (_:True)=>?_|refine Exists.intro () ?_|omega|(dsimp only;omega)))
theorem zXm:agetC.ok Tryz.prog 99:=yLa gok0 yMw
theorem zJv:∀{sl:List Slot} {at_:Int} {l:List Nat},zRa sl at_ l→mS l 0=at_∧∀j k,l[j]? =some k→k<sl.length∧mS l (j+1)=(sl.getD k slot0).back
 |sl,at_,[],h=>⟨h.symm,fun j k hk=>by simp at hk⟩
 |sl,at_,x::l,h=>by
  obtain⟨h1,h2,h3⟩:=h
  have ih:=zJv h3
  refine⟨h1.symm,fun j k hk=> ?_⟩
  cases j with
  |zero=>
   simp at hk;subst hk
   exact⟨h2,by rw[← ih.1];rfl⟩
  |succ j=>
   rw[List.getElem?_cons_succ]at hk
   obtain⟨a,b⟩:=ih.2 j k hk
   exact⟨a,by rw[← b];rfl⟩
theorem yLd (i:ArL) (h:alistC.cnd i):zVl i:=by
 obtain⟨hl,h⟩:i.l.length≤1000000∧(if 0≤i.n∧i.n<i.a.queues.length then zRa i.a.slots (i.a.queues.getD i.n.toNat dG).first i.l else i.l=[]):=⟨h.len,h.ch⟩
 unfold zVl sH
 simp only[List.length_map]
 have out (e:¬(0≤i.n∧i.n<(i.a.queues.length:Int))):i.l=[]:=by rw[if_neg e]at h;exact h
 refine zK (fun c=>Cv.cnd.mk (fun d=> ?_) (fun d=> ?_)) (fun c=> ?_)
 ·have d:¬i.n<(i.a.queues.length:Int):=by simpa using d
  rw[out (by omega)];(repeat'(first|exact rfl|exact trivial|assumption|apply And.intro|refine fun(_:Unit) (_:True)=>?_|refine Exists.intro () ?_|omega|(dsimp only;omega)))
 ·have d:i.n<(i.a.queues.length:Int):=by simpa using d
  rw[if_pos ⟨by omega,d⟩]at h
  obtain⟨q,hq⟩:=yA (l:=i.a.queues) (i:=i.n.toNat) (by omega)
  rw[zI hq]at h
  obtain⟨n0,nx⟩:=zJv h
  refine⟨⟨by omega,by omega⟩,q.first,elA hq (by simp[zN]) rfl,0,n0,rfl,fun j=>j≤i.l.length,fun j=>i.l.length-j,Nat.zero_le _,fun j hj=>Cv.cnd.mk (fun e=> ?_) (fun e=> ?_)⟩
  ·have e:mS i.l j≠-1:=by simpa using e
   obtain⟨k,hk⟩:∃k,i.l[j]? =some k:=by
    cases hk:i.l[j]? with
    |none=>rw[mS,hk]at e;exact absurd rfl e
    |some k=>exact⟨k,rfl⟩
   have hjl:=(List.getElem?_eq_some_iff.1 hk).1
   obtain⟨hkl,hnx⟩:=nx j k hk
   have en:mS i.l j=k:=by rw[mS,hk]
   obtain⟨s,hs⟩:=yA (l:=i.a.slots) (i:=k) hkl
   rw[en,Int.toNat_natCast]
   refine⟨⟨by omega,by omega⟩,s.n,s.id,s.qty,s.top,elA hs (by simp[zR]) rfl,?_,⟨by omega,by omega⟩,s.back,elA hs (by simp[zR]) rfl,j+1,by rw[hnx,zI hs],?_,hjl,by dsimp only;omega,by(repeat'(first|exact trivial|exact rfl|apply And.intro))⟩
   ·simp only[Arena.ents,List.length_map,List.length_take];omega
   ·rw[List.take_add_one,hk]
    simp only[Arena.ents,Option.toList,List.map_append,List.map_cons,List.map_nil,xP hs]
    rfl
  ·have e:mS i.l j= -1:=by simpa using e
   have hj':i.l.length≤j:=by
    apply Classical.byContradiction
    intro hn
    obtain⟨k,hk⟩:=yA (l:=i.l) (i:=j) (by omega)
    rw[mS,hk]at e
    simp only at e;omega
   rw[List.take_of_length_le hj']
   (repeat'(first|exact rfl|exact trivial|assumption|apply And.intro|refine fun(_:Unit) (_:True)=>?_|refine Exists.intro () ?_|omega|(dsimp only;omega)))
 ·rw[out (by omega)];(repeat'(first|exact rfl|exact trivial|assumption|apply And.intro|refine fun(_:Unit) (_:True)=>?_|refine Exists.intro () ?_|omega|(dsimp only;omega)))
theorem z5z:alistC.ok Tryz.prog 140:=yAm gok0 yLd
theorem zTz {α:Type} {l:List α} {i k:Nat} {x y:α} (h:i≠k) (hk:l[k]? =some x):(l.set i y)[k]? =some x:=by
 rw[List.getElem?_set_ne h];exact hk
theorem yGv (i:TkI) (h:atakeC.cnd i):zTm i:=by
 obtain⟨hl,hok⟩:i.a.okAt:=h
 unfold zTm sA aS sF aT gS j5 r9 jF y9 tO aX tH
 simp only[List.length_map]
 have no (e:i.a.usedAt i.n=false):i.a.takeF i.n i.qty=(i.a,26):=by rw[Arena.takeF,if_pos e]
 refine zK (fun c=> ?_) (fun c=>zK (fun d=> ?_) (fun d=> ?_))
 ·rw[no (zDs (.inl c))];(repeat'(first|exact rfl|exact trivial|assumption|apply And.intro|refine fun(_:Unit) (_:True)=>?_|refine Exists.intro () ?_|omega|(dsimp only;omega)))
 ·rw[no (zDs (.inr (by omega)))];(repeat'(first|exact rfl|exact trivial|assumption|apply And.intro|refine fun(_:Unit) (_:True)=>?_|refine Exists.intro () ?_|omega|(dsimp only;omega)))
 obtain⟨k,hk⟩:∃k,k=i.n.toNat:=⟨_,rfl⟩
 rw[← hk]
 obtain⟨s,hs⟩:=yA (l:=i.a.slots) (i:=k) (by omega)
 have hs':i.a.slots[i.n.toNat]? =some s:=by rw[← hk];exact hs
 have eu:=zZq (a:=i.a) (n:=i.n) (by omega) hs'
 refine⟨⟨by omega,by omega⟩,s.used,elA hs (by simp[zR]) rfl,Cv.cnd.mk (fun u=> ?_) (fun u=> ?_)⟩
 ·rw[no (by rw[eu];simpa using u)];(repeat'(first|exact rfl|exact trivial|assumption|apply And.intro|refine fun(_:Unit) (_:True)=>?_|refine Exists.intro () ?_|omega|(dsimp only;omega)))
 have u:s.used=true:=by simpa using u
 have e:¬i.a.usedAt i.n=false:=by rw[eu,u];decide
 obtain⟨⟨q0,q1⟩,sq,sa,sb⟩:=hok k s hs u
 have esl:i.a.slotAt i.n.toNat=s:=xP hs'
 have bad (hq:i.qty<1∨s.qty<i.qty):i.a.takeF i.n i.qty=(i.a,24):=by rw[Arena.takeF,if_neg e,esl,if_pos hq]
 refine⟨⟨by omega,by omega⟩,zK (fun c1=>by rw[bad (.inl c1)];(repeat'(first|exact rfl|exact trivial|assumption|apply And.intro|refine fun(_:Unit) (_:True)=>?_|refine Exists.intro () ?_|omega|(dsimp only;omega)))) (fun c1=>⟨s.qty,elA hs (by simp[zR]) rfl,zK (fun c2=>by rw[bad (.inr (by omega))];(repeat'(first|exact rfl|exact trivial|assumption|apply And.intro|refine fun(_:Unit) (_:True)=>?_|refine Exists.intro () ?_|omega|(dsimp only;omega)))) (fun c2=>⟨s.qty,elA hs (by simp[zR]) rfl,by omega,?_⟩)⟩)⟩
 obtain⟨q,hq⟩:=yA (l:=i.a.queues) (i:=s.queue.toNat) (by omega)
 have hs1:(i.a.slots.set k {s with qty:=s.qty-i.qty})[k]? =some {s with qty:=s.qty-i.qty}:=vS hs
 have hq1:(i.a.queues.set s.queue.toNat {q with total:=IntKind.i64.wrap (q.total-i.qty)})[s.queue.toNat]? =some {q with total:=IntKind.i64.wrap (q.total-i.qty)}:=vS hq
 have hle:i.a.less i.n.toNat i.qty=⟨i.a.slots.set k {s with qty:=s.qty-i.qty},i.a.queues.set s.queue.toNat {q with total:=IntKind.i64.wrap (q.total-i.qty)},i.a.free⟩:=by
  rw[Arena.less,esl,g9 hs',g9 hq,hk]
 have hL:(i.a.slots.set k {s with qty:=s.qty-i.qty}).length=i.a.slots.length:=List.length_set
 have hQ:(i.a.queues.set s.queue.toNat {q with total:=IntKind.i64.wrap (q.total-i.qty)}).length=i.a.queues.length:=List.length_set
 have tk:i.a.takeF i.n i.qty=if s.qty=i.qty then((i.a.less i.n.toNat i.qty).dropF i.n.toNat,0)else(i.a.less i.n.toNat i.qty,0):=by rw[Arena.takeF,if_neg e,esl,if_neg (by omega)]
 rw[hle,← hk]at tk
 rw[w64 (x:=s.qty-i.qty) (by omega),yF hs (y:={s with qty:=s.qty-i.qty}) rfl]
 refine⟨s.queue,elA hs1 (by simp[zR]) rfl,⟨q0,q1⟩,q.total,elA hq (by simp[zN]) rfl,⟨q0,q1⟩,by omega,s.qty-i.qty,elA hs1 (by simp[zR]) rfl,?_⟩
 rw[yF hq (y:={q with total:=IntKind.i64.wrap (q.total-i.qty)}) rfl]
 simp only[List.length_map]
 generalize hL1:i.a.slots.set k {s with qty:=s.qty-i.qty}=L1 at*
 generalize hQ1:i.a.queues.set s.queue.toNat {q with total:=IntKind.i64.wrap (q.total-i.qty)}=Q1 at*
 refine Cv.cnd.mk (fun z=> ?_) (fun z=> ?_)
 ·have z:s.qty=i.qty:=by have:s.qty-i.qty=0:=by simpa using z
                         omega
  rw[if_pos z]at tk
  have esl1:(⟨L1,Q1,i.a.free⟩:Arena).slotAt k={s with qty:=s.qty-i.qty}:=xP hs1
  have eq1:Q1.getD s.queue.toNat dG={q with total:=IntKind.i64.wrap (q.total-i.qty)}:=zI hq1
  rw[Arena.dropF,esl1]at tk
  dsimp only at tk
  rw[eq1]at tk
  dsimp only at tk
  rw[tk]
  refine⟨s.queue,elA hs1 (by simp[zR]) rfl,⟨q0,by omega⟩,s.ahead,elA hs1 (by simp[zR]) rfl,Cv.cnd.mk (fun ea=> ?_) (fun ea=> ?_)⟩
  ·have ea:s.ahead= -1:=by simpa using ea
   refine⟨s.back,elA hs1 (by simp[zR]) rfl,by omega,s.back,elA hs1 (by simp[zR]) rfl,?_⟩
   rw[yF hq1 (y:=⟨s.back,q.last,IntKind.i64.wrap (q.total-i.qty),q.count⟩) rfl]
   have hq2:(Q1.set s.queue.toNat ⟨s.back,q.last,IntKind.i64.wrap (q.total-i.qty),q.count⟩)[s.queue.toNat]? =some ⟨s.back,q.last,IntKind.i64.wrap (q.total-i.qty),q.count⟩:=vS hq1
   simp only[List.length_map,List.length_set]
   refine Cv.cnd.mk (fun eb=> ?_) (fun eb=> ?_)
   ·have eb:s.back= -1:=by simpa using eb
    refine⟨s.ahead,elA hs1 (by simp[zR]) rfl,by omega,q.count,?_,?_⟩
    ·rw[yF hq2 (y:=⟨s.back,s.ahead,IntKind.i64.wrap (q.total-i.qty),q.count⟩) rfl]
     exact elA (vS hq2) (by simp[zN]) rfl
    rw[yF hq2 (y:=⟨s.back,s.ahead,IntKind.i64.wrap (q.total-i.qty),q.count⟩) rfl,yF (vS hq2) (y:=⟨s.back,s.ahead,IntKind.i64.wrap (q.total-i.qty),IntKind.i64.wrap (q.count-1)⟩) rfl,yF hs1 (y:=slot0) rfl]
    simp only[List.length_map,List.length_set,List.set_set,if_pos ea,if_pos eb]
    refine⟨by omega,by omega,(),by(first|exact rfl|exact trivial),by(first|exact rfl|exact trivial),by(first|exact rfl|exact trivial),by(first|exact rfl|exact trivial),trivial⟩
   ·have eb:s.back≠-1:=by simpa using eb
    obtain⟨b0,b1,b2⟩:0≤s.back∧s.back<i.a.slots.length∧s.back≠k:=by omega
    obtain⟨x,hx⟩:=yA (l:=L1) (i:=s.back.toNat) (by omega)
    refine⟨s.back,elA hs1 (by simp[zR]) rfl,s.ahead,elA hs1 (by simp[zR]) rfl,⟨b0,by omega⟩,by omega,q.count,elA hq2 (by simp[zN]) rfl,?_⟩
    rw[yF hx (y:={x with ahead:=s.ahead}) rfl,yF hq2 (y:=⟨s.back,q.last,IntKind.i64.wrap (q.total-i.qty),IntKind.i64.wrap (q.count-1)⟩) rfl,yF (zTz (by omega) hs1) (y:=slot0) rfl]
    simp only[List.length_map,List.length_set,List.set_set,if_pos ea,if_neg eb,g9 hx]
    refine⟨by omega,by omega,(),by(first|exact rfl|exact trivial),by(first|exact rfl|exact trivial),by(first|exact rfl|exact trivial),by(first|exact rfl|exact trivial),trivial⟩
  ·have ea:s.ahead≠-1:=by simpa using ea
   obtain⟨a0,a1,a2⟩:0≤s.ahead∧s.ahead<i.a.slots.length∧s.ahead≠k:=by omega
   obtain⟨x,hx⟩:=yA (l:=L1) (i:=s.ahead.toNat) (by omega)
   have hs2:(L1.set s.ahead.toNat {x with back:=s.back})[k]? =some {s with qty:=s.qty-i.qty}:=zTz (by omega) hs1
   refine⟨s.ahead,elA hs1 (by simp[zR]) rfl,s.back,elA hs1 (by simp[zR]) rfl,⟨a0,by omega⟩,by omega,s.back,?_,?_⟩
   ·rw[yF hx (y:={x with back:=s.back}) rfl]
    exact elA hs2 (by simp[zR]) rfl
   rw[yF hx (y:={x with back:=s.back}) rfl]
   simp only[List.length_map,List.length_set]
   refine Cv.cnd.mk (fun eb=> ?_) (fun eb=> ?_)
   ·have eb:s.back= -1:=by simpa using eb
    refine⟨s.ahead,elA hs2 (by simp[zR]) rfl,by omega,q.count,?_,?_⟩
    ·rw[yF hq1 (y:=⟨q.first,s.ahead,IntKind.i64.wrap (q.total-i.qty),q.count⟩) rfl]
     exact elA (vS hq1) (by simp[zN]) rfl
    rw[yF hq1 (y:=⟨q.first,s.ahead,IntKind.i64.wrap (q.total-i.qty),q.count⟩) rfl,yF (vS hq1) (y:=⟨q.first,s.ahead,IntKind.i64.wrap (q.total-i.qty),IntKind.i64.wrap (q.count-1)⟩) rfl,yF hs2 (y:=slot0) rfl]
    simp only[List.length_map,List.length_set,List.set_set,if_neg ea,if_pos eb,g9 hx]
    refine⟨by omega,by omega,(),by(first|exact rfl|exact trivial),by(first|exact rfl|exact trivial),by(first|exact rfl|exact trivial),by(first|exact rfl|exact trivial),trivial⟩
   ·have eb:s.back≠-1:=by simpa using eb
    obtain⟨b0,b1,b2⟩:0≤s.back∧s.back<i.a.slots.length∧s.back≠k:=by omega
    obtain⟨y,hy⟩:=yA (l:=L1.set s.ahead.toNat {x with back:=s.back}) (i:=s.back.toNat) (by rw[List.length_set];omega)
    refine⟨s.back,elA hs2 (by simp[zR]) rfl,s.ahead,elA hs2 (by simp[zR]) rfl,⟨b0,by omega⟩,by omega,q.count,elA hq1 (by simp[zN]) rfl,?_⟩
    rw[yF hy (y:={y with ahead:=s.ahead}) rfl,yF hq1 (y:=⟨q.first,q.last,IntKind.i64.wrap (q.total-i.qty),IntKind.i64.wrap (q.count-1)⟩) rfl,yF (zTz (by omega) hs2) (y:=slot0) rfl]
    simp only[List.length_map,List.length_set,List.set_set,if_neg ea,if_neg eb,g9 hx,g9 hy]
    refine⟨by omega,by omega,(),by(first|exact rfl|exact trivial),by(first|exact rfl|exact trivial),by(first|exact rfl|exact trivial),by(first|exact rfl|exact trivial),trivial⟩
 ·have z:¬s.qty=i.qty:=by have:¬s.qty-i.qty=0:=by simpa using z
                          omega
  rw[if_neg z]at tk
  rw[tk]
  exact⟨(),rfl,rfl,rfl,rfl,trivial⟩
theorem z6a:atakeC.ok Tryz.prog 120:=z9u gok0 yGv
open Go Cv Go.Proofs
structure PlI where
 l:List Int
 least:Int
 q:Int
def zSw (l:List Int) (least q:Int):List Int:=l.map fun k=>if least≤k*q / l.sum then k*q / l.sum else 0
def jM:List (Int×Int)→Int→List Int
 |[],_=>[]
 |(n,x)::r,q=>(x+min (n-x) q)::jM r (q-min (n-x) q)
def PlI.p0 (i:PlI):List Int:=zSw i.l i.least i.q
def PlI.p1 (i:PlI):List Int:=jM (i.l.zip i.p0) (i.q-i.p0.sum)
def kR (i:PlI):List Int:=if yM i.l i.q=true∧1≤i.least then i.p1 else[]
def plainC:Con:=con1 PlI (fun i=>[iV i.l,zB i.least,zB i.q]) (fun _=>[]) (fun i=>i.l.length≤1000000∧yQ i.q∧yQ i.least) (fun _=> .own 0) (fun i=>[.own 2 1 (iE (kR i))])
def yHb (i:PlI):List SAnn:=[
 {ι:=Nat,slots:=fun j=>[(9,.own 0),(36,zB j)],rows:=fun j=>[.own 2 1 (iE (i.p0.take j++List.replicate (i.l.length-j) 0))]},
 {ι:=Nat,slots:=fun j=>[(2,zB (i.q-(i.p0.take j).sum)),(58,zB j)],rows:=fun _=>[]},
 {ι:=Nat,slots:=fun j=>[(9,.own 0),(2,zB (i.q-i.p0.sum+(i.p0.take j).sum-(i.p1.take j).sum)),(68,zB j)],rows:=fun j=>[.own 2 1 (iE (i.p1.take j++i.p0.drop j))]}]
open Go Cv Go.Proofs
def gG (a:Nat) (b:PlI):=(iE (List.take a b.p1++List.drop a b.p0))
def aA (a:Nat) (b:PlI):Prop:=0≤(↑a:Int)∧(↑a:Int)<(↑(gG a b).length:Int)
def uK (a:Nat) (b:PlI):=(List.take a b.p0++List.replicate (b.l.length-a) (0:Int))
def uI (a:Nat) (b:PlI):=(iE (uK a b))
def dN (a:Nat) (b:PlI):=(↑(uI a b).length:Int)
def zTw (i:PlI):Prop:=
 ∃(a:LqI),iE a.l=iE i.l∧a.q=i.q∧(jS a)∧∀(b:Unit),True→cnd (!yM a.l a.q) (∃(c:Unit),iE (kR i)=[]∧True) (cnd (decide (i.least<1)) (∃(c:Unit),iE (kR i)=[]∧True) (∃(c:List Int),iE c=iE i.l∧(c.length≤1000∧∀(d:Int),d∈c→0≤d∧d≤1000000)∧∀(d:Unit),True→(0≤(↑(iE i.l).length:Int)∧(↑(iE i.l).length:Int)≤(↑(iE i.l).length:Int)∧(↑(iE i.l).length:Int)≤9223372036854775807∧(↑(8:Nat):Int)*(↑(iE i.l).length:Int)≤2 ^ (48:Nat))∧∃(e:Nat),(↑e:Int)=0∧iE (uK e i)=List.replicate (↑(iE i.l).length:Int).toNat [D.v (.int .i64 0)]∧∃(f:Nat→Prop),∃(g:Nat→Nat),f e∧∀(h:Nat),f h→cnd (decide ((↑h:Int)<(↑(iE i.l).length:Int))) ((0≤(↑h:Int)∧(↑h:Int)<(↑(iE i.l).length:Int))∧∃(j:Int),zF (iE i.l) (↑h:Int).toNat 0 1=some [D.v (.int .i64 j)]∧∃(k:ShI),k.a=j∧k.b=i.q∧k.c=c.sum∧(0≤k.a∧k.a≤(2000000000:Int)∧(0:Int)≤k.b∧k.b≤(2000000000:Int)∧(1:Int)≤k.c∧k.c≤2000000000)∧∀(l:Unit),True→cnd (decide (k.a*k.b / k.c≥i.least)) ((0≤(↑h:Int)∧(↑h:Int)<(dN h i))∧(↑h:Int).toNat<(uI h i).length∧∃(m:Nat),(↑m:Int)=IntKind.i64.wrap ((↑h:Int)+1)∧iE (uK m i)=yC (uI h i) (↑h:Int).toNat 0 [D.v (.int .i64 (k.a*k.b / k.c))]∧f m∧g m<g h∧True) (∃(m:Nat),(↑m:Int)=IntKind.i64.wrap ((↑h:Int)+1)∧iE (uK m i)=iE (uK h i)∧f m∧g m<g h∧True)) (∃(j:Nat),i.q-(List.take j i.p0).sum=i.q∧(↑j:Int)=0∧∃(k:Nat→Prop),∃(l:Nat→Nat),k j∧∀(m:Nat),k m→cnd (decide ((↑m:Int)<(dN h i))) ((0≤(↑m:Int)∧(↑m:Int)<(dN h i))∧∃(n:Int),zF (uI h i) (↑m:Int).toNat 0 1=some [D.v (.int .i64 n)]∧∃(p:Nat),i.q-(List.take p i.p0).sum=IntKind.i64.wrap (i.q-(List.take m i.p0).sum-n)∧(↑p:Int)=IntKind.i64.wrap ((↑m:Int)+1)∧k p∧l p<l m∧AObj.own 2 1 (uI h i)=AObj.own 2 1 (uI h i)) (∃(n:Nat),i.q-i.p0.sum+(List.take n i.p0).sum-(List.take n i.p1).sum=i.q-(List.take m i.p0).sum∧(↑n:Int)=0∧iE (List.take n i.p1++List.drop n i.p0)=iE (uK h i)∧∃(p:Nat→Prop),∃(q:Nat→Nat),p n∧∀(r:Nat),p r→cnd (decide ((↑r:Int)<(dN h i))) ((0≤(↑r:Int)∧(↑r:Int)<(↑(iE i.l).length:Int))∧∃(s:Int),zF (iE i.l) (↑r:Int).toNat 0 1=some [D.v (.int .i64 s)]∧(aA r i)∧∃(t:Int),zF (gG r i) (↑r:Int).toNat 0 1=some [D.v (.int .i64 t)]∧(aA r i)∧∃(u:Int),zF (gG r i) (↑r:Int).toNat 0 1=some [D.v (.int .i64 u)]∧(aA r i)∧(↑r:Int).toNat<(gG r i).length∧∃(v:Nat),i.q-i.p0.sum+(List.take v i.p0).sum-(List.take v i.p1).sum=IntKind.i64.wrap (i.q-i.p0.sum+(List.take r i.p0).sum-(List.take r i.p1).sum-min (IntKind.i64.wrap (s-t)) (i.q-i.p0.sum+(List.take r i.p0).sum-(List.take r i.p1).sum))∧(↑v:Int)=IntKind.i64.wrap ((↑r:Int)+1)∧iE (List.take v i.p1++List.drop v i.p0)=yC (gG r i) (↑r:Int).toNat 0 [D.v (.int .i64 (IntKind.i64.wrap (u+min (IntKind.i64.wrap (s-t)) (i.q-i.p0.sum+(List.take r i.p0).sum-(List.take r i.p1).sum))))]∧p v∧q v<q r∧True) (∃(s:Unit),iE (kR i)=iE (List.take r i.p1++List.drop r i.p0)∧True)))))
theorem yDx (hG:GOk Tryz.prog ([(141,rightC),(154,isumC),(143,ishareC)])) (h:∀(i:PlI),plainC.cnd i→zTw i):plainC.ok Tryz.prog 149:=okw mixed hG 0 (fun _=>[]) (fun i=>yHb i) [] Tryz.func149 h
open Go Cv Go.Proofs
theorem sP:∀(z:List (Int×Int)) (q:Int),(jM z q).length=z.length
 |[],_=>rfl
 |(n,x)::z,q=>by rw[jM,List.length_cons,List.length_cons,sP z]
theorem zIf:∀(z:List (Int×Int)) (q:Int) (j:Nat) (n x:Int),z[j]? =some (n,x)→(jM z q)[j]? =some (x+min (n-x) (q+((z.map (·.2)).take j).sum-((jM z q).take j).sum))
 |[],_,_,_,_,h=>by simp at h
 |(m,y)::z,q,0,n,x,h=>by simp at h;obtain⟨rfl,rfl⟩:=h;simp[jM]
 |(m,y)::z,q,j+1,n,x,h=>by
  rw[List.getElem?_cons_succ]at h
  rw[jM,List.getElem?_cons_succ,zIf z _ j n x h,List.take_succ_cons,List.sum_cons,List.map_cons,List.take_succ_cons,List.sum_cons]
  congr 3;dsimp only;omega
theorem zCg:∀(z:List (Int×Int)) (q:Int) (j:Nat),0≤q→(∀y∈z,y.2≤y.1)→0≤q+((z.map (·.2)).take j).sum-((jM z q).take j).sum∧q+((z.map (·.2)).take j).sum-((jM z q).take j).sum≤q
 |[],q,j,h,_=>by simp[jM,h]
 |(m,y)::z,q,0,h,_=>by simp[h]
 |(m,y)::z,q,j+1,h,hb=>by
  have hm:=hb (m,y) List.mem_cons_self
  have:=zCg z (q-min (m-y) q) j (by dsimp only at hm;omega) (fun x hx=>hb x (List.mem_cons_of_mem _ hx))
  rw[jM,List.take_succ_cons,List.sum_cons,List.map_cons,List.take_succ_cons,List.sum_cons]
  dsimp only at hm ⊢
  omega
theorem z4i {k q S:Int} (hk:0≤k) (hq:0≤q) (hS:1≤S) (hqS:q≤S):0≤k*q / S∧k*q / S≤k:=by
 refine⟨Int.ediv_nonneg (Int.mul_nonneg hk hq) (by omega),?_⟩
 have:k*q≤k*S:=Int.mul_le_mul_of_nonneg_left hqS hk
 exact Int.ediv_le_of_le_mul (by omega) this
theorem zKy {q S least:Int} (hq:0≤q) (hS:1≤S):∀(l:List Int),(∀x∈l,0≤x)→S*(l.map fun k=>if least≤k*q / S then k*q / S else 0).sum≤q*l.sum
 |[],_=>by simp
 |k::l,h=>by
  have ih:=zKy (least:=least) hq hS l (fun x hx=>h x (List.mem_cons_of_mem _ hx))
  have hk:=h k List.mem_cons_self
  rw[List.map_cons,List.sum_cons,List.sum_cons,Int.mul_add,Int.mul_add]
  have h1:S*(k*q / S)≤k*q:=by
   have:=Int.mul_ediv_add_emod (k*q) S
   have:=Int.emod_nonneg (k*q) (show S≠0 by omega)
   omega
  have h2:0≤k*q:=Int.mul_nonneg hk hq
  have h3:S*(if least≤k*q / S then k*q / S else 0)≤q*k:=by
   rw[Int.mul_comm q k]
   split
   ·exact h1
   ·simpa using h2
  omega
theorem z8e {i:PlI} {j:Nat} {n:Int} (h:i.l[j]? =some n):i.p0[j]? =some (if i.least≤n*i.q / i.l.sum then n*i.q / i.l.sum else 0):=by
 rw[PlI.p0,zSw,List.getElem?_map,h];rfl
theorem zVw (i:PlI):i.p0.length=i.l.length:=by simp[PlI.p0,zSw]
theorem zZl {l:List Int} {j m:Nat} {n:Int} (hl:l.length=m) (h:l[j]? =some n):(l.take j++List.replicate (m-j) 0).set j n=l.take (j+1)++List.replicate (m-(j+1)) 0:=by
 have hj:=(List.getElem?_eq_some_iff.1 h).1
 rw[List.set_append_right _ _ (by rw[List.length_take];omega),List.length_take,show j-min j l.length=0 by omega,show m-j=(m-(j+1))+1 by omega,List.replicate_succ,List.set_cons_zero,List.take_add_one,h]
 simp
theorem z3j {l:List Int} {j m:Nat} (hl:l.length=m) (hj:j<m):(l.take j++List.replicate (m-j) 0)[j]? =some 0:=by
 rw[List.getElem?_append_right (by rw[List.length_take];omega),List.length_take,show j-min j l.length=0 by omega,show m-j=(m-(j+1))+1 by omega,List.replicate_succ];rfl
theorem z9d {α:Type} {l:List α} {j:Nat} {x:α} (h:l[j]? =some x):l.set j x=l:=by
 obtain⟨h1,h2⟩:=List.getElem?_eq_some_iff.1 h
 rw[← h2];exact List.set_getElem_self h1
theorem yKk {a b:List Int} {j:Nat} {x:Int} (ha:a.length=b.length) (h:b[j]? =some x):(a.take j++b.drop j)[j]? =some x:=by
 have hj:=(List.getElem?_eq_some_iff.1 h).1
 rw[List.getElem?_append_right (by rw[List.length_take];omega),List.length_take,show j-min j a.length=0 by omega,List.getElem?_drop]
 exact h
theorem yDs {a b:List Int} {j:Nat} {y:Int} (ha:a.length=b.length) (h:a[j]? =some y):(a.take j++b.drop j).set j y=a.take (j+1)++b.drop (j+1):=by
 have hj:=(List.getElem?_eq_some_iff.1 h).1
 rw[List.set_append_right _ _ (by rw[List.length_take];omega),List.length_take,show j-min j a.length=0 by omega,List.drop_eq_getElem_cons (by omega),List.set_cons_zero,List.take_add_one,h]
 simp
theorem zNz {l:List Int} {j:Nat} {x y:Int} (h:l[j]? =some x):yC (iE l) j 0 [D.v (.int .i64 y)]=iE (l.set j y):=yF (f:=fun n:Int=>[D.v (.int .i64 n)]) h rfl
theorem lV {i:PlI} (h:yM i.l i.q=true) (hne:0<i.l.length):1≤i.l.sum∧i.l.sum≤250000000∧(∀(j:Nat) (n x:Int),i.l[j]? =some n→i.p0[j]? =some x→0≤x∧x≤n)∧i.p0.sum≤i.q:=by
 obtain⟨h1,h2,h3,h4⟩:=kW h
 have hb:=k7 (l:=i.l) (fun x hx=>by have:=h3 x hx;omega) i.l.length
 rw[List.take_length]at hb
 have hS:1≤i.l.sum:=by
  obtain⟨x,hx⟩:=yA (l:=i.l) (i:=0) hne
  have:=h3 x (List.mem_of_getElem? hx)
  cases hl:i.l with
  |nil=>rw[hl]at hne;exact absurd hne (Nat.lt_irrefl 0)
  |cons a r=>
   rw[hl]at hx;simp at hx;subst hx
   have hr:=k7 (l:=r) (fun y hy=>by have:=h3 y (by rw[hl];exact List.mem_cons_of_mem _ hy);omega) r.length
   rw[List.take_length]at hr
   rw[List.sum_cons];omega
 refine⟨hS,by omega,fun j n x hn hx=> ?_,?_⟩
 ·have hn1:=h3 n (List.mem_of_getElem? hn)
  have:=z4i (k:=n) (by omega) h2 hS h4
  rw[z8e hn]at hx
  cases hx
  split<;>omega
 ·have:=zKy (least:=i.least) h2 hS i.l (fun x hx=>by have:=h3 x hx;omega)
  have e:i.l.sum*i.p0.sum≤i.l.sum*i.q:=by rw[Int.mul_comm i.l.sum i.q];exact this
  exact Int.le_of_mul_le_mul_left e (by omega)
theorem yFu (i:PlI) (h:plainC.cnd i):zTw i:=by
 obtain⟨hl,hq,hle⟩:i.l.length≤1000000∧yQ i.q∧yQ i.least:=h
 unfold zTw dN uI uK aA gG jS
 refine⟨⟨i.l,i.q⟩,rfl,rfl,⟨hl,hq⟩,fun _ _=>Cv.cnd.mk (fun c=> ?_) (fun c=>zK (fun d=> ?_) (fun d=> ?_))⟩
 ·have c:yM i.l i.q=false:=by simpa using c
  refine⟨(),?_,trivial⟩
  rw[kR,if_neg (by rw[c];simp)];rfl
 ·refine⟨(),?_,trivial⟩
  rw[kR,if_neg (by omega)];rfl
 have c:yM i.l i.q=true:=by simpa using c
 have eS:kR i=i.p1:=by rw[kR,if_pos ⟨c,by omega⟩]
 obtain⟨h1,h2,h3,h4⟩:=kW c
 have hq2:=zDt c
 have hp0:=zVw i
 have hzl:(i.l.zip i.p0).length=i.l.length:=by rw[List.length_zip,hp0];simp
 have hp1:i.p1.length=i.l.length:=by rw[PlI.p1,sP,hzl]
 have hz2:(i.l.zip i.p0).map (·.2)=i.p0:=by rw[List.map_snd_zip];omega
 have h64:i.l.length≤250:=h1
 have hrl:∀j,j≤i.l.length→(List.take j i.p0++List.replicate (i.l.length-j) 0).length=i.l.length:=by
  intro j hj;rw[List.length_append,List.length_take,List.length_replicate];omega
 simp only[xI]
 refine⟨i.l,rfl,⟨by omega,fun x hx=>by have:=h3 x hx;omega⟩,fun _ _=>⟨⟨by omega,by omega,by omega,by omega⟩,0,by(first|exact rfl|exact trivial),?_,fun j=>j≤i.l.length,fun j=>i.l.length-j,Nat.zero_le _,fun j hj=>zK (fun e=> ?_) (fun e=> ?_)⟩⟩
 ·simp[iE]
 ·have hj':j<i.l.length:=by omega
  obtain⟨n,hn⟩:=yA (l:=i.l) (i:=j) hj'
  have bn:=h3 n (List.mem_of_getElem? hn)
  obtain⟨f1,f2,f3,f4⟩:=lV c (by omega)
  have g:=z8e hn
  refine⟨⟨by omega,by omega⟩,n,elI hn,⟨n,i.q,i.l.sum⟩,rfl,rfl,rfl,⟨by dsimp only;omega,by dsimp only;omega,by dsimp only;omega,by dsimp only;omega,by dsimp only;omega,by dsimp only;omega⟩,fun _ _=>zK (fun a=> ?_) (fun a=> ?_)⟩
  ·have a:n*i.q / i.l.sum≥i.least:=a
   rw[if_pos (by omega)]at g
   refine⟨⟨by omega,by rw[hrl j (by omega)];omega⟩,by rw[hrl j (by omega)];omega,j+1,wjn (by omega),?_,hj',by dsimp only;omega,trivial⟩
   rw[Int.toNat_natCast,zNz (z3j hp0 hj'),zZl hp0 g]
  ·have a:¬n*i.q / i.l.sum≥i.least:=a
   rw[if_neg (by omega)]at g
   refine⟨j+1,wjn (by omega),?_,hj',by dsimp only;omega,trivial⟩
   rw[← zZl hp0 g,z9d (z3j hp0 hj')]
 have hje:j=i.l.length:=by omega
 subst hje
 have eP:List.take i.l.length i.p0++List.replicate (i.l.length-i.l.length) 0=i.p0:=by rw[List.take_of_length_le (by omega)];simp
 rw[eP,hp0]
 have px:∀(k:Nat) (n x:Int),i.l[k]? =some n→i.p0[k]? =some x→0≤x∧x≤n:=fun k n x hn hx=>(lV c (by have:=(List.getElem?_eq_some_iff.1 hn).1;omega)).2.2.1 k n x hn hx
 have pb:∀x∈i.p0,0≤x∧x≤1000000:=by
  intro x hx
  obtain⟨k,hk⟩:=List.mem_iff_getElem?.1 hx
  obtain⟨n,hn⟩:=yA (l:=i.l) (i:=k) (by have:=(List.getElem?_eq_some_iff.1 hk).1;omega)
  have:=px k n x hn hk
  have:=h3 n (List.mem_of_getElem? hn)
  omega
 have pq:i.p0.sum≤i.q:=by
  by_cases hz:0<i.l.length
  ·exact(lV c hz).2.2.2
  ·have:i.p0=[]:=List.eq_nil_of_length_eq_zero (by omega)
   rw[this];simpa using h2
 refine⟨0,by simp,by(first|exact rfl|exact trivial),fun k=>k≤i.l.length,fun k=>i.l.length-k,Nat.zero_le _,fun k hk=>zK (fun e=> ?_) (fun e=> ?_)⟩
 ·have hk':k<i.l.length:=by omega
  obtain⟨x,hx⟩:=yA (l:=i.p0) (i:=k) (by omega)
  have bx:=pb x (List.mem_of_getElem? hx)
  have bs:=k7 pb k
  refine⟨⟨by omega,by omega⟩,x,elI hx,k+1,?_,wjn (by omega),hk',by dsimp only;omega,by(repeat'(first|exact trivial|exact rfl|apply And.intro))⟩
  rw[jG hx,w64 (by omega)];omega
 have hke:k=i.l.length:=by omega
 subst hke
 rw[List.take_of_length_le (l:=i.p0) (by omega)]
 refine⟨0,by simp,by(first|exact rfl|exact trivial),by simp,fun j=>j≤i.l.length,fun j=>i.l.length-j,Nat.zero_le _,fun j hj=>zK (fun e=> ?_) (fun e=> ?_)⟩
 ·have hj':j<i.l.length:=by omega
  obtain⟨n,hn⟩:=yA (l:=i.l) (i:=j) hj'
  obtain⟨x,hx⟩:=yA (l:=i.p0) (i:=j) (by omega)
  have bn:=h3 n (List.mem_of_getElem? hn)
  have bx:=px j n x hn hx
  have hz:(i.l.zip i.p0)[j]? =some (n,x):=by rw[List.getElem?_zip_eq_some];exact⟨hn,hx⟩
  have g:=zIf (i.l.zip i.p0) (i.q-i.p0.sum) j n x hz
  have r:=zCg (i.l.zip i.p0) (i.q-i.p0.sum) j (by omega) (fun y hy=>by
   obtain⟨k,hk⟩:=List.mem_iff_getElem?.1 hy
   rw[List.getElem?_zip_eq_some]at hk
   exact(px k y.1 y.2 hk.1 hk.2).2)
  rw[hz2]at g r
  have b0:=k7 pb i.p0.length
  rw[List.take_length]at b0
  have hml:(List.take j i.p1++List.drop j i.p0).length=i.l.length:=by rw[List.length_append,List.length_take,List.length_drop];omega
  have hma:=yKk (a:=i.p1) (b:=i.p0) (by omega) hx
  change i.p1[j]? =_ at g
  change 0≤_-(List.take j i.p1).sum∧_-(List.take j i.p1).sum≤_ at r
  change i.p1[j]? =some (x+min (n-x) (_-(List.take j i.p1).sum))at g
  rw[hml]
  refine⟨⟨by omega,by omega⟩,n,elI hn,⟨by omega,by omega⟩,x,elI hma,⟨by omega,by omega⟩,x,elI hma,⟨by omega,by omega⟩,by omega,?_⟩
  rw[w64 (x:=n-x) (by omega),w64 (x:=x+min (n-x) (i.q-i.p0.sum+(List.take j i.p0).sum-(List.take j i.p1).sum)) (by omega)]
  refine⟨j+1,?_,wjn (by omega),?_,hj',by dsimp only;omega,trivial⟩
  ·rw[jG hx,jG g,w64 (by omega)];omega
  ·rw[Int.toNat_natCast,zNz hma,yDs (by omega) g]
 ·have hje:j=i.l.length:=by omega
  subst hje
  refine⟨(),?_,trivial⟩
  rw[eS,List.take_of_length_le (by omega),List.drop_eq_nil_of_le (by omega),List.append_nil]
theorem z6u:plainC.ok Tryz.prog 149:=yDx (gokc lX (gokc yDg (gokc zLe gok0))) yFu
open Go Cv Go.Proofs
structure RsI where
 l:List Int
 out:List Int
 least:Int
 q:Int
def RsI.idx (i:RsI) (k:Nat):List Nat:=(List.range k).filter fun n=>decide (i.out.getD n 0<i.l.getD n 0)
def RsI.left (i:RsI) (k:Nat):List Int:=(i.idx k).map fun n=>i.l.getD n 0-i.out.getD n 0
def RsI.pl (i:RsI):List Int:=kR ⟨i.left i.l.length,i.least,i.q⟩
def RsI.add (i:RsI) (k:Nat):List Int:=(((i.idx i.l.length).zip i.pl).take k).foldl (fun o y=>o.set y.1 (IntKind.i64.wrap (o.getD y.1 0+y.2))) i.out
def bZ (i:RsI):List Int:=i.add i.pl.length
@[reducible] def RsI.ok (i:RsI):Prop:=i.l.length≤250∧i.out.length=i.l.length∧yQ i.q∧yQ i.least∧∀n,0≤i.out.getD n 0∧i.out.getD n 0≤i.l.getD n 0∧i.l.getD n 0≤1000000
def restC:Con:=con1 RsI (fun i=>[iV i.l,.own 0,zB i.least,zB i.q]) (fun i=>[.own 2 1 (iE i.out)]) RsI.ok (fun _=> .own 1) (fun i=>[.gone,.own 2 1 (iE (bZ i))])
def yLt (i:RsI):List SAnn:=[
 {ι:=Nat,slots:=fun j=>[(9,.own 0),(10,.own 1),(16,zB j)],rows:=fun j=>[.own 2 1 (iE (i.left j)),.own 3 1 (iE ((i.idx j).map fun(n:Nat)=>(n:Int)))]},
 {ι:=Nat,slots:=fun k=>[(1,.own 0),(50,zB k)],rows:=fun k=>[.own 2 1 (iE (i.add k))]}]
structure zD where
 id:Int
 side:Int
 price:Int
 qty:Int
 top:Bool
 deriving DecidableEq
def j9 (o:zD):List D:=[.v (.int .i64 o.id),.v (.int .i64 o.side),.v (.int .i64 o.price),.v (.int .i64 o.qty),.v (.bool o.top)]
@[reducible] def z1i (o:zD):V:= .agg [zB o.id,zB o.side,zB o.price,zB o.qty,yO o.top]
def topFC:Con:=con1 zD (fun o=>[z1i o]) (fun _=>[]) (fun _=>True) (fun o=>yO o.top) (fun _=>[])
def topI (l:List zD):Int:=zCt (l.findIdx? fun o=>o.top)
def idxOrdC:Con:=con1 (List zD) (fun l=>[roV 5 (l.map j9),.fn 130 [] []]) (fun _=>[]) (fun l=>l.length≤1000000) (fun l=>zB (topI l)) (fun _=>[])
def yAk (l:List zD):List SAnn:=[{ι:=Nat,slots:=fun j=>[(8,zB j)],rows:=fun _=>[]}]
open Go Cv Go.Proofs
def z9f (i:RsI):Prop:=
 ∃(a:Nat),(↑a:Int)=0∧iE (i.left a)=[]∧iE (List.map (fun(n:Nat) ↦ (↑n:Int)) (i.idx a))=[]∧∃(b:Nat→Prop),∃(c:Nat→Nat),b a∧∀(d:Nat),b d→cnd (decide ((↑d:Int)<(↑(iE i.l).length:Int))) ((0≤(↑d:Int)∧(↑d:Int)<(↑(iE i.l).length:Int))∧∃(e:Int),zF (iE i.l) (↑d:Int).toNat 0 1=some [D.v (.int .i64 e)]∧(0≤(↑d:Int)∧(↑d:Int)<(↑(iE i.out).length:Int))∧∃(f:Int),zF (iE i.out) (↑d:Int).toNat 0 1=some [D.v (.int .i64 f)]∧cnd (decide (e>f)) ((0≤(↑d:Int)∧(↑d:Int)<(↑(iE i.l).length:Int))∧∃(g:Int),zF (iE i.l) (↑d:Int).toNat 0 1=some [D.v (.int .i64 g)]∧(0≤(↑d:Int)∧(↑d:Int)<(↑(iE i.out).length:Int))∧∃(h:Int),zF (iE i.out) (↑d:Int).toNat 0 1=some [D.v (.int .i64 h)]∧((iE (i.left d)).length+1)*(8:Nat)≤(70368744177664:Nat)∧((iE (List.map (fun(g:Nat) ↦ (↑g:Int)) (i.idx d))).length+1)*(8:Nat)≤(70368744177664:Nat)∧∃(j:Nat),(↑j:Int)=IntKind.i64.wrap ((↑d:Int)+1)∧iE (i.left j)=iE (i.left d)++[[D.v (.int .i64 (IntKind.i64.wrap (g-h)))]]∧iE (List.map (fun(g:Nat) ↦ (↑g:Int)) (i.idx j))=iE (List.map (fun(g:Nat) ↦ (↑g:Int)) (i.idx d))++[[D.v (.int .i64 (↑d:Int))]]∧b j∧c j<c d∧AObj.own 2 1 (iE i.out)=AObj.own 2 1 (iE i.out)) (∃(g:Nat),(↑g:Int)=IntKind.i64.wrap ((↑d:Int)+1)∧iE (i.left g)=iE (i.left d)∧iE (List.map (fun(e:Nat) ↦ (↑e:Int)) (i.idx g))=iE (List.map (fun(e:Nat) ↦ (↑e:Int)) (i.idx d))∧b g∧c g<c d∧AObj.own 2 1 (iE i.out)=AObj.own 2 1 (iE i.out))) (∃(e:PlI),iE e.l=iE (i.left d)∧e.least=i.least∧e.q=i.q∧(e.l.length≤1000000∧((-9223372036854775808)≤e.q∧e.q≤9223372036854775807)∧(-9223372036854775808)≤e.least∧e.least≤9223372036854775807)∧∀(f:Unit),True→∃(g:Nat),(↑g:Int)=0∧iE (i.add g)=iE i.out∧∃(h:Nat→Prop),∃(j:Nat→Nat),h g∧∀(k:Nat),h k→cnd (decide ((↑k:Int)<(↑(iE (kR e)).length:Int))) ((0≤(↑k:Int)∧(↑k:Int)<(↑(iE (kR e)).length:Int))∧∃(l:Int),zF (iE (kR e)) (↑k:Int).toNat 0 1=some [D.v (.int .i64 l)]∧(0≤(↑k:Int)∧(↑k:Int)<(↑(iE (List.map (fun(l:Nat) ↦ (↑l:Int)) (i.idx d))).length:Int))∧∃(m:Int),zF (iE (List.map (fun(l:Nat) ↦ (↑l:Int)) (i.idx d))) (↑k:Int).toNat 0 1=some [D.v (.int .i64 m)]∧(0≤m∧m<(↑(iE (i.add k)).length:Int))∧∃(n:Int),zF (iE (i.add k)) m.toNat 0 1=some [D.v (.int .i64 n)]∧(0≤m∧m<(↑(iE (i.add k)).length:Int))∧m.toNat<(iE (i.add k)).length∧∃(p:Nat),(↑p:Int)=IntKind.i64.wrap ((↑k:Int)+1)∧iE (i.add p)=yC (iE (i.add k)) m.toNat 0 [D.v (.int .i64 (IntKind.i64.wrap (n+l)))]∧h p∧j p<j k∧AObj.own 2 1 (iE (kR e))=AObj.own 2 1 (iE (kR e))∧AObj.fro 1 (iE (i.left d))=AObj.fro 1 (iE (i.left d))∧AObj.own 3 1 (iE (List.map (fun(l:Nat) ↦ (↑l:Int)) (i.idx d)))=AObj.own 3 1 (iE (List.map (fun(l:Nat) ↦ (↑l:Int)) (i.idx d)))) (∃(l:Unit),iE (bZ i)=iE (i.add k)∧True))
theorem yHt (hG:GOk Tryz.prog ([(149,plainC)])) (h:∀(i:RsI),restC.cnd i→z9f i):restC.ok Tryz.prog 142:=okw mixed hG 0 (fun _=>[]) (fun i=>yLt i) [] Tryz.func142 h
def yFe (o:zD):Prop:=
 ∃(a:Unit),o.top=o.top∧True
theorem yHc (hG:GOk Tryz.prog ([])) (h:∀(o:zD),topFC.cnd o→yFe o):topFC.ok Tryz.prog 130:=okw mixed hG 0 (fun _=>[]) (fun _=>[]) [] Tryz.func130 h
def zOb (l:List zD):Prop:=
 ∃(a:Nat),(↑a:Int)=0∧∃(b:Nat→Prop),∃(c:Nat→Nat),b a∧∀(d:Nat),b d→cnd (decide ((↑d:Int)<(↑(List.map j9 l).length:Int))) ((0≤(↑d:Int)∧(↑d:Int)<(↑(List.map j9 l).length:Int))∧∃(e:Int),∃(f:Int),∃(g:Int),∃(h:Int),∃(j:Bool),zF (List.map j9 l) (↑d:Int).toNat 0 5=some [D.v (.int .i64 e),D.v (.int .i64 f),D.v (.int .i64 g),D.v (.int .i64 h),D.v (.bool j)]∧∃(k:zD),k.id=e∧k.side=f∧k.price=g∧k.qty=h∧k.top=j∧True∧∀(m:Unit),True→cnd k.top (∃(n:Unit),topI l=(↑d:Int)∧True) (fB d b c)) (∃(e:Unit),topI l=(-1)∧True)
theorem z6d (hG:GOk Tryz.prog ([(130,topFC)])) (h:∀(l:List zD),idxOrdC.cnd l→zOb l):idxOrdC.ok Tryz.prog 129:=okw mixed hG 0 (fun _=>[]) (fun l=>yAk l) [] Tryz.func129 h
open Go Cv Go.Proofs
theorem yEg:topFC.ok Tryz.prog 130:=yHc gok0 fun o _=>by
 unfold yFe
 exact⟨(),rfl,trivial⟩
theorem zWd (i:PlI):(kR i).length=i.l.length∨kR i=[]:=by
 rw[kR]
 split
 ·left;rw[PlI.p1,sP,List.length_zip,zVw];simp
 ·exact .inr rfl
theorem yHf {l:List zD} {k:Nat} {o:zD} (h:l[k]? =some o):zF (l.map j9) k 0 5=some [D.v (.int .i64 o.id),.v (.int .i64 o.side),.v (.int .i64 o.price),.v (.int .i64 o.qty),.v (.bool o.top)]:=elA h (by simp[j9]) rfl
theorem yDb (l:List zD) (h:idxOrdC.cnd l):zOb l:=by
 have h:l.length≤1000000:=h
 unfold zOb fB wT
 simp only[List.length_map]
 refine⟨0,rfl,fun j=>j≤l.length∧∀k<j,∀x,l[k]? =some x→x.top=false,fun j=>l.length-j,⟨by omega,fun k hk=>by omega⟩,?_⟩
 rintro j ⟨h3,h4⟩
 refine zK (fun hj=> ?_) (fun hj=> ?_)
 ·obtain⟨s,hs⟩:=yA (l:=l) (i:=j) (by omega)
  refine⟨⟨by omega,by omega⟩,s.id,s.side,s.price,s.qty,s.top,yHf hs,s,rfl,rfl,rfl,rfl,rfl,trivial,fun _ _=>Cv.cnd.mk (fun e=> ?_) (fun e=> ?_)⟩
  ·rw[topI,zAk hs e h4];(repeat'(first|exact rfl|exact trivial|assumption|apply And.intro|refine fun(_:Unit) (_:True)=>?_|refine Exists.intro () ?_|omega|(dsimp only;omega)))
  ·refine⟨j+1,by rw[w64 (by omega)];rfl,⟨by omega,fun k hk x hx=> ?_⟩,by(first|omega|(dsimp only;omega)),by(repeat'(first|exact trivial|exact rfl|apply And.intro))⟩
   rcases Nat.lt_or_ge k j with hk'|hk'
   ·exact h4 k hk' x hx
   ·obtain rfl:k=j:=by omega
    rw[hs]at hx;cases hx;exact e
 ·rw[topI,zBg fun k x hx=>h4 k (by have:=(List.getElem?_eq_some_iff.1 hx).1;omega) x hx];(repeat'(first|exact rfl|exact trivial|assumption|apply And.intro|refine fun(_:Unit) (_:True)=>?_|refine Exists.intro () ?_|omega|(dsimp only;omega)))
theorem z0j:idxOrdC.ok Tryz.prog 129:=z6d (gokc yEg gok0) yDb
theorem z8j (i:RsI) (j:Nat):i.idx (j+1)=i.idx j++if i.out.getD j 0<i.l.getD j 0 then[j]else[]:=by
 rw[RsI.idx,List.range_succ,List.filter_append]
 by_cases h:i.out.getD j 0<i.l.getD j 0
 ·rw[if_pos h,List.filter_cons_of_pos (by simpa using h)];rfl
 ·rw[if_neg h,List.filter_cons_of_neg (by simpa using h)];rfl
theorem yLo (i:RsI) {k n:Nat} (h:n∈i.idx k):n<k:=by
 have:=(List.mem_filter.1 h).1
 exact List.mem_range.1 this
theorem zXu (i:RsI) (k:Nat):(i.idx k).length≤k:=by
 have:=List.length_filter_le (fun n=>decide (i.out.getD n 0<i.l.getD n 0)) (List.range k)
 rw[List.length_range]at this
 exact this
theorem zRy:∀(z:List (Nat×Int)) (o:List Int),(z.foldl (fun o y=>o.set y.1 (IntKind.i64.wrap (o.getD y.1 0+y.2))) o).length=o.length
 |[],_=>rfl
 |y::z,o=>by rw[List.foldl_cons,zRy z,List.length_set]
theorem yMg (i:RsI) (h:restC.cnd i):z9f i:=by
 obtain⟨hl,ho,hq,hle,hb⟩:i.ok:=h
 unfold z9f
 simp only[xI,List.length_map]
 have hil:∀j,(i.left j).length=(i.idx j).length:=fun j=>List.length_map _
 refine⟨0,by(first|exact rfl|exact trivial),by(first|exact rfl|exact trivial),by(first|exact rfl|exact trivial),fun j=>j≤i.l.length,fun j=>i.l.length-j,Nat.zero_le _,fun j hj=>zK (fun c=> ?_) (fun c=> ?_)⟩
 ·have hj':j<i.l.length:=by omega
  obtain⟨n,hn⟩:=yA (l:=i.l) (i:=j) hj'
  obtain⟨o,hoo⟩:=yA (l:=i.out) (i:=j) (by omega)
  have bj:=hb j
  rw[zI hn,zI hoo]at bj
  have is:=z8j i j
  rw[zI hn,zI hoo]at is
  have il:=zXu i j
  refine⟨⟨by omega,by omega⟩,n,elI hn,⟨by omega,by omega⟩,o,elI hoo,zK (fun a=> ?_) (fun a=> ?_)⟩
  ·rw[if_pos (by omega)]at is
   refine⟨⟨by omega,by omega⟩,n,elI hn,⟨by omega,by omega⟩,o,elI hoo,by rw[hil];omega,by omega,j+1,wjn (by omega),?_,?_,hj',by dsimp only;omega,by(repeat'(first|exact trivial|exact rfl|apply And.intro))⟩
   ·rw[w64 (by omega),RsI.left,is,List.map_append]
    simp[iE,RsI.left,hn,hoo]
   ·rw[is];simp[iE]
  ·rw[if_neg (by omega),List.append_nil]at is
   exact⟨j+1,wjn (by omega),by rw[RsI.left,is];rfl,by rw[is],hj',by dsimp only;omega,by(repeat'(first|exact trivial|exact rfl|apply And.intro))⟩
 have hje:j=i.l.length:=by omega
 subst hje
 have il:=zXu i i.l.length
 refine⟨⟨i.left i.l.length,i.least,i.q⟩,rfl,rfl,rfl,⟨by dsimp only;rw[hil];omega,hq,hle⟩,fun _ _=> ?_⟩
 have epl:kR ⟨i.left i.l.length,i.least,i.q⟩=i.pl:=rfl
 rw[epl]
 have hpl:i.pl.length≤(i.idx i.l.length).length:=by
  rcases zWd ⟨i.left i.l.length,i.least,i.q⟩with e|e
  ·rw[epl]at e;rw[e];dsimp only;rw[hil];exact Nat.le_refl _
  ·rw[epl]at e;rw[e];exact Nat.zero_le _
 have hal:∀k,(i.add k).length=i.out.length:=fun k=>zRy _ _
 refine⟨0,by(first|exact rfl|exact trivial),by(first|exact rfl|exact trivial),fun k=>k≤i.pl.length,fun k=>i.pl.length-k,Nat.zero_le _,fun k hk=>zK (fun c=> ?_) (fun c=> ?_)⟩
 ·have hk':k<i.pl.length:=by omega
  obtain⟨x,hx⟩:=yA (l:=i.pl) (i:=k) hk'
  obtain⟨n,hn⟩:=yA (l:=i.idx i.l.length) (i:=k) (by omega)
  have hnl:=yLo i (List.mem_of_getElem? hn)
  obtain⟨y,hy⟩:=yA (l:=i.add k) (i:=n) (by rw[hal];omega)
  have ea:i.add (k+1)=(i.add k).set n (IntKind.i64.wrap (y+x)):=by
   have hz:((i.idx i.l.length).zip i.pl)[k]? =some (n,x):=by rw[List.getElem?_zip_eq_some];exact⟨hn,hx⟩
   have ey:(i.add k).getD n 0=y:=zI hy
   rw[RsI.add,List.take_add_one,hz,List.foldl_append]
   show(i.add k).set n (IntKind.i64.wrap ((i.add k).getD n 0+x))=_
   rw[ey]
  have hnm:((i.idx i.l.length).map fun(n:Nat)=>(n:Int))[k]? =some (n:Int):=by rw[List.getElem?_map,hn];rfl
  rw[hal]
  refine⟨⟨by omega,by omega⟩,x,elI hx,⟨by omega,by omega⟩,n,elI hnm,⟨by omega,by omega⟩,y,elI hy,⟨by omega,by omega⟩,by omega,k+1,wjn (by omega),?_,hk',by dsimp only;omega,by(repeat'(first|exact trivial|exact rfl|apply And.intro))⟩
  rw[ea,Int.toNat_natCast,zNz hy]
 ·have hke:k=i.pl.length:=by omega
  subst hke
  exact⟨(),rfl,trivial⟩
theorem zXn:restC.ok Tryz.prog 142:=yHt (gokc z6u gok0) yMg
open Go Cv Go.Proofs
structure PsI where
 l:List Int
 top:Int
 most:Int
 least:Int
 q:Int
def PsI.first (i:PsI):Int:=min (min (i.l.getD i.top.toNat 0) i.most) i.q
def PsI.rs (i:PsI):RsI:=if 0≤i.top∧i.top<i.l.length then⟨i.l,(List.replicate i.l.length 0).set i.top.toNat i.first,i.least,i.q-i.first⟩else⟨i.l,List.replicate i.l.length 0,i.least,i.q⟩
def lT (i:PsI):List Int:=if yM i.l i.q=true∧1≤i.least∧0≤i.most then bZ i.rs else[]
def proC:Con:=con1 PsI (fun i=>[iV i.l,zB i.top,zB i.most,zB i.least,zB i.q]) (fun _=>[]) (fun i=>i.l.length≤1000000∧yQ i.q∧yQ i.least∧yQ i.most) (fun _=> .own 0) (fun i=>[.own 2 1 (iE (lT i))])
structure SpI where
 l:List Int
 part:Int
 least:Int
 q:Int
def SpI.rs (i:SpI):RsI:=⟨i.l,vX i.l (i.q*i.part / 100),i.least,i.q-i.q*i.part / 100⟩
def tJ (i:SpI):List Int:=if yM i.l i.q=true∧0≤i.part∧i.part≤100∧1≤i.least then bZ i.rs else[]
def splC:Con:=con1 SpI (fun i=>[iV i.l,zB i.part,zB i.least,zB i.q]) (fun _=>[]) (fun i=>i.l.length≤1000000∧yQ i.q∧yQ i.least∧yQ i.part) (fun _=> .own 0) (fun i=>[.own 2 1 (iE (tJ i))])
open Go Cv Go.Proofs
def zDn (a:RsI):Prop:=a.l.length≤250∧a.out.length=a.l.length∧((-9223372036854775808)≤a.q∧a.q≤9223372036854775807)∧((-9223372036854775808)≤a.least∧a.least≤9223372036854775807)∧∀(b:Nat),0≤a.out.getD b 0∧a.out.getD b 0≤a.l.getD b 0∧a.l.getD b (0:Int)≤(1000000:Int)
def zNt (a:RsI) (b:PsI):Prop:=(zDn a)∧∀(c:Unit),True→∃(d:Unit),iE (lT b)=iE (bZ a)∧True
def zNw (a:PsI):Prop:=∃(b:RsI),iE b.l=iE a.l∧b.least=a.least∧b.q=a.q∧iE b.out=List.replicate (↑(iE a.l).length:Int).toNat [D.v (.int .i64 0)]∧zNt b a
def nU (a:PsI):=(List.replicate (↑(iE a.l).length:Int).toNat [D.v (.int .i64 0)])
def zGk (a:PsI) (b:Int):=(yC (nU a) a.top.toNat (0:Nat) [D.v (.int .i64 (min (min b a.most) a.q))])
def yHq (i:PsI):Prop:=
 ∃(a:LqI),iE a.l=iE i.l∧a.q=i.q∧(jS a)∧∀(b:Unit),True→cnd (!yM a.l a.q) (∃(c:Unit),iE (lT i)=[]∧True) (cnd (decide (i.least<1)) (∃(c:Unit),iE (lT i)=[]∧True) (cnd (decide (i.most<0)) (∃(c:Unit),iE (lT i)=[]∧True) ((0≤(↑(iE i.l).length:Int)∧(↑(iE i.l).length:Int)≤(↑(iE i.l).length:Int)∧(↑(iE i.l).length:Int)≤9223372036854775807∧(↑(8:Nat):Int)*(↑(iE i.l).length:Int)≤2 ^ (48:Nat))∧cnd (decide (i.top≥0)) (cnd (decide (i.top<(↑(iE i.l).length:Int))) ((0≤i.top∧i.top<(↑(iE i.l).length:Int))∧∃(c:Int),zF (iE i.l) i.top.toNat 0 1=some [D.v (.int .i64 c)]∧(0≤i.top∧i.top<(↑(nU i).length:Int))∧i.top.toNat<(nU i).length∧(0≤i.top∧i.top<(↑(zGk i c).length:Int))∧∃(d:Int),zF (zGk i c) i.top.toNat 0 1=some [D.v (.int .i64 d)]∧∃(e:RsI),iE e.l=iE i.l∧e.least=i.least∧e.q=IntKind.i64.wrap (i.q-d)∧iE e.out=yC (nU i) i.top.toNat 0 [D.v (.int .i64 (min (min c i.most) i.q))]∧zNt e i) (zNw i)) (zNw i))))
theorem yLz (hG:GOk Tryz.prog ([(141,rightC),(142,restC)])) (h:∀(i:PsI),proC.cnd i→yHq i):proC.ok Tryz.prog 131:=okw mixed hG 0 (fun _=>[]) (fun _=>[]) [] Tryz.func131 h
def yJb (i:SpI):Prop:=
 ∃(a:LqI),iE a.l=iE i.l∧a.q=i.q∧(jS a)∧∀(b:Unit),True→cnd (!yM a.l a.q) (∃(c:Unit),iE (tJ i)=[]∧True) (cnd (decide (i.part<0)) (∃(c:Unit),iE (tJ i)=[]∧True) (cnd (decide (i.part>100)) (∃(c:Unit),iE (tJ i)=[]∧True) (cnd (decide (i.least<1)) (∃(c:Unit),iE (tJ i)=[]∧True) (∃(c:ShI),c.a=i.q∧c.b=i.part∧c.c=100∧(0≤c.a∧c.a≤(2000000000:Int)∧(0:Int)≤c.b∧c.b≤(2000000000:Int)∧(1:Int)≤c.c∧c.c≤2000000000)∧∀(d:Unit),True→∃(e:LqI),iE e.l=iE i.l∧e.q=c.a*c.b / c.c∧(jS e)∧∀(f:Unit),True→∃(g:RsI),iE g.l=iE i.l∧g.least=i.least∧g.q=IntKind.i64.wrap (i.q-c.a*c.b / c.c)∧iE g.out=iE (vX e.l e.q)∧(zDn g)∧∀(h:Unit),True→∃(j:Unit),iE (tJ i)=iE (bZ g)∧True))))
theorem yMv (hG:GOk Tryz.prog ([(141,rightC),(143,ishareC),(128,fifoC),(142,restC)])) (h:∀(i:SpI),splC.cnd i→yJb i):splC.ok Tryz.prog 132:=okw mixed hG 0 (fun _=>[]) (fun _=>[]) [] Tryz.func132 h
open Go Cv Go.Proofs
theorem z7u {l:List Int} {q r:Int} (h:yM l q=true) (h0:0≤r) (h1:r≤q):yM l r=true:=by
 obtain⟨a,b,c,d⟩:=kW h
 have e:(l.all fun n=>decide (1≤n) && decide (n≤1000000))=true:=by
  rw[List.all_eq_true];intro x hx;simpa using c x hx
 rw[yM,e,decide_eq_true a,decide_eq_true h0,decide_eq_true (show r≤l.sum by omega)];rfl
theorem getD_none {l:List Int} {n:Nat} (h:l[n]? =none):l.getD n 0=0:=by rw[List.getD_eq_getElem?_getD,h];rfl
theorem sI {l:List Int} {q:Int} (h:yM l q=true) (n:Nat):0≤l.getD n 0∧l.getD n 0≤1000000:=by
 cases hn:l[n]? with
 |none=>rw[getD_none hn];decide
 |some x=>rw[zI hn];have:=(kW h).2.2.1 x (List.mem_of_getElem? hn);omega
theorem z1f {l:List Int} {q:Int} (h:yM l q=true) (n:Nat):0≤(vX l q).getD n 0∧(vX l q).getD n 0≤l.getD n 0:=by
 rw[vX,if_pos h]
 obtain⟨a,b,c,d⟩:=kW h
 cases hn:l[n]? with
 |none=>
  have:(vT l q)[n]? =none:=by rw[List.getElem?_eq_none_iff,nN];exact List.getElem?_eq_none_iff.1 hn
  rw[getD_none hn,getD_none this];decide
 |some x=>
  rw[zI hn,zI (zHd l q n x hn)]
  have:=zAj l q n b (fun y hy=>by have:=c y hy;omega)
  have:=c x (List.mem_of_getElem? hn)
  omega
theorem yOy (i:SpI) (h:splC.cnd i):yJb i:=by
 obtain⟨hl,hq,hle,hpa⟩:i.l.length≤1000000∧yQ i.q∧yQ i.least∧yQ i.part:=h
 unfold yJb zDn jS
 have no (e:¬(yM i.l i.q=true∧0≤i.part∧i.part≤100∧1≤i.least)):tJ i=[]:=by rw[tJ,if_neg e]
 refine⟨⟨i.l,i.q⟩,rfl,rfl,⟨hl,hq⟩,fun _ _=>Cv.cnd.mk (fun c=> ?_) (fun c=>zK (fun d=> ?_) (fun d=>zK (fun e=> ?_) (fun e=>zK (fun f=> ?_) (fun f=> ?_))))⟩
 ·have c:yM i.l i.q=false:=by simpa using c
  exact⟨(),by rw[no (by rw[c];simp)];rfl,trivial⟩
 ·exact⟨(),by rw[no (by omega)];rfl,trivial⟩
 ·exact⟨(),by rw[no (by omega)];rfl,trivial⟩
 ·exact⟨(),by rw[no (by omega)];rfl,trivial⟩
 have c:yM i.l i.q=true:=by simpa using c
 obtain⟨h1,h2,h3,h4⟩:=kW c
 have hq2:=zDt c
 have m0:0≤i.q*i.part:=Int.mul_nonneg h2 (by omega)
 have m1:i.q*i.part≤i.q*100:=Int.mul_le_mul_of_nonneg_left (by omega) h2
 have hr:=z7u (r:=i.q*i.part / 100) c (by omega) (by omega)
 have es:tJ i=bZ i.rs:=by rw[tJ,if_pos ⟨c,by omega,by omega,by omega⟩]
 refine⟨⟨i.q,i.part,100⟩,rfl,rfl,rfl,⟨by dsimp only;omega,by dsimp only;omega,by dsimp only;omega,by dsimp only;omega,by dsimp only;omega,by dsimp only;omega⟩,fun _ _=>⟨⟨i.l,i.q*i.part / 100⟩,rfl,rfl,⟨hl,by dsimp only;omega,by dsimp only;omega⟩,fun _ _=>⟨i.rs,rfl,rfl,?_,rfl,⟨h1,?_,?_,hle,?_⟩,fun _ _=>⟨(),by rw[es],trivial⟩⟩⟩⟩
 ·rw[w64 (by dsimp only;omega)];rfl
 ·show(vX i.l (i.q*i.part / 100)).length=i.l.length
  rw[vX,if_pos hr,nN]
 ·show yQ (i.q-i.q*i.part / 100)
  exact⟨by omega,by omega⟩
 ·intro n
  have a:=z1f hr n
  have b:=sI c n
  exact⟨a.1,a.2,b.2⟩
theorem yGx:splC.ok Tryz.prog 132:=yMv (gokc lX (gokc zLe (gokc zZw (gokc zXn gok0)))) yOy
theorem yIj (n:Nat):List.replicate n [D.v (.int .i64 0)]=iE (List.replicate n 0):=by simp[iE]
theorem zSb (n k:Nat):(List.replicate n (0:Int)).getD k 0=0:=by
 rw[List.getD_eq_getElem?_getD,List.getElem?_replicate];split<;>rfl
theorem z5s (n t k:Nat) (x:Int):((List.replicate n (0:Int)).set t x).getD k 0=x∧k=t∨((List.replicate n (0:Int)).set t x).getD k 0=0:=by
 rw[List.getD_eq_getElem?_getD,List.getElem?_set]
 split
 ·rename_i e
  split
  ·exact .inl ⟨rfl,e.symm⟩
  ·exact .inr rfl
 ·right;rw[← List.getD_eq_getElem?_getD];exact zSb n k
theorem yOm (i:PsI) (h:proC.cnd i):yHq i:=by
 obtain⟨hl,hq,hle,hmo⟩:i.l.length≤1000000∧yQ i.q∧yQ i.least∧yQ i.most:=h
 unfold yHq zNw zNt zDn zGk nU jS
 have no (e:¬(yM i.l i.q=true∧1≤i.least∧0≤i.most)):lT i=[]:=by rw[lT,if_neg e]
 refine⟨⟨i.l,i.q⟩,rfl,rfl,⟨hl,hq⟩,fun _ _=>Cv.cnd.mk (fun c=> ?_) (fun c=>zK (fun d=> ?_) (fun d=>zK (fun e=> ?_) (fun e=> ?_)))⟩
 ·have c:yM i.l i.q=false:=by simpa using c
  exact⟨(),by rw[no (by rw[c];simp)];rfl,trivial⟩
 ·exact⟨(),by rw[no (by omega)];rfl,trivial⟩
 ·exact⟨(),by rw[no (by omega)];rfl,trivial⟩
 have c:yM i.l i.q=true:=by simpa using c
 obtain⟨h1,h2,h3,h4⟩:=kW c
 have hq2:=zDt c
 have es:lT i=bZ i.rs:=by rw[lT,if_pos ⟨c,by omega,by omega⟩]
 simp only[xI,Int.toNat_natCast,yIj]
 have out (hn:¬(0≤i.top∧i.top<(i.l.length:Int))):i.rs=⟨i.l,List.replicate i.l.length 0,i.least,i.q⟩:=by rw[PsI.rs,if_neg hn]
 have ok0:RsI.ok ⟨i.l,List.replicate i.l.length 0,i.least,i.q⟩:=⟨h1,by simp,hq,hle,fun n=>by
  have:=sI c n
  dsimp only
  rw[zSb];omega⟩
 refine⟨⟨by omega,by omega,by omega,by omega⟩,zK (fun a=>zK (fun b=> ?_) (fun b=> ?_)) (fun a=> ?_)⟩
 ·obtain⟨n,hn⟩:=yA (l:=i.l) (i:=i.top.toNat) (by omega)
  have hf:i.first=min (min n i.most) i.q:=by rw[PsI.first,zI hn]
  have bn:=h3 n (List.mem_of_getElem? hn)
  have hr0:(List.replicate i.l.length (0:Int))[i.top.toNat]? =some 0:=by rw[List.getElem?_replicate,if_pos (by omega)]
  have ers:i.rs=⟨i.l,(List.replicate i.l.length 0).set i.top.toNat i.first,i.least,i.q-i.first⟩:=by rw[PsI.rs,if_pos ⟨by omega,by omega⟩]
  refine⟨⟨by omega,by omega⟩,n,elI hn,?_⟩
  rw[zNz hr0,← hf]
  simp only[xI,List.length_set,List.length_replicate]
  refine⟨⟨by omega,by omega⟩,by omega,⟨by omega,by omega⟩,i.first,elI (vS hr0),?_⟩
  rw[w64 (x:=i.q-i.first) (by omega)]
  refine⟨⟨i.l,(List.replicate i.l.length 0).set i.top.toNat i.first,i.least,i.q-i.first⟩,rfl,rfl,rfl,rfl,⟨h1,by simp,⟨by dsimp only;omega,by dsimp only;omega⟩,hle,fun k=> ?_⟩,fun _ _=>⟨(),by rw[es,ers],trivial⟩⟩
  have bk:=sI c k
  dsimp only
  rcases z5s i.l.length i.top.toNat k i.first with⟨g,gk⟩|g
  ·rw[g,gk,zI hn];omega
  ·rw[g];omega
 ·refine⟨⟨i.l,List.replicate i.l.length 0,i.least,i.q⟩,rfl,rfl,rfl,rfl,ok0,fun _ _=>⟨(),by rw[es,out (by omega)],trivial⟩⟩
 ·refine⟨⟨i.l,List.replicate i.l.length 0,i.least,i.q⟩,rfl,rfl,rfl,rfl,ok0,fun _ _=>⟨(),by rw[es,out (by omega)],trivial⟩⟩
theorem yGi:proC.ok Tryz.prog 131:=yLz (gokc lX (gokc zXn gok0)) yOm
open Go Cv Go.Proofs
structure AlI where
 p:Prd
 l:List zD
 q:Int
def AlI.qs (i:AlI):List Int:=i.l.map (·.qty)
def qM (i:AlI):List Int:=if i.p.rule=1 then vX i.qs i.q else if i.p.rule=2 then lT ⟨i.qs,topI i.l,i.p.top,i.p.least,i.q⟩else if i.p.rule=3 then tJ ⟨i.qs,i.p.part,i.p.least,i.q⟩else[]
def allocC:Con:=con1 AlI (fun i=>[prdV i.p,roV 5 (i.l.map j9),zB i.q]) (fun _=>[]) (fun i=>i.l.length≤1000∧yQ i.q∧yQ i.p.least∧yQ i.p.top∧yQ i.p.part) (fun _=> .own 0) (fun i=>[.own 2 1 (iE (qM i))])
def yKq (i:AlI):List SAnn:=[{ι:=Nat,slots:=fun j=>[(7,.own 0),(13,zB j)],rows:=fun j=>[.own 2 1 (iE (i.qs.take j))]}]
open Go Cv Go.Proofs
def zUk (i:AlI):Prop:=
 ∃(a:Nat),(↑a:Int)=0∧iE (List.take a i.qs)=[]∧∃(b:Nat→Prop),∃(c:Nat→Nat),b a∧∀(d:Nat),b d→cnd (decide ((↑d:Int)<(↑(List.map j9 i.l).length:Int))) ((0≤(↑d:Int)∧(↑d:Int)<(↑(List.map j9 i.l).length:Int))∧∃(e:Int),∃(f:Int),∃(g:Int),∃(h:Int),∃(j:Bool),zF (List.map j9 i.l) (↑d:Int).toNat 0 5=some [D.v (.int .i64 e),D.v (.int .i64 f),D.v (.int .i64 g),D.v (.int .i64 h),D.v (.bool j)]∧((iE (List.take d i.qs)).length+1)*(8:Nat)≤(70368744177664:Nat)∧∃(k:Nat),(↑k:Int)=IntKind.i64.wrap ((↑d:Int)+1)∧iE (List.take k i.qs)=iE (List.take d i.qs)++[[D.v (.int .i64 h)]]∧b k∧c k<c d∧Sx.AObj.cells [V.d (D.v (Value.string (sb i.p.code))),V.own 0,V.d (D.v (.int .i64 i.p.tick)),V.d (D.v (.int .i64 i.p.low)),V.d (D.v (.int .i64 i.p.high)),V.d (D.v (.int .i64 i.p.wide)),V.d (D.v (.int .i64 i.p.rule)),V.d (D.v (.int .i64 i.p.top)),V.d (D.v (.int .i64 i.p.least)),V.d (D.v (.int .i64 i.p.part)),V.own ((0:Nat)+(1:Nat))] 29=Sx.AObj.cells [V.d (D.v (Value.string (sb i.p.code))),V.own 0,V.d (D.v (.int .i64 i.p.tick)),V.d (D.v (.int .i64 i.p.low)),V.d (D.v (.int .i64 i.p.high)),V.d (D.v (.int .i64 i.p.wide)),V.d (D.v (.int .i64 i.p.rule)),V.d (D.v (.int .i64 i.p.top)),V.d (D.v (.int .i64 i.p.least)),V.d (D.v (.int .i64 i.p.part)),V.own ((0:Nat)+(1:Nat))] 29∧AObj.fro 1 (iE i.p.settle)=AObj.fro 1 (iE i.p.settle)∧AObj.fro 1 (iE i.p.months)=AObj.fro 1 (iE i.p.months)) (cnd (i.p.rule==1) (∃(e:LqI),iE e.l=iE (List.take d i.qs)∧e.q=i.q∧(jS e)∧∀(f:Unit),True→∃(g:Unit),iE (qM i)=iE (vX e.l e.q)∧True) (cnd (i.p.rule==2) (∃(e:List zD),List.map j9 e=List.map j9 i.l∧e.length≤1000000∧∀(f:Unit),True→∃(g:PsI),iE g.l=iE (List.take d i.qs)∧g.top=topI e∧g.most=i.p.top∧g.least=i.p.least∧g.q=i.q∧(g.l.length≤1000000∧((-9223372036854775808)≤g.q∧g.q≤9223372036854775807)∧((-9223372036854775808)≤g.least∧g.least≤9223372036854775807)∧(-9223372036854775808)≤g.most∧g.most≤9223372036854775807)∧∀(h:Unit),True→∃(j:Unit),iE (qM i)=iE (lT g)∧True) (cnd (i.p.rule==3) (∃(e:SpI),iE e.l=iE (List.take d i.qs)∧e.part=i.p.part∧e.least=i.p.least∧e.q=i.q∧(e.l.length≤1000000∧((-9223372036854775808)≤e.q∧e.q≤9223372036854775807)∧((-9223372036854775808)≤e.least∧e.least≤9223372036854775807)∧(-9223372036854775808)≤e.part∧e.part≤9223372036854775807)∧∀(f:Unit),True→∃(g:Unit),iE (qM i)=iE (tJ e)∧True) (∃(e:Unit),iE (qM i)=[]∧True))))
theorem yAf (hG:GOk Tryz.prog ([(128,fifoC),(129,idxOrdC),(131,proC),(132,splC)])) (h:∀(i:AlI),allocC.cnd i→zUk i):allocC.ok Tryz.prog 113:=okw mixed hG 0 (fun _=>[]) (fun i=>yKq i) [] Tryz.func113 h
open Go Cv Go.Proofs
theorem yJz (i:AlI) (h:allocC.cnd i):zUk i:=by
 obtain⟨hl,hq,hle,hto,hpa⟩:i.l.length≤1000∧yQ i.q∧yQ i.p.least∧yQ i.p.top∧yQ i.p.part:=h
 have hql:i.qs.length=i.l.length:=by simp[AlI.qs]
 unfold zUk jS
 simp only[xI,List.length_map]
 refine⟨0,by(first|exact rfl|exact trivial),by(first|exact rfl|exact trivial),fun j=>j≤i.l.length,fun j=>i.l.length-j,Nat.zero_le _,fun j hj=>zK (fun c=> ?_) (fun c=> ?_)⟩
 ·have hj':j<i.l.length:=by omega
  obtain⟨o,ho⟩:=yA (l:=i.l) (i:=j) hj'
  have hqo:i.qs[j]? =some o.qty:=by rw[AlI.qs,List.getElem?_map,ho];rfl
  refine⟨⟨by omega,by omega⟩,o.id,o.side,o.price,o.qty,o.top,yHf ho,by rw[List.length_take];omega,j+1,wjn (by omega),?_,hj',by dsimp only;omega,by(repeat'(first|exact trivial|exact rfl|apply And.intro))⟩
  rw[List.take_add_one,hqo];simp[iE]
 have hje:j=i.l.length:=by omega
 subst hje
 rw[List.take_of_length_le (l:=i.qs) (by omega)]
 refine Cv.cnd.mk (fun a=> ?_) (fun a=>Cv.cnd.mk (fun b=> ?_) (fun b=>Cv.cnd.mk (fun d=> ?_) (fun d=> ?_)))
 ·have a:i.p.rule=1:=by simpa using a
  exact⟨⟨i.qs,i.q⟩,rfl,rfl,⟨by dsimp only;omega,hq⟩,fun _ _=>⟨(),by rw[qM,if_pos a],trivial⟩⟩
 ·have a:¬i.p.rule=1:=by simpa using a
  have b:i.p.rule=2:=by simpa using b
  exact⟨i.l,rfl,by omega,fun _ _=>⟨⟨i.qs,topI i.l,i.p.top,i.p.least,i.q⟩,rfl,rfl,rfl,rfl,rfl,⟨by dsimp only;omega,hq,hle,hto⟩,fun _ _=>⟨(),by rw[qM,if_neg a,if_pos b],trivial⟩⟩⟩
 ·have a:¬i.p.rule=1:=by simpa using a
  have b:¬i.p.rule=2:=by simpa using b
  have d:i.p.rule=3:=by simpa using d
  exact⟨⟨i.qs,i.p.part,i.p.least,i.q⟩,rfl,rfl,rfl,rfl,⟨by dsimp only;omega,hq,hle,hpa⟩,fun _ _=>⟨(),by rw[qM,if_neg a,if_neg b,if_pos d],trivial⟩⟩
 ·have a:¬i.p.rule=1:=by simpa using a
  have b:¬i.p.rule=2:=by simpa using b
  have d:¬i.p.rule=3:=by simpa using d
  exact⟨(),by rw[qM,if_neg a,if_neg b,if_neg d];rfl,trivial⟩
theorem z9t:allocC.ok Tryz.prog 113:=yAf (gokc zZw (gokc z0j (gokc yGi (gokc yGx gok0)))) yJz
open Go Cv Go.Proofs
def wK (l:List Nat) (t:Int):Int:=match l with
 |[]=>t
 |k::_=>k
def kI:List Nat→Int→Int
 |[],p=>p
 |k::l,_=>kI l k
structure zNr (s:Slot) (n k:Nat) (p t:Int):Prop where
 used:s.used=true
 no:s.n=k
 queue:s.queue=n
 ahead:s.ahead=p
 back:s.back=t
 q1:0≤s.qty
 q2:s.qty≤1000000
def seg (sl:List Slot) (n:Nat):Int→List Nat→Int→Prop
 |_,[],_=>True
 |p,k::l,t=>(∃s,sl[k]? =some s∧zNr s n k p (wK l t))∧seg sl n k l t
theorem zBx (l1 l2:List Nat) (t:Int):wK (l1++l2) t=wK l1 (wK l2 t):=by cases l1<;>rfl
theorem f8:∀(l1 l2:List Nat) (p:Int),kI (l1++l2) p=kI l2 (kI l1 p)
 |[],l2,p=>rfl
 |k::l1,l2,p=>f8 l1 l2 k
theorem pK {sl:List Slot} {n:Nat}:∀{l1 l2:List Nat} {p t:Int},seg sl n p (l1++l2) t↔seg sl n p l1 (wK l2 t)∧seg sl n (kI l1 p) l2 t
 |[],l2,p,t=>by simp[seg,kI]
 |k::l1,l2,p,t=>by
  rw[List.cons_append,seg,seg,zBx,pK,kI,and_assoc]
theorem zYt {sl:List Slot} {n k:Nat}:∀{l:List Nat} {p t:Int},seg sl n p l t→k∈l→∃s p' t',sl[k]? =some s∧zNr s n k p' t'
 |j::l,p,t,h,hk=>by
  rcases List.mem_cons.1 hk with rfl|hk
  ·obtain⟨⟨s,h1,h2⟩,_⟩:=h
   exact⟨s,_,_,h1,h2⟩
  ·exact zYt h.2 hk
theorem wD {sl sl':List Slot} {n:Nat}:∀{l:List Nat} {p t:Int},(∀k∈l,sl'[k]? =sl[k]?)→seg sl n p l t→seg sl' n p l t
 |[],p,t,_,h=>h
 |k::l,p,t,e,⟨⟨s,h1,h2⟩,h3⟩=>⟨⟨s,by rw[e k List.mem_cons_self];exact h1,h2⟩,wD (fun j hj=>e j (List.mem_cons_of_mem _ hj)) h3⟩
theorem gY {α:Type} {l:List α} {f:α→α} {i j:Nat} (h:i≠j):(l.modify i f)[j]? =l[j]? :=by rw[List.getElem?_modify];cases l[j]? <;>simp[h]
theorem nH {α:Type} {l:List α} {f:α→α} {i:Nat} {x:α} (h:l[i]? =some x):(l.modify i f)[i]? =some (f x):=by rw[List.getElem?_modify,h];simp
theorem vA {α:Type} {l:List α} {x:α} {i j:Nat} (h:i≠j):(l.set i x)[j]? =l[j]? :=by rw[List.getElem?_set,if_neg h]
theorem vD {α:Type} {l:List α} {x:α} {i:Nat} (h:i<l.length):(l.set i x)[i]? =some x:=by rw[List.getElem?_set,if_pos rfl,if_pos h]
theorem uC {α:Type} {Q:List α} {n m:Nat} {x y:α} (h:(Q.set n x)[m]? =some y):(m=n∧y=x)∨(m≠n∧Q[m]? =some y):=by
 by_cases e:n=m
 ·subst e
  have hn:n<Q.length:=by
   have:=(List.getElem?_eq_some_iff.1 h).1
   simpa using this
  rw[vD hn]at h
  cases h
  exact .inl ⟨rfl,rfl⟩
 ·rw[vA e]at h
  exact .inr ⟨fun c=>e c.symm,h⟩
theorem zQb {sl:List Slot} {n k:Nat} {l:List Nat} {p t:Int} (t':Int) (hk:k∉l) (h:seg sl n p (l++[k]) t):seg (sl.modify k fun s=>{s with back:=t'}) n p (l++[k]) t':=by
 rw[pK]at h ⊢
 obtain⟨h1,⟨s,h2,h3⟩,_⟩:=h
 refine⟨wD (fun j hj=>gY (fun e=>hk (e▸hj))) h1,⟨_,nH h2,?_⟩,trivial⟩
 exact⟨h3.used,h3.no,h3.queue,h3.ahead,rfl,h3.q1,h3.q2⟩
theorem z2g {sl:List Slot} {n k:Nat} {l:List Nat} {p t:Int} (p':Int) (hk:k∉l) (h:seg sl n p (k::l) t):seg (sl.modify k fun s=>{s with ahead:=p'}) n p' (k::l) t:=by
 obtain⟨⟨s,h1,h2⟩,h3⟩:=h
 refine⟨⟨_,nH h1,?_⟩,wD (fun j hj=>gY (fun e=>hk (e▸hj))) h3⟩
 exact⟨h2.used,h2.no,h2.queue,rfl,h2.back,h2.q1,h2.q2⟩
theorem jT (l:List Nat):l=[]∨∃(x:List Nat) (j:Nat),l=x++[j]∧∀p:Int,kI l p=(j:Int):=by
 rcases List.eq_nil_or_concat l with rfl|⟨x,j,rfl⟩
 ·exact .inl rfl
 ·exact .inr ⟨x,j,by simp,fun p=>by rw[List.concat_eq_append,f8];rfl⟩
theorem bC (l:List Nat):kI l (-1)= -1↔l=[]:=by
 rcases jT l with rfl|⟨x,j,rfl,e⟩
 ·simp[kI]
 ·rw[e];simp
theorem zLp (l:List Nat):wK l (-1)= -1↔l=[]:=by
 cases l with
 |nil=>simp[wK]
 |cons k l=>simp only[wK];constructor
            ·intro h;omega
            ·intro h;cases h
theorem rF {α β:Type} {g:α→β} {f:α→α} (h:∀x,g (f x)=g x):∀(l:List α) (i:Nat),(l.modify i f).map g=l.map g
 |[],i=>by simp
 |a::l,0=>by simp[h]
 |a::l,i+1=>by rw[List.modify_succ_cons,List.map_cons,List.map_cons,rF h l i]
theorem zHo:∀(m:Nat) {l:List Nat},l.Nodup→(∀k∈l,k<m)→l.length≤m
 |0,[],_,_=>Nat.le_refl 0
 |0,k::l,_,h=>absurd (h k List.mem_cons_self) (by omega)
 |m+1,l,hn,h=>by
  have:=zHo m (hn.erase m) fun k hk=>by
   have:=(hn.mem_erase_iff).1 hk
   have:=h k this.2
   omega
  by_cases hm:m∈l
  ·rw[List.length_erase_of_mem hm]at this;omega
  ·rw[List.erase_of_not_mem hm]at this;omega
theorem zXg {f g:Nat→Int} {k:Nat}:∀{l:List Nat},l.Nodup→k∈l→(∀j∈l,j≠k→g j=f j)→(l.map g).sum=(l.map f).sum+(g k-f k)
 |j::l,hn,hk,h=>by
  have hn:=List.nodup_cons.1 hn
  rw[List.map_cons,List.map_cons,List.sum_cons,List.sum_cons]
  rcases List.mem_cons.1 hk with rfl|hk
  ·have:l.map g=l.map f:=List.map_congr_left fun i hi=>h i (List.mem_cons_of_mem _ hi) (fun e=>hn.1 (e▸hi))
   rw[this];omega
  ·have e:=h j List.mem_cons_self (fun e=>hn.1 (e▸hk))
   rw[zXg hn.2 hk (fun i hi=>h i (List.mem_cons_of_mem _ hi)),e]
   omega
theorem z3y {f:Nat→Int} {m:Int}:∀{l:List Nat},(∀j∈l,0≤f j∧f j≤m)→0≤(l.map f).sum∧(l.map f).sum≤m*l.length
 |[],_=>by simp
 |j::l,h=>by
  have:=h j List.mem_cons_self
  have:=z3y (l:=l) fun i hi=>h i (List.mem_cons_of_mem _ hi)
  rw[List.map_cons,List.sum_cons,List.length_cons,Int.natCast_add,Int.mul_add]
  simp only[Int.natCast_one,Int.mul_one]
  omega
def Arena.qsum (a:Arena) (l:List Nat):Int:=(l.map fun k=>(a.slotAt k).qty).sum
structure Arena.Wf0 (a:Arena) (Q:List (List Nat)):Prop where
 len:a.slots.length=250
 ql:a.queues.length=Q.length
 q:∀(n:Nat) (l:List Nat),Q[n]? =some l→a.queues[n]? =some ⟨wK l (-1),kI l (-1),a.qsum l,l.length⟩
 sg:∀(n:Nat) (l:List Nat),Q[n]? =some l→seg a.slots n (-1) l (-1)
 nd:∀(n:Nat) (l:List Nat),Q[n]? =some l→l.Nodup
 us:∀(k:Nat) (s:Slot),a.slots[k]? =some s→s.used=true→∃(n:Nat) (l:List Nat),Q[n]? =some l∧k∈l
 free:a.free=((a.slots.map (·.used)).countP (!·):Nat)
structure Arena.Wf (a:Arena) (Q:List (List Nat)):Prop extends a.Wf0 Q where
 pos:∀(n:Nat) (l:List Nat),Q[n]? =some l→∀k∈l,1≤(a.slotAt k).qty
theorem Arena.Wf0.mem {a:Arena} {Q:List (List Nat)} (h:a.Wf0 Q) {n k:Nat} {l:List Nat} (hl:Q[n]? =some l) (hk:k∈l):k<250∧(∃p t,zNr (a.slotAt k) n k p t)∧a.slots[k]? =some (a.slotAt k):=by
 obtain⟨s,p,t,h1,h2⟩:=zYt (h.sg n l hl) hk
 have e:a.slotAt k=s:=zI h1
 have hlt:=(List.getElem?_eq_some_iff.1 h1).1
 rw[h.len]at hlt
 exact⟨hlt,⟨p,t,by rw[e];exact h2⟩,by rw[e];exact h1⟩
theorem Arena.Wf0.one {a:Arena} {Q:List (List Nat)} (h:a.Wf0 Q) {n m k:Nat} {l l':List Nat} (hl:Q[n]? =some l) (hl':Q[m]? =some l') (hk:k∈l) (hk':k∈l'):n=m:=by
 obtain⟨_,⟨_,_,h1⟩,_⟩:=h.mem hl hk
 obtain⟨_,⟨_,_,h2⟩,_⟩:=h.mem hl' hk'
 have:=h1.queue
 have:=h2.queue
 omega
theorem Arena.Wf0.short {a:Arena} {Q:List (List Nat)} (h:a.Wf0 Q) {n:Nat} {l:List Nat} (hl:Q[n]? =some l):l.length≤250:=zHo 250 (h.nd n l hl) fun k hk=>(h.mem hl hk).1
theorem dS {a a':Arena} {l:List Nat} (h:∀k∈l,(a'.slotAt k).qty=(a.slotAt k).qty):a'.qsum l=a.qsum l:=by rw[Arena.qsum,Arena.qsum,List.map_congr_left h]
theorem Arena.Wf0.sum {a:Arena} {Q:List (List Nat)} (h:a.Wf0 Q) {n:Nat} {l:List Nat} (hl:Q[n]? =some l):0≤a.qsum l∧a.qsum l≤250000000:=by
 have:=z3y (f:=fun k=>(a.slotAt k).qty) (m:=1000000) (l:=l) fun j hj=>by
  obtain⟨_,⟨_,_,h1⟩,_⟩:=h.mem hl hj
  exact⟨h1.q1,h1.q2⟩
 have:=h.short hl
 rw[Arena.qsum]
 omega
theorem zKb {sl:List Slot} {n:Nat}:∀{l:List Nat} {p:Int},seg sl n p l (-1)→zRa sl (wK l (-1)) l
 |[],p,_=>rfl
 |k::l,p,⟨⟨s,h1,h2⟩,h3⟩=>by
  refine⟨rfl,(List.getElem?_eq_some_iff.1 h1).1,?_⟩
  rw[zI h1,h2.back]
  exact zKb h3
theorem Arena.Wf0.ok {a:Arena} {Q:List (List Nat)} (h:a.Wf0 Q):a.okAt:=by
 refine⟨by rw[h.len];decide,fun k s hk hu=> ?_⟩
 obtain⟨n,l,hl,hkl⟩:=h.us k s hk hu
 have hQ:=(List.getElem?_eq_some_iff.1 hl).1
 have hql:=h.ql
 obtain⟨l1,l2,rfl⟩:=List.append_of_mem hkl
 have hsg:=h.sg n _ hl
 have hnd:=h.nd n _ hl
 rw[pK]at hsg
 obtain⟨_,⟨s',h1,h2⟩,_⟩:=hsg
 rw[hk]at h1;cases h1
 have hq:=h2.queue
 have hd:=List.nodup_append.1 hnd
 have hd2:=List.nodup_cons.1 hd.2.1
 refine⟨⟨by omega,by omega⟩,h2.q2,?_,?_⟩
 ·rw[h2.ahead]
  rcases jT l1 with rfl|⟨x,j,rfl,e⟩
  ·exact .inl rfl
  ·have hj:j∈x++[j]:=by simp
   have hjl:=(h.mem hl (List.mem_append_left _ hj)).1
   rw[e,h.len]
   refine .inr ⟨by omega,by omega,fun e2=> ?_⟩
   have:j=k:=by omega
   exact hd.2.2 j hj k List.mem_cons_self this
 ·rw[h2.back]
  cases l2 with
  |nil=>exact .inl rfl
  |cons j x=>
   have hjl:=(h.mem hl (List.mem_append_right _ (List.mem_cons_of_mem _ List.mem_cons_self))).1
   rw[wK,h.len]
   refine .inr ⟨by omega,by omega,fun e2=> ?_⟩
   have:j=k:=by omega
   exact hd2.1 (this▸List.mem_cons_self)
theorem Arena.Wf0.open {a:Arena} {Q:List (List Nat)} (h:a.Wf0 Q):a.openQ.Wf0 (Q++[[]]):=by
 have g:∀{n:Nat} {l:List Nat},(Q++[[]])[n]? =some l→Q[n]? =some l∨(n=Q.length∧l=[]):=by
  intro n l hl
  rw[List.getElem?_append]at hl
  split at hl
  ·exact .inl hl
  ·rename_i hn
   have:=(List.getElem?_eq_some_iff.1 hl).1
   simp only[List.length_singleton]at this
   have e:n-Q.length=0:=by omega
   rw[e]at hl
   cases hl
   exact .inr ⟨by omega,rfl⟩
 refine⟨h.len,by simp[Arena.openQ,h.ql],fun n l hl=> ?_,fun n l hl=> ?_,fun n l hl=> ?_,fun k s hk hu=> ?_,h.free⟩
 ·rcases g hl with hl|⟨rfl,rfl⟩
  ·show(a.queues++[dG])[n]? =_
   rw[List.getElem?_append_left (by have:=(List.getElem?_eq_some_iff.1 hl).1;have:=h.ql;omega)]
   exact h.q n l hl
  ·show(a.queues++[dG])[_]? =_
   rw[← h.ql,List.getElem?_append_right (Nat.le_refl _),Nat.sub_self]
   rfl
 ·rcases g hl with hl|⟨rfl,rfl⟩
  ·exact h.sg n l hl
  ·trivial
 ·rcases g hl with hl|⟨rfl,rfl⟩
  ·exact h.nd n l hl
  ·exact List.nodup_nil
 ·obtain⟨n,l,hl,hkl⟩:=h.us k s hk hu
  exact⟨n,l,by rw[List.getElem?_append_left (List.getElem?_eq_some_iff.1 hl).1];exact hl,hkl⟩
theorem Arena.Wf.open {a:Arena} {Q:List (List Nat)} (h:a.Wf Q):a.openQ.Wf (Q++[[]]):=by
 refine⟨h.toWf0.open,fun n l hl k hk=> ?_⟩
 rw[List.getElem?_append]at hl
 split at hl
 ·exact h.pos n l hl k hk
 ·have:=(List.getElem?_eq_some_iff.1 hl).1
  simp only[List.length_singleton]at this
  have e:n-Q.length=0:=by omega
  rw[e]at hl
  cases hl
  cases hk
theorem zGm {sl sl':List Slot} {n:Nat}:∀{l:List Nat} {p t:Int},(∀k∈l,∀s,sl[k]? =some s→∃s',sl'[k]? =some s'∧s'.used=s.used∧s'.n=s.n∧s'.queue=s.queue∧s'.ahead=s.ahead∧s'.back=s.back∧0≤s'.qty∧s'.qty≤1000000)→seg sl n p l t→seg sl' n p l t
 |[],p,t,_,h=>h
 |k::l,p,t,e,⟨⟨s,h1,h2⟩,h3⟩=>by
  obtain⟨s',q0,q1,q2,q3,q4,q5,q6,q7⟩:=e k List.mem_cons_self s h1
  exact⟨⟨s',q0,⟨q1.trans h2.used,q2.trans h2.no,q3.trans h2.queue,q4.trans h2.ahead,q5.trans h2.back,q6,q7⟩⟩,zGm (fun j hj=>e j (List.mem_cons_of_mem _ hj)) h3⟩
theorem zNm (a:Arena) (n:Int) (t:Bool) (j:Nat):(a.topF n t).slotAt j=if a.usedAt n=true∧j=n.toNat then{a.slotAt j with top:=t}else a.slotAt j:=by
 rw[Arena.topF]
 by_cases hu:a.usedAt n=true
 ·rw[if_pos hu]
  by_cases e:j=n.toNat
  ·subst e
   rw[if_pos ⟨hu,rfl⟩]
   have hlt:n.toNat<a.slots.length:=by
    simp only[Arena.usedAt,Bool.and_eq_true,decide_eq_true_eq]at hu
    omega
   show(a.slots.modify n.toNat _).getD n.toNat slot0=_
   obtain⟨s,hs⟩:=yA hlt
   rw[zI (nH hs),xP hs]
  ·rw[if_neg (fun h=>e h.2)]
   show(a.slots.modify n.toNat _).getD j slot0=a.slots.getD j slot0
   rw[List.getD_eq_getElem?_getD,gY (fun h=>e h.symm),List.getD_eq_getElem?_getD]
 ·rw[if_neg hu,if_neg (fun h=>hu h.1)]
theorem Arena.Wf.top {a:Arena} {Q:List (List Nat)} (h:a.Wf Q) (n:Int) (t:Bool):(a.topF n t).Wf Q:=by
 have hq:∀j,((a.topF n t).slotAt j).qty=(a.slotAt j).qty:=by
  intro j
  rw[zNm]
  split<;>rfl
 by_cases hu:a.usedAt n=true
 ·have e:a.topF n t={a with slots:=a.slots.modify n.toNat fun s=>{s with top:=t}}:=by rw[Arena.topF,if_pos hu]
  have hm:∀(k:Nat) (s:Slot),a.slots[k]? =some s→∃s',(a.topF n t).slots[k]? =some s'∧s'.used=s.used∧s'.n=s.n∧s'.queue=s.queue∧s'.ahead=s.ahead∧s'.back=s.back∧s'.qty=s.qty:=by
   intro k s hk
   rw[e]
   by_cases ek:n.toNat=k
   ·subst ek
    exact⟨_,nH hk,rfl,rfl,rfl,rfl,rfl,rfl⟩
   ·exact⟨s,by rw[gY ek];exact hk,rfl,rfl,rfl,rfl,rfl,rfl⟩
  have hl:(a.topF n t).slots.length=250:=by rw[e];simpa using h.len
  have hmu:(a.topF n t).slots.map (·.used)=a.slots.map (·.used):=by rw[e];exact rF (g:=fun s:Slot=>s.used) (f:=fun s:Slot=>{s with top:=t}) (fun _=>rfl) _ _
  refine⟨⟨hl,by rw[e];exact h.ql,fun m l hm'=> ?_,fun m l hm'=> ?_,h.nd,fun k s hk hs=> ?_,by rw[hmu];rw[e];exact h.free⟩,fun m l hm' k hk=>by rw[hq];exact h.pos m l hm' k hk⟩
  ·rw[dS fun k _=>hq k]
   rw[e];exact h.q m l hm'
  ·refine zGm (fun k hk s hs=> ?_) (h.sg m l hm')
   obtain⟨s',q0,q1,q2,q3,q4,q5,q6⟩:=hm k s hs
   obtain⟨_,⟨_,_,h2⟩,h3⟩:=h.mem hm' hk
   rw[hs]at h3;cases h3
   exact⟨s',q0,q1,q2,q3,q4,q5,by rw[q6];exact h2.q1,by rw[q6];exact h2.q2⟩
  ·have hlt:=(List.getElem?_eq_some_iff.1 hk).1
   rw[hl,← h.len]at hlt
   obtain⟨s0,h0⟩:=yA hlt
   obtain⟨s',q0,q1,_⟩:=hm k s0 h0
   rw[hk]at q0;cases q0
   exact h.us k s0 h0 (by rw[← q1];exact hs)
 ·have e:a.topF n t=a:=by rw[Arena.topF,if_neg hu]
  rw[e];exact h
theorem zHs {sl:List Slot} {k:Nat} {s x:Slot} (hk:sl[k]? =some s):((sl.set k x).map (·.used)).countP (!·)+(if s.used=true then 0 else 1)=(sl.map (·.used)).countP (!·)+(if x.used=true then 0 else 1):=by
 have hlt:=(List.getElem?_eq_some_iff.1 hk).1
 have e:(sl.map (·.used))[k]'(by simpa using hlt)=s.used:=by
  rw[List.getElem_map,(List.getElem?_eq_some_iff.1 hk).2]
 rw[List.map_set,List.countP_set (by simpa using hlt),e]
 have hp:s.used=false→1≤(sl.map (·.used)).countP (!·):=by
  intro h
  apply List.countP_pos_iff.2
  exact⟨s.used,List.mem_map_of_mem (List.mem_of_getElem? hk),by rw[h];rfl⟩
 generalize (sl.map (·.used)).countP (!·)=c at hp ⊢
 cases h1:s.used<;>cases h2:x.used
 all_goals
  simp only[h1,Bool.not_false,Bool.not_true,Bool.false_eq_true,↓reduceIte,if_true,if_false]at hp ⊢
  try have hp:=hp trivial
  omega
theorem zZt {sl:List Slot}:(sl.map (·.used)).countP (!·)≤sl.length:=by
 have:=List.countP_le_length (p:=fun b:Bool=> !b) (l:=sl.map (·.used))
 simpa using this
theorem Arena.Wf0.unused {a:Arena} {Q:List (List Nat)} (h:a.Wf0 Q) (hf:a.free≠0):∃k:Nat,qT a.slots=k∧k<250∧a.slots[k]? =some (a.slotAt k)∧(a.slotAt k).used=false∧∀(n:Nat) (l:List Nat),Q[n]? =some l→k∉l:=by
 have hx:∃s∈a.slots,s.used=false:=by
  have hp:0<(a.slots.map (·.used)).countP (!·):=by have:=h.free;omega
  obtain⟨b,hb,hb2⟩:=List.countP_pos_iff.1 hp
  obtain⟨s,hs,rfl⟩:=List.mem_map.1 hb
  exact⟨s,hs,by simpa using hb2⟩
 obtain⟨s,hs,hu⟩:=hx
 cases hi:a.slots.findIdx? fun s=> !s.used with
 |none=>
  rw[List.findIdx?_eq_none_iff]at hi
  have:=hi s hs
  rw[hu]at this;cases this
 |some k=>
  have hi':=hi
  rw[List.findIdx?_eq_some_iff_getElem]at hi
  obtain⟨hk,hku,_⟩:=hi
  have hk1:a.slots[k]? =some a.slots[k]:=List.getElem?_eq_getElem hk
  have e:=xP hk1
  rw[← e]at hku
  have hku:(a.slotAt k).used=false:=by simpa using hku
  refine⟨k,by rw[qT,hi'];rfl,by rw[← h.len];exact hk,by rw[e];exact hk1,hku,fun n l hl hkl=> ?_⟩
  obtain⟨_,⟨_,_,h2⟩,_⟩:=h.mem hl hkl
  have:=h2.used
  rw[hku]at this
  cases this
theorem Arena.Wf.put {a:Arena} {Q:List (List Nat)} (h:a.Wf Q) {n:Nat} {l:List Nat} (hl:Q[n]? =some l) (hf:a.free≠0) {id qty:Int} (top:Bool) (hq:1≤qty∧qty≤1000000):
 ∃k:Nat,qT a.slots=k∧k<250∧(a.slotAt k).used=false∧(∀(m:Nat) (l:List Nat),Q[m]? =some l→k∉l)∧(a.put n id qty top).Wf (Q.set n (l++[k]))∧
  (∀j,((a.put n id qty top).slotAt j).ent=if j=k then⟨k,id,qty,top⟩else(a.slotAt j).ent)∧(a.put n id qty top).free=a.free-1:=by
 obtain⟨k,hk,hk2,hk1,hku,hkn⟩:=h.toWf0.unused hf
 have hkl:=hkn n l hl
 have hnQ:=(List.getElem?_eq_some_iff.1 hl).1
 have hqn:=h.q n l hl
 have hnq:a.queues.getD n dG=⟨wK l (-1),kI l (-1),a.qsum l,l.length⟩:=zI hqn
 have hsum:=h.toWf0.sum hl
 have hsh:=h.toWf0.short hl
 have hlen:=h.len
 have hcl:=zZt (sl:=a.slots)
 have hfree:=h.free
 obtain⟨x,hx⟩:∃x:Slot,x=⟨true,k,id,qty,top,n,kI l (-1),-1⟩:=⟨_,rfl⟩
 have hS:(a.put n id qty top).slots=if kI l (-1)= -1 then a.slots.set k x else(a.slots.set k x).modify (kI l (-1)).toNat fun s=>{s with back:=k}:=by
  simp only[Arena.put,Int.toNat_natCast,hnq,hk,hx]
 have hQs:(a.put n id qty top).queues=a.queues.set n ⟨wK (l++[k]) (-1),k,a.qsum l+qty,(l.length:Int)+1⟩:=by
  simp only[Arena.put,Int.toNat_natCast,hnq,hk]
  rw[w64 (by omega),w64 (by omega)]
  congr 2
  by_cases e:l=[]
  ·subst e;rfl
  ·rw[if_neg (fun c=>e ((bC l).1 c)),zBx]
   cases l with
   |nil=>exact absurd rfl e
   |cons y ys=>rfl
 have hF:(a.put n id qty top).free=a.free-1:=by
  simp only[Arena.put]
  rw[w64 (by omega)]
 have hset:(a.slots.set k x)[k]? =some x:=vD (by omega)
 have hlo:kI l (-1)= -1∨∃(y:List Nat) (j:Nat),l=y++[j]∧kI l (-1)=(j:Int):=by
  rcases jT l with e|⟨y,j,e,e2⟩
  ·exact .inl ((bC l).2 e)
  ·exact .inr ⟨y,j,e,e2 _⟩
 have hoth:∀j,j≠k→(kI l (-1)≠(j:Int))→(a.put n id qty top).slots[j]? =a.slots[j]? :=by
  intro j hj hj2
  rw[hS]
  split
  ·exact vA (fun e=>hj e.symm)
  ·rcases hlo with e|⟨y,i,_,e⟩
   ·contradiction
   ·rw[gY (by omega),vA (fun e=>hj e.symm)]
 have hself:(a.put n id qty top).slots[k]? =some x:=by
  rw[hS]
  split
  ·exact hset
  ·rcases hlo with e|⟨y,i,e1,e⟩
   ·contradiction
   ·have:i≠k:=by rintro rfl;exact hkl (by rw[e1];simp)
    rw[gY (by omega)];exact hset
 have hlike:∀j,j≠k→((a.put n id qty top).slotAt j).ent=(a.slotAt j).ent∧((a.put n id qty top).slotAt j).used=(a.slotAt j).used∧((a.put n id qty top).slotAt j).qty=(a.slotAt j).qty:=by
  intro j hj
  by_cases c:kI l (-1)=(j:Int)
  ·have e:(a.put n id qty top).slots=(a.slots.set k x).modify j fun s=>{s with back:=k}:=by
    rw[hS,if_neg (by omega),c];rfl
   by_cases hjl:j<a.slots.length
   ·obtain⟨s,hs⟩:=yA hjl
    have h1:(a.put n id qty top).slots[j]? =some {s with back:=k}:=by rw[e];exact nH (by rw[vA (fun e=>hj e.symm)];exact hs)
    rw[xP h1,xP hs];exact⟨rfl,rfl,rfl⟩
   ·have h1:(a.put n id qty top).slots[j]? =none:=List.getElem?_eq_none (by rw[e];simpa using hjl)
    have h2:a.slots[j]? =none:=List.getElem?_eq_none (by omega)
    rw[Arena.slotAt,Arena.slotAt,List.getD_eq_getElem?_getD,List.getD_eq_getElem?_getD,h1,h2]
    exact⟨rfl,rfl,rfl⟩
  ·have:=hoth j hj c
   rw[Arena.slotAt,Arena.slotAt,List.getD_eq_getElem?_getD,List.getD_eq_getElem?_getD,this]
   exact⟨rfl,rfl,rfl⟩
 have hselfA:(a.put n id qty top).slotAt k=x:=xP hself
 have hent:∀j,((a.put n id qty top).slotAt j).ent=if j=k then⟨k,id,qty,top⟩else(a.slotAt j).ent:=by
  intro j
  split
  ·rename_i e;rw[e,hselfA,hx];rfl
  ·rename_i e;exact(hlike j e).1
 have gQ:∀{m:Nat} {l':List Nat},(Q.set n (l++[k]))[m]? =some l'→(m=n∧l'=l++[k])∨(m≠n∧Q[m]? =some l'):=by
  intro m l' hm
  exact uC hm
 have hsgn:seg (a.put n id qty top).slots n (-1) (l++[k]) (-1):=by
  rw[pK]
  refine⟨?_,⟨x,hself,?_⟩,trivial⟩
  ·rcases jT l with e|⟨y,j,e,e2⟩
   ·subst e;trivial
   ·have h0:=h.sg n l hl
    have hnd:=h.nd n l hl
    rw[hS,if_neg (by rw[e2];omega),e2,Int.toNat_natCast]
    rw[e]at h0 hnd hkl ⊢
    have hd:=List.nodup_append.1 hnd
    refine zQb (k:Int) (fun hj=>hd.2.2 j hj j List.mem_cons_self rfl) (t:= -1) ?_
    exact wD (fun i hi=>vA (fun e=>hkl (e▸hi))) h0
  ·rw[hx]
   exact⟨rfl,rfl,rfl,rfl,rfl,by dsimp only;omega,hq.2⟩
 refine⟨k,hk,hk2,hku,hkn,⟨⟨?_,?_,?_,?_,?_,?_,?_⟩,?_⟩,hent,hF⟩
 ·rw[hS];split<;>simp[hlen]
 ·rw[hQs];simp[h.ql]
 ·intro m l' hm
  rcases gQ hm with⟨rfl,rfl⟩|⟨e,hm⟩
  ·rw[hQs,vD (by rw[h.ql];exact hnQ),f8]
   have:(a.put m id qty top).qsum (l++[k])=a.qsum l+qty:=by
    rw[Arena.qsum,List.map_append,List.sum_append]
    have e1:l.map (fun k=>((a.put m id qty top).slotAt k).qty)=l.map fun k=>(a.slotAt k).qty:=List.map_congr_left fun j hj=>(hlike j (fun e=>hkl (e▸hj))).2.2
    rw[e1]
    simp only[List.map_cons,List.map_nil,List.sum_cons,List.sum_nil,hselfA]
    rw[hx,Arena.qsum];dsimp only;omega
   rw[this]
   simp[kI]
  ·rw[hQs,vA (fun c=>e c.symm),h.q m l' hm,dS]
   intro j hj
   exact(hlike j (fun e=>hkn m l' hm (e▸hj))).2.2.symm
 ·intro m l' hm
  rcases gQ hm with⟨rfl,rfl⟩|⟨e,hm⟩
  ·exact hsgn
  ·refine wD (fun j hj=>hoth j (fun e=>hkn m l' hm (e▸hj)) fun c=> ?_) (h.sg m l' hm)
   rcases hlo with e2|⟨y,i,e1,e2⟩
   ·omega
   ·have:i=j:=by omega
    exact e (h.toWf0.one hm hl hj (by rw[e1];simp[this]))
 ·intro m l' hm
  rcases gQ hm with⟨rfl,rfl⟩|⟨e,hm⟩
  ·refine List.nodup_append.2 ⟨h.nd m l hl,by simp,?_⟩
   rintro i hi j hj rfl
   rw[List.mem_singleton.1 hj]at hi
   exact hkl hi
  ·exact h.nd m l' hm
 ·intro j s hj hs
  by_cases e:j=k
  ·exact⟨n,l++[k],vD hnQ,by rw[e];simp⟩
  ·have hu:(a.slotAt j).used=true:=by rw[← (hlike j e).2.1,xP hj];exact hs
   have hjl:j<a.slots.length:=by
    have:=(List.getElem?_eq_some_iff.1 hj).1
    rw[hS]at this
    split at this<;>simpa using this
   obtain⟨s',hs'⟩:=yA hjl
   rw[xP hs']at hu
   obtain⟨m,l',hm,hjm⟩:=h.us j s' hs' hu
   by_cases em:m=n
   ·subst em
    rw[hl]at hm;cases hm
    exact⟨m,l++[k],vD hnQ,List.mem_append_left _ hjm⟩
   ·exact⟨m,l',by rw[vA (fun c=>em c.symm)];exact hm,hjm⟩
 ·have hmu:(a.put n id qty top).slots.map (·.used)=(a.slots.set k x).map (·.used):=by
   rw[hS]
   split
   ·rfl
   ·exact rF (g:=fun s:Slot=>s.used) (f:=fun s:Slot=>{s with back:=k}) (fun _=>rfl) _ _
  have:=zHs (x:=x) hk1
  rw[hku,if_neg (by decide),show x.used=true by rw[hx],if_pos rfl]at this
  rw[hmu,hF,hfree]
  omega
 ·intro m l' hm j hj
  rcases gQ hm with⟨rfl,rfl⟩|⟨e,hm⟩
  ·rcases List.mem_append.1 hj with hj|hj
   ·rw[(hlike j (fun e=>hkl (e▸hj))).2.2];exact h.pos m l hl j hj
   ·rw[List.mem_singleton.1 hj,hselfA,hx];exact hq.1
  ·rw[(hlike j (fun e=>hkn m l' hm (e▸hj))).2.2];exact h.pos m l' hm j hj
open Go Cv Go.Proofs
theorem eA (a:Arena) (k:Nat) (q:Int) (j:Nat) (hk:k<a.slots.length):(a.less k q).slotAt j=if j=k then{a.slotAt j with qty:=(a.slotAt j).qty-q}else a.slotAt j:=by
 split
 ·rename_i e
  subst e
  obtain⟨s,hs⟩:=yA hk
  rw[xP hs,xP (a:=a.less j q) (nH hs)]
 ·rename_i e
  show(a.slots.modify k _).getD j slot0=a.slots.getD j slot0
  rw[List.getD_eq_getElem?_getD,gY (fun c=>e c.symm),List.getD_eq_getElem?_getD]
theorem Arena.Wf0.less {a:Arena} {Q:List (List Nat)} (h:a.Wf0 Q) {n k:Nat} {l:List Nat} (hl:Q[n]? =some l) (hk:k∈l) {q:Int} (hq:0≤q∧q≤(a.slotAt k).qty):(a.less k q).Wf0 Q:=by
 obtain⟨hk2,⟨p,t,hs⟩,hk1⟩:=h.mem hl hk
 have hkl:k<a.slots.length:=by rw[h.len];exact hk2
 have hqt:(a.slotAt k).queue.toNat=n:=by rw[hs.queue];exact Int.toNat_natCast n
 have hm:∀(j:Nat) (s:Slot),a.slots[j]? =some s→∃s',(a.less k q).slots[j]? =some s'∧s'.used=s.used∧s'.n=s.n∧s'.queue=s.queue∧s'.ahead=s.ahead∧s'.back=s.back:=by
  intro j s hj
  by_cases e:k=j
  ·subst e
   exact⟨_,nH hj,rfl,rfl,rfl,rfl,rfl⟩
  ·exact⟨s,by rw[show(a.less k q).slots=a.slots.modify k _ from rfl,gY e];exact hj,rfl,rfl,rfl,rfl,rfl⟩
 have hsl:(a.less k q).slots.length=250:=by simpa[Arena.less]using h.len
 have hqs:(a.less k q).queues=a.queues.modify n fun x=>{x with total:=IntKind.i64.wrap (x.total-q)}:=by rw[Arena.less,hqt]
 have hmu:(a.less k q).slots.map (·.used)=a.slots.map (·.used):=rF (g:=fun s:Slot=>s.used) (f:=fun s:Slot=>{s with qty:=s.qty-q}) (fun _=>rfl) _ _
 refine⟨hsl,by rw[hqs];simpa using h.ql,fun m l' hm'=> ?_,fun m l' hm'=> ?_,h.nd,fun j s hj hu=> ?_,by rw[hmu];exact h.free⟩
 ·by_cases e:n=m
  ·subst e
   rw[hl]at hm';cases hm'
   rw[hqs,nH (h.q n l hl)]
   have hsum:=h.sum hl
   have e2:(a.less k q).qsum l=a.qsum l-q:=by
    rw[Arena.qsum,Arena.qsum,zXg (k:=k) (f:=fun k=>(a.slotAt k).qty) (h.nd n l hl) hk]
    ·rw[eA a k q k hkl,if_pos rfl];dsimp only;omega
    ·intro j _ hj
     rw[eA a k q j hkl,if_neg hj]
   have h1:=hs.q2
   rw[e2]
   dsimp only
   rw[w64 (by omega)]
  ·rw[hqs,gY e,h.q m l' hm',dS]
   intro j hj
   have:j≠k:=fun c=>e (h.one hl hm' hk (c▸hj))
   rw[eA a k q j hkl,if_neg this]
 ·refine zGm (fun j hj s hs'=> ?_) (h.sg m l' hm')
  obtain⟨s',q0,q1,q2,q3,q4,q5⟩:=hm j s hs'
  refine⟨s',q0,q1,q2,q3,q4,q5,?_⟩
  have e:=xP q0
  rw[← e,eA a k q j hkl]
  obtain⟨_,⟨_,_,h2⟩,h3⟩:=h.mem hm' hj
  have:=h2.q1
  have:=h2.q2
  split
  ·rename_i c
   subst c
   dsimp only
   omega
  ·omega
 ·have hlt:=(List.getElem?_eq_some_iff.1 hj).1
  rw[hsl,← h.len]at hlt
  obtain⟨s0,h0⟩:=yA hlt
  obtain⟨s',q0,q1,_⟩:=hm j s0 h0
  rw[hj]at q0;cases q0
  exact h.us j s0 h0 (by rw[← q1];exact hu)
theorem Arena.Wf0.drop {a:Arena} {Q:List (List Nat)} (h:a.Wf0 Q) {n k:Nat} {l1 l2:List Nat} (hl:Q[n]? =some (l1++k::l2)) (h0:(a.slotAt k).qty=0):
 (a.dropF k).Wf0 (Q.set n (l1++l2))∧(∀j,j≠k→((a.dropF k).slotAt j).ent=(a.slotAt j).ent∧((a.dropF k).slotAt j).used=(a.slotAt j).used∧((a.dropF k).slotAt j).qty=(a.slotAt j).qty)∧(a.dropF k).slotAt k=slot0∧(a.dropF k).free=a.free+1:=by
 have hkm:k∈l1++k::l2:=by simp
 have hnQ:=(List.getElem?_eq_some_iff.1 hl).1
 obtain⟨hk2,_,hk1⟩:=h.mem hl hkm
 have hlen:=h.len
 have hkl:k<a.slots.length:=by omega
 have hsg:=h.sg n _ hl
 have hnd:=h.nd n _ hl
 have hd:=List.nodup_append.1 hnd
 have hd2:=List.nodup_cons.1 hd.2.1
 have k1:k∉l1:=fun hk=>hd.2.2 k hk k List.mem_cons_self rfl
 have k2:k∉l2:=hd2.1
 rw[pK]at hsg
 obtain⟨g1,⟨s,hs1,hs⟩,g2⟩:=hsg
 have es:=xP hs1
 have eqn:(a.queues.getD s.queue.toNat dG)=⟨wK (l1++k::l2) (-1),kI (l1++k::l2) (-1),a.qsum (l1++k::l2),(l1++k::l2).length⟩:=by
  rw[hs.queue,Int.toNat_natCast];exact zI (h.q n _ hl)
 have hfree:=h.free
 have hcl:=zZt (sl:=a.slots)
 have hsh:=h.short hl
 obtain⟨sl1,hsl1⟩:∃sl1,sl1=if kI l1 (-1)= -1 then a.slots else a.slots.modify (kI l1 (-1)).toNat fun x=>{x with back:=wK l2 (-1)}:=⟨_,rfl⟩
 obtain⟨sl2,hsl2⟩:∃sl2,sl2=if wK l2 (-1)= -1 then sl1 else sl1.modify (wK l2 (-1)).toNat fun x=>{x with ahead:=kI l1 (-1)}:=⟨_,rfl⟩
 have hS:(a.dropF k).slots=sl2.set k slot0:=by
  simp only[Arena.dropF,es,hs.ahead,hs.back]
  rw[hsl2,hsl1]
 have hQs:(a.dropF k).queues=a.queues.set n ⟨wK (l1++l2) (-1),kI (l1++l2) (-1),a.qsum (l1++l2),(l1++l2).length⟩:=by
  simp only[Arena.dropF,es,eqn,hs.ahead,hs.back]
  rw[hs.queue,Int.toNat_natCast]
  have el:(l1++k::l2).length=(l1++l2).length+1:=by simp;omega
  have eq:a.qsum (l1++k::l2)=a.qsum (l1++l2):=by
   rw[Arena.qsum,Arena.qsum,List.map_append,List.sum_append,List.map_append,List.sum_append,List.map_cons,List.sum_cons,h0]
   omega
  rw[el]at hsh ⊢
  rw[w64 (by omega),eq]
  congr 2
  ·cases l1 with
   |nil=>simp[kI,zBx,wK]
   |cons y ys=>
    rw[if_neg (by rw[bC];simp)]
    rfl
  ·rcases jT l2 with e|⟨x,j,e,e2⟩
   ·subst e;simp[wK,f8,kI]
   ·have:l2≠[]:=by rw[e];simp
    rw[if_neg (fun c=>this ((zLp l2).1 c)),f8,f8,kI,e2,e2]
  ·simp
 have hF:(a.dropF k).free=a.free+1:=by
  simp only[Arena.dropF]
  rw[w64 (by omega)]
 have hc1:kI l1 (-1)= -1∨∃(y:List Nat) (j:Nat),l1=y++[j]∧kI l1 (-1)=(j:Int):=by
  rcases jT l1 with e|⟨y,j,e,e2⟩
  ·exact .inl ((bC l1).2 e)
  ·exact .inr ⟨y,j,e,e2 _⟩
 have hc2:wK l2 (-1)= -1∨∃(y:List Nat) (j:Nat),l2=j::y∧wK l2 (-1)=(j:Int):=by
  cases l2 with
  |nil=>exact .inl rfl
  |cons j y=>exact .inr ⟨y,j,rfl,rfl⟩
 have hoth:∀j,j∉l1→j∉l2→j≠k→(a.dropF k).slots[j]? =a.slots[j]? :=by
  intro j h1 h2 h3
  rw[hS,vA (fun e=>h3 e.symm),hsl2]
  have e1:sl1[j]? =a.slots[j]? :=by
   rw[hsl1]
   split
   ·rfl
   ·rcases hc1 with e|⟨y,i,e,e2⟩
    ·contradiction
    ·rw[gY]
     rw[e2,Int.toNat_natCast]
     rintro rfl
     exact h1 (by rw[e];simp)
  split
  ·exact e1
  ·rcases hc2 with e|⟨y,i,e,e2⟩
   ·contradiction
   ·rw[gY,e1]
    rw[e2,Int.toNat_natCast]
    rintro rfl
    exact h2 (by rw[e];simp)
 have hlike:∀j,j≠k→((a.dropF k).slotAt j).ent=(a.slotAt j).ent∧((a.dropF k).slotAt j).used=(a.slotAt j).used∧((a.dropF k).slotAt j).qty=(a.slotAt j).qty:=by
  intro j hj
  have m1:∀(sl:List Slot) (i:Nat) (b:Int),((sl.modify i fun x=>{x with back:=b}).getD j slot0).ent=(sl.getD j slot0).ent∧((sl.modify i fun x=>{x with back:=b}).getD j slot0).used=(sl.getD j slot0).used∧((sl.modify i fun x=>{x with back:=b}).getD j slot0).qty=(sl.getD j slot0).qty:=by
   intro sl i b
   rw[List.getD_eq_getElem?_getD,List.getD_eq_getElem?_getD,List.getElem?_modify]
   cases sl[j]? with
   |none=>exact⟨rfl,rfl,rfl⟩
   |some s=>by_cases e:i=j<;>simp[e,Slot.ent]
  have m2:∀(sl:List Slot) (i:Nat) (b:Int),((sl.modify i fun x=>{x with ahead:=b}).getD j slot0).ent=(sl.getD j slot0).ent∧((sl.modify i fun x=>{x with ahead:=b}).getD j slot0).used=(sl.getD j slot0).used∧((sl.modify i fun x=>{x with ahead:=b}).getD j slot0).qty=(sl.getD j slot0).qty:=by
   intro sl i b
   rw[List.getD_eq_getElem?_getD,List.getD_eq_getElem?_getD,List.getElem?_modify]
   cases sl[j]? with
   |none=>exact⟨rfl,rfl,rfl⟩
   |some s=>by_cases e:i=j<;>simp[e,Slot.ent]
  have e0:(a.dropF k).slotAt j=sl2.getD j slot0:=by
   rw[Arena.slotAt,hS,List.getD_eq_getElem?_getD,vA (fun e=>hj e.symm),List.getD_eq_getElem?_getD]
  have e1:(sl1.getD j slot0).ent=(a.slotAt j).ent∧(sl1.getD j slot0).used=(a.slotAt j).used∧(sl1.getD j slot0).qty=(a.slotAt j).qty:=by
   rw[hsl1]
   split
   ·exact⟨rfl,rfl,rfl⟩
   ·exact m1 _ _ _
  have e2:(sl2.getD j slot0).ent=(sl1.getD j slot0).ent∧(sl2.getD j slot0).used=(sl1.getD j slot0).used∧(sl2.getD j slot0).qty=(sl1.getD j slot0).qty:=by
   rw[hsl2]
   split
   ·exact⟨rfl,rfl,rfl⟩
   ·exact m2 _ _ _
  rw[e0]
  exact⟨e2.1.trans e1.1,e2.2.1.trans e1.2.1,e2.2.2.trans e1.2.2⟩
 have hl1:sl1.length=250:=by rw[hsl1];split<;>simp[hlen]
 have hl2:sl2.length=250:=by rw[hsl2];split<;>simp[hl1]
 have hself:(a.dropF k).slots[k]? =some slot0:=by rw[hS];exact vD (by omega)
 have hsgn:seg (a.dropF k).slots n (-1) (l1++l2) (-1):=by
  rw[hS,pK]
  constructor
  ·--the part ahead
   refine wD (sl:=sl2) (fun j hj=>vA (fun e=>k1 (e▸hj))) ?_
   have f1:seg sl1 n (-1) l1 (wK l2 (-1)):=by
    rcases jT l1 with e|⟨y,j,e,e2⟩
    ·subst e;trivial
    ·rw[hsl1,if_neg (by rw[e2];omega),e2,Int.toNat_natCast]
     subst e
     have hd3:=List.nodup_append.1 hd.1
     exact zQb _ (fun hj=>hd3.2.2 j hj j List.mem_cons_self rfl) g1
   refine wD (fun j hj=> ?_) f1
   rw[hsl2]
   split
   ·rfl
   ·rcases hc2 with e|⟨y,i,e,e2⟩
    ·contradiction
    ·refine gY ?_
     rw[e2,Int.toNat_natCast]
     rintro rfl
     exact hd.2.2 i hj i (List.mem_cons_of_mem _ (by rw[e];simp)) rfl
  ·--the part behind
   refine wD (sl:=sl2) (fun j hj=>vA (fun e=>k2 (e▸hj))) ?_
   have f1:seg sl1 n k l2 (-1):=by
    refine wD (fun j hj=> ?_) g2
    rw[hsl1]
    split
    ·rfl
    ·rcases hc1 with e|⟨y,i,e,e2⟩
     ·contradiction
     ·refine gY ?_
      rw[e2,Int.toNat_natCast]
      rintro rfl
      exact hd.2.2 i (by rw[e];simp) i (List.mem_cons_of_mem _ hj) rfl
   rcases hc2 with e|⟨y,j,e,e2⟩
   ·rw[(zLp l2).1 e];trivial
   ·rw[hsl2,if_neg (by rw[e2];omega),e2,Int.toNat_natCast]
    rw[e]at f1 hd2 ⊢
    exact z2g _ (List.nodup_cons.1 hd2.2).1 f1
 refine⟨⟨?_,?_,?_,?_,?_,?_,?_⟩,hlike,xP hself,hF⟩
 ·rw[hS,List.length_set];exact hl2
 ·rw[hQs];simp[h.ql]
 ·intro m l' hm
  rcases uC hm with⟨rfl,rfl⟩|⟨e,hm⟩
  ·rw[hQs,vD (by rw[h.ql];exact hnQ)]
   congr 2
   refine(dS fun j hj=>(hlike j fun e=> ?_).2.2).symm
   subst e
   rcases List.mem_append.1 hj with hj|hj
   ·exact k1 hj
   ·exact k2 hj
  ·rw[hQs,vA (fun c=>e c.symm),h.q m l' hm]
   congr 2
   refine(dS fun j hj=>(hlike j fun e2=> ?_).2.2).symm
   subst e2
   exact e (h.one hm hl hj hkm)
 ·intro m l' hm
  rcases uC hm with⟨rfl,rfl⟩|⟨e,hm⟩
  ·exact hsgn
  ·refine wD (fun j hj=>hoth j ?_ ?_ ?_) (h.sg m l' hm)
   ·exact fun c=>e (h.one hm hl hj (List.mem_append_left _ c))
   ·exact fun c=>e (h.one hm hl hj (List.mem_append_right _ (List.mem_cons_of_mem _ c)))
   ·rintro rfl;exact e (h.one hm hl hj hkm)
 ·intro m l' hm
  rcases uC hm with⟨rfl,rfl⟩|⟨e,hm⟩
  ·refine List.nodup_append.2 ⟨hd.1,hd2.2,fun i hi j hj=>hd.2.2 i hi j (List.mem_cons_of_mem _ hj)⟩
  ·exact h.nd m l' hm
 ·intro j s' hj hu
  have hjk:j≠k:=by
   rintro rfl
   rw[hself]at hj;cases hj;cases hu
  have hu2:(a.slotAt j).used=true:=by rw[← (hlike j hjk).2.1,xP hj];exact hu
  have hjl:j<a.slots.length:=by
   have:=(List.getElem?_eq_some_iff.1 hj).1
   rw[hS,List.length_set]at this
   omega
  obtain⟨s0,hs0⟩:=yA hjl
  rw[xP hs0]at hu2
  obtain⟨m,l',hm,hjm⟩:=h.us j s0 hs0 hu2
  by_cases em:m=n
  ·subst em
   rw[hl]at hm;cases hm
   refine⟨m,_,vD hnQ,?_⟩
   rcases List.mem_append.1 hjm with hj|hj
   ·exact List.mem_append_left _ hj
   ·rcases List.mem_cons.1 hj with e|hj
    ·exact absurd e hjk
    ·exact List.mem_append_right _ hj
  ·exact⟨m,l',by rw[vA (fun c=>em c.symm)];exact hm,hjm⟩
 ·have hmu:(a.dropF k).slots.map (·.used)=(a.slots.set k slot0).map (·.used):=by
   have e1:sl2.map (·.used)=a.slots.map (·.used):=by
    have f2:sl2.map (·.used)=sl1.map (·.used):=by
     rw[hsl2]
     split
     ·rfl
     ·exact rF (g:=fun s:Slot=>s.used) (f:=fun s:Slot=>{s with ahead:=kI l1 (-1)}) (fun _=>rfl) _ _
    have f1:sl1.map (·.used)=a.slots.map (·.used):=by
     rw[hsl1]
     split
     ·rfl
     ·exact rF (g:=fun s:Slot=>s.used) (f:=fun s:Slot=>{s with back:=wK l2 (-1)}) (fun _=>rfl) _ _
    rw[f2,f1]
   rw[hS,List.map_set,e1,List.map_set]
  have:=zHs (x:=slot0) hs1
  rw[hs.used,if_pos rfl,show slot0.used=false from rfl,if_neg (by decide)]at this
  rw[hmu,hF,hfree]
  omega
theorem Arena.Wf.take {a:Arena} {Q:List (List Nat)} (h:a.Wf Q) {n k:Nat} {l:List Nat} (hl:Q[n]? =some l) (hk:k∈l) {q:Int} (hq:1≤q∧q≤(a.slotAt k).qty):
 (a.takeF k q).2=0∧(∀j,j≠k→((a.takeF k q).1.slotAt j).ent=(a.slotAt j).ent∧((a.takeF k q).1.slotAt j).used=(a.slotAt j).used)∧
   (if(a.slotAt k).qty=q then(a.takeF k q).1.Wf (Q.set n (l.erase k))∧(a.takeF k q).1.slotAt k=slot0∧(a.takeF k q).1.free=a.free+1
    else(a.takeF k q).1.Wf Q∧(a.takeF k q).1.slotAt k={a.slotAt k with qty:=(a.slotAt k).qty-q}∧(a.takeF k q).1.free=a.free):=by
 obtain⟨hk2,⟨p,t,hs⟩,hk1⟩:=h.toWf0.mem hl hk
 have hkl:k<a.slots.length:=by rw[h.len];exact hk2
 have hu:a.usedAt k=true:=by
  simp only[Arena.usedAt,Bool.and_eq_true,decide_eq_true_eq]
  refine⟨by omega,by omega,?_⟩
  rw[Int.toNat_natCast]
  exact hs.used
 have hless:=h.toWf0.less hl hk (q:=q) (by omega)
 have hat:=eA a k q
 rw[Arena.takeF,if_neg (by rw[hu];decide),Int.toNat_natCast,if_neg (by omega)]
 by_cases e:(a.slotAt k).qty=q
 ·rw[if_pos e,if_pos e]
  obtain⟨l1,l2,rfl⟩:=List.append_of_mem hk
  have hnd:=h.nd n _ hl
  have hd:=List.nodup_append.1 hnd
  have k1:k∉l1:=fun hk=>hd.2.2 k hk k List.mem_cons_self rfl
  obtain⟨d1,d2,d3,d4⟩:=hless.drop hl (by rw[hat k hkl,if_pos rfl];dsimp only;omega)
  have ee:(l1++k::l2).erase k=l1++l2:=by rw[List.erase_append_right _ k1,List.erase_cons_head]
  refine⟨rfl,fun j hj=> ?_,?_,d3,d4⟩
  ·have:=d2 j hj
   rw[hat j hkl,if_neg hj]at this
   exact⟨this.1,this.2.1⟩
  ·rw[ee]
   refine⟨d1,fun m l' hm j hj=> ?_⟩
   have hj2:j≠k∧∃l'',Q[m]? =some l''∧j∈l'':=by
    have hd2:=List.nodup_cons.1 hd.2.1
    rcases uC hm with⟨rfl,rfl⟩|⟨e3,hm⟩
    ·refine⟨?_,_,hl,?_⟩
     ·rintro rfl
      rcases List.mem_append.1 hj with hj|hj
      ·exact k1 hj
      ·exact hd2.1 hj
     ·rcases List.mem_append.1 hj with hj|hj
      ·exact List.mem_append_left _ hj
      ·exact List.mem_append_right _ (List.mem_cons_of_mem _ hj)
    ·refine⟨?_,_,hm,hj⟩
     rintro rfl
     exact e3 (h.toWf0.one hm hl hj hk)
   obtain⟨hj3,l'',hm2,hj4⟩:=hj2
   have:=(d2 j hj3).2.2
   rw[hat j hkl,if_neg hj3]at this
   dsimp only
   rw[this]
   exact h.pos m l'' hm2 j hj4
 ·rw[if_neg e,if_neg e]
  refine⟨rfl,fun j hj=> ?_,⟨hless,fun m l' hm j hj=> ?_⟩,?_,rfl⟩
  ·dsimp only
   rw[hat j hkl,if_neg hj];exact⟨rfl,rfl⟩
  ·dsimp only
   rw[hat j hkl]
   split
   ·rename_i c
    subst c
    dsimp only
    omega
   ·exact h.pos m l' hm j hj
  ·dsimp only
   rw[hat k hkl,if_pos rfl]
open Go Cv Go.Proofs
theorem xD {α β:Type} {f g:α→List β}:∀{l:List α},(∀x∈l,f x=g x)→l.flatMap f=l.flatMap g
 |[],_=>rfl
 |x::l,h=>by rw[List.flatMap_cons,List.flatMap_cons,h x List.mem_cons_self,xD fun y hy=>h y (List.mem_cons_of_mem _ hy)]
theorem nW {α β γ:Type} {f:α→List β} {g:β→γ}:∀(l:List α),(l.flatMap f).map g=l.flatMap fun x=>(f x).map g
 |[]=>rfl
 |x::l=>by rw[List.flatMap_cons,List.flatMap_cons,List.map_append,nW l]
theorem zTy {α β:Type} {f:α→List β}:∀{l:List α},(∀x∈l,f x≠[])→l.length≤(l.flatMap f).length
 |[],_=>Nat.le_refl 0
 |x::l,h=>by
  have:=zTy (l:=l) fun y hy=>h y (List.mem_cons_of_mem _ hy)
  have:=List.length_pos_iff.2 (h x List.mem_cons_self)
  rw[List.flatMap_cons,List.length_append,List.length_cons];omega
theorem zAn {α:Type} [DecidableEq α]:∀{l m:List α},l.Nodup→(∀x∈l,x∈m)→l.length≤m.length
 |[],_,_,_=>Nat.zero_le _
 |x::l,m,h,hs=>by
  have hd:=List.nodup_cons.1 h
  have hx:=hs x List.mem_cons_self
  have:=zAn (l:=l) (m:=m.erase x) hd.2 fun y hy=>by
   have hne:y≠x:=by rintro rfl;exact hd.1 hy
   exact(List.mem_erase_of_ne hne).2 (hs y (List.mem_cons_of_mem _ hy))
  rw[List.length_erase_of_mem hx]at this
  have:=List.length_pos_of_mem hx
  rw[List.length_cons];omega
theorem z1t {l:List Int} (h:l.Nodup) (hr:∀x∈l,0≤x∧x<l.length) {n:Nat} (hn:n<l.length):(n:Int)∈l:=by
 apply Classical.byContradiction
 intro hx
 have hnd:((n:Int)::l).Nodup:=List.nodup_cons.2 ⟨hx,h⟩
 have:=zAn (m:=(List.range l.length).map fun k:Nat=>(k:Int)) hnd fun y hy=>by
  rw[List.mem_map]
  rcases List.mem_cons.1 hy with rfl|hy
  ·exact⟨n,List.mem_range.2 hn,rfl⟩
  ·have:=hr y hy
   exact⟨y.toNat,List.mem_range.2 (by omega),by omega⟩
 simp at this
 omega
theorem lL {α β:Type} {l:List (α×β)} (h:(l.map (·.1)).Nodup) {k:α} {x y:β} (hx:(k,x)∈l) (hy:(k,y)∈l):x=y:=by
 induction l with
 |nil=>cases hx
 |cons p l ih=>
  rw[List.map_cons,List.nodup_cons]at h
  rcases List.mem_cons.1 hx with ex|hx<;>rcases List.mem_cons.1 hy with ey|hy
  ·rw[← ex]at ey;exact(Prod.mk.inj ey).2.symm
  ·exact absurd (List.mem_map_of_mem (f:=(·.1)) hy) (by rw[← ex]at h;exact h.1)
  ·exact absurd (List.mem_map_of_mem (f:=(·.1)) hx) (by rw[← ey]at h;exact h.1)
  ·exact ih h.2 hx hy
theorem nV:∀{l:List (Int×Place)} {k:Int} {x:Place},pget l k=some x→(k,x)∈l
 |[],k,x,h=>by cases h
 |p::l,k,x,h=>by
  rw[pget,List.find?_cons]at h
  by_cases e:p.1=k
  ·rw[decide_eq_true e]at h
   simp only[Option.map_some,Option.some.injEq]at h
   subst h;subst e
   exact List.mem_cons_self
  ·rw[decide_eq_false e]at h
   exact List.mem_cons_of_mem _ (nV h)
theorem zCc {l:List (Int×Place)} {k:Int} (h:pget l k=none):k∉l.map (·.1):=by
 intro hk
 obtain⟨⟨k',x⟩,hx,rfl⟩:=List.mem_map.1 hk
 rw[pget,Option.map_eq_none_iff,List.find?_eq_none]at h
 have:=h _ hx
 simp at this
theorem zQs:∀{l:List (Int×Place)} {k:Int} {x:Place},k∉l.map (·.1)→mH k x l=l++[(k,x)]
 |[],k,x,_=>rfl
 |p::l,k,x,h=>by
  rw[List.map_cons,List.mem_cons,not_or]at h
  rw[mH,if_neg h.1,zQs h.2];rfl
def xB (Q:List (List Nat)) (r:xL):List Nat:=Q.getD r.queue.toNat []
def z6f (s p:Int) (e:Ent):zD:=⟨e.id,s,p,e.qty,e.top⟩
def wA (a:Arena) (s p:Int) (k:Nat):zD:=z6f s p (a.slotAt k).ent
def Book.rOrds (b:Book) (Q:List (List Nat)) (s:Int) (r:xL):List zD:=(xB Q r).map (wA b.a s r.price)
def Book.sideL (b:Book) (Q:List (List Nat)) (s:Int):List zD:=(b.rungs s).flatMap (b.rOrds Q s)
def Book.flat (b:Book) (Q:List (List Nat)):List zD:=b.sideL Q 1++b.sideL Q 2
def wN (a:Arena) (s p:Int) (k:Nat):Int×Place:=((a.slotAt k).id,⟨s,p,k⟩)
def Book.plcs (b:Book) (Q:List (List Nat)) (s:Int):List (Int×Place):=(b.rungs s).flatMap fun r=>(xB Q r).map (wN b.a s r.price)
def Book.qs (b:Book):List Int:=b.buys.map (·.queue)++b.sells.map (·.queue)++b.spare
structure Book.Core (b:Book) (Q:List (List Nat)) (hole:Int):Prop where
 wf:b.a.Wf Q
 srt:∀s,s=1∨s=2→(b.rungs s).Pairwise fun r r'=>btr s r.price r'.price=true
 rng:∀q∈b.qs,0≤q∧q<Q.length
 nd:b.qs.Nodup
 ql:b.qs.length=Q.length
 ne:∀s,s=1∨s=2→∀r∈b.rungs s,r.queue≠hole→xB Q r≠[]
 sp:∀q∈b.spare,Q.getD q.toNat []=[]
 at_:b.at_.Perm (b.plcs Q 1++b.plcs Q 2)
 ids:((b.flat Q).map (·.id)).Nodup
 qb:Q.length≤250
structure Book.Tops (b:Book) (L:List zD):Prop where
 fl:∀o∈L,o.top=(b.hasF o.side && decide (o.id=b.topI o.side))
 th:∀s,s=1∨s=2→b.hasF s=true→∃o∈L,o.side=s∧o.id=b.topI s
structure Book.Rep (b:Book) (L:List zD):Prop where
 ex:∃Q,b.Core Q (-1)∧b.Tops L∧L=b.flat Q
theorem dM (b:Book) (Q:List (List Nat)) (s:Int):(b.plcs Q s).map (·.1)=(b.sideL Q s).map (·.id):=by
 rw[Book.plcs,Book.sideL,nW,nW]
 refine xD fun r _=> ?_
 rw[Book.rOrds,List.map_map,List.map_map]
 rfl
theorem Book.Core.keysP {b:Book} {Q:List (List Nat)} {h:Int} (c:b.Core Q h):(b.at_.map (·.1)).Perm ((b.flat Q).map (·.id)):=by
 have:=c.at_.map (·.1)
 rw[List.map_append,dM,dM,← List.map_append]at this
 exact this
theorem Book.Core.keys {b:Book} {Q:List (List Nat)} {h:Int} (c:b.Core Q h):(b.at_.map (·.1)).Nodup:=c.keysP.nodup_iff.2 c.ids
theorem Book.Core.len {b:Book} {Q:List (List Nat)} {h:Int} (c:b.Core Q h):b.at_.length=(b.flat Q).length:=by
 have:=c.keysP.length_eq
 simpa using this
theorem Book.Core.plc {b:Book} {Q:List (List Nat)} {h:Int} (c:b.Core Q h) {s:Int} (hs:s=1∨s=2) {r:xL} (hr:r∈b.rungs s) {k:Nat} (hk:k∈xB Q r):((b.a.slotAt k).id,(⟨s,r.price,k⟩:Place))∈b.at_:=by
 refine c.at_.mem_iff.2 ?_
 have hp:wN b.a s r.price k∈b.plcs Q s:=List.mem_flatMap.2 ⟨r,hr,List.mem_map_of_mem hk⟩
 rcases hs with rfl|rfl
 ·exact List.mem_append_left _ hp
 ·exact List.mem_append_right _ hp
theorem Book.Core.plcI {b:Book} {Q:List (List Nat)} {h:Int} (c:b.Core Q h) {id:Int} {x:Place} (hx:(id,x)∈b.at_):∃(k:Nat) (r:xL),(x.side=1∨x.side=2)∧r∈b.rungs x.side∧k∈xB Q r∧x=⟨x.side,r.price,k⟩∧(b.a.slotAt k).id=id:=by
 have:=c.at_.mem_iff.1 hx
 rcases List.mem_append.1 this with hp|hp
 all_goals
  obtain⟨r,hr,hp⟩:=List.mem_flatMap.1 hp
  obtain⟨k,hk,e⟩:=List.mem_map.1 hp
  simp only[wN,Prod.mk.injEq]at e
  obtain⟨e1,rfl⟩:=e
  exact⟨k,r,by simp,hr,hk,rfl,e1⟩
theorem zSp {Q:List (List Nat)} {r:xL} (h:0≤r.queue∧r.queue<Q.length):Q[r.queue.toNat]? =some (xB Q r):=by
 obtain⟨l,hl⟩:=yA (l:=Q) (i:=r.queue.toNat) (by omega)
 rw[xB,zI hl,hl]
theorem vW {b:Book} {s:Int} (hs:s=1∨s=2) {r:xL} (hr:r∈b.rungs s):r.queue∈b.qs:=by
 rcases hs with rfl|rfl
 ·exact List.mem_append_left _ (List.mem_append_left _ (List.mem_map_of_mem (f:=(·.queue)) hr))
 ·exact List.mem_append_left _ (List.mem_append_right _ (List.mem_map_of_mem (f:=(·.queue)) hr))
theorem Book.Core.get {b:Book} {Q:List (List Nat)} {h:Int} (c:b.Core Q h) {s:Int} (hs:s=1∨s=2) {r:xL} (hr:r∈b.rungs s):Q[r.queue.toNat]? =some (xB Q r):=zSp (c.rng _ (vW hs hr))
def clr (L:List zD) (s:Int):List zD:=L.map fun o=>if o.side=s then{o with top:=false}else o
theorem mB (s x:Int):btr s x x=false:=by
 rw[btr];split<;>exact decide_eq_false (by omega)
theorem Book.Core.flag {b:Book} {Q:List (List Nat)} {h:Int} (c:b.Core Q h) {a':Arena} (hw:a'.Wf Q) (hi:∀k,(a'.slotAt k).id=(b.a.slotAt k).id):({b with a:=a'}:Book).Core Q h:=by
 have e1:∀s,({b with a:=a'}:Book).plcs Q s=b.plcs Q s:=by
  intro s
  refine xD fun r _=>List.map_congr_left fun k _=> ?_
  simp only[wN,hi]
 have e2:((({b with a:=a'}:Book).flat Q).map (·.id))=(b.flat Q).map (·.id):=by
  rw[Book.flat,Book.flat,List.map_append,List.map_append,← dM,← dM,← dM,← dM,e1,e1]
 exact⟨hw,c.srt,c.rng,c.nd,c.ql,c.ne,c.sp,by rw[e1,e1];exact c.at_,by rw[e2];exact c.ids,c.qb⟩
theorem yCu (a:Arena) (n:Int) (t:Bool) (k:Nat):((a.topF n t).slotAt k).id=(a.slotAt k).id:=by
 rw[zNm];split<;>rfl
theorem Book.Core.untop {b:Book} {Q:List (List Nat)} {h:Int} (c:b.Core Q h) (s:Int):(b.untop s).Wf Q∧∀k,((b.untop s).slotAt k).id=(b.a.slotAt k).id:=by
 rw[Book.untop]
 repeat' split
 all_goals first|exact⟨c.wf,fun _=>rfl⟩|exact⟨c.wf.top _ _,fun k=>yCu _ _ _ k⟩
theorem Book.Core.untop_flat {b:Book} {Q:List (List Nat)} {h:Int} (c:b.Core Q h) (ht:b.Tops (b.flat Q)) {s:Int} (hs:s=1∨s=2):({b with a:=b.untop s}:Book).flat Q=clr (b.flat Q) s:=by
 have hfl:∀{s':Int} (hs':s'=1∨s'=2) {r:xL} (hr:r∈b.rungs s') {k:Nat} (hk:k∈xB Q r),(b.a.slotAt k).top=(b.hasF s' && decide ((b.a.slotAt k).id=b.topI s')):=by
  intro s' hs' r hr k hk
  have hm:wA b.a s' r.price k∈b.flat Q:=by
   have:wA b.a s' r.price k∈b.sideL Q s':=List.mem_flatMap.2 ⟨r,hr,List.mem_map_of_mem hk⟩
   rcases hs' with rfl|rfl
   ·exact List.mem_append_left _ this
   ·exact List.mem_append_right _ this
  exact ht.fl _ hm
 have key:∀{s':Int} (hs':s'=1∨s'=2) {r:xL} (hr:r∈b.rungs s') {k:Nat} (hk:k∈xB Q r),((b.untop s).slotAt k).ent=if s'=s then{(b.a.slotAt k).ent with top:=false}else(b.a.slotAt k).ent:=by
  intro s' hs' r hr k hk
  have hplc:=c.plc hs' hr hk
  have htop:=hfl hs' hr hk
  have hno:(b.a.slotAt k).top=false→(b.a.slotAt k).ent=if s'=s then{(b.a.slotAt k).ent with top:=false}else(b.a.slotAt k).ent:=by
   intro e
   split
   ·rw[Slot.ent,e]
   ·rfl
  rw[Book.untop]
  by_cases hh:b.hasF s=true
  ·rw[if_pos hh]
   cases hg:pget b.at_ (b.topI s)with
   |none=>
    dsimp only
    by_cases e:s'=s
    ·subst e
     refine hno ?_
     rw[htop,hh,Bool.true_and]
     refine decide_eq_false fun e2=> ?_
     rw[← e2]at hg
     exact zCc hg (List.mem_map_of_mem (f:=(·.1)) hplc)
    ·rw[if_neg e]
   |some o=>
    dsimp only
    obtain⟨k',r',hs2,hr2,hk2,ho,hid⟩:=c.plcI (nV hg)
    by_cases es:o.side=s
    ·rw[if_pos es,zNm]
     have hos:o.slot=(k':Int):=by rw[ho]
     by_cases ek:k=k'
     ·subst ek
      have hu:b.a.usedAt o.slot=true:=by
       obtain⟨_,⟨_,_,h2⟩,h3⟩:=c.wf.toWf0.mem (c.get hs' hr) hk
       have hlt:=(List.getElem?_eq_some_iff.1 h3).1
       simp only[Arena.usedAt,Bool.and_eq_true,decide_eq_true_eq,hos,Int.toNat_natCast]
       exact⟨by omega,by omega,h2.used⟩
      rw[if_pos ⟨hu,by rw[hos];rfl⟩]
      have:=c.plc hs2 hr2 hk2
      have e3:=lL c.keys hplc this
      have e4:s'=s:=by
       have:=congrArg Place.side e3
       dsimp only at this
       rw[this,es]
      rw[if_pos e4];rfl
     ·rw[if_neg (fun e=>ek (by have:=e.2;rw[hos]at this;simpa using this))]
      by_cases e:s'=s
      ·subst e
       refine hno ?_
       rw[htop,hh,Bool.true_and]
       refine decide_eq_false fun e2=>ek ?_
       have hp2:=c.plc hs2 hr2 hk2
       rw[hid,← e2]at hp2
       have e3:=lL c.keys hplc hp2
       have:=congrArg Place.slot e3
       dsimp only at this
       omega
      ·rw[if_neg e]
    ·rw[if_neg es]
     by_cases e:s'=s
     ·subst e
      refine hno ?_
      rw[htop,hh,Bool.true_and]
      refine decide_eq_false fun e2=>es ?_
      have hp2:=nV hg
      rw[← e2]at hp2
      have e3:=lL c.keys hplc hp2
      rw[← e3]
     ·rw[if_neg e]
  ·rw[if_neg hh]
   by_cases e:s'=s
   ·subst e
    refine hno ?_
    have:b.hasF s'=false:=by simpa using hh
    rw[htop,this,Bool.false_and]
   ·rw[if_neg e]
 have side:∀s',s'=1∨s'=2→({b with a:=b.untop s}:Book).sideL Q s'=clr (b.sideL Q s') s:=by
  intro s' hs'
  rw[clr,Book.sideL,Book.sideL,nW]
  refine xD fun r hr=> ?_
  rw[Book.rOrds,Book.rOrds,List.map_map]
  refine List.map_congr_left fun k hk=> ?_
  simp only[wA,Function.comp,key hs' hr hk,z6f]
  by_cases e:s'=s
  ·rw[if_pos e];exact(if_pos e).symm
  ·rw[if_neg e];exact(if_neg e).symm
 rw[Book.flat,side 1 (.inl rfl),side 2 (.inr rfl),Book.flat,clr,clr,clr,List.map_append]
open Go Cv Go.Proofs
def before (s p:Int) (o:zD):Bool:=decide (o.side<s)||(decide (o.side=s) && !btr s p o.price)
def uE (L:List zD) (s p:Int):Bool:=L.all fun o=> !decide (o.side=s)||btr s p o.price
def zGh (L:List zD) (s id p q:Int):List zD:=
 let L1:=if uE L s p=true then clr L s else L
 L1.takeWhile (before s p)++⟨id,s,p,q,uE L s p⟩::L1.dropWhile (before s p)
theorem z5t {α:Type} {f:α→Bool}:∀{A B:List α},(∀x∈A,f x=true)→(∀x∈B,f x=false)→(A++B).takeWhile f=A∧(A++B).dropWhile f=B
 |[],[],_,_=>⟨rfl,rfl⟩
 |[],b::B,_,h=>by
  have:=h b List.mem_cons_self
  simp[this]
 |a::A,B,h,h2=>by
  obtain⟨i1,i2⟩:=z5t (A:=A) (B:=B) (fun x hx=>h x (List.mem_cons_of_mem _ hx)) h2
  have:=h a List.mem_cons_self
  rw[List.cons_append,List.takeWhile_cons,List.dropWhile_cons,this]
  simp[i1,i2]
theorem qI {b:Book} {Q:List (List Nat)} {s:Int} {r:xL} {o:zD} (h:o∈b.rOrds Q s r):o.side=s∧o.price=r.price:=by
 obtain⟨k,_,rfl⟩:=List.mem_map.1 h
 exact⟨rfl,rfl⟩
theorem dY {b:Book} {Q:List (List Nat)} {s:Int} {o:zD} (h:o∈b.sideL Q s):o.side=s∧∃r∈b.rungs s,o∈b.rOrds Q s r∧o.price=r.price:=by
 obtain⟨r,hr,ho⟩:=List.mem_flatMap.1 h
 exact⟨(qI ho).1,r,hr,ho,(qI ho).2⟩
structure Spl (s p:Int) (R1 R2:List xL):Prop where
 a:∀r∈R1,btr s r.price p=true
 b:∀r∈R2,btr s p r.price=true
theorem zPz {s x y:Int} (h:btr s x y=true):btr s y x=false:=by
 rw[btr]at h ⊢
 split at h
 ·rename_i e;rw[if_pos e];have:=of_decide_eq_true h;exact decide_eq_false (by omega)
 ·rename_i e;rw[if_neg e];have:=of_decide_eq_true h;exact decide_eq_false (by omega)
theorem zJq {s x y z:Int} (h:btr s x y=true) (h2:btr s y z=true):btr s x z=true:=by
 rw[btr]at h h2 ⊢
 split at h
 ·rename_i e;rw[if_pos e]at h2 ⊢;have:=of_decide_eq_true h;have:=of_decide_eq_true h2;exact decide_eq_true (by omega)
 ·rename_i e;rw[if_neg e]at h2 ⊢;have:=of_decide_eq_true h;have:=of_decide_eq_true h2;exact decide_eq_true (by omega)
theorem z1q {s x y:Int} (h:btr s x y=false) (hne:x≠y):btr s y x=true:=by
 rw[btr]at h ⊢
 split at h
 ·rename_i e;rw[if_pos e];have:=of_decide_eq_false h;exact decide_eq_true (by omega)
 ·rename_i e;rw[if_neg e];have:=of_decide_eq_false h;exact decide_eq_true (by omega)
theorem sX {s p:Int} {l:List xL} (hs:l.Pairwise fun r r'=>btr s r.price r'.price=true):
 (∀r∈l.take (zW s l p),btr s r.price p=true)∧
 (if kK s l p=true then ∃r,l[zW s l p]? =some r∧r.price=p∧∀r'∈l.drop (zW s l p+1),btr s p r'.price=true
  else ∀r'∈l.drop (zW s l p),btr s p r'.price=true):=by
 have e1:l.take (zW s l p)=l.takeWhile fun r=>btr s r.price p:=by
  rw[zW]
  have h:=List.take_left (l₁:=l.takeWhile fun r=>btr s r.price p) (l₂:=l.dropWhile fun r=>btr s r.price p)
  rwa [List.takeWhile_append_dropWhile]at h
 have e2:l.drop (zW s l p)=l.dropWhile fun r=>btr s r.price p:=by
  have h:=List.take_append_drop (zW s l p) l
  have h2:=List.takeWhile_append_dropWhile (p:=fun r:xL=>btr s r.price p) (l:=l)
  rw[e1]at h
  exact List.append_cancel_left (h.trans h2.symm)
 refine⟨fun r hr=> ?_,?_⟩
 ·rw[e1]at hr
  exact List.all_eq_true.1 List.all_takeWhile r hr
 have hd:∀r,l[zW s l p]? =some r→btr s r.price p=false:=by
  intro r hr
  have h0:(l.drop (zW s l p))[0]? =some r:=by rw[List.getElem?_drop];exact hr
  rw[e2]at h0
  cases hdw:l.dropWhile fun r=>btr s r.price p with
  |nil=>rw[hdw]at h0;cases h0
  |cons x y=>
   rw[hdw]at h0
   cases h0
   have:=List.head?_dropWhile_not (fun r:xL=>btr s r.price p) l
   rw[hdw]at this
   simpa using this
 have hpw:∀r r',l[zW s l p]? =some r→r'∈l.drop (zW s l p+1)→btr s r.price r'.price=true:=by
  intro r r' hr hr'
  have hlt:=(List.getElem?_eq_some_iff.1 hr).1
  have:=List.Pairwise.sublist (List.drop_sublist (zW s l p) l) hs
  rw[List.drop_eq_getElem_cons hlt,List.pairwise_cons,(List.getElem?_eq_some_iff.1 hr).2]at this
  exact this.1 r' hr'
 split
 ·rename_i hb
  rw[kK]at hb
  cases hr:l[zW s l p]? with
  |none=>rw[hr]at hb;cases hb
  |some r=>
   rw[hr]at hb
   have hp:r.price=p:=of_decide_eq_true hb
   exact⟨r,rfl,hp,fun r' hr'=>by rw[← hp];exact hpw r r' hr hr'⟩
 ·rename_i hb
  intro r' hr'
  by_cases hlt:zW s l p<l.length
  ·obtain⟨r,hr⟩:=yA hlt
   rw[kK,hr]at hb
   have hp:¬r.price=p:=fun e=>hb (decide_eq_true e)
   have h1:=z1q (hd r hr) hp
   rw[List.drop_eq_getElem_cons hlt,(List.getElem?_eq_some_iff.1 hr).2]at hr'
   rcases List.mem_cons.1 hr' with rfl|hr'
   ·exact h1
   ·exact zJq h1 (hpw r r' hr hr')
  ·rw[List.drop_eq_nil_of_le (by omega)]at hr'
   cases hr'
def Book.setR (b:Book) (s:Int) (l:List xL):Book:=if s=1 then{b with buys:=l}else{b with sells:=l}
theorem zYe {b:Book} {s:Int} (hs:s=1∨s=2):∃rest,b.qs.Perm ((b.rungs s).map (·.queue)++rest)∧∀l,(b.setR s l).qs.Perm (l.map (·.queue)++rest):=by
 rcases hs with rfl|rfl
 ·refine⟨b.sells.map (·.queue)++b.spare,?_,fun l=> ?_⟩
  ·rw[Book.qs,List.append_assoc];exact .refl _
  ·show(l.map (·.queue)++b.sells.map (·.queue)++b.spare).Perm _
   rw[List.append_assoc]
 ·refine⟨b.buys.map (·.queue)++b.spare,?_,fun l=> ?_⟩
  ·rw[Book.qs]
   show(b.buys.map (·.queue)++b.sells.map (·.queue)++b.spare).Perm (b.sells.map (·.queue)++(b.buys.map (·.queue)++b.spare))
   rw[← List.append_assoc];exact List.perm_append_comm.append_right _
  ·show(b.buys.map (·.queue)++l.map (·.queue)++b.spare).Perm (l.map (·.queue)++(b.buys.map (·.queue)++b.spare))
   rw[← List.append_assoc];exact List.perm_append_comm.append_right _
structure Queued (b:Book) (Q:List (List Nat)) (s p:Int) (b':Book) (n:Int) (Q':List (List Nat)) (R1 R2:List xL):Prop where
 core:b'.Core Q' n
 rungs:b'.rungs s=R1++⟨p,n⟩::R2
 spl:Spl s p R1 R2
 flat:b'.flat Q'=b.flat Q
 at_:b'.at_=b.at_
 free:b'.a.free=b.a.free
 tops:∀L,b.Tops L→b'.Tops L
 qty:∀x,b'.hasF x=b.hasF x∧b'.topI x=b.topI x
theorem z9i {α:Type} {l:List α} {x d:α} {n:Nat}:(l++[x]).getD n d=if n=l.length then x else l.getD n d:=by
 rw[List.getD_eq_getElem?_getD,List.getD_eq_getElem?_getD,List.getElem?_append]
 split
 ·rw[if_neg (by omega)]
 ·rename_i h
  by_cases e:n=l.length
  ·rw[if_pos e,e,Nat.sub_self];rfl
  ·rw[if_neg e,List.getElem?_eq_none (show([x]:List α).length≤n-l.length by simp;omega),List.getElem?_eq_none (by omega)]
theorem Book.Core.add {b:Book} {Q:List (List Nat)} (c:b.Core Q (-1)) {s p n:Int} (hs:s=1∨s=2) {R1 R2:List xL} (hr:b.rungs s=R1++R2) (spl:Spl s p R1 R2) {b':Book} {Q':List (List Nat)}
 (hrs:b'.rungs s=R1++⟨p,n⟩::R2) (hro:∀s',s'≠s→s'=1∨s'=2→b'.rungs s'=b.rungs s') (hat:b'.at_=b.at_) (hw:b'.a.Wf Q') (hsl:b'.a.slots=b.a.slots)
 (hQ:∀k,Q'.getD k []=Q.getD k []) (hn:Q.getD n.toNat []=[]) (hrng:∀q∈b'.qs,0≤q∧q<Q'.length) (hnd:b'.qs.Nodup) (hql:b'.qs.length=Q'.length) (hsp:∀q∈b'.spare,Q.getD q.toNat []=[]) (hqb:Q'.length≤250):
 b'.Core Q' n∧b'.flat Q'=b.flat Q:=by
 have hslQ:∀r,xB Q' r=xB Q r:=fun r=>hQ _
 have hsa:∀k,b'.a.slotAt k=b.a.slotAt k:=fun k=>by rw[Arena.slotAt,Arena.slotAt,hsl]
 have hn':xB Q ⟨p,n⟩=[]:=hn
 have hro':∀s' r,b'.rOrds Q' s' r=b.rOrds Q s' r:=by
  intro s' r
  rw[Book.rOrds,Book.rOrds,hslQ]
  exact List.map_congr_left fun k _=>by rw[wA,wA,hsa]
 have hpo:∀s' (r:xL),(xB Q' r).map (wN b'.a s' r.price)=(xB Q r).map (wN b.a s' r.price):=by
  intro s' r
  rw[hslQ]
  exact List.map_congr_left fun k _=>by rw[wN,wN,hsa]
 have hside:∀s',s'=1∨s'=2→b'.sideL Q' s'=b.sideL Q s':=by
  intro s' hs'
  rw[Book.sideL,Book.sideL]
  by_cases e:s'=s
  ·subst e
   rw[hrs,hr,List.flatMap_append,List.flatMap_append,List.flatMap_cons,xD (fun r _=>hro' s' r),xD (l:=R2) (fun r _=>hro' s' r),hro',Book.rOrds,hn',List.map_nil,List.nil_append]
  ·rw[hro s' e hs'];exact xD fun r _=>hro' s' r
 have hplc:∀s',s'=1∨s'=2→b'.plcs Q' s'=b.plcs Q s':=by
  intro s' hs'
  rw[Book.plcs,Book.plcs]
  by_cases e:s'=s
  ·subst e
   rw[hrs,hr,List.flatMap_append,List.flatMap_append,List.flatMap_cons,xD (fun r _=>hpo s' r),xD (l:=R2) (fun r _=>hpo s' r),hpo,hn',List.map_nil,List.nil_append]
  ·rw[hro s' e hs'];exact xD fun r _=>hpo s' r
 have hflat:b'.flat Q'=b.flat Q:=by rw[Book.flat,Book.flat,hside 1 (.inl rfl),hside 2 (.inr rfl)]
 refine⟨⟨hw,fun s' hs'=> ?_,hrng,hnd,hql,fun s' hs' r hr' hne=> ?_,fun q hq=>by rw[hQ];exact hsp q hq,by rw[hat,hplc 1 (.inl rfl),hplc 2 (.inr rfl)];exact c.at_,by rw[hflat];exact c.ids,hqb⟩,hflat⟩
 ·by_cases e:s'=s
  ·subst e
   have h0:=c.srt s' hs'
   rw[hr,List.pairwise_append]at h0
   rw[hrs,List.pairwise_append,List.pairwise_cons]
   refine⟨h0.1,⟨spl.b,h0.2.1⟩,fun x hx y hy=> ?_⟩
   rcases List.mem_cons.1 hy with rfl|hy
   ·exact spl.a x hx
   ·exact h0.2.2 x hx y hy
  ·rw[hro s' e hs'];exact c.srt s' hs'
 ·rw[hslQ]
  have hold:∀r∈b.rungs s',xB Q r≠[]:=fun r hr=>c.ne s' hs' r hr fun e=>by
   have:=c.rng _ (vW hs' hr)
   omega
  by_cases e:s'=s
  ·subst e
   rw[hrs]at hr'
   rcases List.mem_append.1 hr' with h|h
   ·exact hold r (by rw[hr];exact List.mem_append_left _ h)
   ·rcases List.mem_cons.1 h with rfl|h
    ·exact absurd rfl hne
    ·exact hold r (by rw[hr];exact List.mem_append_right _ h)
  ·rw[hro s' e hs']at hr';exact hold r hr'
theorem zFv (b:Book) {s:Int} (hs:s=1∨s=2) (l:List xL):(b.setR s l).rungs s=l∧∀s',s'≠s→s'=1∨s'=2→(b.setR s l).rungs s'=b.rungs s':=by
 rcases hs with rfl|rfl
 ·exact⟨rfl,fun s' h h2=>by rcases h2 with rfl|rfl;exact absurd rfl h;rfl⟩
 ·exact⟨rfl,fun s' h h2=>by rcases h2 with rfl|rfl;rfl;exact absurd rfl h⟩
theorem z0e (b:Book) {s p:Int} (hs:s=1∨s=2):b.queueF s p=if kK s (b.rungs s) p=true then(b,((b.rungs s).getD (zW s (b.rungs s) p) ⟨0,0⟩).queue)else(({b with a:=b.newQ.2.2,spare:=b.newQ.2.1}:Book).setR s (b.ins s p),b.newQ.1):=by
 rcases hs with rfl|rfl<;>rfl
theorem Book.Core.queue {b:Book} {Q:List (List Nat)} (c:b.Core Q (-1)) (hl:(b.flat Q).length<250) {s:Int} (hs:s=1∨s=2) (p:Int):∃Q' R1 R2,Queued b Q s p (b.queueF s p).1 (b.queueF s p).2 Q' R1 R2:=by
 have hsp:=sX (p:=p) (c.srt s hs)
 rw[z0e b hs]
 by_cases hb:kK s (b.rungs s) p=true
 ·rw[if_pos hb]at hsp ⊢
  obtain⟨h1,r,hr,hp,h2⟩:=hsp
  have hlt:=(List.getElem?_eq_some_iff.1 hr).1
  have er:(⟨p,r.queue⟩:xL)=r:=by rw[← hp]
  have hsplit:b.rungs s=(b.rungs s).take (zW s (b.rungs s) p)++r::(b.rungs s).drop (zW s (b.rungs s) p+1):=by
   conv=>lhs;rw[← List.take_append_drop (zW s (b.rungs s) p) (b.rungs s)]
   rw[List.drop_eq_getElem_cons hlt,(List.getElem?_eq_some_iff.1 hr).2]
  refine⟨Q,_,_,⟨⟨c.wf,c.srt,c.rng,c.nd,c.ql,fun s' hs' r' hr' _=>c.ne s' hs' r' hr' fun e=> ?_,c.sp,c.at_,c.ids,c.qb⟩,?_,⟨h1,h2⟩,rfl,rfl,rfl,fun _ h=>h,fun _=>⟨rfl,rfl⟩⟩⟩
  ·have:=c.rng _ (vW hs' hr');omega
  ·dsimp only
   rw[zI hr,er];exact hsplit
 ·rw[if_neg hb]at hsp ⊢
  obtain⟨h1,h2⟩:=hsp
  have hr:b.rungs s=(b.rungs s).take (zW s (b.rungs s) p)++(b.rungs s).drop (zW s (b.rungs s) p):=(List.take_append_drop _ _).symm
  obtain⟨g1,g2⟩:=zFv ({b with a:=b.newQ.2.2,spare:=b.newQ.2.1}:Book) hs (b.ins s p)
  have tops:∀x,((({b with a:=b.newQ.2.2,spare:=b.newQ.2.1}:Book).setR s (b.ins s p)).hasF x=b.hasF x∧(({b with a:=b.newQ.2.2,spare:=b.newQ.2.1}:Book).setR s (b.ins s p)).topI x=b.topI x):=by
   intro x;rcases hs with rfl|rfl<;>exact⟨rfl,rfl⟩
  have hat:(({b with a:=b.newQ.2.2,spare:=b.newQ.2.1}:Book).setR s (b.ins s p)).at_=b.at_:=by rcases hs with rfl|rfl<;>rfl
  have ha:(({b with a:=b.newQ.2.2,spare:=b.newQ.2.1}:Book).setR s (b.ins s p)).a=b.newQ.2.2:=by rcases hs with rfl|rfl<;>rfl
  have hspr:(({b with a:=b.newQ.2.2,spare:=b.newQ.2.1}:Book).setR s (b.ins s p)).spare=b.newQ.2.1:=by rcases hs with rfl|rfl<;>rfl
  obtain⟨rest,q1,q2⟩:=zYe (b:=({b with a:=b.newQ.2.2,spare:=b.newQ.2.1}:Book)) hs
  have q2:=q2 (b.ins s p)
  have hqs:(({b with a:=b.newQ.2.2,spare:=b.newQ.2.1}:Book).setR s (b.ins s p)).qs.Perm (b.newQ.1::({b with a:=b.newQ.2.2,spare:=b.newQ.2.1}:Book).qs):=by
   refine q2.trans (.trans ?_ (q1.symm.cons _))
   rw[← List.cons_append]
   refine List.Perm.append_right _ ?_
   show((b.ins s p).map (·.queue)).Perm (b.newQ.1::(b.rungs s).map (·.queue))
   conv=>rhs;rw[hr]
   rw[Book.ins,List.map_append,List.map_append,List.map_cons]
   exact List.perm_middle
  generalize hB:(({b with a:=b.newQ.2.2,spare:=b.newQ.2.1}:Book).setR s (b.ins s p))=B at*
  have fin:∀Q',B.a.Wf Q'→B.a.slots=b.a.slots→B.a.free=b.a.free→(∀k,Q'.getD k []=Q.getD k [])→Q.getD b.newQ.1.toNat []=[]→(∀q∈B.qs,0≤q∧q<Q'.length)→B.qs.Nodup→B.qs.length=Q'.length→(∀q∈B.spare,Q.getD q.toNat []=[])→Q'.length≤250→∃Q' R1 R2,Queued b Q s p B b.newQ.1 Q' R1 R2:=by
   intro Q' w1 w2 w3 w4 w5 w6 w7 w8 w9 w10
   obtain⟨u1,u2⟩:=c.add hs hr ⟨h1,h2⟩ (b':=B) (Q':=Q') (n:=b.newQ.1) (by rw[g1];rfl) g2 hat w1 w2 w4 w5 w6 w7 w8 w9 w10
   refine⟨Q',_,_,⟨u1,g1.trans rfl,⟨h1,h2⟩,u2,hat,w3,fun L h=>⟨fun o ho=> ?_,fun s' hs' hh=> ?_⟩,tops⟩⟩
   ·rw[(tops o.side).1,(tops o.side).2];exact h.fl o ho
   ·rw[(tops s').1]at hh
    rw[(tops s').2];exact h.th s' hs' hh
  by_cases he:b.spare.length=0
  ·have hnq:b.newQ=((b.a.queues.length:Int),b.spare,b.a.openQ):=by rw[Book.newQ,if_pos he]
   have hql:=c.wf.ql
   have hspe:b.spare=[]:=List.eq_nil_of_length_eq_zero he
   have hqs':B.qs.Perm ((Q.length:Int)::b.qs):=by
    rw[hnq]at hqs
    rw[← hql];exact hqs
   refine fin (Q++[[]]) (by rw[ha,hnq];exact c.wf.open) (by rw[ha,hnq];rfl) (by rw[ha,hnq];rfl) (fun k=> ?_) ?_ (fun q hq=> ?_) ?_ ?_ (fun q hq=> ?_) ?_
   ·rw[z9i]
    split
    ·rename_i e;rw[e,List.getD_eq_getElem?_getD,List.getElem?_eq_none (Nat.le_refl _)];rfl
    ·rfl
   ·rw[hnq,List.getD_eq_getElem?_getD,List.getElem?_eq_none (by dsimp only;omega)];rfl
   ·rw[List.length_append]
    rcases List.mem_cons.1 (hqs'.mem_iff.1 hq)with rfl|hq
    ·simp only[List.length_singleton];omega
    ·have:=c.rng q hq;simp only[List.length_singleton];omega
   ·refine hqs'.nodup_iff.2 (List.nodup_cons.2 ⟨fun hm=> ?_,c.nd⟩)
    have:=c.rng _ hm;omega
   ·rw[hqs'.length_eq,List.length_cons,List.length_append,c.ql];rfl
   ·rw[hspr,hnq]at hq
    rw[hspe]at hq;cases hq
   ·have h1:=zTy (l:=b.rungs 1) (f:=b.rOrds Q 1) fun r hr e=>c.ne 1 (.inl rfl) r hr (fun e2=>by have:=c.rng _ (vW (.inl rfl) hr);omega) (List.map_eq_nil_iff.1 e)
    have h2:=zTy (l:=b.rungs 2) (f:=b.rOrds Q 2) fun r hr e=>c.ne 2 (.inr rfl) r hr (fun e2=>by have:=c.rng _ (vW (.inr rfl) hr);omega) (List.map_eq_nil_iff.1 e)
    have h3:=c.ql
    rw[Book.flat,List.length_append,Book.sideL,Book.sideL]at hl
    rw[Book.qs,List.length_append,List.length_append,List.length_map,List.length_map,he]at h3
    rw[cX]at h1 hl
    rw[mL]at h2 hl
    rw[List.length_append,List.length_singleton]
    omega
  ·have hnq:b.newQ=(b.spare.getD (b.spare.length-1) 0,b.spare.take (b.spare.length-1),b.a):=by rw[Book.newQ,if_neg he]
   obtain⟨sp,q,hspq⟩:∃sp q,b.spare=sp++[q]:=⟨_,_,(List.dropLast_concat_getLast (l:=b.spare) (by intro e;rw[e]at he;exact he rfl)).symm⟩
   have e1:b.newQ=(q,sp,b.a):=by
    rw[hnq,hspq]
    simp
   have hqs':B.qs.Perm b.qs:=by
    refine hqs.trans ?_
    rw[e1]
    show(q::(b.buys.map (·.queue)++b.sells.map (·.queue)++sp)).Perm (b.buys.map (·.queue)++b.sells.map (·.queue)++b.spare)
    rw[hspq,← List.append_assoc]
    exact List.perm_append_singleton q _|>.symm
   have hq0:q∈b.spare:=by rw[hspq];simp
   refine fin Q (by rw[ha,e1];exact c.wf) (by rw[ha,e1]) (by rw[ha,e1]) (fun _=>rfl) (by rw[e1];exact c.sp q hq0) (fun q hq=>c.rng q (hqs'.mem_iff.1 hq)) (hqs'.nodup_iff.2 c.nd) (by rw[hqs'.length_eq];exact c.ql) (fun q' hq'=> ?_) c.qb
   rw[hspr,e1]at hq'
   exact c.sp q' (by rw[hspq];exact List.mem_append_left _ hq')
open Go Cv Go.Proofs
theorem Book.Core.used {b:Book} {Q:List (List Nat)} (c:b.Core Q (-1)) (hl:(b.flat Q).length<250):b.a.free≠0:=by
 intro hf
 have hcn:=c.wf.free
 rw[hf]at hcn
 have hz:(b.a.slots.map (·.used)).countP (!·)=0:=by omega
 rw[List.countP_eq_zero]at hz
 have hin:∀k∈List.range 250,k∈((b.rungs 1).flatMap (xB Q)++(b.rungs 2).flatMap (xB Q)):=by
  intro k hk
  have hk:=List.mem_range.1 hk
  obtain⟨s,hs⟩:=yA (l:=b.a.slots) (i:=k) (by rw[c.wf.len];exact hk)
  have hu:s.used=true:=by
   have:=hz s.used (List.mem_map_of_mem (List.mem_of_getElem? hs))
   simpa using this
  obtain⟨n,l,hn,hkl⟩:=c.wf.us k s hs hu
  have hnQ:=(List.getElem?_eq_some_iff.1 hn).1
  have hm:(n:Int)∈b.qs:=z1t c.nd (fun x hx=>by rw[c.ql];exact c.rng x hx) (by rw[c.ql];exact hnQ)
  have e:∀r:xL,r.queue=(n:Int)→k∈xB Q r:=by
   intro r hr
   rw[xB,hr,Int.toNat_natCast,zI hn];exact hkl
  rw[Book.qs]at hm
  rcases List.mem_append.1 hm with hm|hm
  ·rcases List.mem_append.1 hm with hm|hm
   ·obtain⟨r,hr,er⟩:=List.mem_map.1 hm
    exact List.mem_append_left _ (List.mem_flatMap.2 ⟨r,hr,e r er⟩)
   ·obtain⟨r,hr,er⟩:=List.mem_map.1 hm
    exact List.mem_append_right _ (List.mem_flatMap.2 ⟨r,hr,e r er⟩)
  ·have:=c.sp _ hm
   rw[Int.toNat_natCast,zI hn]at this
   rw[this]at hkl;cases hkl
 have h1:=zAn List.nodup_range hin
 have e:∀s,(b.sideL Q s).length=((b.rungs s).flatMap (xB Q)).length:=by
  intro s
  rw[Book.sideL,List.length_flatMap,List.length_flatMap]
  congr 1
  exact List.map_congr_left fun r _=>by rw[Book.rOrds,List.length_map]
 rw[List.length_append,← e,← e,List.length_range]at h1
 rw[Book.flat,List.length_append]at hl
 omega
theorem zOd {s p:Int} {o:zD} (h:o.side≠s) (hlt:o.side=1∨o.side=2) (hs:s=1∨s=2):before s p o=decide (s=2):=by
 rw[before,decide_eq_false h,Bool.false_and,Bool.or_false]
 rcases hs with rfl|rfl
 ·rw[decide_eq_false (by omega),decide_eq_false (by omega)]
 ·rw[decide_eq_true (by omega),decide_eq_true rfl]
theorem Queued.put {b:Book} {Q:List (List Nat)} {s p:Int} {b':Book} {n:Int} {Q':List (List Nat)} {R1 R2:List xL} (h:Queued b Q s p b' n Q' R1 R2) (hs:s=1∨s=2) {id qty:Int} (top:Bool) (hid:id∉(b.flat Q).map (·.id)) (hf:b.a.free≠0) (hq:1≤qty∧qty≤1000000):
 ∃Q3 A B,({b' with a:=(b'.a.push n id qty top).1,at_:=mH id ⟨s,p,(b'.a.push n id qty top).2.1⟩ b'.at_}:Book).Core Q3 (-1)∧b'.flat Q'=A++B∧
  ({b' with a:=(b'.a.push n id qty top).1,at_:=mH id ⟨s,p,(b'.a.push n id qty top).2.1⟩ b'.at_}:Book).flat Q3=A++⟨id,s,p,qty,top⟩::B∧(∀o∈A,before s p o=true)∧∀o∈B,before s p o=false:=by
 have c:=h.core
 have hrm:(⟨p,n⟩:xL)∈b'.rungs s:=by rw[h.rungs];simp
 have hnr:0≤n∧n<Q'.length:=c.rng n (vW hs hrm)
 obtain⟨m,rfl⟩:∃m:Nat,n=m:=⟨n.toNat,by omega⟩
 have hl:Q'[m]? =some (xB Q' ⟨p,m⟩):=zSp (r:=⟨p,m⟩) hnr
 obtain⟨k,k1,k2,k3,k4,kw,kent,kfree⟩:=c.wf.put (id:=id) hl (by rw[h.free];exact hf) top hq
 have hpush:b'.a.push m id qty top=(b'.a.put m id qty top,(k:Int),0):=by
  have:=c.wf.ql
  rw[Arena.push,if_neg (by omega),if_neg (by omega),if_neg (by rw[h.free];exact hf),k1]
 rw[hpush]
 dsimp only
 have hmQ:=(List.getElem?_eq_some_iff.1 hl).1
 have hqd:∀s' (r:xL),(s'=1∨s'=2)→r∈b'.rungs s'→(r.queue=m→s'=s∧r=⟨p,m⟩):=by
  intro s' r hs' hr e
  obtain⟨rest,q1,_⟩:=zYe (b:=b') hs
  have hnd:=q1.nodup_iff.1 c.nd
  rw[h.rungs,List.map_append,List.map_cons]at hnd
  by_cases es:s'=s
  ·subst es
   refine⟨rfl,?_⟩
   rw[h.rungs]at hr
   have hnd2:=(List.nodup_append.1 hnd).1
   rcases List.mem_append.1 hr with hr|hr
   ·exact absurd e ((List.nodup_append.1 hnd2).2.2 r.queue (List.mem_map_of_mem (f:=(·.queue)) hr) m List.mem_cons_self)
   ·rcases List.mem_cons.1 hr with rfl|hr
    ·rfl
    ·have:=(List.nodup_cons.1 (List.nodup_append.1 hnd2).2.1).1
     exact absurd (e▸List.mem_map_of_mem (f:=(·.queue)) hr) this
  ·exfalso
   have hcn:=c.nd
   rw[Book.qs]at hcn
   have hcn2:=(List.nodup_append.1 (List.nodup_append.1 hcn).1).2.2
   have ha:(m:Int)∈(b'.rungs s).map (·.queue):=List.mem_map.2 ⟨_,hrm,rfl⟩
   have hb:(m:Int)∈(b'.rungs s').map (·.queue):=List.mem_map.2 ⟨r,hr,e⟩
   rcases hs with rfl|rfl<;>rcases hs' with rfl|rfl
   ·exact es rfl
   ·exact hcn2 _ ha _ hb rfl
   ·exact hcn2 _ hb _ ha rfl
   ·exact es rfl
 have hsl1:xB (Q'.set m (xB Q' ⟨p,m⟩++[k])) ⟨p,m⟩=xB Q' ⟨p,m⟩++[k]:=by
  show(Q'.set m _).getD (Int.toNat (m:Int)) []=_
  rw[Int.toNat_natCast];exact zI (vD hmQ)
 have hsl2:∀q:Int,0≤q→q≠m→(Q'.set m (xB Q' ⟨p,m⟩++[k])).getD q.toNat []=Q'.getD q.toNat []:=by
  intro q h0 hne
  rw[List.getD_eq_getElem?_getD,vA (by omega),List.getD_eq_getElem?_getD]
 generalize hQ3:Q'.set m (xB Q' ⟨p,m⟩++[k])=Q3 at*
 have hQl:Q3.length=Q'.length:=by rw[← hQ3,List.length_set]
 have hpid:=dM
 have hord:∀s' (r:xL),(s'=1∨s'=2)→r∈b'.rungs s'→∀j∈xB Q' r,j≠k∧(wA (b'.a.put m id qty top) s' r.price j=wA b'.a s' r.price j∧wN (b'.a.put m id qty top) s' r.price j=wN b'.a s' r.price j):=by
  intro s' r hs' hr j hj
  have hjk:j≠k:=by rintro rfl;exact k4 _ _ (c.get hs' hr) hj
  have:=kent j
  rw[if_neg hjk]at this
  refine⟨hjk,by rw[wA,wA,this],?_⟩
  have:=congrArg Ent.id this
  rw[wN,wN]
  exact congrArg (fun i=>(i,(⟨s',r.price,j⟩:Place))) this
 have hr0:∀s' (r:xL),(s'=1∨s'=2)→r∈b'.rungs s'→r.queue≠m→xB Q3 r=xB Q' r:=by
  intro s' r hs' hr hne
  exact hsl2 _ (c.rng _ (vW hs' hr)).1 hne
 generalize hB:({b' with a:=b'.a.put m id qty top,at_:=mH id ⟨s,p,k⟩ b'.at_}:Book)=B3
 have hBr:∀s',B3.rungs s'=b'.rungs s':=by intro s';rw[← hB];rfl
 have hBa:B3.a=b'.a.put m id qty top:=by rw[← hB]
 have hBat:B3.at_=mH id ⟨s,p,k⟩ b'.at_:=by rw[← hB]
 have hBqs:B3.qs=b'.qs:=by rw[← hB];rfl
 have hBsp:B3.spare=b'.spare:=by rw[← hB]
 have hro:∀s' (r:xL),(s'=1∨s'=2)→r∈b'.rungs s'→r.queue≠m→B3.rOrds Q3 s' r=b'.rOrds Q' s' r∧(xB Q3 r).map (wN B3.a s' r.price)=(xB Q' r).map (wN b'.a s' r.price):=by
  intro s' r hs' hr hne
  rw[Book.rOrds,Book.rOrds,hr0 s' r hs' hr hne,hBa]
  exact⟨List.map_congr_left fun j hj=>(hord s' r hs' hr j hj).2.1,List.map_congr_left fun j hj=>(hord s' r hs' hr j hj).2.2⟩
 have hnew:wA B3.a s p k=⟨id,s,p,qty,top⟩∧wN B3.a s p k=(id,⟨s,p,k⟩):=by
  have:=kent k
  rw[if_pos rfl]at this
  rw[wA,hBa,this]
  refine⟨rfl,?_⟩
  have:=congrArg Ent.id this
  rw[wN]
  exact congrArg (fun i=>(i,(⟨s,p,k⟩:Place))) this
 have hroN:B3.rOrds Q3 s ⟨p,m⟩=b'.rOrds Q' s ⟨p,m⟩++[⟨id,s,p,qty,top⟩]∧(xB Q3 ⟨p,m⟩).map (wN B3.a s p)=(xB Q' ⟨p,m⟩).map (wN b'.a s p)++[(id,⟨s,p,k⟩)]:=by
  rw[Book.rOrds,Book.rOrds,hsl1,List.map_append,List.map_append,List.map_singleton,List.map_singleton]
  refine⟨?_,?_⟩
  ·rw[hnew.1,List.map_congr_left (g:=wA b'.a s p) fun j hj=>by rw[hBa];exact(hord s ⟨p,m⟩ hs hrm j hj).2.1]
  ·rw[hnew.2,List.map_congr_left (g:=wN b'.a s p) fun j hj=>by rw[hBa];exact(hord s ⟨p,m⟩ hs hrm j hj).2.2]
 have hR1:∀r∈R1,r∈b'.rungs s∧r.queue≠m:=by
  intro r hr
  have hm:r∈b'.rungs s:=by rw[h.rungs];exact List.mem_append_left _ hr
  refine⟨hm,fun e=> ?_⟩
  have e2:=(hqd s r hs hm e).2
  have:=h.spl.a r hr
  rw[e2,mB]at this;cases this
 have hR2:∀r∈R2,r∈b'.rungs s∧r.queue≠m:=by
  intro r hr
  have hm:r∈b'.rungs s:=by rw[h.rungs];exact List.mem_append_right _ (List.mem_cons_of_mem _ hr)
  refine⟨hm,fun e=> ?_⟩
  have e2:=(hqd s r hs hm e).2
  have:=h.spl.b r hr
  rw[e2,mB]at this;cases this
 have zA:B3.sideL Q3 s=(R1.flatMap (b'.rOrds Q' s)++b'.rOrds Q' s ⟨p,m⟩)++⟨id,s,p,qty,top⟩::R2.flatMap (b'.rOrds Q' s):=by
  rw[Book.sideL,hBr,h.rungs,List.flatMap_append,List.flatMap_cons,hroN.1,xD (l:=R1) (fun r hr=>(hro s r hs (hR1 r hr).1 (hR1 r hr).2).1),xD (l:=R2) (fun r hr=>(hro s r hs (hR2 r hr).1 (hR2 r hr).2).1)]
  simp
 have sideO:b'.sideL Q' s=(R1.flatMap (b'.rOrds Q' s)++b'.rOrds Q' s ⟨p,m⟩)++R2.flatMap (b'.rOrds Q' s):=by
  rw[Book.sideL,h.rungs,List.flatMap_append,List.flatMap_cons,List.append_assoc]
 have plcN:(B3.plcs Q3 s).Perm ((id,⟨s,p,k⟩)::b'.plcs Q' s):=by
  rw[Book.plcs,hBr,h.rungs,List.flatMap_append,List.flatMap_cons,hroN.2,xD (l:=R1) (fun r hr=>(hro s r hs (hR1 r hr).1 (hR1 r hr).2).2),xD (l:=R2) (fun r hr=>(hro s r hs (hR2 r hr).1 (hR2 r hr).2).2),Book.plcs,h.rungs,List.flatMap_append,List.flatMap_cons]
  rw[List.append_assoc,List.singleton_append,← List.append_assoc]
  refine List.perm_middle.trans ?_
  rw[List.append_assoc]
 have other:∀s',s'≠s→s'=1∨s'=2→B3.sideL Q3 s'=b'.sideL Q' s'∧B3.plcs Q3 s'=b'.plcs Q' s':=by
  intro s' hne hs'
  have hne':∀r∈b'.rungs s',r.queue≠m:=fun r hr e=>hne (hqd s' r hs' hr e).1
  rw[Book.sideL,Book.sideL,Book.plcs,Book.plcs,hBr]
  exact⟨xD fun r hr=>(hro s' r hs' hr (hne' r hr)).1,xD fun r hr=>(hro s' r hs' hr (hne' r hr)).2⟩
 have bA:∀o∈R1.flatMap (b'.rOrds Q' s)++b'.rOrds Q' s ⟨p,m⟩,before s p o=true:=by
  intro o ho
  rcases List.mem_append.1 ho with ho|ho
  ·obtain⟨r,hr,ho⟩:=List.mem_flatMap.1 ho
   obtain⟨e1,e2⟩:=qI ho
   rw[before,e1,e2,zPz (h.spl.a r hr)];simp
  ·obtain⟨e1,e2⟩:=qI ho
   rw[before,e1,e2,mB];simp
 have bB:∀o∈R2.flatMap (b'.rOrds Q' s),before s p o=false:=by
  intro o ho
  obtain⟨r,hr,ho⟩:=List.mem_flatMap.1 ho
  obtain⟨e1,e2⟩:=qI ho
  rw[before,e1,e2,h.spl.b r hr];simp
 have bO:∀s',s'≠s→s'=1∨s'=2→∀o∈b'.sideL Q' s',before s p o=decide (s=2):=by
  intro s' hne hs' o ho
  have:=(dY ho).1
  exact zOd (by omega) (by omega) hs
 have flatE:∃A B,b'.flat Q'=A++B∧B3.flat Q3=A++⟨id,s,p,qty,top⟩::B∧(∀o∈A,before s p o=true)∧∀o∈B,before s p o=false:=by
  rcases hs with rfl|rfl
  ·refine⟨_,R2.flatMap (b'.rOrds Q' 1)++b'.sideL Q' 2,?_,?_,bA,fun o ho=> ?_⟩
   ·rw[Book.flat,sideO];simp only[List.append_assoc]
   ·rw[Book.flat,zA,(other 2 (by decide) (.inr rfl)).1];simp only[List.append_assoc,List.cons_append]
   ·rcases List.mem_append.1 ho with ho|ho
    ·exact bB o ho
    ·exact bO 2 (by decide) (.inr rfl) o ho
  ·refine⟨b'.sideL Q' 1++(R1.flatMap (b'.rOrds Q' 2)++b'.rOrds Q' 2 ⟨p,m⟩),R2.flatMap (b'.rOrds Q' 2),?_,?_,fun o ho=> ?_,bB⟩
   ·rw[Book.flat,sideO];simp only[List.append_assoc]
   ·rw[Book.flat,zA,(other 1 (by decide) (.inl rfl)).1];simp only[List.append_assoc]
   ·rcases List.mem_append.1 ho with ho|ho
    ·exact bO 1 (by decide) (.inl rfl) o ho
    ·exact bA o ho
 obtain⟨A,B,f1,f2,f3,f4⟩:=flatE
 refine⟨Q3,A,B,⟨by rw[hBa];exact kw,fun s' hs'=>by rw[hBr];exact c.srt s' hs',by rw[hBqs,hQl];exact c.rng,by rw[hBqs];exact c.nd,by rw[hBqs,hQl];exact c.ql,fun s' hs' r hr _=> ?_,fun q hq=> ?_,?_,?_,by rw[hQl];exact c.qb⟩,f1,f2,f3,f4⟩
 ·rw[hBr]at hr
  by_cases e:r.queue=m
  ·obtain⟨rfl,rfl⟩:=hqd s' r hs' hr e
   rw[hsl1];simp
  ·rw[hr0 s' r hs' hr e];exact c.ne s' hs' r hr e
 ·rw[hBsp]at hq
  have hqq:q∈b'.qs:=List.mem_append_right _ hq
  rw[hsl2 q (c.rng q hqq).1 fun e=> ?_]
  ·exact c.sp q hq
  ·have hcn:=c.nd
   rw[Book.qs]at hcn
   refine(List.nodup_append.1 hcn).2.2 m ?_ q hq e.symm
   rcases hs with rfl|rfl
   ·exact List.mem_append_left _ (List.mem_map.2 ⟨_,hrm,rfl⟩)
   ·exact List.mem_append_right _ (List.mem_map.2 ⟨_,hrm,rfl⟩)
 ·have hnk:id∉b'.at_.map (·.1):=by
   rw[c.keysP.mem_iff,h.flat];exact hid
  rw[hBat,zQs hnk]
  refine(List.perm_append_singleton _ _).trans ?_
  rcases hs with rfl|rfl
  ·rw[(other 2 (by decide) (.inr rfl)).2]
   exact(c.at_.cons _).trans (plcN.symm.append_right _)
  ·rw[(other 1 (by decide) (.inl rfl)).2]
   refine(c.at_.cons _).trans ?_
   refine(List.perm_middle.symm).trans (plcN.symm.append_left _)
 ·rw[f2,List.map_append,List.map_cons]
  have h1:=c.ids
  rw[f1,List.map_append]at h1
  have h2:id∉(A++B).map (·.id):=by rw[← f1,h.flat];exact hid
  refine List.perm_middle.nodup_iff.2 (List.nodup_cons.2 ⟨by rw[List.map_append]at h2;exact h2,h1⟩)
open Go Cv Go.Proofs
def kQ (L:List zD) (id:Int):Bool:=L.any fun o=>decide (o.id=id)
def eL (L:List zD) (s id p q:Int):List zD×Int:=if q<1∨1000000<q then(L,24)else if kQ L id=true then(L,25)else if 250≤L.length then(L,13)else(zGh L s id p q,0)
theorem hasId_iff {L:List zD} {id:Int}:kQ L id=true↔id∈L.map (·.id):=by
 rw[kQ,List.any_eq_true,List.mem_map]
 constructor
 ·rintro⟨o,ho,e⟩;exact⟨o,ho,of_decide_eq_true e⟩
 ·rintro⟨o,ho,e⟩;exact⟨o,ho,decide_eq_true e⟩
theorem bU {b:Book} {Q:List (List Nat)} {o:zD} (h:o∈b.flat Q):(o.side=1∨o.side=2)∧∃r∈b.rungs o.side,o∈b.rOrds Q o.side r∧o.price=r.price:=by
 rcases List.mem_append.1 h with h|h
 all_goals
  obtain⟨e,r,hr,ho,hp⟩:=dY h
  rw[e]
  exact⟨by simp,r,hr,ho,hp⟩
theorem flat_mem {b:Book} {Q:List (List Nat)} {s:Int} (hs:s=1∨s=2) {o:zD} (h:o∈b.sideL Q s):o∈b.flat Q:=by
 rcases hs with rfl|rfl
 ·exact List.mem_append_left _ h
 ·exact List.mem_append_right _ h
theorem Book.Core.leads {b:Book} {Q:List (List Nat)} (c:b.Core Q (-1)) {s:Int} (hs:s=1∨s=2) (p:Int):b.leads s p=uE (b.flat Q) s p:=by
 have hsrt:=c.srt s hs
 have hne:=c.ne s hs
 rw[Book.leads]
 cases hr:b.rungs s with
 |nil=>
  symm
  dsimp only
  rw[uE,List.all_eq_true]
  intro o ho
  obtain⟨_,r,hr2,_⟩:=bU ho
  by_cases e:o.side=s
  ·rw[e,hr]at hr2;cases hr2
  ·rw[decide_eq_false e];rfl
 |cons r0 l=>
  dsimp only
  rw[hr,List.pairwise_cons]at hsrt
  have hm:r0∈b.rungs s:=by rw[hr];exact List.mem_cons_self
  cases hb:btr s p r0.price with
  |true=>
   symm
   rw[uE,List.all_eq_true]
   intro o ho
   obtain⟨_,r,hr2,_,hp⟩:=bU ho
   by_cases e:o.side=s
   ·rw[e,hr]at hr2
    rw[hp]
    rcases List.mem_cons.1 hr2 with rfl|hr2
    ·rw[hb];simp
    ·rw[zJq hb (hsrt.1 r hr2)];simp
   ·rw[decide_eq_false e];rfl
  |false=>
   symm
   rw[uE,List.all_eq_false]
   have h0:=hne r0 hm fun e=>by have:=c.rng _ (vW hs hm);omega
   cases hk:xB Q r0 with
   |nil=>exact absurd hk h0
   |cons k ks=>
    refine⟨wA b.a s r0.price k,flat_mem hs (List.mem_flatMap.2 ⟨r0,hm,by rw[Book.rOrds,hk];exact List.mem_cons_self⟩),?_⟩
    show ¬((!decide (s=s))||btr s p r0.price)=true
    rw[hb];simp
theorem zYp {L:List zD} {s:Int} {o:zD} (h:o∈clr L s):∃o'∈L,o.id=o'.id∧o.side=o'.side∧o.price=o'.price∧o.qty=o'.qty∧o.top=(if o.side=s then false else o'.top):=by
 obtain⟨o',ho,e⟩:=List.mem_map.1 h
 refine⟨o',ho,?_⟩
 by_cases c:o'.side=s
 ·rw[if_pos c]at e
  subst e
  exact⟨rfl,rfl,rfl,rfl,(if_pos c).symm⟩
 ·rw[if_neg c]at e
  subst e
  exact⟨rfl,rfl,rfl,rfl,(if_neg c).symm⟩
theorem yAy {L:List zD} {s:Int} {o:zD} (h:o∈L) (hs:o.side≠s):o∈clr L s:=List.mem_map.2 ⟨o,h,if_neg hs⟩
theorem zXs (L:List zD) (s:Int):(clr L s).map (·.id)=L.map (·.id):=by
 rw[clr,List.map_map]
 refine List.map_congr_left fun o _=> ?_
 simp only[Function.comp]
 split<;>rfl
theorem zPe (b:Book) (id:Int) {s:Int} (hs:s=1∨s=2):(b.leadF id s).a=b.untop s∧(b.leadF id s).buys=b.buys∧(b.leadF id s).sells=b.sells∧(b.leadF id s).at_=b.at_∧(b.leadF id s).spare=b.spare∧∀s',s'=1∨s'=2→(b.leadF id s).hasF s'=(if s'=s then true else b.hasF s')∧(b.leadF id s).topI s'=(if s'=s then id else b.topI s'):=by
 rcases hs with rfl|rfl
 ·exact⟨rfl,rfl,rfl,rfl,rfl,fun s' h=>by rcases h with rfl|rfl<;>exact⟨rfl,rfl⟩⟩
 ·exact⟨rfl,rfl,rfl,rfl,rfl,fun s' h=>by rcases h with rfl|rfl<;>exact⟨rfl,rfl⟩⟩
theorem Book.Core.like {b b':Book} {Q:List (List Nat)} {h:Int} (c:b.Core Q h) (e1:b'.a=b.a) (e2:b'.buys=b.buys) (e3:b'.sells=b.sells) (e4:b'.at_=b.at_) (e5:b'.spare=b.spare):b'.Core Q h∧b'.flat Q=b.flat Q:=by
 have er:∀s,b'.rungs s=b.rungs s:=fun s=>by rw[Book.rungs,Book.rungs,e2,e3]
 have eo:∀s r,b'.rOrds Q s r=b.rOrds Q s r:=fun s r=>by rw[Book.rOrds,Book.rOrds,e1]
 have es:∀s,b'.sideL Q s=b.sideL Q s:=fun s=>by rw[Book.sideL,Book.sideL,er];exact xD fun r _=>eo s r
 have ep:∀s,b'.plcs Q s=b.plcs Q s:=fun s=>by rw[Book.plcs,Book.plcs,er,e1]
 have ef:b'.flat Q=b.flat Q:=by rw[Book.flat,Book.flat,es,es]
 have eq:b'.qs=b.qs:=by rw[Book.qs,Book.qs,e2,e3,e5]
 exact⟨⟨by rw[e1];exact c.wf,fun s hs=>by rw[er];exact c.srt s hs,by rw[eq];exact c.rng,by rw[eq];exact c.nd,by rw[eq];exact c.ql,fun s hs=>by rw[er];exact c.ne s hs,by rw[e5];exact c.sp,by rw[e4,ep,ep];exact c.at_,by rw[ef];exact c.ids,c.qb⟩,ef⟩
theorem Book.Rep.stand {b:Book} {L:List zD} (h:b.Rep L) {s:Int} (hs:s=1∨s=2) {id p q:Int} (hid:id∉L.map (·.id)) (hl:L.length<250) (hq:1≤q∧q≤1000000):(b.stand s id p q).Rep (zGh L s id p q):=by
 obtain⟨Q,c,ht,rfl⟩:=h
 have hld:=c.leads hs p
 have h1:(b.led id s p).Core Q (-1)∧(b.led id s p).flat Q=(if uE (b.flat Q) s p=true then clr (b.flat Q) s else b.flat Q):=by
  rw[Book.led,hld]
  split
  ·obtain⟨e1,e2,e3,e4,e5,_⟩:=zPe b id hs
   obtain⟨u1,u2⟩:=c.untop s
   obtain⟨v1,v2⟩:=Book.Core.like (b':=b.leadF id s) (c.flag u1 u2) e1 e2 e3 e4 e5
   exact⟨v1,v2.trans (c.untop_flat ht hs)⟩
  ·exact⟨c,rfl⟩
 obtain⟨c1,f1⟩:=h1
 have hlen1:((b.led id s p).flat Q).length<250:=by
  rw[f1];split
  ·rw[clr,List.length_map];exact hl
  ·exact hl
 have hid1:id∉((b.led id s p).flat Q).map (·.id):=by
  rw[f1];split
  ·rw[zXs];exact hid
  ·exact hid
 obtain⟨Q',R1,R2,hqd⟩:=c1.queue hlen1 hs p
 obtain⟨Q3,A,B,k1,k2,k3,k4,k5⟩:=hqd.put hs (b.leads s p) hid1 (c1.used hlen1) hq
 have hAB:A++B=(if uE (b.flat Q) s p=true then clr (b.flat Q) s else b.flat Q):=by rw[← k2,hqd.flat,f1]
 have hins:zGh (b.flat Q) s id p q=A++⟨id,s,p,q,b.leads s p⟩::B:=by
  rw[zGh]
  obtain⟨t1,t2⟩:=z5t k4 k5
  rw[← hAB,t1,t2,hld]
 refine⟨Q3,k1,?_,?_⟩
 ·rw[hins,hld]
  show Book.Tops {((b.led id s p).queueF s p).1 with a:=_,at_:=_} _
  have hto:∀x,({((b.led id s p).queueF s p).1 with a:=(((b.led id s p).queueF s p).1.a.push ((b.led id s p).queueF s p).2 id q (b.leads s p)).1,at_:=mH id ⟨s,p,(((b.led id s p).queueF s p).1.a.push ((b.led id s p).queueF s p).2 id q (b.leads s p)).2.1⟩ ((b.led id s p).queueF s p).1.at_}:Book).hasF x=(b.led id s p).hasF x∧({((b.led id s p).queueF s p).1 with a:=(((b.led id s p).queueF s p).1.a.push ((b.led id s p).queueF s p).2 id q (b.leads s p)).1,at_:=mH id ⟨s,p,(((b.led id s p).queueF s p).1.a.push ((b.led id s p).queueF s p).2 id q (b.leads s p)).2.1⟩ ((b.led id s p).queueF s p).1.at_}:Book).topI x=(b.led id s p).topI x:=hqd.qty
  generalize ({((b.led id s p).queueF s p).1 with a:=(((b.led id s p).queueF s p).1.a.push ((b.led id s p).queueF s p).2 id q (b.leads s p)).1,at_:=mH id ⟨s,p,(((b.led id s p).queueF s p).1.a.push ((b.led id s p).queueF s p).2 id q (b.leads s p)).2.1⟩ ((b.led id s p).queueF s p).1.at_}:Book)=B3 at*
  have mAB:∀o,o∈A++⟨id,s,p,q,uE (b.flat Q) s p⟩::B↔o=⟨id,s,p,q,uE (b.flat Q) s p⟩∨o∈A++B:=by
   intro o
   rw[List.mem_append,List.mem_cons,List.mem_append]
   constructor
   ·rintro(h|h|h)
    ·exact .inr (.inl h)
    ·exact .inl h
    ·exact .inr (.inr h)
   ·rintro(h|h|h)
    ·exact .inr (.inl h)
    ·exact .inl h
    ·exact .inr (.inr h)
  have hsd:∀o∈b.flat Q,o.side=1∨o.side=2:=fun o ho=>(bU ho).1
  by_cases hlead:uE (b.flat Q) s p=true
  ·rw[if_pos hlead]at hAB
   have hb1:b.led id s p=b.leadF id s:=by rw[Book.led,if_pos (hld.trans hlead)]
   obtain⟨_,_,_,_,_,e6⟩:=zPe b id hs
   rw[hb1]at hto
   refine⟨fun o ho=> ?_,fun s' hs' hh=> ?_⟩
   ·rcases(mAB o).1 ho with rfl|ho
    ·rw[(hto s).1,(hto s).2,(e6 s hs).1,(e6 s hs).2,if_pos rfl,if_pos rfl,hlead];simp
    ·rw[hAB]at ho
     obtain⟨o',ho',i1,i2,_,_,i5⟩:=zYp ho
     rw[(hto _).1,(hto _).2,i5,(e6 o.side (by rw[i2];exact hsd o' ho')).1,(e6 o.side (by rw[i2];exact hsd o' ho')).2]
     by_cases e:o.side=s
     ·rw[if_pos e,if_pos e,if_pos e,Bool.true_and]
      symm
      refine decide_eq_false fun e2=>hid ?_
      rw[← e2,i1];exact List.mem_map_of_mem ho'
     ·rw[if_neg e,if_neg e,if_neg e,ht.fl o' ho',i1,i2]
   ·rw[(hto s').2,(e6 s' hs').2]
    by_cases e:s'=s
    ·rw[if_pos e]
     exact⟨_,(mAB _).2 (.inl rfl),e.symm,rfl⟩
    ·rw[(hto s').1,(e6 s' hs').1,if_neg e]at hh
     rw[if_neg e]
     obtain⟨o,ho,o1,o2⟩:=ht.th s' hs' hh
     exact⟨o,(mAB _).2 (.inr (by rw[hAB];exact yAy ho (by rw[o1];exact e))),o1,o2⟩
  ·rw[if_neg hlead]at hAB
   have hlf:uE (b.flat Q) s p=false:=by simpa using hlead
   have hb1:b.led id s p=b:=by rw[Book.led,if_neg (by rw[hld];exact hlead)]
   rw[hb1]at hto
   refine⟨fun o ho=> ?_,fun s' hs' hh=> ?_⟩
   ·rw[(hto _).1,(hto _).2]
    rcases(mAB o).1 ho with rfl|ho
    ·show uE (b.flat Q) s p=(b.hasF s && decide (id=b.topI s))
     rw[hlf]
     cases hh:b.hasF s with
     |false=>rfl
     |true=>
      rw[Bool.true_and]
      symm
      refine decide_eq_false fun e2=>hid ?_
      obtain⟨o,ho,_,o2⟩:=ht.th s hs hh
      rw[e2,← o2];exact List.mem_map_of_mem ho
    ·rw[hAB]at ho;exact ht.fl o ho
   ·rw[(hto s').1]at hh
    rw[(hto s').2]
    obtain⟨o,ho,o1,o2⟩:=ht.th s' hs' hh
    exact⟨o,(mAB _).2 (.inr (by rw[hAB];exact ho)),o1,o2⟩
 ·rw[hins];exact k3.symm
theorem Book.Rep.pget {b:Book} {L:List zD} (h:b.Rep L) (id:Int):(pget b.at_ id).isSome=kQ L id:=by
 obtain⟨Q,c,ht,rfl⟩:=h
 cases hg:Sx.pget b.at_ id with
 |none=>
  have:=zCc hg
  rw[c.keysP.mem_iff,← hasId_iff]at this
  symm;simpa using this
 |some x=>
  have:=List.mem_map_of_mem (f:=(·.1)) (nV hg)
  rw[c.keysP.mem_iff,← hasId_iff]at this
  symm;exact this
theorem Book.Rep.len {b:Book} {L:List zD} (h:b.Rep L):b.at_.length=L.length:=by
 obtain⟨Q,c,ht,rfl⟩:=h
 exact c.len
theorem Book.Rep.add {b:Book} {L:List zD} (h:b.Rep L) {s:Int} (hs:s=1∨s=2) (id p q:Int):(b.addF s id p q).1.Rep (eL L s id p q).1∧(b.addF s id p q).2=(eL L s id p q).2:=by
 rw[Book.addF,eL,h.pget,h.len]
 repeat' split
 all_goals first|exact⟨h,rfl⟩|skip
 rename_i c1 c2 c3
 exact⟨h.stand hs (fun e=>c2 (hasId_iff.2 e)) (by omega) (by omega),rfl⟩
theorem z2a:book0.Rep []:=by
 refine⟨[],⟨⟨⟨by simp[book0,zHj],rfl,fun n l h=>by simp at h,fun n l h=>by simp at h,fun n l h=>by simp at h,fun k s hk hu=> ?_,?_⟩,fun n l h=>by simp at h⟩,fun s hs=> ?_,fun q hq=>by simp[book0,Book.qs]at hq,by simp[book0,Book.qs],rfl,fun s hs r hr=> ?_,fun q hq=>by simp[book0]at hq,?_,?_,by decide⟩,⟨fun o ho=>(by cases ho),fun s hs hh=> ?_⟩,?_⟩
 ·have:=List.mem_of_getElem? hk
  rw[List.eq_of_mem_replicate this]at hu;cases hu
 ·decide
 ·rcases hs with rfl|rfl<;>exact List.Pairwise.nil
 ·rcases hs with rfl|rfl<;>cases hr
 ·exact List.Perm.refl _
 ·exact List.nodup_nil
 ·rcases hs with rfl|rfl<;>cases hh
 ·rfl
open Go Cv Go.Proofs
structure BoI where
 b:Book
 s:Int
 r:xL
 l:List Nat
def BoI.ords (i:BoI):List zD:=(i.b.a.ents i.l).map fun e=>⟨e.id,i.s,i.r.price,e.qty,e.top⟩
def ordersC:Con:=con1 BoI (fun i=>[.nm 0 0,zB i.s,.agg [zB i.r.price,zB i.r.queue]]) (fun i=>[yB i.b]) (fun i=>i.b.a.listOk i.r.queue i.l) (fun _=> .own 1) (fun i=>[yB i.b,.own 68 5 (i.ords.map j9)])
def yDd (i:BoI):List SAnn:=[{ι:=Nat,slots:=fun j=>[(7,.own 0),(18,zB j)],rows:=fun j=>[.own 68 5 ((i.ords.take j).map j9)]}]
end Sx
