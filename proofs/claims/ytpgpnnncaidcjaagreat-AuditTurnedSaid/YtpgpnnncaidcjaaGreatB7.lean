/- Texts of ours, one behind the other: a walk that the kernel reckons, and contracts of functions. No condition. -/
import Derived.Laws.Externs
import Derived.Test.YtpgpnnncaidcjaaGreatB6
namespace Sx
set_option linter.unusedVariables false
set_option maxRecDepth 100000
open Go Cv Go.Proofs
def zDa (a:Cmd) (b:Cmd) (c:Cmd→Prop) (d:TmI):Prop:=sb a.label=sb b.label∧c a∧Sx.AObj.cells (Sx.V.agg [V.d (dI 0),V.d (dI 0),V.d (dI 0),V.d (dI 0),V.d (dI 0),V.d (dI 0),V.d (dI 0),V.d (dI 0),V.d dC]).cl 35=Sx.AObj.cells (Sx.V.agg [V.d (dI 0),V.d (dI 0),V.d (dI 0),V.d (dI 0),V.d (dI 0),V.d (dI 0),V.d (dI 0),V.d (dI 0),V.d dC]).cl 35∧Sx.AObj.cells [V.d (dI d.c.kind),V.d (dI d.c.id),V.d (dI d.c.inst),V.d (dI d.c.side),V.d (dI d.c.price),V.d (dI d.c.qty),V.d (dI d.c.least),V.d (dI d.c.time),V.d (D.v (Value.string (sb d.c.label)))] 35=Sx.AObj.cells [V.d (dI d.c.kind),V.d (dI d.c.id),V.d (dI d.c.inst),V.d (dI d.c.side),V.d (dI d.c.price),V.d (dI d.c.qty),V.d (dI d.c.least),V.d (dI d.c.time),V.d (D.v (Value.string (sb d.c.label)))] 35∧Sx.AObj.cells [V.d (D.v (Value.string (sb d.p.code))),V.own 0,V.d (dI d.p.tick),V.d (dI d.p.low),V.d (dI d.p.high),V.d (dI d.p.wide),V.d (dI d.p.rule),V.d (dI d.p.top),V.d (dI d.p.least),V.d (dI d.p.part),V.own ((0:Nat)+(1:Nat))] 29=Sx.AObj.cells [V.d (D.v (Value.string (sb d.p.code))),V.own 0,V.d (dI d.p.tick),V.d (dI d.p.low),V.d (dI d.p.high),V.d (dI d.p.wide),V.d (dI d.p.rule),V.d (dI d.p.top),V.d (dI d.p.least),V.d (dI d.p.part),V.own ((0:Nat)+(1:Nat))] 29∧AObj.fro 1 (iE d.p.settle)=AObj.fro 1 (iE d.p.settle)∧AObj.fro 1 (iE d.p.months)=AObj.fro 1 (iE d.p.months)
def zIn (a:Cmd) (b:Cmd) (c:Cmd→Prop) (d:TmI):Prop:=a.time=b.time∧zDa a b c d
def zKq (a:Cmd) (b:Cmd) (c:Cmd→Prop) (d:TmI):Prop:=a.id=b.id∧a.inst=b.inst∧a.side=b.side∧a.price=b.price∧a.qty=b.qty∧a.least=b.least∧zIn a b c d
def sO (a:Cmd) (b:Cmd→Prop) (c:TmI):Prop:=∃(d:Cmd),d.kind=a.kind∧zKq d a b c
def zFi (a:TmI) (b:WiI) (c:Cmd):Prop:=(qY a).qty=IntKind.i64.wrap (x5 b)∧(qY a).least=c.least∧(qY a).time=c.time∧sb (qY a).label=sb c.label∧True
def zGa (a:TmI) (b:Cmd):Prop:=(qY a).qty=b.qty∧(qY a).least=b.least∧(qY a).time=b.time∧sb (qY a).label=sb b.label∧True
def yJd (t:TmI):Prop:=
 ∃(a:WiI),a.n=t.c.kind∧a.lo=0∧a.hi=8∧(xD a)∧∀(b:Unit),True→∃(c:WiI),c.n=t.c.id∧c.lo=0∧c.hi=30∧(xD c)∧∀(d:Unit),True→∃(e:Cmd),e.kind=IntKind.i64.wrap (x5 a)∧e.id=IntKind.i64.wrap (x5 c)∧e.inst=0∧e.side=0∧e.price=0∧e.qty=0∧e.least=0∧e.time=0∧sb e.label=ByteArray.mk #[]∧∃(f:Cmd→Prop),cnd (decide (e.kind>4)) (∃(g:Cmd),g.kind=1∧zKq g e f t) (sO e f t)∧∀(g:Cmd),f g→∃(h:Prd),sb h.code=sb t.p.code∧iE h.months=iE t.p.months∧h.tick=t.p.tick∧h.low=t.p.low∧h.high=t.p.high∧h.wide=t.p.wide∧h.rule=t.p.rule∧h.top=t.p.top∧h.least=t.p.least∧h.part=t.p.part∧iE h.settle=iE t.p.settle∧(zS h)∧∀(j:Unit),True→∃(k:WiI),k.n=t.c.inst∧k.lo=0∧k.hi=IntKind.i64.wrap ((↑h.count:Int)-1)∧(xD k)∧∀(l:Unit),True→∃(m:WiI),m.n=t.c.side∧m.lo=0∧m.hi=1∧(xD m)∧∀(n:Unit),True→∃(p:WiI),p.n=t.c.qty∧p.lo=0∧p.hi=11∧(xD p)∧∀(q:Unit),True→∃(r:WiI),r.n=t.c.price∧r.lo=0∧r.hi=9∧(xD r)∧∀(s:Unit),True→t.p.tick=t.p.tick∧cnd (g.kind==1) (∃(u:Cmd),u.kind=g.kind∧u.id=IntKind.i64.wrap (t.i+1)∧u.inst=zH k.n k.lo k.hi∧u.side=IntKind.i64.wrap (x5 m)∧u.price=IntKind.i64.wrap (t.p.tick*zH r.n r.lo r.hi)∧u.qty=IntKind.i64.wrap (x5 p)∧u.least=g.least∧u.time=1∧sb u.label=sb g.label∧∃(v:Cmd→Prop),(IntKind.i64=IntKind.i64∧(5:Int)≠(0:Int)∧cnd (t.c.time.tmod (5:Int)==(2:Int)) (∃(w:Cmd),w.kind=u.kind∧w.id=u.id∧w.inst=u.inst∧w.side=u.side∧w.price=u.price∧w.qty=u.qty∧w.least=u.least∧w.time=2∧zDa w u v t) (sO u v t))∧∀(w:Cmd),v w→∃(x:Cmd),x.kind=w.kind∧x.id=w.id∧x.inst=w.inst∧x.side=w.side∧x.price=w.price∧x.qty=w.qty∧x.least=w.least∧x.time=w.time∧sb x.label=sb w.label∧∃(y:Cmd→Prop),(IntKind.i64=IntKind.i64∧(5:Int)≠(0:Int)∧cnd (t.c.time.tmod (5:Int)==(3:Int)) (∃(z:Cmd),z.kind=x.kind∧z.id=x.id∧z.inst=x.inst∧z.side=x.side∧z.price=x.price∧z.qty=x.qty∧z.least=x.least∧z.time=3∧zDa z x y t) (sO x y t))∧∀(z:Cmd),y z→∃(a_1:Cmd),a_1.kind=z.kind∧a_1.id=z.id∧a_1.inst=z.inst∧a_1.side=z.side∧a_1.price=z.price∧a_1.qty=z.qty∧a_1.least=z.least∧a_1.time=z.time∧sb a_1.label=sb z.label∧∃(a_2:Cmd→Prop),(IntKind.i64=IntKind.i64∧(4:Int)≠(0:Int)∧cnd (t.c.least.tmod (4:Int)==(1:Int)) (∃(a_3:WiI),a_3.n=t.c.least∧a_3.lo=0∧a_3.hi=a_1.qty∧(xD a_3)∧∀(a_4:Unit),True→∃(a_5:Cmd),a_5.kind=a_1.kind∧a_5.id=a_1.id∧a_5.inst=a_1.inst∧a_5.side=a_1.side∧a_5.price=a_1.price∧a_5.qty=a_1.qty∧a_5.least=zH a_3.n a_3.lo a_3.hi∧zIn a_5 a_1 a_2 t) (sO a_1 a_2 t))∧∀(a_3:Cmd),a_2 a_3→∃(a_4:f9),sb a_4.p.code=sb t.p.code∧iE a_4.p.months=iE t.p.months∧a_4.p.tick=t.p.tick∧a_4.p.low=t.p.low∧a_4.p.high=t.p.high∧a_4.p.wide=t.p.wide∧a_4.p.rule=t.p.rule∧a_4.p.top=t.p.top∧a_4.p.least=t.p.least∧a_4.p.part=t.p.part∧iE a_4.p.settle=iE t.p.settle∧a_4.n=a_3.inst∧(qR a_4)∧∀(a_5:Unit),True→cnd (!(a_4.p.legs a_4.n).snd.snd) (∃(a_6:Unit),(qY t).kind=a_3.kind∧(qY t).id=a_3.id∧(qY t).inst=a_3.inst∧(qY t).side=a_3.side∧(qY t).price=IntKind.i64.wrap (a_3.price+IntKind.i64.wrap (8*t.p.tick))∧zGa t a_3) (∃(a_6:Unit),(qY t).kind=a_3.kind∧(qY t).id=a_3.id∧(qY t).inst=a_3.inst∧(qY t).side=a_3.side∧(qY t).price=IntKind.i64.wrap (a_3.price-IntKind.i64.wrap (4*t.p.tick))∧zGa t a_3)) (cnd (g.kind==4) (∃(u:Unit),(qY t).kind=g.kind∧(qY t).id=g.id∧(qY t).inst=0∧(qY t).side=0∧(qY t).price=IntKind.i64.wrap (IntKind.i64.wrap (t.p.tick*zH r.n r.lo r.hi)+IntKind.i64.wrap (5*t.p.tick))∧zFi t p g) (∃(u:Unit),(qY t).kind=g.kind∧(qY t).id=g.id∧(qY t).inst=0∧(qY t).side=0∧(qY t).price=IntKind.i64.wrap (t.p.tick*zH r.n r.lo r.hi)∧zFi t p g))
set_option linter.unusedSimpArgs false
open Go Cv Go.Proofs
theorem yPu (t:TmI) (h:tameC.cnd t):yJd t:=by
 obtain⟨hc,hs,⟨r1,r2,r3,r4,r5,r6,r7,r8⟩,i0,i1⟩:t.p.check=0∧t.p.small∧t.c.raw∧0≤t.i∧t.i≤1000000:=h
 have ok:=qG hc
 have t1:=ok.t1
 have t2:=ok.t2
 have m2:=ok.m2
 have hcl:=xV t.p
 have hcd:=gS hc
 have bk:=xK (n:=t.c.kind) (lo:=0) (hi:=8) (by omega)
 have bi:=xK (n:=t.c.id) (lo:=0) (hi:=30) (by omega)
 have bs:=xK (n:=t.c.side) (lo:=0) (hi:=1) (by omega)
 have bq:=xK (n:=t.c.qty) (lo:=0) (hi:=11) (by omega)
 have bp:=xK (n:=t.c.price) (lo:=0) (hi:=9) (by omega)
 have mb:=zLv (a:=t.p.tick) (b:=zH t.c.price 0 9) (m:=1000) (n:=9) (by omega) (by omega)
 have wp:IntKind.i64.wrap (t.p.tick*zH t.c.price 0 9)=t.p.tick*zH t.c.price 0 9:=w64 (by omega)
 unfold yJd sO zKq zIn zDa dC zGa zFi x5 xD zS qR dI
 refine⟨⟨t.c.kind,0,8⟩,rfl,rfl,rfl,⟨r1,by dsimp only;omega,by dsimp only;omega,by dsimp only;omega⟩,fun _ _=>⟨⟨t.c.id,0,30⟩,rfl,rfl,rfl,⟨r2,by dsimp only;omega,by dsimp only;omega,by dsimp only;omega⟩,fun _ _=> ?_⟩⟩
 dsimp only
 rw[w64 (x:=1+zH t.c.kind 0 8) (by omega),w64 (x:=1+zH t.c.id 0 30) (by omega)]
 refine⟨⟨1+zH t.c.kind 0 8,1+zH t.c.id 0 30,0,0,0,0,0,0,[]⟩,rfl,rfl,rfl,rfl,rfl,rfl,rfl,rfl,rfl,fun c=>c=⟨aU t.c,1+zH t.c.id 0 30,0,0,0,0,0,0,[]⟩,zK (fun e=>⟨⟨aU t.c,1+zH t.c.id 0 30,0,0,0,0,0,0,[]⟩,?_,rfl,rfl,rfl,rfl,rfl,rfl,rfl,rfl,rfl,by(repeat'(first|exact trivial|exact rfl|apply And.intro))⟩) (fun e=>⟨⟨aU t.c,1+zH t.c.id 0 30,0,0,0,0,0,0,[]⟩,?_,rfl,rfl,rfl,rfl,rfl,rfl,rfl,rfl,rfl,by(repeat'(first|exact trivial|exact rfl|apply And.intro))⟩),fun c hcc=> ?_⟩
 ·dsimp only at e ⊢;rw[aU,ySf (by omega)]
 ·dsimp only at e ⊢;rw[aU,ySe (by omega)]
 subst hcc
 refine⟨t.p,rfl,rfl,rfl,rfl,rfl,rfl,rfl,rfl,rfl,rfl,rfl,hs,fun _ _=> ?_⟩
 rw[w64 (x:=(t.p.count:Int)-1) (by omega)]
 refine⟨⟨t.c.inst,0,(t.p.count:Int)-1⟩,rfl,rfl,rfl,⟨r3,by dsimp only;omega,by dsimp only;omega,by dsimp only;omega⟩,fun _ _=>⟨⟨t.c.side,0,1⟩,rfl,rfl,rfl,⟨r4,by dsimp only;omega,by dsimp only;omega,by dsimp only;omega⟩,fun _ _=>⟨⟨t.c.qty,0,11⟩,rfl,rfl,rfl,⟨r6,by dsimp only;omega,by dsimp only;omega,by dsimp only;omega⟩,fun _ _=>⟨⟨t.c.price,0,9⟩,rfl,rfl,rfl,⟨r5,by dsimp only;omega,by dsimp only;omega,by dsimp only;omega⟩,fun _ _=>⟨rfl,?_⟩⟩⟩⟩⟩
 dsimp only
 rw[wp,w64 (x:=1+zH t.c.side 0 1) (by omega),w64 (x:=1+zH t.c.qty 0 11) (by omega),w64 (x:=t.i+1) (by omega)]
 refine Cv.cnd.mk (fun k=> ?_) (fun k=> ?_)
 ·have k:aU t.c=1:=by simpa using k
  refine⟨{xG t with id:=t.i+1,time:=1},rfl,rfl,rfl,rfl,rfl,rfl,rfl,rfl,rfl,fun c=>c={xG t with id:=t.i+1,time:=if t.c.time.tmod 5=2 then 2 else 1},⟨rfl,by decide,Cv.cnd.mk (fun e=>⟨{xG t with id:=t.i+1,time:=2},rfl,rfl,rfl,rfl,rfl,rfl,rfl,rfl,rfl,?_,by(repeat'(first|exact trivial|exact rfl|apply And.intro))⟩) (fun e=>⟨{xG t with id:=t.i+1,time:=1},rfl,rfl,rfl,rfl,rfl,rfl,rfl,rfl,rfl,?_,by(repeat'(first|exact trivial|exact rfl|apply And.intro))⟩)⟩,fun c hcc=> ?_⟩
  ·have e:t.c.time.tmod 5=2:=by simpa using e
   rw[ySf e]
  ·have e:¬t.c.time.tmod 5=2:=by simpa using e
   rw[ySe e]
  subst hcc
  refine⟨{xG t with id:=t.i+1,time:=if t.c.time.tmod 5=2 then 2 else 1},rfl,rfl,rfl,rfl,rfl,rfl,rfl,rfl,rfl,fun c=>c={xG t with id:=t.i+1,time:=aQ t.c},⟨rfl,by decide,Cv.cnd.mk (fun e=>⟨{xG t with id:=t.i+1,time:=3},rfl,rfl,rfl,rfl,rfl,rfl,rfl,rfl,rfl,?_,by(repeat'(first|exact trivial|exact rfl|apply And.intro))⟩) (fun e=>⟨{xG t with id:=t.i+1,time:=if t.c.time.tmod 5=2 then 2 else 1},rfl,rfl,rfl,rfl,rfl,rfl,rfl,rfl,rfl,?_,by(repeat'(first|exact trivial|exact rfl|apply And.intro))⟩)⟩,fun c hcc=> ?_⟩
  ·have e:t.c.time.tmod 5=3:=by simpa using e
   rw[aQ,ySf e]
  ·have e:¬t.c.time.tmod 5=3:=by simpa using e
   rw[aQ,ySe e]
  subst hcc
  have hq:(xG t).qty=1+zH t.c.qty 0 11:=rfl
  refine⟨{xG t with id:=t.i+1,time:=aQ t.c},rfl,rfl,rfl,rfl,rfl,rfl,rfl,rfl,rfl,fun c=>c={xG t with id:=t.i+1,time:=aQ t.c,least:=tV t.c (xG t).qty},⟨rfl,by decide,Cv.cnd.mk (fun e=>⟨⟨t.c.least,0,(xG t).qty⟩,rfl,rfl,rfl,⟨r7,by dsimp only;omega,by dsimp only;omega,by dsimp only;omega⟩,fun _ _=>⟨{xG t with id:=t.i+1,time:=aQ t.c,least:=zH t.c.least 0 (xG t).qty},rfl,rfl,rfl,rfl,rfl,rfl,rfl,rfl,rfl,?_,by(repeat'(first|exact trivial|exact rfl|apply And.intro))⟩⟩) (fun e=>⟨{xG t with id:=t.i+1,time:=aQ t.c},rfl,rfl,rfl,rfl,rfl,rfl,rfl,rfl,rfl,?_,by(repeat'(first|exact trivial|exact rfl|apply And.intro))⟩)⟩,fun c hcc=> ?_⟩
  ·have e:t.c.least.tmod 4=1:=by simpa using e
   rw[tV,ySf e]
  ·have e:¬t.c.least.tmod 4=1:=by simpa using e
   rw[tV,ySe e];rfl
  subst hcc
  refine⟨⟨t.p,(xG t).inst⟩,rfl,rfl,rfl,rfl,rfl,rfl,rfl,rfl,rfl,rfl,rfl,rfl,hs,fun _ _=> ?_⟩
  dsimp only
  have hp:(xG t).price=t.p.tick*zH t.c.price 0 9:=rfl
  have hk1:(xG t).kind=1:=k
  rw[w64 (x:=8*t.p.tick) (by omega),w64 (x:=4*t.p.tick) (by omega),w64 (x:=(xG t).price+8*t.p.tick) (by omega),w64 (x:=(xG t).price-4*t.p.tick) (by omega)]
  refine Cv.cnd.mk (fun e=>⟨(),?_⟩) (fun e=>⟨(),?_⟩)
  ·have e:(t.p.legs (xG t).inst).2.2=false:=by simpa using e
   have:qY t={xG t with id:=t.i+1,time:=aQ t.c,least:=tV t.c (xG t).qty,price:=(xG t).price+8*t.p.tick}:=by
    simp only[qY,hk1,if_true,e,ySu,if_false]
   rw[this];(repeat'(first|exact trivial|exact rfl|apply And.intro))
  ·have e:(t.p.legs (xG t).inst).2.2=true:=by simpa using e
   have:qY t={xG t with id:=t.i+1,time:=aQ t.c,least:=tV t.c (xG t).qty,price:=(xG t).price-4*t.p.tick}:=by
    simp only[qY,hk1,if_true,e]
   rw[this];(repeat'(first|exact trivial|exact rfl|apply And.intro))
 ·have k:¬aU t.c=1:=by simpa using k
  have k:¬(xG t).kind=1:=k
  rw[w64 (x:=5*t.p.tick) (by omega),w64 (x:=t.p.tick*zH t.c.price 0 9+5*t.p.tick) (by omega)]
  have et:qY t={xG t with price:=if(xG t).kind=4 then(xG t).price+5*t.p.tick else(xG t).price,side:=0,inst:=0}:=by
   simp only[qY,k,if_false]
  rw[et]
  refine Cv.cnd.mk (fun e=>⟨(),?_⟩) (fun e=>⟨(),?_⟩)
  ·have e:aU t.c=4:=by simpa using e
   have e:(xG t).kind=4:=e
   simp only[ySf e];(repeat'(first|exact trivial|exact rfl|apply And.intro))
  ·have e:¬aU t.c=4:=by simpa using e
   have e:¬(xG t).kind=4:=e
   simp only[ySe e];(repeat'(first|exact trivial|exact rfl|apply And.intro))
theorem tame_ok:tameC.ok Tryz.prog 21:=okw mixed (gokc zOr (gokc zZr (gokc z5n gok0))) 0 (fun _=>yOt) (fun _=>[]) [] Tryz.func21 yPu
open Go Cv Go.Proofs
structure ShI where
 a:Int
 b:Int
 c:Int
def add64C:Con:=con1 ShI (fun i=>[zAn i.a,zAn i.b,zAn i.c]) (fun _=>[]) (fun i=>0≤i.a∧0≤i.b∧0≤i.c∧i.c≤1) (fun i=> .tup [zAn ((i.a+i.b+i.c) % 18446744073709551616),zAn ((i.a+i.b+i.c) / 18446744073709551616)]) (fun _=>[])
theorem z6t {P : Program} {f : FuncId} {fn : Func} (hf : P.funcs[f]? = some fn) (hname : (fn.name == "runtime.NumGoroutine") = false) (hb : fn.body.isNone = true) (hn : Extern.findNext fn = none) (he : Extern.find fn = some add64Entry) : add64C.ok P f := by
 intro i hc k L E w ys R hv
 obtain⟨h1,h2,h3,h4⟩:0≤i.a∧0≤i.b∧0≤i.c∧i.c≤1:=hc
 simp only[add64C,con1,VRL,VR,DR]at hv
 obtain⟨_,_,rfl,⟨rfl,_⟩,_,_,rfl,⟨rfl,_⟩,_,_,rfl,⟨rfl,_⟩,rfl⟩:=hv
 unfold Does
 rw[run_callFunc_extern hf hname hb hn he,run_add64 i.a i.b i.c h1 h2 h3 h4]
 simp only[Result.andThen]
 refine⟨_,yUd.2 rfl,(),trivial,E,Ev.le.refl _,?_,R⟩
 simp only[add64C,con1,VR,VRL,DR]
 exact⟨_,rfl,_,_,rfl,⟨rfl,rfl⟩,_,_,rfl,⟨rfl,rfl⟩,rfl⟩
theorem z4n:add64C.ok Tryz.prog 157:=z6t Tryz.func157 (by kernel_rfl) (by kernel_rfl) (by kernel_rfl) (by kernel_rfl)
structure M2 where
 a:Int
 b:Int
def mul64C:Con:=con1 M2 (fun i=>[zAn i.a,zAn i.b]) (fun _=>[]) (fun i=>0≤i.a∧i.a≤2000000000∧0≤i.b∧i.b≤2000000000) (fun i=> .tup [zAn 0,zAn (i.a*i.b)]) (fun _=>[])
def div64C:Con:=con1 M2 (fun i=>[zAn 0,zAn i.a,zAn i.b]) (fun _=>[]) (fun i=>0≤i.a∧i.a≤4000000000000000000∧1≤i.b∧i.b≤2000000000) (fun i=> .tup [zAn (i.a / i.b),zAn (i.a % i.b)]) (fun _=>[])
def ishareC:Con:=con1 ShI (fun i=>[zA i.a,zA i.b,zA i.c]) (fun _=>[]) (fun i=>0≤i.a∧i.a≤2000000000∧0≤i.b∧i.b≤2000000000∧1≤i.c∧i.c≤2000000000) (fun i=> .tup [zA (i.a*i.b / i.c),yR true]) (fun _=>[])
def isumC:Con:=con1 (List Int) (fun l=>[iV l]) (fun _=>[]) (fun l=>l.length≤1000∧∀x∈l,0≤x∧x≤1000000) (fun l=> .tup [zA l.sum,yR true]) (fun _=>[])
def yPy (l:List Int):List SAnn:=[{ι:=Nat,slots:=fun j=>[(4,zAn (l.take j).sum),(5,zA 0),(11,zA j)],rows:=fun _=>[]}]
structure LqI where
 l:List Int
 q:Int
def yT (l:List Int) (q:Int):Bool:=decide (l.length≤250) && decide (0≤q) && l.all (fun n=>decide (1≤n) && decide (n≤1000000)) && decide (q≤l.sum)
def rightC:Con:=con1 LqI (fun i=>[iV i.l,zA i.q]) (fun _=>[]) (fun i=>i.l.length≤1000000∧yY i.q) (fun i=>yR (yT i.l i.q)) (fun _=>[])
def yMy (i:LqI):List SAnn:=[{ι:=Nat,slots:=fun j=>[(5,zA (i.l.take j).sum),(17,zA j)],rows:=fun _=>[]}]
def uP:List Int→Int→List Int
 |[],_=>[]
 |n::l,q=>min n q::uP l (q-min n q)
def uW (l:List Int) (q:Int):List Int:=if yT l q=true then uP l q else[]
def fifoC:Con:=con1 LqI (fun i=>[iV i.l,zA i.q]) (fun _=>[]) (fun i=>i.l.length≤1000000∧yY i.q) (fun _=> .own 0) (fun i=>[.own 2 1 (iE (uW i.l i.q))])
def yOa (i:LqI):List SAnn:=[{ι:=Nat,slots:=fun j=>[(5,.own 0),(1,zA (i.q-((uP i.l i.q).take j).sum)),(15,zA j)],rows:=fun j=>[.own 2 1 (iE ((uP i.l i.q).take j))]}]
open Go Cv Go.Proofs
def lI (a:M2):=(IntKind.u64.wrap (IntKind.u64.wrap (rH IntKind.u64 a.a 32*zHg IntKind.u64 a.b 4294967295)+rH IntKind.u64 (IntKind.u64.wrap (zHg IntKind.u64 a.a 4294967295*zHg IntKind.u64 a.b 4294967295)) 32))
def z7w (i:M2):Prop:=
 (0:Int)≤(32:Int)∧(0:Int)≤(32:Int)∧(0:Int)≤(32:Int)∧(0:Int)≤(32:Int)∧(0:Int)≤(32:Int)∧∃(a:Unit),0=IntKind.u64.wrap (IntKind.u64.wrap (IntKind.u64.wrap (rH IntKind.u64 i.a 32*rH IntKind.u64 i.b 32)+rH IntKind.u64 (lI i) 32)+rH IntKind.u64 (IntKind.u64.wrap (zHg IntKind.u64 (lI i) 4294967295+IntKind.u64.wrap (zHg IntKind.u64 i.a 4294967295*rH IntKind.u64 i.b 32))) 32)∧i.a*i.b=IntKind.u64.wrap (i.a*i.b)∧True
def yAk (i:M2):Prop:=
 cnd (i.b==0) False (cnd (decide (i.b≤0)) False (IntKind.u64=IntKind.u64∧i.b≠0∧IntKind.u64=IntKind.u64∧i.b≠0∧∃(a:Unit),i.a / i.b=IntKind.u64.wrap (i.a.tdiv i.b)∧i.a % i.b=i.a.tmod i.b∧True))
def z0s (i:ShI):Prop:=
 cnd (decide (i.a<0)) (∃(a:Unit),i.a*i.b / i.c=0∧true=false∧True) (cnd (decide (i.b<0)) (∃(a:Unit),i.a*i.b / i.c=0∧true=false∧True) (cnd (decide (i.c<1)) (∃(a:Unit),i.a*i.b / i.c=0∧true=false∧True) (∃(a:M2),a.a=IntKind.u64.wrap i.a∧a.b=IntKind.u64.wrap i.b∧(0≤a.a∧a.a≤(2000000000:Int)∧(0:Int)≤a.b∧a.b≤2000000000)∧∀(b:Unit),True→cnd (decide (0≥IntKind.u64.wrap i.c)) (∃(c:Unit),i.a*i.b / i.c=0∧true=false∧True) (∃(c:M2),(0:Int)=(0:Int)∧c.a=a.a*a.b∧c.b=IntKind.u64.wrap i.c∧(0≤c.a∧c.a≤(4000000000000000000:Int)∧(1:Int)≤c.b∧c.b≤2000000000)∧∀(d:Unit),True→cnd (decide (c.a / c.b>9223372036854775807)) (∃(e:Unit),i.a*i.b / i.c=0∧true=false∧True) (∃(e:Unit),i.a*i.b / i.c=IntKind.i64.wrap (c.a / c.b)∧true=true∧True)))))
def yIz (l:List Int):Prop:=
 ∃(a:Nat),(List.take a l).sum=(0:Int)∧(0:Int)=0∧(↑a:Int)=0∧∃(b:Nat→Prop),∃(c:Nat→Nat),b a∧∀(d:Nat),b d→cnd (decide ((↑d:Int)<(↑(iE l).length:Int))) ((0≤(↑d:Int)∧(↑d:Int)<(↑(iE l).length:Int))∧∃(e:Int),zF (iE l) (↑d:Int).toNat 0 1=some [dI e]∧∃(f:ShI),f.a=(List.take d l).sum∧f.b=IntKind.u64.wrap e∧f.c=0∧(0≤f.a∧0≤f.b∧0≤f.c∧f.c≤1)∧∀(g:Unit),True→(0:Int)≤(63:Int)∧∃(h:Nat),(List.take h l).sum=(f.a+f.b+f.c) % (18446744073709551616:Int)∧(0:Int)=IntKind.i64.wrap (0+IntKind.i64.wrap (rH IntKind.i64 e 63+IntKind.i64.wrap ((f.a+f.b+f.c) / (18446744073709551616:Int))))∧vM h d b c) ((0:Int)≤(63:Int)∧cnd (0 !=rH IntKind.i64 (IntKind.i64.wrap (List.take d l).sum) 63) (∃(e:Unit),l.sum=0∧true=false∧True) (∃(e:Unit),l.sum=IntKind.i64.wrap (List.take d l).sum∧true=true∧True))
def z8g (i:LqI):Prop:=
 cnd (decide ((↑(iE i.l).length:Int)>250)) (∃(a:Unit),yT i.l i.q=false∧True) (cnd (decide (i.q<0)) (∃(a:Unit),yT i.l i.q=false∧True) (∃(a:Nat),(List.take a i.l).sum=0∧(↑a:Int)=0∧∃(b:Nat→Prop),∃(c:Nat→Nat),b a∧∀(d:Nat),b d→cnd (decide ((↑d:Int)<(↑(iE i.l).length:Int))) ((0≤(↑d:Int)∧(↑d:Int)<(↑(iE i.l).length:Int))∧∃(e:Int),zF (iE i.l) (↑d:Int).toNat 0 1=some [dI e]∧cnd (decide (e<1)) (∃(f:Unit),yT i.l i.q=false∧True) (cnd (decide (e>1000000)) (∃(f:Unit),yT i.l i.q=false∧True) (∃(f:Nat),(List.take f i.l).sum=IntKind.i64.wrap ((List.take d i.l).sum+e)∧vM f d b c))) (∃(e:Unit),yT i.l i.q=decide (i.q≤(List.take d i.l).sum)∧True)))
def jW (a:LqI):Prop:=a.l.length≤(1000000:Nat)∧(-9223372036854775808:Int)≤a.q∧a.q≤9223372036854775807
def jY (a:Nat) (b:LqI):=(List.take a (uP b.l b.q))
def yIg (i:LqI):Prop:=
 ∃(a:LqI),iE a.l=iE i.l∧a.q=i.q∧(jW a)∧∀(b:Unit),True→cnd (!yT a.l a.q) (∃(c:Unit),iE (uW i.l i.q)=[]∧True) (∃(c:Nat),i.q-(jY c i).sum=i.q∧(↑c:Int)=0∧iE (jY c i)=[]∧∃(d:Nat→Prop),∃(e:Nat→Nat),d c∧∀(f:Nat),d f→cnd (decide ((↑f:Int)<(↑(iE i.l).length:Int))) ((0≤(↑f:Int)∧(↑f:Int)<(↑(iE i.l).length:Int))∧∃(g:Int),zF (iE i.l) (↑f:Int).toNat 0 1=some [dI g]∧((iE (jY f i)).length+1)*(8:Nat)≤(70368744177664:Nat)∧∃(h:Nat),i.q-(jY h i).sum=IntKind.i64.wrap (i.q-(jY f i).sum-min g (i.q-(jY f i).sum))∧(↑h:Int)=IntKind.i64.wrap ((↑f:Int)+1)∧iE (jY h i)=iE (jY f i)++[[dI (min g (i.q-(jY f i).sum))]]∧d h∧e h<e f∧True) (∃(g:Unit),iE (uW i.l i.q)=iE (jY f i)∧True))
open Go Cv Go.Proofs
theorem zSs {x:Int} (h0:0≤x) (h1:x<4294967296):zHg .u64 x 4294967295=x:=by
 have e:zHg .u64 x 4294967295=IntKind.u64.wrap ((BitVec.ofInt 64 x &&& BitVec.ofInt 64 4294967295).toNat:Int):=rfl
 obtain⟨n,rfl⟩:=Int.eq_ofNat_of_zero_le h0
 have hn:n<4294967296:=by omega
 rw[e,BitVec.toNat_and,BitVec.ofInt_natCast,BitVec.toNat_ofNat,show(BitVec.ofInt 64 4294967295).toNat=2 ^ 32-1 by decide,Nat.and_two_pow_sub_one_eq_mod]
 rw[show n % 2 ^ 64 % 2 ^ 32=n by omega,zKv (by omega)]
theorem zIb {x:Int} (h0:0≤x) (h1:x<4294967296):rH .u64 x 32=0:=by
 have:=zHw .u64 x 32 (by decide)
 rw[show((32:Nat):Int)=32 by rfl]at this
 rw[this];omega
theorem z3g {a b m n:Int} (ha:0≤a∧a≤m) (hb:0≤b∧b≤n):0≤a*b∧a*b≤m*n:=
 ⟨yYm ha.1 hb.1,Int.mul_le_mul ha.2 hb.2 hb.1 (by omega)⟩
theorem yLl (i:M2) (h:mul64C.cnd i):z7w i:=by
 obtain⟨h1,h2,h3,h4⟩:0≤i.a∧i.a≤2000000000∧0≤i.b∧i.b≤2000000000:=h
 have hm:=z3g ⟨h1,h2⟩ ⟨h3,h4⟩
 have hs:rH IntKind.u64 (i.a*i.b) 32=(i.a*i.b) / 4294967296:=by
  have:=zHw .u64 (i.a*i.b) 32 (by decide)
  rw[show((32:Nat):Int)=32 by rfl]at this
  exact this
 unfold z7w lI
 refine⟨by decide,by decide,by decide,by decide,by decide,(),?_,?_,trivial⟩
 ·rw[zSs h1 (by omega),zSs h3 (by omega),zIb h1 (by omega),zIb h3 (by omega),zKv (x:=i.a*i.b) (by omega),hs]
  simp only[Int.zero_mul,Int.mul_zero,Int.zero_add,Int.add_zero]
  rw[zKv (x:=0) (by omega)]
  simp only[Int.zero_add,Int.add_zero]
  rw[zKv (x:=i.a*i.b / 4294967296) (by omega),zIb (x:=i.a*i.b / 4294967296) (by omega) (by omega),zSs (x:=i.a*i.b / 4294967296) (by omega) (by omega),zKv (x:=i.a*i.b / 4294967296) (by omega),zIb (x:=i.a*i.b / 4294967296) (by omega) (by omega)]
  rfl
 ·rw[zKv (by omega)]
theorem yBq:mul64C.ok Tryz.prog 150:=okw mixed gok0 0 (fun _=>[]) (fun _=>[]) [] Tryz.func150 yLl
theorem yKm (i:M2) (h:div64C.cnd i):yAk i:=by
 obtain⟨h1,h2,h3,h4⟩:0≤i.a∧i.a≤4000000000000000000∧1≤i.b∧i.b≤2000000000:=h
 unfold yAk
 have hd:0≤i.a / i.b∧i.a / i.b≤i.a:=⟨Int.ediv_nonneg h1 (by omega),Int.ediv_le_self _ h1⟩
 refine Cv.cnd.mk (fun c=>absurd (eq_of_beq c) (by omega)) (fun _=>zK (fun c=>by omega) (fun _=>⟨rfl,by omega,rfl,by omega,(),?_,?_,trivial⟩))
 ·rw[Int.tdiv_eq_ediv_of_nonneg h1,zKv (by omega)]
 ·rw[yWq h1]
theorem z7l:div64C.ok Tryz.prog 151:=okw mixed gok0 0 (fun _=>[]) (fun _=>[]) [] Tryz.func151 yKm
theorem yGn (i:ShI) (h:ishareC.cnd i):z0s i:=by
 obtain⟨h1,h2,h3,h4,h5,h6⟩:0≤i.a∧i.a≤2000000000∧0≤i.b∧i.b≤2000000000∧1≤i.c∧i.c≤2000000000:=h
 have hm:=z3g ⟨h1,h2⟩ ⟨h3,h4⟩
 have hd:0≤i.a*i.b / i.c∧i.a*i.b / i.c≤i.a*i.b:=⟨Int.ediv_nonneg hm.1 (by omega),Int.ediv_le_self _ hm.1⟩
 unfold z0s
 rw[zKv (x:=i.a) (by omega),zKv (x:=i.b) (by omega),zKv (x:=i.c) (by omega)]
 refine zK (fun c=>by omega) (fun _=>zK (fun c=>by omega) (fun _=>zK (fun c=>by omega) (fun _=>⟨⟨i.a,i.b⟩,rfl,rfl,⟨h1,h2,h3,h4⟩,fun _ _=>zK (fun c=>by omega) (fun _=>⟨⟨i.a*i.b,i.c⟩,rfl,rfl,rfl,⟨hm.1,by dsimp only;omega,h5,h6⟩,fun _ _=>zK (fun c=>by dsimp only at c;omega) (fun _=>⟨(),?_,rfl,trivial⟩)⟩)⟩)))
 rw[w64 (by dsimp only;omega)]
theorem zPt:ishareC.ok Tryz.prog 143:=okw mixed (gokc yBq (gokc z7l gok0)) 0 (fun _=>[]) (fun _=>[]) [] Tryz.func143 yGn
theorem wjn {j:Nat} (h:j≤1000000):((j+1:Nat):Int)=IntKind.i64.wrap ((j:Int)+1):=by rw[w64 (by omega)];rfl
theorem jN {l:List Int} {j:Nat} {x:Int} (h:l[j]? =some x):(l.take (j+1)).sum=(l.take j).sum+x:=by
 rw[yUf,h];simp
theorem jH {l:List Int} (h:∀x∈l,0≤x∧x≤1000000):∀j:Nat,0≤(l.take j).sum∧(l.take j).sum≤1000000*j
 |0=>by simp
 |j+1=>by
  have ih:=jH h j
  cases hx:l[j]? with
  |none=>
   have:l.take (j+1)=l.take j:=by
    rw[yUf,hx];simp
   rw[this];omega
  |some x=>
   have:=h x (ySo hx)
   rw[jN hx];omega
theorem yQl (l:List Int) (h:isumC.cnd l):yIz l:=by
 obtain⟨hl,hb⟩:l.length≤1000∧∀x∈l,0≤x∧x≤1000000:=h
 unfold yIz vM dI
 simp only[yW]
 refine⟨0,by(first|exact rfl|exact trivial),by(first|exact rfl|exact trivial),by(first|exact rfl|exact trivial),fun j=>j≤l.length,fun j=>l.length-j,yUq _,fun j hj=>zK (fun c=> ?_) (fun c=> ?_)⟩
 ·have hj':j<l.length:=by omega
  obtain⟨x,hx⟩:=z6 (l:=l) (i:=j) hj'
  have bx:=hb x (ySo hx)
  have bs:=jH hb j
  refine⟨⟨by omega,by omega⟩,x,elI hx,⟨(l.take j).sum,x,0⟩,rfl,by rw[zKv (by omega)],rfl,⟨bs.1,bx.1,by dsimp only;omega,by dsimp only;omega⟩,fun _ _=>⟨by decide,j+1,?_,?_,wjn (by omega),hj',by dsimp only;omega,trivial⟩⟩
  ·rw[jN hx];dsimp only;omega
  ·have e:rH IntKind.i64 x 63=x / 9223372036854775808:=by
    have:=zHw .i64 x 63 (by decide)
    rw[show((63:Nat):Int)=63 by rfl]at this
    exact this
   dsimp only
   rw[e,show x / 9223372036854775808=0 by omega,show((l.take j).sum+x+0) / 18446744073709551616=0 by omega]
   rfl
 ·have hj':j=l.length:=by omega
  subst hj'
  have bs:=jH hb l.length
  rw[yWt]at bs
  have e:rH IntKind.i64 l.sum 63=l.sum / 9223372036854775808:=by
   have:=zHw .i64 l.sum 63 (by decide)
   rw[show((63:Nat):Int)=63 by rfl]at this
   exact this
  rw[yWt,w64 (x:=l.sum) (by omega),e,show l.sum / 9223372036854775808=0 by omega]
  exact⟨by decide,Cv.cnd.mk (fun c=>absurd c (by decide)) (fun _=>⟨(),by(first|exact rfl|exact trivial),by(first|exact rfl|exact trivial),trivial⟩)⟩
theorem yEx:isumC.ok Tryz.prog 154:=okw mixed (gokc z4n gok0) 0 (fun _=>[]) (fun l=>yPy l) [] Tryz.func154 yQl
theorem yMc (i:LqI) (h:rightC.cnd i):z8g i:=by
 obtain⟨hl,hq⟩:i.l.length≤1000000∧yY i.q:=h
 unfold z8g vM dI
 simp only[yW]
 refine zK (fun c=>⟨(),?_,trivial⟩) (fun c1=>zK (fun c=>⟨(),?_,trivial⟩) (fun c2=> ?_))
 ·rw[yT,ySp (by omega:¬i.l.length≤250)];rfl
 ·rw[yT,ySp (by omega:¬0≤i.q)];simp
 refine⟨0,by(first|exact rfl|exact trivial),by(first|exact rfl|exact trivial),fun j=>j≤i.l.length∧∀k<j,∀x,i.l[k]? =some x→1≤x∧x≤1000000,fun j=>i.l.length-j,⟨yUq _,fun k hk=>absurd hk (Nat.not_lt_zero k)⟩,fun j hj=>zK (fun c=> ?_) (fun c=> ?_)⟩
 ·obtain⟨hj0,hjb⟩:=hj
  have hj':j<i.l.length:=by omega
  obtain⟨x,hx⟩:=z6 (l:=i.l) (i:=j) hj'
  have bad (hn:¬(1≤x∧x≤1000000)):yT i.l i.q=false:=by
   have:(i.l.all fun n=>decide (1≤n) && decide (n≤1000000))=false:=by
    rw[List.all_eq_false]
    exact⟨x,ySo hx,by simpa using hn⟩
   rw[yT,this];simp
  have bs:0≤(i.l.take j).sum∧(i.l.take j).sum≤1000000*j:=by
   have:=jH (l:=i.l.take j) (fun y hy=>by
    obtain⟨k,hk⟩:=yUi.1 hy
    have hkj:k<j:=by
     have:=(ySg.1 hk).1
     rw[yTe]at this;omega
    rw[List.getElem?_take_of_lt hkj]at hk
    have:=hjb k hkj y hk;omega) j
   rwa [List.take_take,Nat.min_self]at this
  refine⟨⟨by omega,by omega⟩,x,elI hx,zK (fun d=>⟨(),bad (by omega),trivial⟩) (fun d=>zK (fun e=>⟨(),bad (by omega),trivial⟩) (fun e=>⟨j+1,?_,wjn (by omega),⟨hj',fun k hk y hy=> ?_⟩,by dsimp only;omega,trivial⟩))⟩
  ·rw[jN hx,w64 (by omega)]
  ·by_cases hkj:k=j
   ·rw[hkj,hx]at hy;cases hy;omega
   ·exact hjb k (by omega) y hy
 ·obtain⟨hj0,hjb⟩:=hj
  have hj':j=i.l.length:=by omega
  subst hj'
  have:(i.l.all fun n=>decide (1≤n) && decide (n≤1000000))=true:=by
   rw[yVh]
   intro y hy
   obtain⟨k,hk⟩:=yUi.1 hy
   have:=hjb k ((ySg.1 hk).1) y hk
   simpa using this
  refine⟨(),?_,trivial⟩
  rw[yT,this,ySw (by omega:i.l.length≤250),ySw (by omega:0≤i.q),yWt]
  rfl
theorem zCs:rightC.ok Tryz.prog 141:=okw mixed gok0 0 (fun _=>[]) (fun i=>yMy i) [] Tryz.func141 yMc
theorem k6 {l:List Int} {q:Int} (h:yT l q=true):l.length≤250∧0≤q∧(∀x∈l,1≤x∧x≤1000000)∧q≤l.sum:=by
 simp only[yT,ySs,yTj,yVh]at h
 exact⟨h.1.1.1,h.1.1.2,h.1.2,h.2⟩
theorem zHq {l:List Int} {q:Int} (h:yT l q=true):q≤250000000:=by
 obtain⟨h1,h2,h3,h4⟩:=k6 h
 have:=jH (l:=l) (fun x hx=>by have:=h3 x hx;omega) l.length
 rw[yWt]at this
 omega
theorem rN:∀(l:List Int) (q:Int),(uP l q).length=l.length
 |[],_=>rfl
 |n::l,q=>by rw[uP,ySx,ySx,rN l]
theorem zKt:∀(l:List Int) (q:Int) (j:Nat) (n:Int),l[j]? =some n→(uP l q)[j]? =some (min n (q-((uP l q).take j).sum))
 |[],_,_,_,h=>by simp at h
 |m::l,q,0,n,h=>by simp at h;subst h;simp[uP]
 |m::l,q,j+1,n,h=>by
  rw[yTx]at h
  rw[uP,yTx,zKt l _ j n h,yTw,yTc]
  congr 2;omega
theorem zFc:∀(l:List Int) (q:Int) (j:Nat),0≤q→(∀x∈l,0≤x)→0≤q-((uP l q).take j).sum∧q-((uP l q).take j).sum≤q
 |[],q,j,h,_=>by simp[uP,h]
 |m::l,q,0,h,_=>by simp[h]
 |m::l,q,j+1,h,hb=>by
  have hm:=hb m ySk
  have:=zFc l (q-min m q) j (by omega) (fun x hx=>hb x (ySl _ hx))
  rw[uP,yTw,yTc]
  omega
theorem yOx (i:LqI) (h:fifoC.cnd i):yIg i:=by
 obtain⟨hl,hq⟩:i.l.length≤1000000∧yY i.q:=h
 unfold yIg jY jW dI
 refine⟨i,rfl,rfl,⟨hl,hq⟩,fun _ _=>Cv.cnd.mk (fun c=> ?_) (fun c=> ?_)⟩
 ·have c:yT i.l i.q=false:=by simpa using c
  refine⟨(),?_,trivial⟩
  rw[uW,ySe (by rw[c];decide)];rfl
 have c:yT i.l i.q=true:=by simpa using c
 obtain⟨h1,h2,h3,h4⟩:=k6 c
 have hq2:=zHq c
 have h3':∀x∈i.l,0≤x:=fun x hx=>by have:=h3 x hx;omega
 simp only[yW]
 refine⟨0,by simp,rfl,rfl,fun j=>j≤i.l.length,fun j=>i.l.length-j,yUq _,fun j hj=>zK (fun d=> ?_) (fun d=> ?_)⟩
 ·have hj':j<i.l.length:=by omega
  obtain⟨x,hx⟩:=z6 (l:=i.l) (i:=j) hj'
  have bx:=h3 x (ySo hx)
  have g:=zKt i.l i.q j x hx
  have r:=zFc i.l i.q j h2 h3'
  refine⟨⟨by omega,by omega⟩,x,elI hx,by rw[yTe];omega,j+1,?_,wjn (by omega),?_,hj',by dsimp only;omega,trivial⟩
  ·rw[jN g,w64 (by omega)];omega
  ·rw[yUf,g];simp[iE]
 ·have hj':j=i.l.length:=by omega
  subst hj'
  refine⟨(),?_,trivial⟩
  rw[uW,ySf c,ySz (by rw[rN];omega)]
theorem z3a:fifoC.ok Tryz.prog 128:=okw mixed (gokc zCs gok0) 0 (fun _=>[]) (fun i=>yOa i) [] Tryz.func128 yOx
open Go Cv Go.Proofs
structure Ent where
 slot:Int
 id:Int
 qty:Int
 top:Bool
 deriving DecidableEq
def yOm:Ent:=⟨0,0,0,false⟩
def zHj (e:Ent):List D:=[.v (.int .i64 e.slot),.v (.int .i64 e.id),.v (.int .i64 e.qty),.v (.bool e.top)]
@[reducible] def yRv (e:Ent):V:= .agg [zA e.slot,zA e.id,zA e.qty,yR e.top]
def Slot.ent (s:Slot):Ent:=⟨s.n,s.id,s.qty,s.top⟩
def Arena.slotAt (a:Arena) (k:Nat):Slot:=a.slots.getD k slot0
def Arena.getF (a:Arena) (n:Int):Ent×Bool:=if a.usedAt n=true then((a.slotAt n.toNat).ent,true)else(yOm,false)
def agetC:Con:=con1 ArN (fun i=>[.nm 0 0,zA i.n]) (fun i=>[jO i.a]) (fun i=>i.a.slots.length≤1000000) (fun i=> .tup [yRv (i.a.getF i.n).1,yR (i.a.getF i.n).2]) (fun i=>[jO i.a])
def zVa (sl:List Slot):Int→List Nat→Prop
 |at_,[]=>at_= -1
 |at_,k::l=>at_=k∧k<sl.length∧zVa sl (sl.getD k slot0).back l
structure ArL where
 a:Arena
 n:Int
 l:List Nat
def rE (l:List Nat) (j:Nat):Int:=match l[j]? with
 |some k=>k
 |none=> -1
def Arena.ents (a:Arena) (l:List Nat):List Ent:=l.map fun k=>(a.slotAt k).ent
structure Arena.listOk (a:Arena) (n:Int) (l:List Nat):Prop where
 len:l.length≤1000000
 ch:if 0≤n∧n<a.queues.length then zVa a.slots (a.queues.getD n.toNat b9).first l else l=[]
def alistC:Con:=con1 ArL (fun i=>[.nm 0 0,zA i.n]) (fun i=>[jO i.a]) (fun i=>i.a.listOk i.n i.l) (fun _=> .own 1) (fun i=>[jO i.a,.own 168 4 ((i.a.ents i.l).map zHj)])
def yJn (i:ArL):List SAnn:=[{ι:=Nat,slots:=fun j=>[(5,.own 0),(6,zA (rE i.l j))],rows:=fun j=>[.own 168 4 ((i.a.ents (i.l.take j)).map zHj)]}]
structure TkI where
 a:Arena
 n:Int
 qty:Int
def Arena.dropF (a:Arena) (k:Nat):Arena:=
 let s:=a.slotAt k
 let q:=a.queues.getD s.queue.toNat b9
 let sl1:=if s.ahead= -1 then a.slots else a.slots.modify s.ahead.toNat fun x=>{x with back:=s.back}
 let sl2:=if s.back= -1 then sl1 else sl1.modify s.back.toNat fun x=>{x with ahead:=s.ahead}
 ⟨sl2.set k slot0,a.queues.set s.queue.toNat ⟨if s.ahead= -1 then s.back else q.first,if s.back= -1 then s.ahead else q.last,q.total,IntKind.i64.wrap (q.count-1)⟩,IntKind.i64.wrap (a.free+1)⟩
def Arena.less (a:Arena) (k:Nat) (qty:Int):Arena:=
 {a with slots:=a.slots.modify k fun s=>{s with qty:=s.qty-qty},queues:=a.queues.modify (a.slotAt k).queue.toNat fun q=>{q with total:=IntKind.i64.wrap (q.total-qty)}}
def Arena.takeF (a:Arena) (n qty:Int):Arena×Int:=
 if a.usedAt n=false then(a,26)else if qty<1∨(a.slotAt n.toNat).qty<qty then(a,24)
 else if(a.slotAt n.toNat).qty=qty then((a.less n.toNat qty).dropF n.toNat,0)else(a.less n.toNat qty,0)
def Arena.okAt (a:Arena):Prop:=a.slots.length≤1000000∧∀(k:Nat) (s:Slot),a.slots[k]? =some s→s.used=true→(0≤s.queue∧s.queue<a.queues.length)∧s.qty≤1000000∧(s.ahead= -1∨(0≤s.ahead∧s.ahead<a.slots.length∧s.ahead≠k))∧(s.back= -1∨(0≤s.back∧s.back<a.slots.length∧s.back≠k))
def atakeC:Con:=con1 TkI (fun i=>[.nm 0 0,zA i.n,zA i.qty]) (fun i=>[jO i.a]) (fun i=>i.a.okAt) (fun i=>zA (i.a.takeF i.n i.qty).2) (fun i=>[jO (i.a.takeF i.n i.qty).1])
open Go Cv Go.Proofs
def eA (a:ArN):Prop:=∃(b:Unit),(a.a.getF a.n).fst.slot=0∧(a.a.getF a.n).fst.id=0∧(a.a.getF a.n).fst.qty=0∧(a.a.getF a.n).fst.top=false∧(a.a.getF a.n).snd=false∧jC a
def yHz (i:ArN):Prop:=
 cnd (decide (i.n<0)) (eA i) (cnd (decide (i.n≥(↑(List.map zQ i.a.slots).length:Int))) (eA i) ((0≤i.n∧i.n<(↑(List.map zQ i.a.slots).length:Int))∧∃(a:Bool),zF (List.map zQ i.a.slots) i.n.toNat ((0:Nat)+(0:Nat)) 1=some [D.v (.bool a)]∧cnd (!a) (eA i) ((0≤i.n∧i.n<(↑(List.map zQ i.a.slots).length:Int))∧∃(b:Int),∃(c:Int),∃(d:Int),∃(e:Bool),zF (List.map zQ i.a.slots) i.n.toNat ((0:Nat)+(1:Nat)) 4=some [dI b,dI c,dI d,D.v (.bool e)]∧∃(f:Unit),(i.a.getF i.n).fst.slot=b∧(i.a.getF i.n).fst.id=c∧(i.a.getF i.n).fst.qty=d∧(i.a.getF i.n).fst.top=e∧(i.a.getF i.n).snd=true∧jC i)))
def lQ (a:ArL):Prop:=∃(b:Unit),a.a.free=a.a.free∧List.map zQ a.a.slots=List.map zQ a.a.slots∧List.map zN a.a.queues=List.map zN a.a.queues∧List.map zHj (a.a.ents a.l)=[]∧True
def z9f (i:ArL):Prop:=
 cnd (decide (i.n≥0)) (cnd (!decide (i.n<(↑(List.map zN i.a.queues).length:Int))) (lQ i) ((0≤i.n∧i.n<(↑(List.map zN i.a.queues).length:Int))∧∃(a:Int),zF (List.map zN i.a.queues) i.n.toNat ((0:Nat)+(0:Nat)) 1=some [dI a]∧∃(b:Nat),rE i.l b=a∧List.map zHj (i.a.ents (List.take b i.l))=[]∧∃(c:Nat→Prop),∃(d:Nat→Nat),c b∧∀(e:Nat),c e→cnd (rE i.l e !=(-1)) ((0≤rE i.l e∧rE i.l e<(↑(List.map zQ i.a.slots).length:Int))∧∃(f:Int),∃(g:Int),∃(h:Int),∃(j:Bool),zF (List.map zQ i.a.slots) (rE i.l e).toNat ((0:Nat)+(1:Nat)) 4=some [dI f,dI g,dI h,D.v (.bool j)]∧((List.map zHj (i.a.ents (List.take e i.l))).length+1)*(32:Nat)≤(70368744177664:Nat)∧(0≤rE i.l e∧rE i.l e<(↑(List.map zQ i.a.slots).length:Int))∧∃(k:Int),zF (List.map zQ i.a.slots) (rE i.l e).toNat ((0:Nat)+(7:Nat)) 1=some [dI k]∧∃(l:Nat),rE i.l l=k∧List.map zHj (i.a.ents (List.take l i.l))=List.map zHj (i.a.ents (List.take e i.l))++[[dI f,dI g,dI h,D.v (.bool j)]]∧c l∧d l<d e∧Sx.AObj.cells (gD (k9 0 1 3) [V.own 1,V.own 2,zA i.a.free]) (185:TypeId)=Sx.AObj.cells (gD (k9 0 1 3) [V.own 1,V.own 2,zA i.a.free]) (185:TypeId)∧AObj.own 193 8 (List.map zQ i.a.slots)=AObj.own 193 8 (List.map zQ i.a.slots)∧AObj.own 199 4 (List.map zN i.a.queues)=AObj.own 199 4 (List.map zN i.a.queues)) (∃(f:Unit),i.a.free=i.a.free∧List.map zQ i.a.slots=List.map zQ i.a.slots∧List.map zN i.a.queues=List.map zN i.a.queues∧List.map zHj (i.a.ents i.l)=List.map zHj (i.a.ents (List.take e i.l))∧True))) (lQ i)
def l5 (a:TkI):Prop:=(a.a.takeF a.n a.qty).fst.free=a.a.free∧List.map zQ (a.a.takeF a.n a.qty).fst.slots=List.map zQ a.a.slots∧List.map zN (a.a.takeF a.n a.qty).fst.queues=List.map zN a.a.queues∧True
def pS (a:TkI):Prop:=∃(b:Unit),(a.a.takeF a.n a.qty).snd=26∧l5 a
def zAp (a:TkI):Prop:=∃(b:Unit),(a.a.takeF a.n a.qty).snd=24∧l5 a
def xA (a:TkI) (b:Int):=(z9 (List.map zQ a.a.slots) a.n.toNat ((0:Nat)+(1:Nat)+2) [dI (IntKind.i64.wrap (b-a.qty))])
def jP (a:TkI) (b:Int) (c:Int) (d:Int):=(z9 (xA a b) c.toNat ((0:Nat)+(7:Nat)) [dI d])
def lN (a:TkI) (b:Int) (c:Int) (d:Int) (e:Int) (f:Int):=(z9 (jP a b c d) e.toNat ((0:Nat)+(6:Nat)) [dI f])
def wD (a:TkI) (b:Int) (c:Int):=(z9 (List.map zN a.a.queues) b.toNat ((0:Nat)+(2:Nat)) [dI (IntKind.i64.wrap (c-a.qty))])
def fX (a:TkI) (b:Int) (c:Int) (d:Int) (e:Int):=(z9 (wD a b c) d.toNat ((0:Nat)+(0:Nat)) [dI e])
def pM (a:TkI) (b:Int) (c:Int) (d:Int) (e:Int) (f:Int):=(z9 (fX a b c d e) d.toNat ((0:Nat)+(1:Nat)) [dI f])
def zAq (a:TkI) (b:Int) (c:Int) (d:Int):=(z9 (xA a b) c.toNat ((0:Nat)+(6:Nat)) [dI d])
def l7 (a:Int) (b:TkI) (c:Int):Prop:=0≤a∧a<(↑(xA b c).length:Int)
def nS (a:TkI) (b:Int) (c:Int) (d:Int) (e:Int):=(z9 (wD a b c) d.toNat ((0:Nat)+(1:Nat)) [dI e])
def yCt (i:TkI):Prop:=
 cnd (decide (i.n<0)) (pS i) (cnd (decide (i.n≥(↑(List.map zQ i.a.slots).length:Int))) (pS i) ((0≤i.n∧i.n<(↑(List.map zQ i.a.slots).length:Int))∧∃(a:Bool),zF (List.map zQ i.a.slots) i.n.toNat ((0:Nat)+(0:Nat)) 1=some [D.v (.bool a)]∧cnd (!a) (pS i) ((0≤i.n∧i.n<(↑(List.map zQ i.a.slots).length:Int))∧cnd (decide (i.qty<1)) (zAp i) (∃(b:Int),zF (List.map zQ i.a.slots) i.n.toNat ((0:Nat)+(1:Nat)+2) 1=some [dI b]∧cnd (decide (i.qty>b)) (zAp i) (∃(c:Int),zF (List.map zQ i.a.slots) i.n.toNat ((0:Nat)+(1:Nat)+2) 1=some [dI c]∧i.n.toNat<(List.map zQ i.a.slots).length∧∃(d:Int),zF (xA i c) i.n.toNat ((0:Nat)+(5:Nat)) 1=some [dI d]∧(0≤d∧d<(↑(List.map zN i.a.queues).length:Int))∧∃(e:Int),zF (List.map zN i.a.queues) d.toNat ((0:Nat)+(2:Nat)) 1=some [dI e]∧(0≤d∧d<(↑(List.map zN i.a.queues).length:Int))∧d.toNat<(List.map zN i.a.queues).length∧∃(f:Int),zF (xA i c) i.n.toNat ((0:Nat)+(1:Nat)+2) 1=some [dI f]∧cnd (f==0) (∃(g:Int),zF (xA i c) i.n.toNat ((0:Nat)+(5:Nat)) 1=some [dI g]∧(0≤g∧g<(↑(wD i d e).length:Int))∧∃(h:Int),zF (xA i c) i.n.toNat ((0:Nat)+(6:Nat)) 1=some [dI h]∧cnd (h==(-1)) (∃(j:Int),zF (xA i c) i.n.toNat ((0:Nat)+(7:Nat)) 1=some [dI j]∧g.toNat<(wD i d e).length∧∃(k:Int),zF (xA i c) i.n.toNat ((0:Nat)+(7:Nat)) 1=some [dI k]∧cnd (k==(-1)) (∃(l:Int),zF (xA i c) i.n.toNat ((0:Nat)+(6:Nat)) 1=some [dI l]∧g.toNat<(fX i d e g j).length∧∃(m:Int),zF (pM i d e g j l) g.toNat ((0:Nat)+(3:Nat)) 1=some [dI m]∧g.toNat<(pM i d e g j l).length∧i.n.toNat<(xA i c).length∧∃(n:Unit),(i.a.takeF i.n i.qty).snd=0∧(i.a.takeF i.n i.qty).fst.free=IntKind.i64.wrap (i.a.free+1)∧List.map zQ (i.a.takeF i.n i.qty).fst.slots=z9 (xA i c) i.n.toNat 0 [D.v (.bool false),dI 0,dI 0,dI 0,D.v (.bool false),dI 0,dI 0,dI 0]∧List.map zN (i.a.takeF i.n i.qty).fst.queues=z9 (pM i d e g j l) g.toNat ((0:Nat)+(3:Nat)) [dI (IntKind.i64.wrap (m-1))]∧True) (∃(l:Int),zF (xA i c) i.n.toNat ((0:Nat)+(7:Nat)) 1=some [dI l]∧∃(m:Int),zF (xA i c) i.n.toNat ((0:Nat)+(6:Nat)) 1=some [dI m]∧(l7 l i c)∧l.toNat<(xA i c).length∧∃(n:Int),zF (fX i d e g j) g.toNat ((0:Nat)+(3:Nat)) 1=some [dI n]∧g.toNat<(fX i d e g j).length∧i.n.toNat<(zAq i c l m).length∧∃(p:Unit),(i.a.takeF i.n i.qty).snd=0∧(i.a.takeF i.n i.qty).fst.free=IntKind.i64.wrap (i.a.free+1)∧List.map zQ (i.a.takeF i.n i.qty).fst.slots=z9 (zAq i c l m) i.n.toNat 0 [D.v (.bool false),dI 0,dI 0,dI 0,D.v (.bool false),dI 0,dI 0,dI 0]∧List.map zN (i.a.takeF i.n i.qty).fst.queues=z9 (fX i d e g j) g.toNat ((0:Nat)+(3:Nat)) [dI (IntKind.i64.wrap (n-1))]∧True)) (∃(j:Int),zF (xA i c) i.n.toNat ((0:Nat)+(6:Nat)) 1=some [dI j]∧∃(k:Int),zF (xA i c) i.n.toNat ((0:Nat)+(7:Nat)) 1=some [dI k]∧(l7 j i c)∧j.toNat<(xA i c).length∧∃(l:Int),zF (jP i c j k) i.n.toNat ((0:Nat)+(7:Nat)) 1=some [dI l]∧cnd (l==(-1)) (∃(m:Int),zF (jP i c j k) i.n.toNat ((0:Nat)+(6:Nat)) 1=some [dI m]∧g.toNat<(wD i d e).length∧∃(n:Int),zF (nS i d e g m) g.toNat ((0:Nat)+(3:Nat)) 1=some [dI n]∧g.toNat<(nS i d e g m).length∧i.n.toNat<(jP i c j k).length∧∃(p:Unit),(i.a.takeF i.n i.qty).snd=0∧(i.a.takeF i.n i.qty).fst.free=IntKind.i64.wrap (i.a.free+1)∧List.map zQ (i.a.takeF i.n i.qty).fst.slots=z9 (jP i c j k) i.n.toNat 0 [D.v (.bool false),dI 0,dI 0,dI 0,D.v (.bool false),dI 0,dI 0,dI 0]∧List.map zN (i.a.takeF i.n i.qty).fst.queues=z9 (nS i d e g m) g.toNat ((0:Nat)+(3:Nat)) [dI (IntKind.i64.wrap (n-1))]∧True) (∃(m:Int),zF (jP i c j k) i.n.toNat ((0:Nat)+(7:Nat)) 1=some [dI m]∧∃(n:Int),zF (jP i c j k) i.n.toNat ((0:Nat)+(6:Nat)) 1=some [dI n]∧(0≤m∧m<(↑(jP i c j k).length:Int))∧m.toNat<(jP i c j k).length∧∃(p:Int),zF (wD i d e) g.toNat ((0:Nat)+(3:Nat)) 1=some [dI p]∧g.toNat<(wD i d e).length∧i.n.toNat<(lN i c j k m n).length∧∃(q:Unit),(i.a.takeF i.n i.qty).snd=0∧(i.a.takeF i.n i.qty).fst.free=IntKind.i64.wrap (i.a.free+1)∧List.map zQ (i.a.takeF i.n i.qty).fst.slots=z9 (lN i c j k m n) i.n.toNat 0 [D.v (.bool false),dI 0,dI 0,dI 0,D.v (.bool false),dI 0,dI 0,dI 0]∧List.map zN (i.a.takeF i.n i.qty).fst.queues=z9 (wD i d e) g.toNat ((0:Nat)+(3:Nat)) [dI (IntKind.i64.wrap (p-1))]∧True))) (∃(g:Unit),(i.a.takeF i.n i.qty).snd=0∧(i.a.takeF i.n i.qty).fst.free=i.a.free∧List.map zQ (i.a.takeF i.n i.qty).fst.slots=z9 (List.map zQ i.a.slots) i.n.toNat ((0:Nat)+(1:Nat)+2) [dI (IntKind.i64.wrap (c-i.qty))]∧List.map zN (i.a.takeF i.n i.qty).fst.queues=z9 (List.map zN i.a.queues) d.toNat ((0:Nat)+(2:Nat)) [dI (IntKind.i64.wrap (e-i.qty))]∧True))))))
open Go Cv Go.Proofs
theorem zHy {a:Arena} {n:Int} (h:n<0∨(a.slots.length:Int)≤n):a.usedAt n=false:=by
 rcases h with h|h
 ·rw[Arena.usedAt,ySp (by omega),yTz]
 ·rw[Arena.usedAt,ySp (show ¬n<(a.slots.length:Int)by omega),yTz,yWw]
theorem z2g {a:Arena} {n:Int} {s:Slot} (h0:0≤n) (hs:a.slots[n.toNat]? =some s):a.usedAt n=s.used:=by
 have hl:=(ySg.1 hs).1
 rw[Arena.usedAt,ySw h0,ySw (show n<(a.slots.length:Int)by omega),zI hs];simp
theorem xQ {a:Arena} {k:Nat} {s:Slot} (hs:a.slots[k]? =some s):a.slotAt k=s:=zI hs
theorem yOg (i:ArN) (h:agetC.cnd i):yHz i:=by
 have h:i.a.slots.length≤1000000:=h
 unfold yHz eA jC dI
 simp only[ySh]
 have no (e:i.a.usedAt i.n=false):i.a.getF i.n=(yOm,false):=by rw[Arena.getF,ySe (by rw[e];decide)]
 refine zK (fun c=> ?_) (fun c=>zK (fun d=> ?_) (fun d=> ?_))
 ·rw[no (zHy (.inl c))];(repeat'(first|exact rfl|exact trivial|assumption|apply And.intro|refine fun(_:Unit) (_:True)=>?_|refine Exists.intro () ?_|omega|(dsimp only;omega)))
 ·rw[no (zHy (.inr (by omega)))];(repeat'(first|exact rfl|exact trivial|assumption|apply And.intro|refine fun(_:Unit) (_:True)=>?_|refine Exists.intro () ?_|omega|(dsimp only;omega)))
 ·obtain⟨s,hs⟩:=z6 (l:=i.a.slots) (i:=i.n.toNat) (by omega)
  have eu:=z2g (a:=i.a) (n:=i.n) (by omega) hs
  refine⟨⟨by omega,by omega⟩,s.used,elA hs (by simp[zQ]) rfl,Cv.cnd.mk (fun u=> ?_) (fun u=> ?_)⟩
  ·rw[no (by rw[eu];simpa using u)];(repeat'(first|exact rfl|exact trivial|assumption|apply And.intro|refine fun(_:Unit) (_:True)=>?_|refine Exists.intro () ?_|omega|(dsimp only;omega)))
  ·have e:i.a.usedAt i.n=true:=by rw[eu];simpa using u
   have et:i.a.getF i.n=(s.ent,true):=by rw[Arena.getF,ySf e,xQ hs]
   rw[et]
   refine⟨⟨by omega,by omega⟩,s.n,s.id,s.qty,s.top,elA hs (by simp[zQ]) rfl,?_⟩
   (repeat'(first|exact rfl|exact trivial|assumption|apply And.intro|refine fun(_:Unit) (_:True)=>?_|refine Exists.intro () ?_|omega|(dsimp only;omega)))
theorem z1n:agetC.ok Tryz.prog 99:=okw mixed gok0 1 (fun _=>[]) (fun _=>[]) [0] Tryz.func99 yOg
theorem zQg:∀{sl:List Slot} {at_:Int} {l:List Nat},zVa sl at_ l→rE l 0=at_∧∀j k,l[j]? =some k→k<sl.length∧rE l (j+1)=(sl.getD k slot0).back
 |sl,at_,[],h=>⟨h.symm,fun j k hk=>by simp at hk⟩
 |sl,at_,x::l,h=>by
  obtain⟨h1,h2,h3⟩:=h
  have ih:=zQg h3
  refine⟨h1.symm,fun j k hk=> ?_⟩
  cases j with
  |zero=>
   simp at hk;subst hk
   exact⟨h2,by rw[← ih.1];rfl⟩
  |succ j=>
   rw[yTx]at hk
   obtain⟨a,b⟩:=ih.2 j k hk
   exact⟨a,by rw[← b];rfl⟩
theorem yKx (i:ArL) (h:alistC.cnd i):z9f i:=by
 obtain⟨hl,h⟩:i.l.length≤1000000∧(if 0≤i.n∧i.n<i.a.queues.length then zVa i.a.slots (i.a.queues.getD i.n.toNat b9).first i.l else i.l=[]):=⟨h.len,h.ch⟩
 unfold z9f lQ dI
 simp only[ySh]
 have out (e:¬(0≤i.n∧i.n<(i.a.queues.length:Int))):i.l=[]:=by rw[ySe e]at h;exact h
 refine zK (fun c=>Cv.cnd.mk (fun d=> ?_) (fun d=> ?_)) (fun c=> ?_)
 ·have d:¬i.n<(i.a.queues.length:Int):=by simpa using d
  rw[out (by omega)];(repeat'(first|exact rfl|exact trivial|assumption|apply And.intro|refine fun(_:Unit) (_:True)=>?_|refine Exists.intro () ?_|omega|(dsimp only;omega)))
 ·have d:i.n<(i.a.queues.length:Int):=by simpa using d
  rw[ySf ⟨by omega,d⟩]at h
  obtain⟨q,hq⟩:=z6 (l:=i.a.queues) (i:=i.n.toNat) (by omega)
  rw[zI hq]at h
  obtain⟨n0,nx⟩:=zQg h
  refine⟨⟨by omega,by omega⟩,q.first,elA hq (by simp[zN]) rfl,0,n0,rfl,fun j=>j≤i.l.length,fun j=>i.l.length-j,yUq _,fun j hj=>Cv.cnd.mk (fun e=> ?_) (fun e=> ?_)⟩
  ·have e:rE i.l j≠-1:=by simpa using e
   obtain⟨k,hk⟩:∃k,i.l[j]? =some k:=by
    cases hk:i.l[j]? with
    |none=>rw[rE,hk]at e;exact absurd rfl e
    |some k=>exact⟨k,rfl⟩
   have hjl:=(ySg.1 hk).1
   obtain⟨hkl,hnx⟩:=nx j k hk
   have en:rE i.l j=k:=by rw[rE,hk]
   obtain⟨s,hs⟩:=z6 (l:=i.a.slots) (i:=k) hkl
   rw[en,ySt]
   refine⟨⟨by omega,by omega⟩,s.n,s.id,s.qty,s.top,elA hs (by simp[zQ]) rfl,?_,⟨by omega,by omega⟩,s.back,elA hs (by simp[zQ]) rfl,j+1,by rw[hnx,zI hs],?_,hjl,by dsimp only;omega,by(repeat'(first|exact trivial|exact rfl|apply And.intro))⟩
   ·simp only[Arena.ents,ySh,yTe];omega
   ·rw[yUf,hk]
    simp only[Arena.ents,Option.toList,ySr,ySn,yWe,xQ hs]
    rfl
  ·have e:rE i.l j= -1:=by simpa using e
   have hj':i.l.length≤j:=by
    apply Classical.byContradiction
    intro hn
    obtain⟨k,hk⟩:=z6 (l:=i.l) (i:=j) (by omega)
    rw[rE,hk]at e
    simp only at e;omega
   rw[ySz hj']
   (repeat'(first|exact rfl|exact trivial|assumption|apply And.intro|refine fun(_:Unit) (_:True)=>?_|refine Exists.intro () ?_|omega|(dsimp only;omega)))
 ·rw[out (by omega)];(repeat'(first|exact rfl|exact trivial|assumption|apply And.intro|refine fun(_:Unit) (_:True)=>?_|refine Exists.intro () ?_|omega|(dsimp only;omega)))
theorem yAr:alistC.ok Tryz.prog 140:=okw mixed gok0 1 (fun _=>[]) (fun i=>yJn i) [0] Tryz.func140 yKx
theorem z0p {α:Type} {l:List α} {i k:Nat} {x y:α} (h:i≠k) (hk:l[k]? =some x):(l.set i y)[k]? =some x:=by
 rw[List.getElem?_set_ne h];exact hk
theorem yKn (i:TkI) (h:atakeC.cnd i):yCt i:=by
 obtain⟨hl,hok⟩:i.a.okAt:=h
 unfold yCt nS l7 zAq pM fX wD lN jP xA zAp pS l5 dI
 simp only[ySh]
 have no (e:i.a.usedAt i.n=false):i.a.takeF i.n i.qty=(i.a,26):=by rw[Arena.takeF,ySf e]
 refine zK (fun c=> ?_) (fun c=>zK (fun d=> ?_) (fun d=> ?_))
 ·rw[no (zHy (.inl c))];(repeat'(first|exact rfl|exact trivial|assumption|apply And.intro|refine fun(_:Unit) (_:True)=>?_|refine Exists.intro () ?_|omega|(dsimp only;omega)))
 ·rw[no (zHy (.inr (by omega)))];(repeat'(first|exact rfl|exact trivial|assumption|apply And.intro|refine fun(_:Unit) (_:True)=>?_|refine Exists.intro () ?_|omega|(dsimp only;omega)))
 obtain⟨k,hk⟩:∃k,k=i.n.toNat:=⟨_,rfl⟩
 rw[← hk]
 obtain⟨s,hs⟩:=z6 (l:=i.a.slots) (i:=k) (by omega)
 have hs':i.a.slots[i.n.toNat]? =some s:=by rw[← hk];exact hs
 have eu:=z2g (a:=i.a) (n:=i.n) (by omega) hs'
 refine⟨⟨by omega,by omega⟩,s.used,elA hs (by simp[zQ]) rfl,Cv.cnd.mk (fun u=> ?_) (fun u=> ?_)⟩
 ·rw[no (by rw[eu];simpa using u)];(repeat'(first|exact rfl|exact trivial|assumption|apply And.intro|refine fun(_:Unit) (_:True)=>?_|refine Exists.intro () ?_|omega|(dsimp only;omega)))
 have u:s.used=true:=by simpa using u
 have e:¬i.a.usedAt i.n=false:=by rw[eu,u];decide
 obtain⟨⟨q0,q1⟩,sq,sa,sb⟩:=hok k s hs u
 have esl:i.a.slotAt i.n.toNat=s:=xQ hs'
 have bad (hq:i.qty<1∨s.qty<i.qty):i.a.takeF i.n i.qty=(i.a,24):=by rw[Arena.takeF,ySe e,esl,ySf hq]
 refine⟨⟨by omega,by omega⟩,zK (fun c1=>by rw[bad (.inl c1)];(repeat'(first|exact rfl|exact trivial|assumption|apply And.intro|refine fun(_:Unit) (_:True)=>?_|refine Exists.intro () ?_|omega|(dsimp only;omega)))) (fun c1=>⟨s.qty,elA hs (by simp[zQ]) rfl,zK (fun c2=>by rw[bad (.inr (by omega))];(repeat'(first|exact rfl|exact trivial|assumption|apply And.intro|refine fun(_:Unit) (_:True)=>?_|refine Exists.intro () ?_|omega|(dsimp only;omega)))) (fun c2=>⟨s.qty,elA hs (by simp[zQ]) rfl,by omega,?_⟩)⟩)⟩
 obtain⟨q,hq⟩:=z6 (l:=i.a.queues) (i:=s.queue.toNat) (by omega)
 have hs1:(i.a.slots.set k {s with qty:=s.qty-i.qty})[k]? =some {s with qty:=s.qty-i.qty}:=uB hs
 have hq1:(i.a.queues.set s.queue.toNat {q with total:=IntKind.i64.wrap (q.total-i.qty)})[s.queue.toNat]? =some {q with total:=IntKind.i64.wrap (q.total-i.qty)}:=uB hq
 have hle:i.a.less i.n.toNat i.qty=⟨i.a.slots.set k {s with qty:=s.qty-i.qty},i.a.queues.set s.queue.toNat {q with total:=IntKind.i64.wrap (q.total-i.qty)},i.a.free⟩:=by
  rw[Arena.less,esl,dO hs',dO hq,hk]
 have hL:(i.a.slots.set k {s with qty:=s.qty-i.qty}).length=i.a.slots.length:=yTa
 have hQ:(i.a.queues.set s.queue.toNat {q with total:=IntKind.i64.wrap (q.total-i.qty)}).length=i.a.queues.length:=yTa
 have tk:i.a.takeF i.n i.qty=if s.qty=i.qty then((i.a.less i.n.toNat i.qty).dropF i.n.toNat,0)else(i.a.less i.n.toNat i.qty,0):=by rw[Arena.takeF,ySe e,esl,ySe (by omega)]
 rw[hle,← hk]at tk
 rw[w64 (x:=s.qty-i.qty) (by omega),yI hs (y:={s with qty:=s.qty-i.qty}) rfl]
 refine⟨s.queue,elA hs1 (by simp[zQ]) rfl,⟨q0,q1⟩,q.total,elA hq (by simp[zN]) rfl,⟨q0,q1⟩,by omega,s.qty-i.qty,elA hs1 (by simp[zQ]) rfl,?_⟩
 rw[yI hq (y:={q with total:=IntKind.i64.wrap (q.total-i.qty)}) rfl]
 simp only[ySh]
 generalize hL1:i.a.slots.set k {s with qty:=s.qty-i.qty}=L1 at*
 generalize hQ1:i.a.queues.set s.queue.toNat {q with total:=IntKind.i64.wrap (q.total-i.qty)}=Q1 at*
 refine Cv.cnd.mk (fun z=> ?_) (fun z=> ?_)
 ·have z:s.qty=i.qty:=by have:s.qty-i.qty=0:=by simpa using z
                         omega
  rw[ySf z]at tk
  have esl1:(⟨L1,Q1,i.a.free⟩:Arena).slotAt k={s with qty:=s.qty-i.qty}:=xQ hs1
  have eq1:Q1.getD s.queue.toNat b9={q with total:=IntKind.i64.wrap (q.total-i.qty)}:=zI hq1
  rw[Arena.dropF,esl1]at tk
  dsimp only at tk
  rw[eq1]at tk
  dsimp only at tk
  rw[tk]
  refine⟨s.queue,elA hs1 (by simp[zQ]) rfl,⟨q0,by omega⟩,s.ahead,elA hs1 (by simp[zQ]) rfl,Cv.cnd.mk (fun ea=> ?_) (fun ea=> ?_)⟩
  ·have ea:s.ahead= -1:=by simpa using ea
   refine⟨s.back,elA hs1 (by simp[zQ]) rfl,by omega,s.back,elA hs1 (by simp[zQ]) rfl,?_⟩
   rw[yI hq1 (y:=⟨s.back,q.last,IntKind.i64.wrap (q.total-i.qty),q.count⟩) rfl]
   have hq2:(Q1.set s.queue.toNat ⟨s.back,q.last,IntKind.i64.wrap (q.total-i.qty),q.count⟩)[s.queue.toNat]? =some ⟨s.back,q.last,IntKind.i64.wrap (q.total-i.qty),q.count⟩:=uB hq1
   simp only[ySh,yTa]
   refine Cv.cnd.mk (fun eb=> ?_) (fun eb=> ?_)
   ·have eb:s.back= -1:=by simpa using eb
    refine⟨s.ahead,elA hs1 (by simp[zQ]) rfl,by omega,q.count,?_,?_⟩
    ·rw[yI hq2 (y:=⟨s.back,s.ahead,IntKind.i64.wrap (q.total-i.qty),q.count⟩) rfl]
     exact elA (uB hq2) (by simp[zN]) rfl
    rw[yI hq2 (y:=⟨s.back,s.ahead,IntKind.i64.wrap (q.total-i.qty),q.count⟩) rfl,yI (uB hq2) (y:=⟨s.back,s.ahead,IntKind.i64.wrap (q.total-i.qty),IntKind.i64.wrap (q.count-1)⟩) rfl,yI hs1 (y:=slot0) rfl]
    simp only[ySh,yTa,yWp,ySf ea,ySf eb]
    refine⟨by omega,by omega,(),by(first|exact rfl|exact trivial),by(first|exact rfl|exact trivial),by(first|exact rfl|exact trivial),by(first|exact rfl|exact trivial),trivial⟩
   ·have eb:s.back≠-1:=by simpa using eb
    obtain⟨b0,b1,b2⟩:0≤s.back∧s.back<i.a.slots.length∧s.back≠k:=by omega
    obtain⟨x,hx⟩:=z6 (l:=L1) (i:=s.back.toNat) (by omega)
    refine⟨s.back,elA hs1 (by simp[zQ]) rfl,s.ahead,elA hs1 (by simp[zQ]) rfl,⟨b0,by omega⟩,by omega,q.count,elA hq2 (by simp[zN]) rfl,?_⟩
    rw[yI hx (y:={x with ahead:=s.ahead}) rfl,yI hq2 (y:=⟨s.back,q.last,IntKind.i64.wrap (q.total-i.qty),IntKind.i64.wrap (q.count-1)⟩) rfl,yI (z0p (by omega) hs1) (y:=slot0) rfl]
    simp only[ySh,yTa,yWp,ySf ea,ySe eb,dO hx]
    refine⟨by omega,by omega,(),by(first|exact rfl|exact trivial),by(first|exact rfl|exact trivial),by(first|exact rfl|exact trivial),by(first|exact rfl|exact trivial),trivial⟩
  ·have ea:s.ahead≠-1:=by simpa using ea
   obtain⟨a0,a1,a2⟩:0≤s.ahead∧s.ahead<i.a.slots.length∧s.ahead≠k:=by omega
   obtain⟨x,hx⟩:=z6 (l:=L1) (i:=s.ahead.toNat) (by omega)
   have hs2:(L1.set s.ahead.toNat {x with back:=s.back})[k]? =some {s with qty:=s.qty-i.qty}:=z0p (by omega) hs1
   refine⟨s.ahead,elA hs1 (by simp[zQ]) rfl,s.back,elA hs1 (by simp[zQ]) rfl,⟨a0,by omega⟩,by omega,s.back,?_,?_⟩
   ·rw[yI hx (y:={x with back:=s.back}) rfl]
    exact elA hs2 (by simp[zQ]) rfl
   rw[yI hx (y:={x with back:=s.back}) rfl]
   simp only[ySh,yTa]
   refine Cv.cnd.mk (fun eb=> ?_) (fun eb=> ?_)
   ·have eb:s.back= -1:=by simpa using eb
    refine⟨s.ahead,elA hs2 (by simp[zQ]) rfl,by omega,q.count,?_,?_⟩
    ·rw[yI hq1 (y:=⟨q.first,s.ahead,IntKind.i64.wrap (q.total-i.qty),q.count⟩) rfl]
     exact elA (uB hq1) (by simp[zN]) rfl
    rw[yI hq1 (y:=⟨q.first,s.ahead,IntKind.i64.wrap (q.total-i.qty),q.count⟩) rfl,yI (uB hq1) (y:=⟨q.first,s.ahead,IntKind.i64.wrap (q.total-i.qty),IntKind.i64.wrap (q.count-1)⟩) rfl,yI hs2 (y:=slot0) rfl]
    simp only[ySh,yTa,yWp,ySe ea,ySf eb,dO hx]
    refine⟨by omega,by omega,(),by(first|exact rfl|exact trivial),by(first|exact rfl|exact trivial),by(first|exact rfl|exact trivial),by(first|exact rfl|exact trivial),trivial⟩
   ·have eb:s.back≠-1:=by simpa using eb
    obtain⟨b0,b1,b2⟩:0≤s.back∧s.back<i.a.slots.length∧s.back≠k:=by omega
    obtain⟨y,hy⟩:=z6 (l:=L1.set s.ahead.toNat {x with back:=s.back}) (i:=s.back.toNat) (by rw[yTa];omega)
    refine⟨s.back,elA hs2 (by simp[zQ]) rfl,s.ahead,elA hs2 (by simp[zQ]) rfl,⟨b0,by omega⟩,by omega,q.count,elA hq1 (by simp[zN]) rfl,?_⟩
    rw[yI hy (y:={y with ahead:=s.ahead}) rfl,yI hq1 (y:=⟨q.first,q.last,IntKind.i64.wrap (q.total-i.qty),IntKind.i64.wrap (q.count-1)⟩) rfl,yI (z0p (by omega) hs2) (y:=slot0) rfl]
    simp only[ySh,yTa,yWp,ySe ea,ySe eb,dO hx,dO hy]
    refine⟨by omega,by omega,(),by(first|exact rfl|exact trivial),by(first|exact rfl|exact trivial),by(first|exact rfl|exact trivial),by(first|exact rfl|exact trivial),trivial⟩
 ·have z:¬s.qty=i.qty:=by have:¬s.qty-i.qty=0:=by simpa using z
                          omega
  rw[ySe z]at tk
  rw[tk]
  exact⟨(),rfl,rfl,rfl,rfl,trivial⟩
theorem z9w:atakeC.ok Tryz.prog 120:=okw mixed gok0 1 (fun _=>[]) (fun _=>[]) [0] Tryz.func120 yKn
open Go Cv Go.Proofs
structure PlI where
 l:List Int
 least:Int
 q:Int
def zYy (l:List Int) (least q:Int):List Int:=l.map fun k=>if least≤k*q / l.sum then k*q / l.sum else 0
def j5:List (Int×Int)→Int→List Int
 |[],_=>[]
 |(n,x)::r,q=>(x+min (n-x) q)::j5 r (q-min (n-x) q)
def PlI.p0 (i:PlI):List Int:=zYy i.l i.least i.q
def PlI.p1 (i:PlI):List Int:=j5 (i.l.zip i.p0) (i.q-i.p0.sum)
def kY (i:PlI):List Int:=if yT i.l i.q=true∧1≤i.least then i.p1 else[]
def plainC:Con:=con1 PlI (fun i=>[iV i.l,zA i.least,zA i.q]) (fun _=>[]) (fun i=>i.l.length≤1000000∧yY i.q∧yY i.least) (fun _=> .own 0) (fun i=>[.own 2 1 (iE (kY i))])
def yNo (i:PlI):List SAnn:=[
 {ι:=Nat,slots:=fun j=>[(9,.own 0),(36,zA j)],rows:=fun j=>[.own 2 1 (iE (i.p0.take j++List.replicate (i.l.length-j) 0))]},
 {ι:=Nat,slots:=fun j=>[(2,zA (i.q-(i.p0.take j).sum)),(58,zA j)],rows:=fun _=>[]},
 {ι:=Nat,slots:=fun j=>[(9,.own 0),(2,zA (i.q-i.p0.sum+(i.p0.take j).sum-(i.p1.take j).sum)),(68,zA j)],rows:=fun j=>[.own 2 1 (iE (i.p1.take j++i.p0.drop j))]}]
open Go Cv Go.Proofs
def dL (a:Nat) (b:PlI):=(iE (List.take a b.p1++List.drop a b.p0))
def nR (a:Nat) (b:PlI):Prop:=0≤(↑a:Int)∧(↑a:Int)<(↑(dL a b).length:Int)
def gH (a:Nat) (b:PlI):=(List.take a b.p0++List.replicate (b.l.length-a) 0)
def h9 (a:Nat) (b:PlI):=(iE (gH a b))
def bT (a:Nat) (b:PlI):=(↑(h9 a b).length:Int)
def z7a (i:PlI):Prop:=
 ∃(a:LqI),iE a.l=iE i.l∧a.q=i.q∧(jW a)∧∀(b:Unit),True→cnd (!yT a.l a.q) (∃(c:Unit),iE (kY i)=[]∧True) (cnd (decide (i.least<1)) (∃(c:Unit),iE (kY i)=[]∧True) (∃(c:List Int),iE c=iE i.l∧(c.length≤1000∧∀(d:Int),d∈c→0≤d∧d≤1000000)∧∀(d:Unit),True→(0≤(↑(iE i.l).length:Int)∧(↑(iE i.l).length:Int)≤(↑(iE i.l).length:Int)∧(↑(iE i.l).length:Int)≤9223372036854775807∧(↑(8:Nat):Int)*(↑(iE i.l).length:Int)≤2 ^ (48:Nat))∧∃(e:Nat),(↑e:Int)=0∧iE (gH e i)=List.replicate (↑(iE i.l).length:Int).toNat [dI 0]∧∃(f:Nat→Prop),∃(g:Nat→Nat),f e∧∀(h:Nat),f h→cnd (decide ((↑h:Int)<(↑(iE i.l).length:Int))) ((0≤(↑h:Int)∧(↑h:Int)<(↑(iE i.l).length:Int))∧∃(j:Int),zF (iE i.l) (↑h:Int).toNat 0 1=some [dI j]∧∃(k:ShI),k.a=j∧k.b=i.q∧k.c=c.sum∧(0≤k.a∧k.a≤(2000000000:Int)∧(0:Int)≤k.b∧k.b≤(2000000000:Int)∧(1:Int)≤k.c∧k.c≤2000000000)∧∀(l:Unit),True→cnd (decide (k.a*k.b / k.c≥i.least)) ((0≤(↑h:Int)∧(↑h:Int)<(bT h i))∧(↑h:Int).toNat<(h9 h i).length∧∃(m:Nat),(↑m:Int)=IntKind.i64.wrap ((↑h:Int)+1)∧iE (gH m i)=z9 (h9 h i) (↑h:Int).toNat 0 [dI (k.a*k.b / k.c)]∧f m∧g m<g h∧True) (∃(m:Nat),(↑m:Int)=IntKind.i64.wrap ((↑h:Int)+1)∧iE (gH m i)=iE (gH h i)∧f m∧g m<g h∧True)) (∃(j:Nat),i.q-(List.take j i.p0).sum=i.q∧(↑j:Int)=0∧∃(k:Nat→Prop),∃(l:Nat→Nat),k j∧∀(m:Nat),k m→cnd (decide ((↑m:Int)<(bT h i))) ((0≤(↑m:Int)∧(↑m:Int)<(bT h i))∧∃(n:Int),zF (h9 h i) (↑m:Int).toNat 0 1=some [dI n]∧∃(p:Nat),i.q-(List.take p i.p0).sum=IntKind.i64.wrap (i.q-(List.take m i.p0).sum-n)∧(↑p:Int)=IntKind.i64.wrap ((↑m:Int)+1)∧k p∧l p<l m∧AObj.own 2 1 (h9 h i)=AObj.own 2 1 (h9 h i)) (∃(n:Nat),i.q-i.p0.sum+(List.take n i.p0).sum-(List.take n i.p1).sum=i.q-(List.take m i.p0).sum∧(↑n:Int)=0∧iE (List.take n i.p1++List.drop n i.p0)=iE (gH h i)∧∃(p:Nat→Prop),∃(q:Nat→Nat),p n∧∀(r:Nat),p r→cnd (decide ((↑r:Int)<(bT h i))) ((0≤(↑r:Int)∧(↑r:Int)<(↑(iE i.l).length:Int))∧∃(s:Int),zF (iE i.l) (↑r:Int).toNat 0 1=some [dI s]∧(nR r i)∧∃(t:Int),zF (dL r i) (↑r:Int).toNat 0 1=some [dI t]∧(nR r i)∧∃(u:Int),zF (dL r i) (↑r:Int).toNat 0 1=some [dI u]∧(nR r i)∧(↑r:Int).toNat<(dL r i).length∧∃(v:Nat),i.q-i.p0.sum+(List.take v i.p0).sum-(List.take v i.p1).sum=IntKind.i64.wrap (i.q-i.p0.sum+(List.take r i.p0).sum-(List.take r i.p1).sum-min (IntKind.i64.wrap (s-t)) (i.q-i.p0.sum+(List.take r i.p0).sum-(List.take r i.p1).sum))∧(↑v:Int)=IntKind.i64.wrap ((↑r:Int)+1)∧iE (List.take v i.p1++List.drop v i.p0)=z9 (dL r i) (↑r:Int).toNat 0 [dI (IntKind.i64.wrap (u+min (IntKind.i64.wrap (s-t)) (i.q-i.p0.sum+(List.take r i.p0).sum-(List.take r i.p1).sum)))]∧p v∧q v<q r∧True) (∃(s:Unit),iE (kY i)=iE (List.take r i.p1++List.drop r i.p0)∧True)))))
open Go Cv Go.Proofs
theorem lJ:∀(z:List (Int×Int)) (q:Int),(j5 z q).length=z.length
 |[],_=>rfl
 |(n,x)::z,q=>by rw[j5,ySx,ySx,lJ z]
theorem zLe:∀(z:List (Int×Int)) (q:Int) (j:Nat) (n x:Int),z[j]? =some (n,x)→(j5 z q)[j]? =some (x+min (n-x) (q+((z.map (·.2)).take j).sum-((j5 z q).take j).sum))
 |[],_,_,_,_,h=>by simp at h
 |(m,y)::z,q,0,n,x,h=>by simp at h;obtain⟨rfl,rfl⟩:=h;simp[j5]
 |(m,y)::z,q,j+1,n,x,h=>by
  rw[yTx]at h
  rw[j5,yTx,zLe z _ j n x h,yTw,yTc,ySn,yTw,yTc]
  congr 3;dsimp only;omega
theorem zGz:∀(z:List (Int×Int)) (q:Int) (j:Nat),0≤q→(∀y∈z,y.2≤y.1)→0≤q+((z.map (·.2)).take j).sum-((j5 z q).take j).sum∧q+((z.map (·.2)).take j).sum-((j5 z q).take j).sum≤q
 |[],q,j,h,_=>by simp[j5,h]
 |(m,y)::z,q,0,h,_=>by simp[h]
 |(m,y)::z,q,j+1,h,hb=>by
  have hm:=hb (m,y) ySk
  have:=zGz z (q-min (m-y) q) j (by dsimp only at hm;omega) (fun x hx=>hb x (ySl _ hx))
  rw[j5,yTw,yTc,ySn,yTw,yTc]
  dsimp only at hm ⊢
  omega
theorem yBp {k q S:Int} (hk:0≤k) (hq:0≤q) (hS:1≤S) (hqS:q≤S):0≤k*q / S∧k*q / S≤k:=by
 refine⟨Int.ediv_nonneg (yYm hk hq) (by omega),?_⟩
 have:k*q≤k*S:=yXk hqS hk
 exact Int.ediv_le_of_le_mul (by omega) this
theorem zOq {q S least:Int} (hq:0≤q) (hS:1≤S):∀(l:List Int),(∀x∈l,0≤x)→S*(l.map fun k=>if least≤k*q / S then k*q / S else 0).sum≤q*l.sum
 |[],_=>by simp
 |k::l,h=>by
  have ih:=zOq (least:=least) hq hS l (fun x hx=>h x (ySl _ hx))
  have hk:=h k ySk
  rw[ySn,yTc,yTc,Int.mul_add,Int.mul_add]
  have h1:S*(k*q / S)≤k*q:=by
   have:=Int.mul_ediv_add_emod (k*q) S
   have:=yYi (k*q) (show S≠0 by omega)
   omega
  have h2:0≤k*q:=yYm hk hq
  have h3:S*(if least≤k*q / S then k*q / S else 0)≤q*k:=by
   rw[Int.mul_comm q k]
   split
   ·exact h1
   ·simpa using h2
  omega
theorem yBv {i:PlI} {j:Nat} {n:Int} (h:i.l[j]? =some n):i.p0[j]? =some (if i.least≤n*i.q / i.l.sum then n*i.q / i.l.sum else 0):=by
 rw[PlI.p0,zYy,yTy,h];rfl
theorem zZc (i:PlI):i.p0.length=i.l.length:=by simp[PlI.p0,zYy]
theorem z3c {l:List Int} {j m:Nat} {n:Int} (hl:l.length=m) (h:l[j]? =some n):(l.take j++List.replicate (m-j) 0).set j n=l.take (j+1)++List.replicate (m-(j+1)) 0:=by
 have hj:=(ySg.1 h).1
 rw[List.set_append_right _ _ (by rw[yTe];omega),yTe,show j-min j l.length=0 by omega,show m-j=(m-(j+1))+1 by omega,yWm,yWu,yUf,h]
 simp
theorem z9r {l:List Int} {j m:Nat} (hl:l.length=m) (hj:j<m):(l.take j++List.replicate (m-j) 0)[j]? =some 0:=by
 rw[yUl (by rw[yTe];omega),yTe,show j-min j l.length=0 by omega,show m-j=(m-(j+1))+1 by omega,yWm];rfl
theorem yBn {α:Type} {l:List α} {j:Nat} {x:α} (h:l[j]? =some x):l.set j x=l:=by
 obtain⟨h1,h2⟩:=ySg.1 h
 rw[← h2];exact List.set_getElem_self h1
theorem yNa {a b:List Int} {j:Nat} {x:Int} (ha:a.length=b.length) (h:b[j]? =some x):(a.take j++b.drop j)[j]? =some x:=by
 have hj:=(ySg.1 h).1
 rw[yUl (by rw[yTe];omega),yTe,show j-min j a.length=0 by omega,yVg]
 exact h
theorem yGg {a b:List Int} {j:Nat} {y:Int} (ha:a.length=b.length) (h:a[j]? =some y):(a.take j++b.drop j).set j y=a.take (j+1)++b.drop (j+1):=by
 have hj:=(ySg.1 h).1
 rw[List.set_append_right _ _ (by rw[yTe];omega),yTe,show j-min j a.length=0 by omega,yUy (by omega),yWu,yUf,h]
 simp
theorem zTa {l:List Int} {j:Nat} {x y:Int} (h:l[j]? =some x):z9 (iE l) j 0 [D.v (.int .i64 y)]=iE (l.set j y):=yI (f:=fun n:Int=>[D.v (.int .i64 n)]) h rfl
theorem zDc {i:PlI} (h:yT i.l i.q=true) (hne:0<i.l.length):1≤i.l.sum∧i.l.sum≤250000000∧(∀(j:Nat) (n x:Int),i.l[j]? =some n→i.p0[j]? =some x→0≤x∧x≤n)∧i.p0.sum≤i.q:=by
 obtain⟨h1,h2,h3,h4⟩:=k6 h
 have hb:=jH (l:=i.l) (fun x hx=>by have:=h3 x hx;omega) i.l.length
 rw[yWt]at hb
 have hS:1≤i.l.sum:=by
  obtain⟨x,hx⟩:=z6 (l:=i.l) (i:=0) hne
  have:=h3 x (ySo hx)
  cases hl:i.l with
  |nil=>rw[hl]at hne;exact absurd hne (Nat.lt_irrefl 0)
  |cons a r=>
   rw[hl]at hx;simp at hx;subst hx
   have hr:=jH (l:=r) (fun y hy=>by have:=h3 y (by rw[hl];exact ySl _ hy);omega) r.length
   rw[yWt]at hr
   rw[yTc];omega
 refine⟨hS,by omega,fun j n x hn hx=> ?_,?_⟩
 ·have hn1:=h3 n (ySo hn)
  have:=yBp (k:=n) (by omega) h2 hS h4
  rw[yBv hn]at hx
  cases hx
  split<;>omega
 ·have:=zOq (least:=i.least) h2 hS i.l (fun x hx=>by have:=h3 x hx;omega)
  have e:i.l.sum*i.p0.sum≤i.l.sum*i.q:=by rw[Int.mul_comm i.l.sum i.q];exact this
  exact Int.le_of_mul_le_mul_left e (by omega)
theorem yJq (i:PlI) (h:plainC.cnd i):z7a i:=by
 obtain⟨hl,hq,hle⟩:i.l.length≤1000000∧yY i.q∧yY i.least:=h
 unfold z7a bT h9 gH nR dL jW dI
 refine⟨⟨i.l,i.q⟩,rfl,rfl,⟨hl,hq⟩,fun _ _=>Cv.cnd.mk (fun c=> ?_) (fun c=>zK (fun d=> ?_) (fun d=> ?_))⟩
 ·have c:yT i.l i.q=false:=by simpa using c
  refine⟨(),?_,trivial⟩
  rw[kY,ySe (by rw[c];simp)];rfl
 ·refine⟨(),?_,trivial⟩
  rw[kY,ySe (by omega)];rfl
 have c:yT i.l i.q=true:=by simpa using c
 have eS:kY i=i.p1:=by rw[kY,ySf ⟨c,by omega⟩]
 obtain⟨h1,h2,h3,h4⟩:=k6 c
 have hq2:=zHq c
 have hp0:=zZc i
 have hzl:(i.l.zip i.p0).length=i.l.length:=by rw[List.length_zip,hp0];simp
 have hp1:i.p1.length=i.l.length:=by rw[PlI.p1,lJ,hzl]
 have hz2:(i.l.zip i.p0).map (·.2)=i.p0:=by rw[List.map_snd_zip];omega
 have h64:i.l.length≤250:=h1
 have hrl:∀j,j≤i.l.length→(List.take j i.p0++List.replicate (i.l.length-j) 0).length=i.l.length:=by
  intro j hj;rw[ySm,yTe,yUn];omega
 simp only[yW]
 refine⟨i.l,rfl,⟨by omega,fun x hx=>by have:=h3 x hx;omega⟩,fun _ _=>⟨⟨by omega,by omega,by omega,by omega⟩,0,by(first|exact rfl|exact trivial),?_,fun j=>j≤i.l.length,fun j=>i.l.length-j,yUq _,fun j hj=>zK (fun e=> ?_) (fun e=> ?_)⟩⟩
 ·simp[iE]
 ·have hj':j<i.l.length:=by omega
  obtain⟨n,hn⟩:=z6 (l:=i.l) (i:=j) hj'
  have bn:=h3 n (ySo hn)
  obtain⟨f1,f2,f3,f4⟩:=zDc c (by omega)
  have g:=yBv hn
  refine⟨⟨by omega,by omega⟩,n,elI hn,⟨n,i.q,i.l.sum⟩,rfl,rfl,rfl,⟨by dsimp only;omega,by dsimp only;omega,by dsimp only;omega,by dsimp only;omega,by dsimp only;omega,by dsimp only;omega⟩,fun _ _=>zK (fun a=> ?_) (fun a=> ?_)⟩
  ·have a:n*i.q / i.l.sum≥i.least:=a
   rw[ySf (by omega)]at g
   refine⟨⟨by omega,by rw[hrl j (by omega)];omega⟩,by rw[hrl j (by omega)];omega,j+1,wjn (by omega),?_,hj',by dsimp only;omega,trivial⟩
   rw[ySt,zTa (z9r hp0 hj'),z3c hp0 g]
  ·have a:¬n*i.q / i.l.sum≥i.least:=a
   rw[ySe (by omega)]at g
   refine⟨j+1,wjn (by omega),?_,hj',by dsimp only;omega,trivial⟩
   rw[← z3c hp0 g,yBn (z9r hp0 hj')]
 have hje:j=i.l.length:=by omega
 subst hje
 have eP:List.take i.l.length i.p0++List.replicate (i.l.length-i.l.length) 0=i.p0:=by rw[ySz (by omega)];simp
 rw[eP,hp0]
 have px:∀(k:Nat) (n x:Int),i.l[k]? =some n→i.p0[k]? =some x→0≤x∧x≤n:=fun k n x hn hx=>(zDc c (by have:=(ySg.1 hn).1;omega)).2.2.1 k n x hn hx
 have pb:∀x∈i.p0,0≤x∧x≤1000000:=by
  intro x hx
  obtain⟨k,hk⟩:=yUi.1 hx
  obtain⟨n,hn⟩:=z6 (l:=i.l) (i:=k) (by have:=(ySg.1 hk).1;omega)
  have:=px k n x hn hk
  have:=h3 n (ySo hn)
  omega
 have pq:i.p0.sum≤i.q:=by
  by_cases hz:0<i.l.length
  ·exact(zDc c hz).2.2.2
  ·have:i.p0=[]:=yTn (by omega)
   rw[this];simpa using h2
 refine⟨0,by simp,by(first|exact rfl|exact trivial),fun k=>k≤i.l.length,fun k=>i.l.length-k,yUq _,fun k hk=>zK (fun e=> ?_) (fun e=> ?_)⟩
 ·have hk':k<i.l.length:=by omega
  obtain⟨x,hx⟩:=z6 (l:=i.p0) (i:=k) (by omega)
  have bx:=pb x (ySo hx)
  have bs:=jH pb k
  refine⟨⟨by omega,by omega⟩,x,elI hx,k+1,?_,wjn (by omega),hk',by dsimp only;omega,by(repeat'(first|exact trivial|exact rfl|apply And.intro))⟩
  rw[jN hx,w64 (by omega)];omega
 have hke:k=i.l.length:=by omega
 subst hke
 rw[ySz (l:=i.p0) (by omega)]
 refine⟨0,by simp,by(first|exact rfl|exact trivial),by simp,fun j=>j≤i.l.length,fun j=>i.l.length-j,yUq _,fun j hj=>zK (fun e=> ?_) (fun e=> ?_)⟩
 ·have hj':j<i.l.length:=by omega
  obtain⟨n,hn⟩:=z6 (l:=i.l) (i:=j) hj'
  obtain⟨x,hx⟩:=z6 (l:=i.p0) (i:=j) (by omega)
  have bn:=h3 n (ySo hn)
  have bx:=px j n x hn hx
  have hz:(i.l.zip i.p0)[j]? =some (n,x):=by rw[yXb];exact⟨hn,hx⟩
  have g:=zLe (i.l.zip i.p0) (i.q-i.p0.sum) j n x hz
  have r:=zGz (i.l.zip i.p0) (i.q-i.p0.sum) j (by omega) (fun y hy=>by
   obtain⟨k,hk⟩:=yUi.1 hy
   rw[yXb]at hk
   exact(px k y.1 y.2 hk.1 hk.2).2)
  rw[hz2]at g r
  have b0:=jH pb i.p0.length
  rw[yWt]at b0
  have hml:(List.take j i.p1++List.drop j i.p0).length=i.l.length:=by rw[ySm,yTe,yTk];omega
  have hma:=yNa (a:=i.p1) (b:=i.p0) (by omega) hx
  change i.p1[j]? =_ at g
  change 0≤_-(List.take j i.p1).sum∧_-(List.take j i.p1).sum≤_ at r
  change i.p1[j]? =some (x+min (n-x) (_-(List.take j i.p1).sum))at g
  rw[hml]
  refine⟨⟨by omega,by omega⟩,n,elI hn,⟨by omega,by omega⟩,x,elI hma,⟨by omega,by omega⟩,x,elI hma,⟨by omega,by omega⟩,by omega,?_⟩
  rw[w64 (x:=n-x) (by omega),w64 (x:=x+min (n-x) (i.q-i.p0.sum+(List.take j i.p0).sum-(List.take j i.p1).sum)) (by omega)]
  refine⟨j+1,?_,wjn (by omega),?_,hj',by dsimp only;omega,trivial⟩
  ·rw[jN hx,jN g,w64 (by omega)];omega
  ·rw[ySt,zTa hma,yGg (by omega) g]
 ·have hje:j=i.l.length:=by omega
  subst hje
  refine⟨(),?_,trivial⟩
  rw[eS,ySz (by omega),yVp (by omega),yTg]
theorem z9j:plainC.ok Tryz.prog 149:=okw mixed (gokc zCs (gokc yEx (gokc zPt gok0))) 0 (fun _=>[]) (fun i=>yNo i) [] Tryz.func149 yJq
open Go Cv Go.Proofs
structure RsI where
 l:List Int
 out:List Int
 least:Int
 q:Int
def RsI.idx (i:RsI) (k:Nat):List Nat:=(List.range k).filter fun n=>decide (i.out.getD n 0<i.l.getD n 0)
def RsI.left (i:RsI) (k:Nat):List Int:=(i.idx k).map fun n=>i.l.getD n 0-i.out.getD n 0
def RsI.pl (i:RsI):List Int:=kY ⟨i.left i.l.length,i.least,i.q⟩
def RsI.add (i:RsI) (k:Nat):List Int:=(((i.idx i.l.length).zip i.pl).take k).foldl (fun o y=>o.set y.1 (IntKind.i64.wrap (o.getD y.1 0+y.2))) i.out
def m5 (i:RsI):List Int:=i.add i.pl.length
@[reducible] def RsI.ok (i:RsI):Prop:=i.l.length≤250∧i.out.length=i.l.length∧yY i.q∧yY i.least∧∀n,0≤i.out.getD n 0∧i.out.getD n 0≤i.l.getD n 0∧i.l.getD n 0≤1000000
def restC:Con:=con1 RsI (fun i=>[iV i.l,.own 0,zA i.least,zA i.q]) (fun i=>[.own 2 1 (iE i.out)]) RsI.ok (fun _=> .own 1) (fun i=>[.gone,.own 2 1 (iE (m5 i))])
def yOb (i:RsI):List SAnn:=[
 {ι:=Nat,slots:=fun j=>[(9,.own 0),(10,.own 1),(16,zA j)],rows:=fun j=>[.own 2 1 (iE (i.left j)),.own 3 1 (iE ((i.idx j).map fun(n:Nat)=>(n:Int)))]},
 {ι:=Nat,slots:=fun k=>[(1,.own 0),(50,zA k)],rows:=fun k=>[.own 2 1 (iE (i.add k))]}]
structure zD where
 id:Int
 side:Int
 price:Int
 qty:Int
 top:Bool
 deriving DecidableEq
def wG (o:zD):List D:=[.v (.int .i64 o.id),.v (.int .i64 o.side),.v (.int .i64 o.price),.v (.int .i64 o.qty),.v (.bool o.top)]
@[reducible] def z6w (o:zD):V:= .agg [zA o.id,zA o.side,zA o.price,zA o.qty,yR o.top]
def topFC:Con:=con1 zD (fun o=>[z6w o]) (fun _=>[]) (fun _=>True) (fun o=>yR o.top) (fun _=>[])
def topI (l:List zD):Int:=zGx (l.findIdx? fun o=>o.top)
def idxOrdC:Con:=con1 (List zD) (fun l=>[roV 5 (l.map wG),.fn 130 [] []]) (fun _=>[]) (fun l=>l.length≤1000000) (fun l=>zA (topI l)) (fun _=>[])
def yHd (l:List zD):List SAnn:=[{ι:=Nat,slots:=fun j=>[(8,zA j)],rows:=fun _=>[]}]
open Go Cv Go.Proofs
def yJa (i:RsI):Prop:=
 ∃(a:Nat),(↑a:Int)=0∧iE (i.left a)=[]∧iE (List.map (fun(n:Nat) ↦ (↑n:Int)) (i.idx a))=[]∧∃(b:Nat→Prop),∃(c:Nat→Nat),b a∧∀(d:Nat),b d→cnd (decide ((↑d:Int)<(↑(iE i.l).length:Int))) ((0≤(↑d:Int)∧(↑d:Int)<(↑(iE i.l).length:Int))∧∃(e:Int),zF (iE i.l) (↑d:Int).toNat 0 1=some [dI e]∧(0≤(↑d:Int)∧(↑d:Int)<(↑(iE i.out).length:Int))∧∃(f:Int),zF (iE i.out) (↑d:Int).toNat 0 1=some [dI f]∧cnd (decide (e>f)) ((0≤(↑d:Int)∧(↑d:Int)<(↑(iE i.l).length:Int))∧∃(g:Int),zF (iE i.l) (↑d:Int).toNat 0 1=some [dI g]∧(0≤(↑d:Int)∧(↑d:Int)<(↑(iE i.out).length:Int))∧∃(h:Int),zF (iE i.out) (↑d:Int).toNat 0 1=some [dI h]∧((iE (i.left d)).length+1)*(8:Nat)≤(70368744177664:Nat)∧((iE (List.map (fun(g:Nat) ↦ (↑g:Int)) (i.idx d))).length+1)*(8:Nat)≤(70368744177664:Nat)∧∃(j:Nat),(↑j:Int)=IntKind.i64.wrap ((↑d:Int)+1)∧iE (i.left j)=iE (i.left d)++[[dI (IntKind.i64.wrap (g-h))]]∧iE (List.map (fun(g:Nat) ↦ (↑g:Int)) (i.idx j))=iE (List.map (fun(g:Nat) ↦ (↑g:Int)) (i.idx d))++[[dI (↑d:Int)]]∧b j∧c j<c d∧AObj.own 2 1 (iE i.out)=AObj.own 2 1 (iE i.out)) (∃(g:Nat),(↑g:Int)=IntKind.i64.wrap ((↑d:Int)+1)∧iE (i.left g)=iE (i.left d)∧iE (List.map (fun(e:Nat) ↦ (↑e:Int)) (i.idx g))=iE (List.map (fun(e:Nat) ↦ (↑e:Int)) (i.idx d))∧b g∧c g<c d∧AObj.own 2 1 (iE i.out)=AObj.own 2 1 (iE i.out))) (∃(e:PlI),iE e.l=iE (i.left d)∧e.least=i.least∧e.q=i.q∧(e.l.length≤1000000∧((-9223372036854775808)≤e.q∧e.q≤9223372036854775807)∧(-9223372036854775808)≤e.least∧e.least≤9223372036854775807)∧∀(f:Unit),True→∃(g:Nat),(↑g:Int)=0∧iE (i.add g)=iE i.out∧∃(h:Nat→Prop),∃(j:Nat→Nat),h g∧∀(k:Nat),h k→cnd (decide ((↑k:Int)<(↑(iE (kY e)).length:Int))) ((0≤(↑k:Int)∧(↑k:Int)<(↑(iE (kY e)).length:Int))∧∃(l:Int),zF (iE (kY e)) (↑k:Int).toNat 0 1=some [dI l]∧(0≤(↑k:Int)∧(↑k:Int)<(↑(iE (List.map (fun(l:Nat) ↦ (↑l:Int)) (i.idx d))).length:Int))∧∃(m:Int),zF (iE (List.map (fun(l:Nat) ↦ (↑l:Int)) (i.idx d))) (↑k:Int).toNat 0 1=some [dI m]∧(0≤m∧m<(↑(iE (i.add k)).length:Int))∧∃(n:Int),zF (iE (i.add k)) m.toNat 0 1=some [dI n]∧(0≤m∧m<(↑(iE (i.add k)).length:Int))∧m.toNat<(iE (i.add k)).length∧∃(p:Nat),(↑p:Int)=IntKind.i64.wrap ((↑k:Int)+1)∧iE (i.add p)=z9 (iE (i.add k)) m.toNat 0 [dI (IntKind.i64.wrap (n+l))]∧h p∧j p<j k∧AObj.own 2 1 (iE (kY e))=AObj.own 2 1 (iE (kY e))∧AObj.fro 1 (iE (i.left d))=AObj.fro 1 (iE (i.left d))∧AObj.own 3 1 (iE (List.map (fun(l:Nat) ↦ (↑l:Int)) (i.idx d)))=AObj.own 3 1 (iE (List.map (fun(l:Nat) ↦ (↑l:Int)) (i.idx d)))) (∃(l:Unit),iE (m5 i)=iE (i.add k)∧True))
def yIb (o:zD):Prop:=
 ∃(a:Unit),o.top=o.top∧True
def z1l (l:List zD):Prop:=
 ∃(a:Nat),(↑a:Int)=0∧∃(b:Nat→Prop),∃(c:Nat→Nat),b a∧∀(d:Nat),b d→cnd (decide ((↑d:Int)<(↑(List.map wG l).length:Int))) ((0≤(↑d:Int)∧(↑d:Int)<(↑(List.map wG l).length:Int))∧∃(e:Int),∃(f:Int),∃(g:Int),∃(h:Int),∃(j:Bool),zF (List.map wG l) (↑d:Int).toNat 0 5=some [dI e,dI f,dI g,dI h,D.v (.bool j)]∧∃(k:zD),k.id=e∧k.side=f∧k.price=g∧k.qty=h∧k.top=j∧True∧∀(m:Unit),True→cnd k.top (∃(n:Unit),topI l=(↑d:Int)∧True) (dY d b c)) (∃(e:Unit),topI l=(-1)∧True)
open Go Cv Go.Proofs
theorem yGl:topFC.ok Tryz.prog 130:=okw (V:=yIb) mixed gok0 0 (fun _=>[]) (fun _=>[]) [] Tryz.func130 fun(o:zD) _=>by
 unfold yIb
 exact⟨(),rfl,trivial⟩
theorem zYg (i:PlI):(kY i).length=i.l.length∨kY i=[]:=by
 rw[kY]
 split
 ·left;rw[PlI.p1,lJ,List.length_zip,zZc];simp
 ·exact .inr rfl
theorem yKt {l:List zD} {k:Nat} {o:zD} (h:l[k]? =some o):zF (l.map wG) k 0 5=some [D.v (.int .i64 o.id),.v (.int .i64 o.side),.v (.int .i64 o.price),.v (.int .i64 o.qty),.v (.bool o.top)]:=elA h (by simp[wG]) rfl
theorem yFb (l:List zD) (h:idxOrdC.cnd l):z1l l:=by
 have h:l.length≤1000000:=h
 unfold z1l dY vM dI
 simp only[ySh]
 refine⟨0,rfl,fun j=>j≤l.length∧∀k<j,∀x,l[k]? =some x→x.top=false,fun j=>l.length-j,⟨by omega,fun k hk=>by omega⟩,?_⟩
 rintro j ⟨h3,h4⟩
 refine zK (fun hj=> ?_) (fun hj=> ?_)
 ·obtain⟨s,hs⟩:=z6 (l:=l) (i:=j) (by omega)
  refine⟨⟨by omega,by omega⟩,s.id,s.side,s.price,s.qty,s.top,yKt hs,s,rfl,rfl,rfl,rfl,rfl,trivial,fun _ _=>Cv.cnd.mk (fun e=> ?_) (fun e=> ?_)⟩
  ·rw[topI,zEw hs e h4];(repeat'(first|exact rfl|exact trivial|assumption|apply And.intro|refine fun(_:Unit) (_:True)=>?_|refine Exists.intro () ?_|omega|(dsimp only;omega)))
  ·refine⟨j+1,by rw[w64 (by omega)];rfl,⟨by omega,fun k hk x hx=> ?_⟩,by(first|omega|(dsimp only;omega)),by(repeat'(first|exact trivial|exact rfl|apply And.intro))⟩
   rcases yUr k j with hk'|hk'
   ·exact h4 k hk' x hx
   ·obtain rfl:k=j:=by omega
    rw[hs]at hx;cases hx;exact e
 ·rw[topI,zEc fun k x hx=>h4 k (by have:=(ySg.1 hx).1;omega) x hx];(repeat'(first|exact rfl|exact trivial|assumption|apply And.intro|refine fun(_:Unit) (_:True)=>?_|refine Exists.intro () ?_|omega|(dsimp only;omega)))
theorem z6a:idxOrdC.ok Tryz.prog 129:=okw mixed (gokc yGl gok0) 0 (fun _=>[]) (fun l=>yHd l) [] Tryz.func129 yFb
theorem yDr (i:RsI) (j:Nat):i.idx (j+1)=i.idx j++if i.out.getD j 0<i.l.getD j 0 then[j]else[]:=by
 rw[RsI.idx,yXf,yWg]
 by_cases h:i.out.getD j 0<i.l.getD j 0
 ·rw[ySf h,yVl (by simpa using h)];rfl
 ·rw[ySe h,yVm (by simpa using h)];rfl
theorem yMa (i:RsI) {k n:Nat} (h:n∈i.idx k):n<k:=by
 have:=(yTp.1 h).1
 exact yUv.1 this
theorem z2r (i:RsI) (k:Nat):(i.idx k).length≤k:=by
 have:=yVk (fun n=>decide (i.out.getD n 0<i.l.getD n 0)) (List.range k)
 rw[List.length_range]at this
 exact this
theorem zVn:∀(z:List (Nat×Int)) (o:List Int),(z.foldl (fun o y=>o.set y.1 (IntKind.i64.wrap (o.getD y.1 0+y.2))) o).length=o.length
 |[],_=>rfl
 |y::z,o=>by rw[yWl,zVn z,yTa]
theorem yPz (i:RsI) (h:restC.cnd i):yJa i:=by
 obtain⟨hl,ho,hq,hle,hb⟩:i.ok:=h
 unfold yJa dI
 simp only[yW,ySh]
 have hil:∀j,(i.left j).length=(i.idx j).length:=fun j=>ySh _
 refine⟨0,by(first|exact rfl|exact trivial),by(first|exact rfl|exact trivial),by(first|exact rfl|exact trivial),fun j=>j≤i.l.length,fun j=>i.l.length-j,yUq _,fun j hj=>zK (fun c=> ?_) (fun c=> ?_)⟩
 ·have hj':j<i.l.length:=by omega
  obtain⟨n,hn⟩:=z6 (l:=i.l) (i:=j) hj'
  obtain⟨o,hoo⟩:=z6 (l:=i.out) (i:=j) (by omega)
  have bj:=hb j
  rw[zI hn,zI hoo]at bj
  have is:=yDr i j
  rw[zI hn,zI hoo]at is
  have il:=z2r i j
  refine⟨⟨by omega,by omega⟩,n,elI hn,⟨by omega,by omega⟩,o,elI hoo,zK (fun a=> ?_) (fun a=> ?_)⟩
  ·rw[ySf (by omega)]at is
   refine⟨⟨by omega,by omega⟩,n,elI hn,⟨by omega,by omega⟩,o,elI hoo,by rw[hil];omega,by omega,j+1,wjn (by omega),?_,?_,hj',by dsimp only;omega,by(repeat'(first|exact trivial|exact rfl|apply And.intro))⟩
   ·rw[w64 (by omega),RsI.left,is,ySr]
    simp[iE,RsI.left,hn,hoo]
   ·rw[is];simp[iE]
  ·rw[ySe (by omega),yTg]at is
   exact⟨j+1,wjn (by omega),by rw[RsI.left,is];rfl,by rw[is],hj',by dsimp only;omega,by(repeat'(first|exact trivial|exact rfl|apply And.intro))⟩
 have hje:j=i.l.length:=by omega
 subst hje
 have il:=z2r i i.l.length
 refine⟨⟨i.left i.l.length,i.least,i.q⟩,rfl,rfl,rfl,⟨by dsimp only;rw[hil];omega,hq,hle⟩,fun _ _=> ?_⟩
 have epl:kY ⟨i.left i.l.length,i.least,i.q⟩=i.pl:=rfl
 rw[epl]
 have hpl:i.pl.length≤(i.idx i.l.length).length:=by
  rcases zYg ⟨i.left i.l.length,i.least,i.q⟩with e|e
  ·rw[epl]at e;rw[e];dsimp only;rw[hil];exact yTd _
  ·rw[epl]at e;rw[e];exact yUq _
 have hal:∀k,(i.add k).length=i.out.length:=fun k=>zVn _ _
 refine⟨0,by(first|exact rfl|exact trivial),by(first|exact rfl|exact trivial),fun k=>k≤i.pl.length,fun k=>i.pl.length-k,yUq _,fun k hk=>zK (fun c=> ?_) (fun c=> ?_)⟩
 ·have hk':k<i.pl.length:=by omega
  obtain⟨x,hx⟩:=z6 (l:=i.pl) (i:=k) hk'
  obtain⟨n,hn⟩:=z6 (l:=i.idx i.l.length) (i:=k) (by omega)
  have hnl:=yMa i (ySo hn)
  obtain⟨y,hy⟩:=z6 (l:=i.add k) (i:=n) (by rw[hal];omega)
  have ea:i.add (k+1)=(i.add k).set n (IntKind.i64.wrap (y+x)):=by
   have hz:((i.idx i.l.length).zip i.pl)[k]? =some (n,x):=by rw[yXb];exact⟨hn,hx⟩
   have ey:(i.add k).getD n 0=y:=zI hy
   rw[RsI.add,yUf,hz,yYl]
   show(i.add k).set n (IntKind.i64.wrap ((i.add k).getD n 0+x))=_
   rw[ey]
  have hnm:((i.idx i.l.length).map fun(n:Nat)=>(n:Int))[k]? =some (n:Int):=by rw[yTy,hn];rfl
  rw[hal]
  refine⟨⟨by omega,by omega⟩,x,elI hx,⟨by omega,by omega⟩,n,elI hnm,⟨by omega,by omega⟩,y,elI hy,⟨by omega,by omega⟩,by omega,k+1,wjn (by omega),?_,hk',by dsimp only;omega,by(repeat'(first|exact trivial|exact rfl|apply And.intro))⟩
  rw[ea,ySt,zTa hy]
 ·have hke:k=i.pl.length:=by omega
  subst hke
  exact⟨(),rfl,trivial⟩
theorem z4e:restC.ok Tryz.prog 142:=okw mixed (gokc z9j gok0) 0 (fun _=>[]) (fun i=>yOb i) [] Tryz.func142 yPz
open Go Cv Go.Proofs
structure PsI where
 l:List Int
 top:Int
 most:Int
 least:Int
 q:Int
def PsI.first (i:PsI):Int:=min (min (i.l.getD i.top.toNat 0) i.most) i.q
def PsI.rs (i:PsI):RsI:=if 0≤i.top∧i.top<i.l.length then⟨i.l,(List.replicate i.l.length 0).set i.top.toNat i.first,i.least,i.q-i.first⟩else⟨i.l,List.replicate i.l.length 0,i.least,i.q⟩
def zCi (i:PsI):List Int:=if yT i.l i.q=true∧1≤i.least∧0≤i.most then m5 i.rs else[]
def proC:Con:=con1 PsI (fun i=>[iV i.l,zA i.top,zA i.most,zA i.least,zA i.q]) (fun _=>[]) (fun i=>i.l.length≤1000000∧yY i.q∧yY i.least∧yY i.most) (fun _=> .own 0) (fun i=>[.own 2 1 (iE (zCi i))])
structure SpI where
 l:List Int
 part:Int
 least:Int
 q:Int
def SpI.rs (i:SpI):RsI:=⟨i.l,uW i.l (i.q*i.part / 100),i.least,i.q-i.q*i.part / 100⟩
def zAu (i:SpI):List Int:=if yT i.l i.q=true∧0≤i.part∧i.part≤100∧1≤i.least then m5 i.rs else[]
def splC:Con:=con1 SpI (fun i=>[iV i.l,zA i.part,zA i.least,zA i.q]) (fun _=>[]) (fun i=>i.l.length≤1000000∧yY i.q∧yY i.least∧yY i.part) (fun _=> .own 0) (fun i=>[.own 2 1 (iE (zAu i))])
open Go Cv Go.Proofs
def zBw (a:RsI):Prop:=a.l.length≤250∧a.out.length=a.l.length∧((-9223372036854775808)≤a.q∧a.q≤9223372036854775807)∧((-9223372036854775808)≤a.least∧a.least≤9223372036854775807)∧∀(b:Nat),0≤a.out.getD b 0∧a.out.getD b 0≤a.l.getD b 0∧a.l.getD b (0:Int)≤(1000000:Int)
def zJt (a:RsI) (b:PsI):Prop:=(zBw a)∧∀(c:Unit),True→∃(d:Unit),iE (zCi b)=iE (m5 a)∧True
def zRk (a:PsI):Prop:=∃(b:RsI),iE b.l=iE a.l∧b.least=a.least∧b.q=a.q∧iE b.out=List.replicate (↑(iE a.l).length:Int).toNat [dI 0]∧zJt b a
def r9 (a:PsI):=(List.replicate (↑(iE a.l).length:Int).toNat [dI 0])
def zLh (a:PsI) (b:Int):=(z9 (r9 a) a.top.toNat 0 [dI (min (min b a.most) a.q)])
def yOr (i:PsI):Prop:=
 ∃(a:LqI),iE a.l=iE i.l∧a.q=i.q∧(jW a)∧∀(b:Unit),True→cnd (!yT a.l a.q) (∃(c:Unit),iE (zCi i)=[]∧True) (cnd (decide (i.least<1)) (∃(c:Unit),iE (zCi i)=[]∧True) (cnd (decide (i.most<0)) (∃(c:Unit),iE (zCi i)=[]∧True) ((0≤(↑(iE i.l).length:Int)∧(↑(iE i.l).length:Int)≤(↑(iE i.l).length:Int)∧(↑(iE i.l).length:Int)≤9223372036854775807∧(↑(8:Nat):Int)*(↑(iE i.l).length:Int)≤2 ^ (48:Nat))∧cnd (decide (i.top≥0)) (cnd (decide (i.top<(↑(iE i.l).length:Int))) ((0≤i.top∧i.top<(↑(iE i.l).length:Int))∧∃(c:Int),zF (iE i.l) i.top.toNat 0 1=some [dI c]∧(0≤i.top∧i.top<(↑(r9 i).length:Int))∧i.top.toNat<(r9 i).length∧(0≤i.top∧i.top<(↑(zLh i c).length:Int))∧∃(d:Int),zF (zLh i c) i.top.toNat 0 1=some [dI d]∧∃(e:RsI),iE e.l=iE i.l∧e.least=i.least∧e.q=IntKind.i64.wrap (i.q-d)∧iE e.out=z9 (r9 i) i.top.toNat 0 [dI (min (min c i.most) i.q)]∧zJt e i) (zRk i)) (zRk i))))
def yQc (i:SpI):Prop:=
 ∃(a:LqI),iE a.l=iE i.l∧a.q=i.q∧(jW a)∧∀(b:Unit),True→cnd (!yT a.l a.q) (∃(c:Unit),iE (zAu i)=[]∧True) (cnd (decide (i.part<0)) (∃(c:Unit),iE (zAu i)=[]∧True) (cnd (decide (i.part>100)) (∃(c:Unit),iE (zAu i)=[]∧True) (cnd (decide (i.least<1)) (∃(c:Unit),iE (zAu i)=[]∧True) (∃(c:ShI),c.a=i.q∧c.b=i.part∧c.c=100∧(0≤c.a∧c.a≤(2000000000:Int)∧(0:Int)≤c.b∧c.b≤(2000000000:Int)∧(1:Int)≤c.c∧c.c≤2000000000)∧∀(d:Unit),True→∃(e:LqI),iE e.l=iE i.l∧e.q=c.a*c.b / c.c∧(jW e)∧∀(f:Unit),True→∃(g:RsI),iE g.l=iE i.l∧g.least=i.least∧g.q=IntKind.i64.wrap (i.q-c.a*c.b / c.c)∧iE g.out=iE (uW e.l e.q)∧(zBw g)∧∀(h:Unit),True→∃(j:Unit),iE (zAu i)=iE (m5 g)∧True))))
open Go Cv Go.Proofs
theorem z7v {l:List Int} {q r:Int} (h:yT l q=true) (h0:0≤r) (h1:r≤q):yT l r=true:=by
 obtain⟨a,b,c,d⟩:=k6 h
 have e:(l.all fun n=>decide (1≤n) && decide (n≤1000000))=true:=by
  rw[yVh];intro x hx;simpa using c x hx
 rw[yT,e,ySw a,ySw h0,ySw (show r≤l.sum by omega)];rfl
theorem getD_none {l:List Int} {n:Nat} (h:l[n]? =none):l.getD n 0=0:=by rw[ySi,h];rfl
theorem lL {l:List Int} {q:Int} (h:yT l q=true) (n:Nat):0≤l.getD n 0∧l.getD n 0≤1000000:=by
 cases hn:l[n]? with
 |none=>rw[getD_none hn];decide
 |some x=>rw[zI hn];have:=(k6 h).2.2.1 x (ySo hn);omega
theorem z4i {l:List Int} {q:Int} (h:yT l q=true) (n:Nat):0≤(uW l q).getD n 0∧(uW l q).getD n 0≤l.getD n 0:=by
 rw[uW,ySf h]
 obtain⟨a,b,c,d⟩:=k6 h
 cases hn:l[n]? with
 |none=>
  have:(uP l q)[n]? =none:=by rw[List.getElem?_eq_none_iff,rN];exact List.getElem?_eq_none_iff.1 hn
  rw[getD_none hn,getD_none this];decide
 |some x=>
  rw[zI hn,zI (zKt l q n x hn)]
  have:=zFc l q n b (fun y hy=>by have:=c y hy;omega)
  have:=c x (ySo hn)
  omega
theorem yQy (i:SpI) (h:splC.cnd i):yQc i:=by
 obtain⟨hl,hq,hle,hpa⟩:i.l.length≤1000000∧yY i.q∧yY i.least∧yY i.part:=h
 unfold yQc zBw jW
 have no (e:¬(yT i.l i.q=true∧0≤i.part∧i.part≤100∧1≤i.least)):zAu i=[]:=by rw[zAu,ySe e]
 refine⟨⟨i.l,i.q⟩,rfl,rfl,⟨hl,hq⟩,fun _ _=>Cv.cnd.mk (fun c=> ?_) (fun c=>zK (fun d=> ?_) (fun d=>zK (fun e=> ?_) (fun e=>zK (fun f=> ?_) (fun f=> ?_))))⟩
 ·have c:yT i.l i.q=false:=by simpa using c
  exact⟨(),by rw[no (by rw[c];simp)];rfl,trivial⟩
 ·exact⟨(),by rw[no (by omega)];rfl,trivial⟩
 ·exact⟨(),by rw[no (by omega)];rfl,trivial⟩
 ·exact⟨(),by rw[no (by omega)];rfl,trivial⟩
 have c:yT i.l i.q=true:=by simpa using c
 obtain⟨h1,h2,h3,h4⟩:=k6 c
 have hq2:=zHq c
 have m0:0≤i.q*i.part:=yYm h2 (by omega)
 have m1:i.q*i.part≤i.q*100:=yXk (by omega) h2
 have hr:=z7v (r:=i.q*i.part / 100) c (by omega) (by omega)
 have es:zAu i=m5 i.rs:=by rw[zAu,ySf ⟨c,by omega,by omega,by omega⟩]
 refine⟨⟨i.q,i.part,100⟩,rfl,rfl,rfl,⟨by dsimp only;omega,by dsimp only;omega,by dsimp only;omega,by dsimp only;omega,by dsimp only;omega,by dsimp only;omega⟩,fun _ _=>⟨⟨i.l,i.q*i.part / 100⟩,rfl,rfl,⟨hl,by dsimp only;omega,by dsimp only;omega⟩,fun _ _=>⟨i.rs,rfl,rfl,?_,rfl,⟨h1,?_,?_,hle,?_⟩,fun _ _=>⟨(),by rw[es],trivial⟩⟩⟩⟩
 ·rw[w64 (by dsimp only;omega)];rfl
 ·show(uW i.l (i.q*i.part / 100)).length=i.l.length
  rw[uW,ySf hr,rN]
 ·show yY (i.q-i.q*i.part / 100)
  exact⟨by omega,by omega⟩
 ·intro n
  have a:=z4i hr n
  have b:=lL c n
  exact⟨a.1,a.2,b.2⟩
theorem yJw:splC.ok Tryz.prog 132:=okw mixed (gokc zCs (gokc zPt (gokc z3a (gokc z4e gok0)))) 0 (fun _=>[]) (fun _=>[]) [] Tryz.func132 yQy
theorem yJg (n:Nat):List.replicate n [D.v (.int .i64 0)]=iE (List.replicate n 0):=by simp[iE]
theorem zUg (n k:Nat):(List.replicate n (0:Int)).getD k 0=0:=by
 rw[ySi,yYg];split<;>rfl
theorem z7y (n t k:Nat) (x:Int):((List.replicate n (0:Int)).set t x).getD k 0=x∧k=t∨((List.replicate n (0:Int)).set t x).getD k 0=0:=by
 rw[ySi,yYa]
 split
 ·rename_i e
  split
  ·exact .inl ⟨rfl,e.symm⟩
  ·exact .inr rfl
 ·right;rw[← ySi];exact zUg n k
theorem yRy (i:PsI) (h:proC.cnd i):yOr i:=by
 obtain⟨hl,hq,hle,hmo⟩:i.l.length≤1000000∧yY i.q∧yY i.least∧yY i.most:=h
 unfold yOr zRk zLh r9 zJt zBw jW dI
 have no (e:¬(yT i.l i.q=true∧1≤i.least∧0≤i.most)):zCi i=[]:=by rw[zCi,ySe e]
 refine⟨⟨i.l,i.q⟩,rfl,rfl,⟨hl,hq⟩,fun _ _=>Cv.cnd.mk (fun c=> ?_) (fun c=>zK (fun d=> ?_) (fun d=>zK (fun e=> ?_) (fun e=> ?_)))⟩
 ·have c:yT i.l i.q=false:=by simpa using c
  exact⟨(),by rw[no (by rw[c];simp)];rfl,trivial⟩
 ·exact⟨(),by rw[no (by omega)];rfl,trivial⟩
 ·exact⟨(),by rw[no (by omega)];rfl,trivial⟩
 have c:yT i.l i.q=true:=by simpa using c
 obtain⟨h1,h2,h3,h4⟩:=k6 c
 have hq2:=zHq c
 have es:zCi i=m5 i.rs:=by rw[zCi,ySf ⟨c,by omega,by omega⟩]
 simp only[yW,ySt,yJg]
 have out (hn:¬(0≤i.top∧i.top<(i.l.length:Int))):i.rs=⟨i.l,List.replicate i.l.length 0,i.least,i.q⟩:=by rw[PsI.rs,ySe hn]
 have ok0:RsI.ok ⟨i.l,List.replicate i.l.length 0,i.least,i.q⟩:=⟨h1,by simp,hq,hle,fun n=>by
  have:=lL c n
  dsimp only
  rw[zUg];omega⟩
 refine⟨⟨by omega,by omega,by omega,by omega⟩,zK (fun a=>zK (fun b=> ?_) (fun b=> ?_)) (fun a=> ?_)⟩
 ·obtain⟨n,hn⟩:=z6 (l:=i.l) (i:=i.top.toNat) (by omega)
  have hf:i.first=min (min n i.most) i.q:=by rw[PsI.first,zI hn]
  have bn:=h3 n (ySo hn)
  have hr0:(List.replicate i.l.length (0:Int))[i.top.toNat]? =some 0:=by rw[yYg,ySf (by omega)]
  have ers:i.rs=⟨i.l,(List.replicate i.l.length 0).set i.top.toNat i.first,i.least,i.q-i.first⟩:=by rw[PsI.rs,ySf ⟨by omega,by omega⟩]
  refine⟨⟨by omega,by omega⟩,n,elI hn,?_⟩
  rw[zTa hr0,← hf]
  simp only[yW,yTa,yUn]
  refine⟨⟨by omega,by omega⟩,by omega,⟨by omega,by omega⟩,i.first,elI (uB hr0),?_⟩
  rw[w64 (x:=i.q-i.first) (by omega)]
  refine⟨⟨i.l,(List.replicate i.l.length 0).set i.top.toNat i.first,i.least,i.q-i.first⟩,rfl,rfl,rfl,rfl,⟨h1,by simp,⟨by dsimp only;omega,by dsimp only;omega⟩,hle,fun k=> ?_⟩,fun _ _=>⟨(),by rw[es,ers],trivial⟩⟩
  have bk:=lL c k
  dsimp only
  rcases z7y i.l.length i.top.toNat k i.first with⟨g,gk⟩|g
  ·rw[g,gk,zI hn];omega
  ·rw[g];omega
 ·refine⟨⟨i.l,List.replicate i.l.length 0,i.least,i.q⟩,rfl,rfl,rfl,rfl,ok0,fun _ _=>⟨(),by rw[es,out (by omega)],trivial⟩⟩
 ·refine⟨⟨i.l,List.replicate i.l.length 0,i.least,i.q⟩,rfl,rfl,rfl,rfl,ok0,fun _ _=>⟨(),by rw[es,out (by omega)],trivial⟩⟩
theorem yMv:proC.ok Tryz.prog 131:=okw mixed (gokc zCs (gokc z4e gok0)) 0 (fun _=>[]) (fun _=>[]) [] Tryz.func131 yRy
open Go Cv Go.Proofs
structure AlI where
 p:Prd
 l:List zD
 q:Int
def AlI.qs (i:AlI):List Int:=i.l.map (·.qty)
def qI (i:AlI):List Int:=if i.p.rule=1 then uW i.qs i.q else if i.p.rule=2 then zCi ⟨i.qs,topI i.l,i.p.top,i.p.least,i.q⟩else if i.p.rule=3 then zAu ⟨i.qs,i.p.part,i.p.least,i.q⟩else[]
def allocC:Con:=con1 AlI (fun i=>[prdV i.p,roV 5 (i.l.map wG),zA i.q]) (fun _=>[]) (fun i=>i.l.length≤1000∧yY i.q∧yY i.p.least∧yY i.p.top∧yY i.p.part) (fun _=> .own 0) (fun i=>[.own 2 1 (iE (qI i))])
def yNh (i:AlI):List SAnn:=[{ι:=Nat,slots:=fun j=>[(7,.own 0),(13,zA j)],rows:=fun j=>[.own 2 1 (iE (i.qs.take j))]}]
open Go Cv Go.Proofs
def yAn (i:AlI):Prop:=
 ∃(a:Nat),(↑a:Int)=0∧iE (List.take a i.qs)=[]∧∃(b:Nat→Prop),∃(c:Nat→Nat),b a∧∀(d:Nat),b d→cnd (decide ((↑d:Int)<(↑(List.map wG i.l).length:Int))) ((0≤(↑d:Int)∧(↑d:Int)<(↑(List.map wG i.l).length:Int))∧∃(e:Int),∃(f:Int),∃(g:Int),∃(h:Int),∃(j:Bool),zF (List.map wG i.l) (↑d:Int).toNat 0 5=some [dI e,dI f,dI g,dI h,D.v (.bool j)]∧((iE (List.take d i.qs)).length+1)*(8:Nat)≤(70368744177664:Nat)∧∃(k:Nat),(↑k:Int)=IntKind.i64.wrap ((↑d:Int)+1)∧iE (List.take k i.qs)=iE (List.take d i.qs)++[[dI h]]∧b k∧c k<c d∧Sx.AObj.cells [V.d (D.v (Value.string (sb i.p.code))),V.own 0,V.d (dI i.p.tick),V.d (dI i.p.low),V.d (dI i.p.high),V.d (dI i.p.wide),V.d (dI i.p.rule),V.d (dI i.p.top),V.d (dI i.p.least),V.d (dI i.p.part),V.own ((0:Nat)+(1:Nat))] 29=Sx.AObj.cells [V.d (D.v (Value.string (sb i.p.code))),V.own 0,V.d (dI i.p.tick),V.d (dI i.p.low),V.d (dI i.p.high),V.d (dI i.p.wide),V.d (dI i.p.rule),V.d (dI i.p.top),V.d (dI i.p.least),V.d (dI i.p.part),V.own ((0:Nat)+(1:Nat))] 29∧AObj.fro 1 (iE i.p.settle)=AObj.fro 1 (iE i.p.settle)∧AObj.fro 1 (iE i.p.months)=AObj.fro 1 (iE i.p.months)) (cnd (i.p.rule==1) (∃(e:LqI),iE e.l=iE (List.take d i.qs)∧e.q=i.q∧(jW e)∧∀(f:Unit),True→∃(g:Unit),iE (qI i)=iE (uW e.l e.q)∧True) (cnd (i.p.rule==2) (∃(e:List zD),List.map wG e=List.map wG i.l∧e.length≤1000000∧∀(f:Unit),True→∃(g:PsI),iE g.l=iE (List.take d i.qs)∧g.top=topI e∧g.most=i.p.top∧g.least=i.p.least∧g.q=i.q∧(g.l.length≤1000000∧((-9223372036854775808)≤g.q∧g.q≤9223372036854775807)∧((-9223372036854775808)≤g.least∧g.least≤9223372036854775807)∧(-9223372036854775808)≤g.most∧g.most≤9223372036854775807)∧∀(h:Unit),True→∃(j:Unit),iE (qI i)=iE (zCi g)∧True) (cnd (i.p.rule==3) (∃(e:SpI),iE e.l=iE (List.take d i.qs)∧e.part=i.p.part∧e.least=i.p.least∧e.q=i.q∧(e.l.length≤1000000∧((-9223372036854775808)≤e.q∧e.q≤9223372036854775807)∧((-9223372036854775808)≤e.least∧e.least≤9223372036854775807)∧(-9223372036854775808)≤e.part∧e.part≤9223372036854775807)∧∀(f:Unit),True→∃(g:Unit),iE (qI i)=iE (zAu e)∧True) (∃(e:Unit),iE (qI i)=[]∧True))))
open Go Cv Go.Proofs
theorem yNb (i:AlI) (h:allocC.cnd i):yAn i:=by
 obtain⟨hl,hq,hle,hto,hpa⟩:i.l.length≤1000∧yY i.q∧yY i.p.least∧yY i.p.top∧yY i.p.part:=h
 have hql:i.qs.length=i.l.length:=by simp[AlI.qs]
 unfold yAn jW dI
 simp only[yW,ySh]
 refine⟨0,by(first|exact rfl|exact trivial),by(first|exact rfl|exact trivial),fun j=>j≤i.l.length,fun j=>i.l.length-j,yUq _,fun j hj=>zK (fun c=> ?_) (fun c=> ?_)⟩
 ·have hj':j<i.l.length:=by omega
  obtain⟨o,ho⟩:=z6 (l:=i.l) (i:=j) hj'
  have hqo:i.qs[j]? =some o.qty:=by rw[AlI.qs,yTy,ho];rfl
  refine⟨⟨by omega,by omega⟩,o.id,o.side,o.price,o.qty,o.top,yKt ho,by rw[yTe];omega,j+1,wjn (by omega),?_,hj',by dsimp only;omega,by(repeat'(first|exact trivial|exact rfl|apply And.intro))⟩
  rw[yUf,hqo];simp[iE]
 have hje:j=i.l.length:=by omega
 subst hje
 rw[ySz (l:=i.qs) (by omega)]
 refine Cv.cnd.mk (fun a=> ?_) (fun a=>Cv.cnd.mk (fun b=> ?_) (fun b=>Cv.cnd.mk (fun d=> ?_) (fun d=> ?_)))
 ·have a:i.p.rule=1:=by simpa using a
  exact⟨⟨i.qs,i.q⟩,rfl,rfl,⟨by dsimp only;omega,hq⟩,fun _ _=>⟨(),by rw[qI,ySf a],trivial⟩⟩
 ·have a:¬i.p.rule=1:=by simpa using a
  have b:i.p.rule=2:=by simpa using b
  exact⟨i.l,rfl,by omega,fun _ _=>⟨⟨i.qs,topI i.l,i.p.top,i.p.least,i.q⟩,rfl,rfl,rfl,rfl,rfl,⟨by dsimp only;omega,hq,hle,hto⟩,fun _ _=>⟨(),by rw[qI,ySe a,ySf b],trivial⟩⟩⟩
 ·have a:¬i.p.rule=1:=by simpa using a
  have b:¬i.p.rule=2:=by simpa using b
  have d:i.p.rule=3:=by simpa using d
  exact⟨⟨i.qs,i.p.part,i.p.least,i.q⟩,rfl,rfl,rfl,rfl,⟨by dsimp only;omega,hq,hle,hpa⟩,fun _ _=>⟨(),by rw[qI,ySe a,ySe b,ySf d],trivial⟩⟩
 ·have a:¬i.p.rule=1:=by simpa using a
  have b:¬i.p.rule=2:=by simpa using b
  have d:¬i.p.rule=3:=by simpa using d
  exact⟨(),by rw[qI,ySe a,ySe b,ySe d];rfl,trivial⟩
theorem yAo:allocC.ok Tryz.prog 113:=okw mixed (gokc z3a (gokc z6a (gokc yMv (gokc yJw gok0)))) 0 (fun _=>[]) (fun i=>yNh i) [] Tryz.func113 yNb
open Go Cv Go.Proofs
def vD (l:List Nat) (t:Int):Int:=match l with
 |[]=>t
 |k::_=>k
def kL:List Nat→Int→Int
 |[],p=>p
 |k::l,_=>kL l k
structure zRq (s:Slot) (n k:Nat) (p t:Int):Prop where
 used:s.used=true
 no:s.n=k
 queue:s.queue=n
 ahead:s.ahead=p
 back:s.back=t
 q1:0≤s.qty
 q2:s.qty≤1000000
def seg (sl:List Slot) (n:Nat):Int→List Nat→Int→Prop
 |_,[],_=>True
 |p,k::l,t=>(∃s,sl[k]? =some s∧zRq s n k p (vD l t))∧seg sl n k l t
theorem zDh (l1 l2:List Nat) (t:Int):vD (l1++l2) t=vD l1 (vD l2 t):=by cases l1<;>rfl
theorem cX:∀(l1 l2:List Nat) (p:Int),kL (l1++l2) p=kL l2 (kL l1 p)
 |[],l2,p=>rfl
 |k::l1,l2,p=>cX l1 l2 k
theorem tU {sl:List Slot} {n:Nat}:∀{l1 l2:List Nat} {p t:Int},seg sl n p (l1++l2) t↔seg sl n p l1 (vD l2 t)∧seg sl n (kL l1 p) l2 t
 |[],l2,p,t=>by simp[seg,kL]
 |k::l1,l2,p,t=>by
  rw[yTt,seg,seg,zDh,tU,kL,and_assoc]
theorem z2t {sl:List Slot} {n k:Nat}:∀{l:List Nat} {p t:Int},seg sl n p l t→k∈l→∃s p' t',sl[k]? =some s∧zRq s n k p' t'
 |j::l,p,t,h,hk=>by
  rcases ySy.1 hk with rfl|hk
  ·obtain⟨⟨s,h1,h2⟩,_⟩:=h
   exact⟨s,_,_,h1,h2⟩
  ·exact z2t h.2 hk
theorem wM {sl sl':List Slot} {n:Nat}:∀{l:List Nat} {p t:Int},(∀k∈l,sl'[k]? =sl[k]?)→seg sl n p l t→seg sl' n p l t
 |[],p,t,_,h=>h
 |k::l,p,t,e,⟨⟨s,h1,h2⟩,h3⟩=>⟨⟨s,by rw[e k ySk];exact h1,h2⟩,wM (fun j hj=>e j (ySl _ hj)) h3⟩
theorem dA {α:Type} {l:List α} {f:α→α} {i j:Nat} (h:i≠j):(l.modify i f)[j]? =l[j]? :=by rw[List.getElem?_modify];cases l[j]? <;>simp[h]
theorem rO {α:Type} {l:List α} {f:α→α} {i:Nat} {x:α} (h:l[i]? =some x):(l.modify i f)[i]? =some (f x):=by rw[List.getElem?_modify,h];simp
theorem vS {α:Type} {l:List α} {x:α} {i j:Nat} (h:i≠j):(l.set i x)[j]? =l[j]? :=by rw[yYa,ySe h]
theorem wW {α:Type} {l:List α} {x:α} {i:Nat} (h:i<l.length):(l.set i x)[i]? =some x:=by rw[yYa,ySf rfl,ySf h]
theorem vE {α:Type} {Q:List α} {n m:Nat} {x y:α} (h:(Q.set n x)[m]? =some y):(m=n∧y=x)∨(m≠n∧Q[m]? =some y):=by
 by_cases e:n=m
 ·subst e
  have hn:n<Q.length:=by
   have:=(ySg.1 h).1
   simpa using this
  rw[wW hn]at h
  cases h
  exact .inl ⟨rfl,rfl⟩
 ·rw[vS e]at h
  exact .inr ⟨fun c=>e c.symm,h⟩
theorem zTo {sl:List Slot} {n k:Nat} {l:List Nat} {p t:Int} (t':Int) (hk:k∉l) (h:seg sl n p (l++[k]) t):seg (sl.modify k fun s=>{s with back:=t'}) n p (l++[k]) t':=by
 rw[tU]at h ⊢
 obtain⟨h1,⟨s,h2,h3⟩,_⟩:=h
 refine⟨wM (fun j hj=>dA (fun e=>hk (e▸hj))) h1,⟨_,rO h2,?_⟩,trivial⟩
 exact⟨h3.used,h3.no,h3.queue,h3.ahead,rfl,h3.q1,h3.q2⟩
theorem z6c {sl:List Slot} {n k:Nat} {l:List Nat} {p t:Int} (p':Int) (hk:k∉l) (h:seg sl n p (k::l) t):seg (sl.modify k fun s=>{s with ahead:=p'}) n p' (k::l) t:=by
 obtain⟨⟨s,h1,h2⟩,h3⟩:=h
 refine⟨⟨_,rO h1,?_⟩,wM (fun j hj=>dA (fun e=>hk (e▸hj))) h3⟩
 exact⟨h2.used,h2.no,h2.queue,rfl,h2.back,h2.q1,h2.q2⟩
theorem j9 (l:List Nat):l=[]∨∃(x:List Nat) (j:Nat),l=x++[j]∧∀p:Int,kL l p=(j:Int):=by
 rcases List.eq_nil_or_concat l with rfl|⟨x,j,rfl⟩
 ·exact .inl rfl
 ·exact .inr ⟨x,j,by simp,fun p=>by rw[List.concat_eq_append,cX];rfl⟩
theorem mY (l:List Nat):kL l (-1)= -1↔l=[]:=by
 rcases j9 l with rfl|⟨x,j,rfl,e⟩
 ·simp[kL]
 ·rw[e];simp
theorem zQc (l:List Nat):vD l (-1)= -1↔l=[]:=by
 cases l with
 |nil=>simp[vD]
 |cons k l=>simp only[vD];constructor
            ·intro h;omega
            ·intro h;cases h
theorem eL {α β:Type} {g:α→β} {f:α→α} (h:∀x,g (f x)=g x):∀(l:List α) (i:Nat),(l.modify i f).map g=l.map g
 |[],i=>by simp
 |a::l,0=>by simp[h]
 |a::l,i+1=>by rw[yWd,ySn,ySn,eL h l i]
theorem zLi:∀(m:Nat) {l:List Nat},l.Nodup→(∀k∈l,k<m)→l.length≤m
 |0,[],_,_=>yTd 0
 |0,k::l,_,h=>absurd (h k ySk) (by omega)
 |m+1,l,hn,h=>by
  have:=zLi m (hn.erase m) fun k hk=>by
   have:=(hn.mem_erase_iff).1 hk
   have:=h k this.2
   omega
  by_cases hm:m∈l
  ·rw[List.length_erase_of_mem hm]at this;omega
  ·rw[List.erase_of_not_mem hm]at this;omega
theorem z1k {f g:Nat→Int} {k:Nat}:∀{l:List Nat},l.Nodup→k∈l→(∀j∈l,j≠k→g j=f j)→(l.map g).sum=(l.map f).sum+(g k-f k)
 |j::l,hn,hk,h=>by
  have hn:=yUb.1 hn
  rw[ySn,ySn,yTc,yTc]
  rcases ySy.1 hk with rfl|hk
  ·have:l.map g=l.map f:=yTq fun i hi=>h i (ySl _ hi) (fun e=>hn.1 (e▸hi))
   rw[this];omega
  ·have e:=h j ySk (fun e=>hn.1 (e▸hk))
   rw[z1k hn.2 hk (fun i hi=>h i (ySl _ hi)),e]
   omega
theorem yDt {f:Nat→Int} {m:Int}:∀{l:List Nat},(∀j∈l,0≤f j∧f j≤m)→0≤(l.map f).sum∧(l.map f).sum≤m*l.length
 |[],_=>by simp
 |j::l,h=>by
  have:=h j ySk
  have:=yDt (l:=l) fun i hi=>h i (ySl _ hi)
  rw[ySn,yTc,ySx,Int.natCast_add,Int.mul_add]
  simp only[Int.natCast_one,Int.mul_one]
  omega
def Arena.qsum (a:Arena) (l:List Nat):Int:=(l.map fun k=>(a.slotAt k).qty).sum
structure Arena.Wf0 (a:Arena) (Q:List (List Nat)):Prop where
 len:a.slots.length=250
 ql:a.queues.length=Q.length
 q:∀(n:Nat) (l:List Nat),Q[n]? =some l→a.queues[n]? =some ⟨vD l (-1),kL l (-1),a.qsum l,l.length⟩
 sg:∀(n:Nat) (l:List Nat),Q[n]? =some l→seg a.slots n (-1) l (-1)
 nd:∀(n:Nat) (l:List Nat),Q[n]? =some l→l.Nodup
 us:∀(k:Nat) (s:Slot),a.slots[k]? =some s→s.used=true→∃(n:Nat) (l:List Nat),Q[n]? =some l∧k∈l
 free:a.free=((a.slots.map (·.used)).countP (!·):Nat)
structure Arena.Wf (a:Arena) (Q:List (List Nat)):Prop extends a.Wf0 Q where
 pos:∀(n:Nat) (l:List Nat),Q[n]? =some l→∀k∈l,1≤(a.slotAt k).qty
theorem Arena.Wf0.mem {a:Arena} {Q:List (List Nat)} (h:a.Wf0 Q) {n k:Nat} {l:List Nat} (hl:Q[n]? =some l) (hk:k∈l):k<250∧(∃p t,zRq (a.slotAt k) n k p t)∧a.slots[k]? =some (a.slotAt k):=by
 obtain⟨s,p,t,h1,h2⟩:=z2t (h.sg n l hl) hk
 have e:a.slotAt k=s:=zI h1
 have hlt:=(ySg.1 h1).1
 rw[h.len]at hlt
 exact⟨hlt,⟨p,t,by rw[e];exact h2⟩,by rw[e];exact h1⟩
theorem Arena.Wf0.one {a:Arena} {Q:List (List Nat)} (h:a.Wf0 Q) {n m k:Nat} {l l':List Nat} (hl:Q[n]? =some l) (hl':Q[m]? =some l') (hk:k∈l) (hk':k∈l'):n=m:=by
 obtain⟨_,⟨_,_,h1⟩,_⟩:=h.mem hl hk
 obtain⟨_,⟨_,_,h2⟩,_⟩:=h.mem hl' hk'
 have:=h1.queue
 have:=h2.queue
 omega
theorem Arena.Wf0.short {a:Arena} {Q:List (List Nat)} (h:a.Wf0 Q) {n:Nat} {l:List Nat} (hl:Q[n]? =some l):l.length≤250:=zLi 250 (h.nd n l hl) fun k hk=>(h.mem hl hk).1
theorem bR {a a':Arena} {l:List Nat} (h:∀k∈l,(a'.slotAt k).qty=(a.slotAt k).qty):a'.qsum l=a.qsum l:=by rw[Arena.qsum,Arena.qsum,yTq h]
theorem Arena.Wf0.sum {a:Arena} {Q:List (List Nat)} (h:a.Wf0 Q) {n:Nat} {l:List Nat} (hl:Q[n]? =some l):0≤a.qsum l∧a.qsum l≤250000000:=by
 have:=yDt (f:=fun k=>(a.slotAt k).qty) (m:=1000000) (l:=l) fun j hj=>by
  obtain⟨_,⟨_,_,h1⟩,_⟩:=h.mem hl hj
  exact⟨h1.q1,h1.q2⟩
 have:=h.short hl
 rw[Arena.qsum]
 omega
theorem zOa {sl:List Slot} {n:Nat}:∀{l:List Nat} {p:Int},seg sl n p l (-1)→zVa sl (vD l (-1)) l
 |[],p,_=>rfl
 |k::l,p,⟨⟨s,h1,h2⟩,h3⟩=>by
  refine⟨rfl,(ySg.1 h1).1,?_⟩
  rw[zI h1,h2.back]
  exact zOa h3
theorem Arena.Wf0.ok {a:Arena} {Q:List (List Nat)} (h:a.Wf0 Q):a.okAt:=by
 refine⟨by rw[h.len];decide,fun k s hk hu=> ?_⟩
 obtain⟨n,l,hl,hkl⟩:=h.us k s hk hu
 have hQ:=(ySg.1 hl).1
 have hql:=h.ql
 obtain⟨l1,l2,rfl⟩:=List.append_of_mem hkl
 have hsg:=h.sg n _ hl
 have hnd:=h.nd n _ hl
 rw[tU]at hsg
 obtain⟨_,⟨s',h1,h2⟩,_⟩:=hsg
 rw[hk]at h1;cases h1
 have hq:=h2.queue
 have hd:=yUt.1 hnd
 have hd2:=yUb.1 hd.2.1
 refine⟨⟨by omega,by omega⟩,h2.q2,?_,?_⟩
 ·rw[h2.ahead]
  rcases j9 l1 with rfl|⟨x,j,rfl,e⟩
  ·exact .inl rfl
  ·have hj:j∈x++[j]:=by simp
   have hjl:=(h.mem hl (yTr _ hj)).1
   rw[e,h.len]
   refine .inr ⟨by omega,by omega,fun e2=> ?_⟩
   have:j=k:=by omega
   exact hd.2.2 j hj k ySk this
 ·rw[h2.back]
  cases l2 with
  |nil=>exact .inl rfl
  |cons j x=>
   have hjl:=(h.mem hl (yTu _ (ySl _ ySk))).1
   rw[vD,h.len]
   refine .inr ⟨by omega,by omega,fun e2=> ?_⟩
   have:j=k:=by omega
   exact hd2.1 (this▸ySk)
theorem Arena.Wf0.open {a:Arena} {Q:List (List Nat)} (h:a.Wf0 Q):a.openQ.Wf0 (Q++[[]]):=by
 have g:∀{n:Nat} {l:List Nat},(Q++[[]])[n]? =some l→Q[n]? =some l∨(n=Q.length∧l=[]):=by
  intro n l hl
  rw[List.getElem?_append]at hl
  split at hl
  ·exact .inl hl
  ·rename_i hn
   have:=(ySg.1 hl).1
   simp only[yWx]at this
   have e:n-Q.length=0:=by omega
   rw[e]at hl
   cases hl
   exact .inr ⟨by omega,rfl⟩
 refine⟨h.len,by simp[Arena.openQ,h.ql],fun n l hl=> ?_,fun n l hl=> ?_,fun n l hl=> ?_,fun k s hk hu=> ?_,h.free⟩
 ·rcases g hl with hl|⟨rfl,rfl⟩
  ·show(a.queues++[b9])[n]? =_
   rw[yVc (by have:=(ySg.1 hl).1;have:=h.ql;omega)]
   exact h.q n l hl
  ·show(a.queues++[b9])[_]? =_
   rw[← h.ql,yUl (yTd _),yXv]
   rfl
 ·rcases g hl with hl|⟨rfl,rfl⟩
  ·exact h.sg n l hl
  ·trivial
 ·rcases g hl with hl|⟨rfl,rfl⟩
  ·exact h.nd n l hl
  ·exact List.nodup_nil
 ·obtain⟨n,l,hl,hkl⟩:=h.us k s hk hu
  exact⟨n,l,by rw[yVc (ySg.1 hl).1];exact hl,hkl⟩
theorem Arena.Wf.open {a:Arena} {Q:List (List Nat)} (h:a.Wf Q):a.openQ.Wf (Q++[[]]):=by
 refine⟨h.toWf0.open,fun n l hl k hk=> ?_⟩
 rw[List.getElem?_append]at hl
 split at hl
 ·exact h.pos n l hl k hk
 ·have:=(ySg.1 hl).1
  simp only[yWx]at this
  have e:n-Q.length=0:=by omega
  rw[e]at hl
  cases hl
  cases hk
theorem zJq {sl sl':List Slot} {n:Nat}:∀{l:List Nat} {p t:Int},(∀k∈l,∀s,sl[k]? =some s→∃s',sl'[k]? =some s'∧s'.used=s.used∧s'.n=s.n∧s'.queue=s.queue∧s'.ahead=s.ahead∧s'.back=s.back∧0≤s'.qty∧s'.qty≤1000000)→seg sl n p l t→seg sl' n p l t
 |[],p,t,_,h=>h
 |k::l,p,t,e,⟨⟨s,h1,h2⟩,h3⟩=>by
  obtain⟨s',q0,q1,q2,q3,q4,q5,q6,q7⟩:=e k ySk s h1
  exact⟨⟨s',q0,⟨q1.trans h2.used,q2.trans h2.no,q3.trans h2.queue,q4.trans h2.ahead,q5.trans h2.back,q6,q7⟩⟩,zJq (fun j hj=>e j (ySl _ hj)) h3⟩
theorem zRo (a:Arena) (n:Int) (t:Bool) (j:Nat):(a.topF n t).slotAt j=if a.usedAt n=true∧j=n.toNat then{a.slotAt j with top:=t}else a.slotAt j:=by
 rw[Arena.topF]
 by_cases hu:a.usedAt n=true
 ·rw[ySf hu]
  by_cases e:j=n.toNat
  ·subst e
   rw[ySf ⟨hu,rfl⟩]
   have hlt:n.toNat<a.slots.length:=by
    simp only[Arena.usedAt,ySs,yTj]at hu
    omega
   show(a.slots.modify n.toNat _).getD n.toNat slot0=_
   obtain⟨s,hs⟩:=z6 hlt
   rw[zI (rO hs),xQ hs]
  ·rw[ySe (fun h=>e h.2)]
   show(a.slots.modify n.toNat _).getD j slot0=a.slots.getD j slot0
   rw[ySi,dA (fun h=>e h.symm),ySi]
 ·rw[ySe hu,ySe (fun h=>hu h.1)]
theorem Arena.Wf.top {a:Arena} {Q:List (List Nat)} (h:a.Wf Q) (n:Int) (t:Bool):(a.topF n t).Wf Q:=by
 have hq:∀j,((a.topF n t).slotAt j).qty=(a.slotAt j).qty:=by
  intro j
  rw[zRo]
  split<;>rfl
 by_cases hu:a.usedAt n=true
 ·have e:a.topF n t={a with slots:=a.slots.modify n.toNat fun s=>{s with top:=t}}:=by rw[Arena.topF,ySf hu]
  have hm:∀(k:Nat) (s:Slot),a.slots[k]? =some s→∃s',(a.topF n t).slots[k]? =some s'∧s'.used=s.used∧s'.n=s.n∧s'.queue=s.queue∧s'.ahead=s.ahead∧s'.back=s.back∧s'.qty=s.qty:=by
   intro k s hk
   rw[e]
   by_cases ek:n.toNat=k
   ·subst ek
    exact⟨_,rO hk,rfl,rfl,rfl,rfl,rfl,rfl⟩
   ·exact⟨s,by rw[dA ek];exact hk,rfl,rfl,rfl,rfl,rfl,rfl⟩
  have hl:(a.topF n t).slots.length=250:=by rw[e];simpa using h.len
  have hmu:(a.topF n t).slots.map (·.used)=a.slots.map (·.used):=by rw[e];exact eL (g:=fun s:Slot=>s.used) (f:=fun s:Slot=>{s with top:=t}) (fun _=>rfl) _ _
  refine⟨⟨hl,by rw[e];exact h.ql,fun m l hm'=> ?_,fun m l hm'=> ?_,h.nd,fun k s hk hs=> ?_,by rw[hmu];rw[e];exact h.free⟩,fun m l hm' k hk=>by rw[hq];exact h.pos m l hm' k hk⟩
  ·rw[bR fun k _=>hq k]
   rw[e];exact h.q m l hm'
  ·refine zJq (fun k hk s hs=> ?_) (h.sg m l hm')
   obtain⟨s',q0,q1,q2,q3,q4,q5,q6⟩:=hm k s hs
   obtain⟨_,⟨_,_,h2⟩,h3⟩:=h.mem hm' hk
   rw[hs]at h3;cases h3
   exact⟨s',q0,q1,q2,q3,q4,q5,by rw[q6];exact h2.q1,by rw[q6];exact h2.q2⟩
  ·have hlt:=(ySg.1 hk).1
   rw[hl,← h.len]at hlt
   obtain⟨s0,h0⟩:=z6 hlt
   obtain⟨s',q0,q1,_⟩:=hm k s0 h0
   rw[hk]at q0;cases q0
   exact h.us k s0 h0 (by rw[← q1];exact hs)
 ·have e:a.topF n t=a:=by rw[Arena.topF,ySe hu]
  rw[e];exact h
theorem zKa {sl:List Slot} {k:Nat} {s x:Slot} (hk:sl[k]? =some s):((sl.set k x).map (·.used)).countP (!·)+(if s.used=true then 0 else 1)=(sl.map (·.used)).countP (!·)+(if x.used=true then 0 else 1):=by
 have hlt:=(ySg.1 hk).1
 have e:(sl.map (·.used))[k]'(by simpa using hlt)=s.used:=by
  rw[List.getElem_map,(ySg.1 hk).2]
 rw[List.map_set,List.countP_set (by simpa using hlt),e]
 have hp:s.used=false→1≤(sl.map (·.used)).countP (!·):=by
  intro h
  apply List.countP_pos_iff.2
  exact⟨s.used,yTb (ySo hk),by rw[h];rfl⟩
 generalize (sl.map (·.used)).countP (!·)=c at hp ⊢
 cases h1:s.used<;>cases h2:x.used
 all_goals
  simp only[h1,yXo,Bool.not_true,ySu,↓reduceIte,if_true,if_false]at hp ⊢
  try have hp:=hp trivial
  omega
theorem z1s {sl:List Slot}:(sl.map (·.used)).countP (!·)≤sl.length:=by
 have:=List.countP_le_length (p:=fun b:Bool=> !b) (l:=sl.map (·.used))
 simpa using this
theorem Arena.Wf0.unused {a:Arena} {Q:List (List Nat)} (h:a.Wf0 Q) (hf:a.free≠0):∃k:Nat,kU a.slots=k∧k<250∧a.slots[k]? =some (a.slotAt k)∧(a.slotAt k).used=false∧∀(n:Nat) (l:List Nat),Q[n]? =some l→k∉l:=by
 have hx:∃s∈a.slots,s.used=false:=by
  have hp:0<(a.slots.map (·.used)).countP (!·):=by have:=h.free;omega
  obtain⟨b,hb,hb2⟩:=List.countP_pos_iff.1 hp
  obtain⟨s,hs,rfl⟩:=yTh.1 hb
  exact⟨s,hs,by simpa using hb2⟩
 obtain⟨s,hs,hu⟩:=hx
 cases hi:a.slots.findIdx? fun s=> !s.used with
 |none=>
  rw[yXa]at hi
  have:=hi s hs
  rw[hu]at this;cases this
 |some k=>
  have hi':=hi
  rw[yVj]at hi
  obtain⟨hk,hku,_⟩:=hi
  have hk1:a.slots[k]? =some a.slots[k]:=yTs hk
  have e:=xQ hk1
  rw[← e]at hku
  have hku:(a.slotAt k).used=false:=by simpa using hku
  refine⟨k,by rw[kU,hi'];rfl,by rw[← h.len];exact hk,by rw[e];exact hk1,hku,fun n l hl hkl=> ?_⟩
  obtain⟨_,⟨_,_,h2⟩,_⟩:=h.mem hl hkl
  have:=h2.used
  rw[hku]at this
  cases this
theorem Arena.Wf.put {a:Arena} {Q:List (List Nat)} (h:a.Wf Q) {n:Nat} {l:List Nat} (hl:Q[n]? =some l) (hf:a.free≠0) {id qty:Int} (top:Bool) (hq:1≤qty∧qty≤1000000):
 ∃k:Nat,kU a.slots=k∧k<250∧(a.slotAt k).used=false∧(∀(m:Nat) (l:List Nat),Q[m]? =some l→k∉l)∧(a.put n id qty top).Wf (Q.set n (l++[k]))∧
  (∀j,((a.put n id qty top).slotAt j).ent=if j=k then⟨k,id,qty,top⟩else(a.slotAt j).ent)∧(a.put n id qty top).free=a.free-1:=by
 obtain⟨k,hk,hk2,hk1,hku,hkn⟩:=h.toWf0.unused hf
 have hkl:=hkn n l hl
 have hnQ:=(ySg.1 hl).1
 have hqn:=h.q n l hl
 have hnq:a.queues.getD n b9=⟨vD l (-1),kL l (-1),a.qsum l,l.length⟩:=zI hqn
 have hsum:=h.toWf0.sum hl
 have hsh:=h.toWf0.short hl
 have hlen:=h.len
 have hcl:=z1s (sl:=a.slots)
 have hfree:=h.free
 obtain⟨x,hx⟩:∃x:Slot,x=⟨true,k,id,qty,top,n,kL l (-1),-1⟩:=⟨_,rfl⟩
 have hS:(a.put n id qty top).slots=if kL l (-1)= -1 then a.slots.set k x else(a.slots.set k x).modify (kL l (-1)).toNat fun s=>{s with back:=k}:=by
  simp only[Arena.put,ySt,hnq,hk,hx]
 have hQs:(a.put n id qty top).queues=a.queues.set n ⟨vD (l++[k]) (-1),k,a.qsum l+qty,(l.length:Int)+1⟩:=by
  simp only[Arena.put,ySt,hnq,hk]
  rw[w64 (by omega),w64 (by omega)]
  congr 2
  by_cases e:l=[]
  ·subst e;rfl
  ·rw[ySe (fun c=>e ((mY l).1 c)),zDh]
   cases l with
   |nil=>exact absurd rfl e
   |cons y ys=>rfl
 have hF:(a.put n id qty top).free=a.free-1:=by
  simp only[Arena.put]
  rw[w64 (by omega)]
 have hset:(a.slots.set k x)[k]? =some x:=wW (by omega)
 have hlo:kL l (-1)= -1∨∃(y:List Nat) (j:Nat),l=y++[j]∧kL l (-1)=(j:Int):=by
  rcases j9 l with e|⟨y,j,e,e2⟩
  ·exact .inl ((mY l).2 e)
  ·exact .inr ⟨y,j,e,e2 _⟩
 have hoth:∀j,j≠k→(kL l (-1)≠(j:Int))→(a.put n id qty top).slots[j]? =a.slots[j]? :=by
  intro j hj hj2
  rw[hS]
  split
  ·exact vS (fun e=>hj e.symm)
  ·rcases hlo with e|⟨y,i,_,e⟩
   ·contradiction
   ·rw[dA (by omega),vS (fun e=>hj e.symm)]
 have hself:(a.put n id qty top).slots[k]? =some x:=by
  rw[hS]
  split
  ·exact hset
  ·rcases hlo with e|⟨y,i,e1,e⟩
   ·contradiction
   ·have:i≠k:=by rintro rfl;exact hkl (by rw[e1];simp)
    rw[dA (by omega)];exact hset
 have hlike:∀j,j≠k→((a.put n id qty top).slotAt j).ent=(a.slotAt j).ent∧((a.put n id qty top).slotAt j).used=(a.slotAt j).used∧((a.put n id qty top).slotAt j).qty=(a.slotAt j).qty:=by
  intro j hj
  by_cases c:kL l (-1)=(j:Int)
  ·have e:(a.put n id qty top).slots=(a.slots.set k x).modify j fun s=>{s with back:=k}:=by
    rw[hS,ySe (by omega),c];rfl
   by_cases hjl:j<a.slots.length
   ·obtain⟨s,hs⟩:=z6 hjl
    have h1:(a.put n id qty top).slots[j]? =some {s with back:=k}:=by rw[e];exact rO (by rw[vS (fun e=>hj e.symm)];exact hs)
    rw[xQ h1,xQ hs];exact⟨rfl,rfl,rfl⟩
   ·have h1:(a.put n id qty top).slots[j]? =none:=yTf (by rw[e];simpa using hjl)
    have h2:a.slots[j]? =none:=yTf (by omega)
    rw[Arena.slotAt,Arena.slotAt,ySi,ySi,h1,h2]
    exact⟨rfl,rfl,rfl⟩
  ·have:=hoth j hj c
   rw[Arena.slotAt,Arena.slotAt,ySi,ySi,this]
   exact⟨rfl,rfl,rfl⟩
 have hselfA:(a.put n id qty top).slotAt k=x:=xQ hself
 have hent:∀j,((a.put n id qty top).slotAt j).ent=if j=k then⟨k,id,qty,top⟩else(a.slotAt j).ent:=by
  intro j
  split
  ·rename_i e;rw[e,hselfA,hx];rfl
  ·rename_i e;exact(hlike j e).1
 have gQ:∀{m:Nat} {l':List Nat},(Q.set n (l++[k]))[m]? =some l'→(m=n∧l'=l++[k])∨(m≠n∧Q[m]? =some l'):=by
  intro m l' hm
  exact vE hm
 have hsgn:seg (a.put n id qty top).slots n (-1) (l++[k]) (-1):=by
  rw[tU]
  refine⟨?_,⟨x,hself,?_⟩,trivial⟩
  ·rcases j9 l with e|⟨y,j,e,e2⟩
   ·subst e;trivial
   ·have h0:=h.sg n l hl
    have hnd:=h.nd n l hl
    rw[hS,ySe (by rw[e2];omega),e2,ySt]
    rw[e]at h0 hnd hkl ⊢
    have hd:=yUt.1 hnd
    refine zTo (k:Int) (fun hj=>hd.2.2 j hj j ySk rfl) (t:= -1) ?_
    exact wM (fun i hi=>vS (fun e=>hkl (e▸hi))) h0
  ·rw[hx]
   exact⟨rfl,rfl,rfl,rfl,rfl,by dsimp only;omega,hq.2⟩
 refine⟨k,hk,hk2,hku,hkn,⟨⟨?_,?_,?_,?_,?_,?_,?_⟩,?_⟩,hent,hF⟩
 ·rw[hS];split<;>simp[hlen]
 ·rw[hQs];simp[h.ql]
 ·intro m l' hm
  rcases gQ hm with⟨rfl,rfl⟩|⟨e,hm⟩
  ·rw[hQs,wW (by rw[h.ql];exact hnQ),cX]
   have:(a.put m id qty top).qsum (l++[k])=a.qsum l+qty:=by
    rw[Arena.qsum,ySr,List.sum_append]
    have e1:l.map (fun k=>((a.put m id qty top).slotAt k).qty)=l.map fun k=>(a.slotAt k).qty:=yTq fun j hj=>(hlike j (fun e=>hkl (e▸hj))).2.2
    rw[e1]
    simp only[ySn,yWe,yTc,List.sum_nil,hselfA]
    rw[hx,Arena.qsum];dsimp only;omega
   rw[this]
   simp[kL]
  ·rw[hQs,vS (fun c=>e c.symm),h.q m l' hm,bR]
   intro j hj
   exact(hlike j (fun e=>hkn m l' hm (e▸hj))).2.2.symm
 ·intro m l' hm
  rcases gQ hm with⟨rfl,rfl⟩|⟨e,hm⟩
  ·exact hsgn
  ·refine wM (fun j hj=>hoth j (fun e=>hkn m l' hm (e▸hj)) fun c=> ?_) (h.sg m l' hm)
   rcases hlo with e2|⟨y,i,e1,e2⟩
   ·omega
   ·have:i=j:=by omega
    exact e (h.toWf0.one hm hl hj (by rw[e1];simp[this]))
 ·intro m l' hm
  rcases gQ hm with⟨rfl,rfl⟩|⟨e,hm⟩
  ·refine yUt.2 ⟨h.nd m l hl,by simp,?_⟩
   rintro i hi j hj rfl
   rw[yUd.1 hj]at hi
   exact hkl hi
  ·exact h.nd m l' hm
 ·intro j s hj hs
  by_cases e:j=k
  ·exact⟨n,l++[k],wW hnQ,by rw[e];simp⟩
  ·have hu:(a.slotAt j).used=true:=by rw[← (hlike j e).2.1,xQ hj];exact hs
   have hjl:j<a.slots.length:=by
    have:=(ySg.1 hj).1
    rw[hS]at this
    split at this<;>simpa using this
   obtain⟨s',hs'⟩:=z6 hjl
   rw[xQ hs']at hu
   obtain⟨m,l',hm,hjm⟩:=h.us j s' hs' hu
   by_cases em:m=n
   ·subst em
    rw[hl]at hm;cases hm
    exact⟨m,l++[k],wW hnQ,yTr _ hjm⟩
   ·exact⟨m,l',by rw[vS (fun c=>em c.symm)];exact hm,hjm⟩
 ·have hmu:(a.put n id qty top).slots.map (·.used)=(a.slots.set k x).map (·.used):=by
   rw[hS]
   split
   ·rfl
   ·exact eL (g:=fun s:Slot=>s.used) (f:=fun s:Slot=>{s with back:=k}) (fun _=>rfl) _ _
  have:=zKa (x:=x) hk1
  rw[hku,ySe (by decide),show x.used=true by rw[hx],ySf rfl]at this
  rw[hmu,hF,hfree]
  omega
 ·intro m l' hm j hj
  rcases gQ hm with⟨rfl,rfl⟩|⟨e,hm⟩
  ·rcases yTi.1 hj with hj|hj
   ·rw[(hlike j (fun e=>hkl (e▸hj))).2.2];exact h.pos m l hl j hj
   ·rw[yUd.1 hj,hselfA,hx];exact hq.1
  ·rw[(hlike j (fun e=>hkn m l' hm (e▸hj))).2.2];exact h.pos m l' hm j hj
open Go Cv Go.Proofs
theorem zCq (a:Arena) (k:Nat) (q:Int) (j:Nat) (hk:k<a.slots.length):(a.less k q).slotAt j=if j=k then{a.slotAt j with qty:=(a.slotAt j).qty-q}else a.slotAt j:=by
 split
 ·rename_i e
  subst e
  obtain⟨s,hs⟩:=z6 hk
  rw[xQ hs,xQ (a:=a.less j q) (rO hs)]
 ·rename_i e
  show(a.slots.modify k _).getD j slot0=a.slots.getD j slot0
  rw[ySi,dA (fun c=>e c.symm),ySi]
theorem Arena.Wf0.less {a:Arena} {Q:List (List Nat)} (h:a.Wf0 Q) {n k:Nat} {l:List Nat} (hl:Q[n]? =some l) (hk:k∈l) {q:Int} (hq:0≤q∧q≤(a.slotAt k).qty):(a.less k q).Wf0 Q:=by
 obtain⟨hk2,⟨p,t,hs⟩,hk1⟩:=h.mem hl hk
 have hkl:k<a.slots.length:=by rw[h.len];exact hk2
 have hqt:(a.slotAt k).queue.toNat=n:=by rw[hs.queue];exact ySt n
 have hm:∀(j:Nat) (s:Slot),a.slots[j]? =some s→∃s',(a.less k q).slots[j]? =some s'∧s'.used=s.used∧s'.n=s.n∧s'.queue=s.queue∧s'.ahead=s.ahead∧s'.back=s.back:=by
  intro j s hj
  by_cases e:k=j
  ·subst e
   exact⟨_,rO hj,rfl,rfl,rfl,rfl,rfl⟩
  ·exact⟨s,by rw[show(a.less k q).slots=a.slots.modify k _ from rfl,dA e];exact hj,rfl,rfl,rfl,rfl,rfl⟩
 have hsl:(a.less k q).slots.length=250:=by simpa[Arena.less]using h.len
 have hqs:(a.less k q).queues=a.queues.modify n fun x=>{x with total:=IntKind.i64.wrap (x.total-q)}:=by rw[Arena.less,hqt]
 have hmu:(a.less k q).slots.map (·.used)=a.slots.map (·.used):=eL (g:=fun s:Slot=>s.used) (f:=fun s:Slot=>{s with qty:=s.qty-q}) (fun _=>rfl) _ _
 refine⟨hsl,by rw[hqs];simpa using h.ql,fun m l' hm'=> ?_,fun m l' hm'=> ?_,h.nd,fun j s hj hu=> ?_,by rw[hmu];exact h.free⟩
 ·by_cases e:n=m
  ·subst e
   rw[hl]at hm';cases hm'
   rw[hqs,rO (h.q n l hl)]
   have hsum:=h.sum hl
   have e2:(a.less k q).qsum l=a.qsum l-q:=by
    rw[Arena.qsum,Arena.qsum,z1k (k:=k) (f:=fun k=>(a.slotAt k).qty) (h.nd n l hl) hk]
    ·rw[zCq a k q k hkl,ySf rfl];dsimp only;omega
    ·intro j _ hj
     rw[zCq a k q j hkl,ySe hj]
   have h1:=hs.q2
   rw[e2]
   dsimp only
   rw[w64 (by omega)]
  ·rw[hqs,dA e,h.q m l' hm',bR]
   intro j hj
   have:j≠k:=fun c=>e (h.one hl hm' hk (c▸hj))
   rw[zCq a k q j hkl,ySe this]
 ·refine zJq (fun j hj s hs'=> ?_) (h.sg m l' hm')
  obtain⟨s',q0,q1,q2,q3,q4,q5⟩:=hm j s hs'
  refine⟨s',q0,q1,q2,q3,q4,q5,?_⟩
  have e:=xQ q0
  rw[← e,zCq a k q j hkl]
  obtain⟨_,⟨_,_,h2⟩,h3⟩:=h.mem hm' hj
  have:=h2.q1
  have:=h2.q2
  split
  ·rename_i c
   subst c
   dsimp only
   omega
  ·omega
 ·have hlt:=(ySg.1 hj).1
  rw[hsl,← h.len]at hlt
  obtain⟨s0,h0⟩:=z6 hlt
  obtain⟨s',q0,q1,_⟩:=hm j s0 h0
  rw[hj]at q0;cases q0
  exact h.us j s0 h0 (by rw[← q1];exact hu)
theorem Arena.Wf0.drop {a:Arena} {Q:List (List Nat)} (h:a.Wf0 Q) {n k:Nat} {l1 l2:List Nat} (hl:Q[n]? =some (l1++k::l2)) (h0:(a.slotAt k).qty=0):
 (a.dropF k).Wf0 (Q.set n (l1++l2))∧(∀j,j≠k→((a.dropF k).slotAt j).ent=(a.slotAt j).ent∧((a.dropF k).slotAt j).used=(a.slotAt j).used∧((a.dropF k).slotAt j).qty=(a.slotAt j).qty)∧(a.dropF k).slotAt k=slot0∧(a.dropF k).free=a.free+1:=by
 have hkm:k∈l1++k::l2:=by simp
 have hnQ:=(ySg.1 hl).1
 obtain⟨hk2,_,hk1⟩:=h.mem hl hkm
 have hlen:=h.len
 have hkl:k<a.slots.length:=by omega
 have hsg:=h.sg n _ hl
 have hnd:=h.nd n _ hl
 have hd:=yUt.1 hnd
 have hd2:=yUb.1 hd.2.1
 have k1:k∉l1:=fun hk=>hd.2.2 k hk k ySk rfl
 have k2:k∉l2:=hd2.1
 rw[tU]at hsg
 obtain⟨g1,⟨s,hs1,hs⟩,g2⟩:=hsg
 have es:=xQ hs1
 have eqn:(a.queues.getD s.queue.toNat b9)=⟨vD (l1++k::l2) (-1),kL (l1++k::l2) (-1),a.qsum (l1++k::l2),(l1++k::l2).length⟩:=by
  rw[hs.queue,ySt];exact zI (h.q n _ hl)
 have hfree:=h.free
 have hcl:=z1s (sl:=a.slots)
 have hsh:=h.short hl
 obtain⟨sl1,hsl1⟩:∃sl1,sl1=if kL l1 (-1)= -1 then a.slots else a.slots.modify (kL l1 (-1)).toNat fun x=>{x with back:=vD l2 (-1)}:=⟨_,rfl⟩
 obtain⟨sl2,hsl2⟩:∃sl2,sl2=if vD l2 (-1)= -1 then sl1 else sl1.modify (vD l2 (-1)).toNat fun x=>{x with ahead:=kL l1 (-1)}:=⟨_,rfl⟩
 have hS:(a.dropF k).slots=sl2.set k slot0:=by
  simp only[Arena.dropF,es,hs.ahead,hs.back]
  rw[hsl2,hsl1]
 have hQs:(a.dropF k).queues=a.queues.set n ⟨vD (l1++l2) (-1),kL (l1++l2) (-1),a.qsum (l1++l2),(l1++l2).length⟩:=by
  simp only[Arena.dropF,es,eqn,hs.ahead,hs.back]
  rw[hs.queue,ySt]
  have el:(l1++k::l2).length=(l1++l2).length+1:=by simp;omega
  have eq:a.qsum (l1++k::l2)=a.qsum (l1++l2):=by
   rw[Arena.qsum,Arena.qsum,ySr,List.sum_append,ySr,List.sum_append,ySn,yTc,h0]
   omega
  rw[el]at hsh ⊢
  rw[w64 (by omega),eq]
  congr 2
  ·cases l1 with
   |nil=>simp[kL,zDh,vD]
   |cons y ys=>
    rw[ySe (by rw[mY];simp)]
    rfl
  ·rcases j9 l2 with e|⟨x,j,e,e2⟩
   ·subst e;simp[vD,cX,kL]
   ·have:l2≠[]:=by rw[e];simp
    rw[ySe (fun c=>this ((zQc l2).1 c)),cX,cX,kL,e2,e2]
  ·simp
 have hF:(a.dropF k).free=a.free+1:=by
  simp only[Arena.dropF]
  rw[w64 (by omega)]
 have hc1:kL l1 (-1)= -1∨∃(y:List Nat) (j:Nat),l1=y++[j]∧kL l1 (-1)=(j:Int):=by
  rcases j9 l1 with e|⟨y,j,e,e2⟩
  ·exact .inl ((mY l1).2 e)
  ·exact .inr ⟨y,j,e,e2 _⟩
 have hc2:vD l2 (-1)= -1∨∃(y:List Nat) (j:Nat),l2=j::y∧vD l2 (-1)=(j:Int):=by
  cases l2 with
  |nil=>exact .inl rfl
  |cons j y=>exact .inr ⟨y,j,rfl,rfl⟩
 have hoth:∀j,j∉l1→j∉l2→j≠k→(a.dropF k).slots[j]? =a.slots[j]? :=by
  intro j h1 h2 h3
  rw[hS,vS (fun e=>h3 e.symm),hsl2]
  have e1:sl1[j]? =a.slots[j]? :=by
   rw[hsl1]
   split
   ·rfl
   ·rcases hc1 with e|⟨y,i,e,e2⟩
    ·contradiction
    ·rw[dA]
     rw[e2,ySt]
     rintro rfl
     exact h1 (by rw[e];simp)
  split
  ·exact e1
  ·rcases hc2 with e|⟨y,i,e,e2⟩
   ·contradiction
   ·rw[dA,e1]
    rw[e2,ySt]
    rintro rfl
    exact h2 (by rw[e];simp)
 have hlike:∀j,j≠k→((a.dropF k).slotAt j).ent=(a.slotAt j).ent∧((a.dropF k).slotAt j).used=(a.slotAt j).used∧((a.dropF k).slotAt j).qty=(a.slotAt j).qty:=by
  intro j hj
  have m1:∀(sl:List Slot) (i:Nat) (b:Int),((sl.modify i fun x=>{x with back:=b}).getD j slot0).ent=(sl.getD j slot0).ent∧((sl.modify i fun x=>{x with back:=b}).getD j slot0).used=(sl.getD j slot0).used∧((sl.modify i fun x=>{x with back:=b}).getD j slot0).qty=(sl.getD j slot0).qty:=by
   intro sl i b
   rw[ySi,ySi,List.getElem?_modify]
   cases sl[j]? with
   |none=>exact⟨rfl,rfl,rfl⟩
   |some s=>by_cases e:i=j<;>simp[e,Slot.ent]
  have m2:∀(sl:List Slot) (i:Nat) (b:Int),((sl.modify i fun x=>{x with ahead:=b}).getD j slot0).ent=(sl.getD j slot0).ent∧((sl.modify i fun x=>{x with ahead:=b}).getD j slot0).used=(sl.getD j slot0).used∧((sl.modify i fun x=>{x with ahead:=b}).getD j slot0).qty=(sl.getD j slot0).qty:=by
   intro sl i b
   rw[ySi,ySi,List.getElem?_modify]
   cases sl[j]? with
   |none=>exact⟨rfl,rfl,rfl⟩
   |some s=>by_cases e:i=j<;>simp[e,Slot.ent]
  have e0:(a.dropF k).slotAt j=sl2.getD j slot0:=by
   rw[Arena.slotAt,hS,ySi,vS (fun e=>hj e.symm),ySi]
  have e1:(sl1.getD j slot0).ent=(a.slotAt j).ent∧(sl1.getD j slot0).used=(a.slotAt j).used∧(sl1.getD j slot0).qty=(a.slotAt j).qty:=by
   rw[hsl1]
   split
   ·exact⟨rfl,rfl,rfl⟩
   ·exact m1 _ _ _
  have e2:(sl2.getD j slot0).ent=(sl1.getD j slot0).ent∧(sl2.getD j slot0).used=(sl1.getD j slot0).used∧(sl2.getD j slot0).qty=(sl1.getD j slot0).qty:=by
   rw[hsl2]
   split
   ·exact⟨rfl,rfl,rfl⟩
   ·exact m2 _ _ _
  rw[e0]
  exact⟨e2.1.trans e1.1,e2.2.1.trans e1.2.1,e2.2.2.trans e1.2.2⟩
 have hl1:sl1.length=250:=by rw[hsl1];split<;>simp[hlen]
 have hl2:sl2.length=250:=by rw[hsl2];split<;>simp[hl1]
 have hself:(a.dropF k).slots[k]? =some slot0:=by rw[hS];exact wW (by omega)
 have hsgn:seg (a.dropF k).slots n (-1) (l1++l2) (-1):=by
  rw[hS,tU]
  constructor
  ·--the part ahead
   refine wM (sl:=sl2) (fun j hj=>vS (fun e=>k1 (e▸hj))) ?_
   have f1:seg sl1 n (-1) l1 (vD l2 (-1)):=by
    rcases j9 l1 with e|⟨y,j,e,e2⟩
    ·subst e;trivial
    ·rw[hsl1,ySe (by rw[e2];omega),e2,ySt]
     subst e
     have hd3:=yUt.1 hd.1
     exact zTo _ (fun hj=>hd3.2.2 j hj j ySk rfl) g1
   refine wM (fun j hj=> ?_) f1
   rw[hsl2]
   split
   ·rfl
   ·rcases hc2 with e|⟨y,i,e,e2⟩
    ·contradiction
    ·refine dA ?_
     rw[e2,ySt]
     rintro rfl
     exact hd.2.2 i hj i (ySl _ (by rw[e];simp)) rfl
  ·--the part behind
   refine wM (sl:=sl2) (fun j hj=>vS (fun e=>k2 (e▸hj))) ?_
   have f1:seg sl1 n k l2 (-1):=by
    refine wM (fun j hj=> ?_) g2
    rw[hsl1]
    split
    ·rfl
    ·rcases hc1 with e|⟨y,i,e,e2⟩
     ·contradiction
     ·refine dA ?_
      rw[e2,ySt]
      rintro rfl
      exact hd.2.2 i (by rw[e];simp) i (ySl _ hj) rfl
   rcases hc2 with e|⟨y,j,e,e2⟩
   ·rw[(zQc l2).1 e];trivial
   ·rw[hsl2,ySe (by rw[e2];omega),e2,ySt]
    rw[e]at f1 hd2 ⊢
    exact z6c _ (yUb.1 hd2.2).1 f1
 refine⟨⟨?_,?_,?_,?_,?_,?_,?_⟩,hlike,xQ hself,hF⟩
 ·rw[hS,yTa];exact hl2
 ·rw[hQs];simp[h.ql]
 ·intro m l' hm
  rcases vE hm with⟨rfl,rfl⟩|⟨e,hm⟩
  ·rw[hQs,wW (by rw[h.ql];exact hnQ)]
   congr 2
   refine(bR fun j hj=>(hlike j fun e=> ?_).2.2).symm
   subst e
   rcases yTi.1 hj with hj|hj
   ·exact k1 hj
   ·exact k2 hj
  ·rw[hQs,vS (fun c=>e c.symm),h.q m l' hm]
   congr 2
   refine(bR fun j hj=>(hlike j fun e2=> ?_).2.2).symm
   subst e2
   exact e (h.one hm hl hj hkm)
 ·intro m l' hm
  rcases vE hm with⟨rfl,rfl⟩|⟨e,hm⟩
  ·exact hsgn
  ·refine wM (fun j hj=>hoth j ?_ ?_ ?_) (h.sg m l' hm)
   ·exact fun c=>e (h.one hm hl hj (yTr _ c))
   ·exact fun c=>e (h.one hm hl hj (yTu _ (ySl _ c)))
   ·rintro rfl;exact e (h.one hm hl hj hkm)
 ·intro m l' hm
  rcases vE hm with⟨rfl,rfl⟩|⟨e,hm⟩
  ·refine yUt.2 ⟨hd.1,hd2.2,fun i hi j hj=>hd.2.2 i hi j (ySl _ hj)⟩
  ·exact h.nd m l' hm
 ·intro j s' hj hu
  have hjk:j≠k:=by
   rintro rfl
   rw[hself]at hj;cases hj;cases hu
  have hu2:(a.slotAt j).used=true:=by rw[← (hlike j hjk).2.1,xQ hj];exact hu
  have hjl:j<a.slots.length:=by
   have:=(ySg.1 hj).1
   rw[hS,yTa]at this
   omega
  obtain⟨s0,hs0⟩:=z6 hjl
  rw[xQ hs0]at hu2
  obtain⟨m,l',hm,hjm⟩:=h.us j s0 hs0 hu2
  by_cases em:m=n
  ·subst em
   rw[hl]at hm;cases hm
   refine⟨m,_,wW hnQ,?_⟩
   rcases yTi.1 hjm with hj|hj
   ·exact yTr _ hj
   ·rcases ySy.1 hj with e|hj
    ·exact absurd e hjk
    ·exact yTu _ hj
  ·exact⟨m,l',by rw[vS (fun c=>em c.symm)];exact hm,hjm⟩
 ·have hmu:(a.dropF k).slots.map (·.used)=(a.slots.set k slot0).map (·.used):=by
   have e1:sl2.map (·.used)=a.slots.map (·.used):=by
    have f2:sl2.map (·.used)=sl1.map (·.used):=by
     rw[hsl2]
     split
     ·rfl
     ·exact eL (g:=fun s:Slot=>s.used) (f:=fun s:Slot=>{s with ahead:=kL l1 (-1)}) (fun _=>rfl) _ _
    have f1:sl1.map (·.used)=a.slots.map (·.used):=by
     rw[hsl1]
     split
     ·rfl
     ·exact eL (g:=fun s:Slot=>s.used) (f:=fun s:Slot=>{s with back:=vD l2 (-1)}) (fun _=>rfl) _ _
    rw[f2,f1]
   rw[hS,List.map_set,e1,List.map_set]
  have:=zKa (x:=slot0) hs1
  rw[hs.used,ySf rfl,show slot0.used=false from rfl,ySe (by decide)]at this
  rw[hmu,hF,hfree]
  omega
theorem Arena.Wf.take {a:Arena} {Q:List (List Nat)} (h:a.Wf Q) {n k:Nat} {l:List Nat} (hl:Q[n]? =some l) (hk:k∈l) {q:Int} (hq:1≤q∧q≤(a.slotAt k).qty):
 (a.takeF k q).2=0∧(∀j,j≠k→((a.takeF k q).1.slotAt j).ent=(a.slotAt j).ent∧((a.takeF k q).1.slotAt j).used=(a.slotAt j).used)∧
   (if(a.slotAt k).qty=q then(a.takeF k q).1.Wf (Q.set n (l.erase k))∧(a.takeF k q).1.slotAt k=slot0∧(a.takeF k q).1.free=a.free+1
    else(a.takeF k q).1.Wf Q∧(a.takeF k q).1.slotAt k={a.slotAt k with qty:=(a.slotAt k).qty-q}∧(a.takeF k q).1.free=a.free):=by
 obtain⟨hk2,⟨p,t,hs⟩,hk1⟩:=h.toWf0.mem hl hk
 have hkl:k<a.slots.length:=by rw[h.len];exact hk2
 have hu:a.usedAt k=true:=by
  simp only[Arena.usedAt,ySs,yTj]
  refine⟨by omega,by omega,?_⟩
  rw[ySt]
  exact hs.used
 have hless:=h.toWf0.less hl hk (q:=q) (by omega)
 have hat:=zCq a k q
 rw[Arena.takeF,ySe (by rw[hu];decide),ySt,ySe (by omega)]
 by_cases e:(a.slotAt k).qty=q
 ·rw[ySf e,ySf e]
  obtain⟨l1,l2,rfl⟩:=List.append_of_mem hk
  have hnd:=h.nd n _ hl
  have hd:=yUt.1 hnd
  have k1:k∉l1:=fun hk=>hd.2.2 k hk k ySk rfl
  obtain⟨d1,d2,d3,d4⟩:=hless.drop hl (by rw[hat k hkl,ySf rfl];dsimp only;omega)
  have ee:(l1++k::l2).erase k=l1++l2:=by rw[List.erase_append_right _ k1,List.erase_cons_head]
  refine⟨rfl,fun j hj=> ?_,?_,d3,d4⟩
  ·have:=d2 j hj
   rw[hat j hkl,ySe hj]at this
   exact⟨this.1,this.2.1⟩
  ·rw[ee]
   refine⟨d1,fun m l' hm j hj=> ?_⟩
   have hj2:j≠k∧∃l'',Q[m]? =some l''∧j∈l'':=by
    have hd2:=yUb.1 hd.2.1
    rcases vE hm with⟨rfl,rfl⟩|⟨e3,hm⟩
    ·refine⟨?_,_,hl,?_⟩
     ·rintro rfl
      rcases yTi.1 hj with hj|hj
      ·exact k1 hj
      ·exact hd2.1 hj
     ·rcases yTi.1 hj with hj|hj
      ·exact yTr _ hj
      ·exact yTu _ (ySl _ hj)
    ·refine⟨?_,_,hm,hj⟩
     rintro rfl
     exact e3 (h.toWf0.one hm hl hj hk)
   obtain⟨hj3,l'',hm2,hj4⟩:=hj2
   have:=(d2 j hj3).2.2
   rw[hat j hkl,ySe hj3]at this
   dsimp only
   rw[this]
   exact h.pos m l'' hm2 j hj4
 ·rw[ySe e,ySe e]
  refine⟨rfl,fun j hj=> ?_,⟨hless,fun m l' hm j hj=> ?_⟩,?_,rfl⟩
  ·dsimp only
   rw[hat j hkl,ySe hj];exact⟨rfl,rfl⟩
  ·dsimp only
   rw[hat j hkl]
   split
   ·rename_i c
    subst c
    dsimp only
    omega
   ·exact h.pos m l' hm j hj
  ·dsimp only
   rw[hat k hkl,ySf rfl]
open Go Cv Go.Proofs
theorem xF {α β:Type} {f g:α→List β}:∀{l:List α},(∀x∈l,f x=g x)→l.flatMap f=l.flatMap g
 |[],_=>rfl
 |x::l,h=>by rw[yTv,yTv,h x ySk,xF fun y hy=>h y (ySl _ hy)]
theorem rK {α β γ:Type} {f:α→List β} {g:β→γ}:∀(l:List α),(l.flatMap f).map g=l.flatMap fun x=>(f x).map g
 |[]=>rfl
 |x::l=>by rw[yTv,yTv,ySr,rK l]
theorem zZz {α β:Type} {f:α→List β}:∀{l:List α},(∀x∈l,f x≠[])→l.length≤(l.flatMap f).length
 |[],_=>yTd 0
 |x::l,h=>by
  have:=zZz (l:=l) fun y hy=>h y (ySl _ hy)
  have:=List.length_pos_iff.2 (h x ySk)
  rw[yTv,ySm,ySx];omega
theorem zFx {α:Type} [DecidableEq α]:∀{l m:List α},l.Nodup→(∀x∈l,x∈m)→l.length≤m.length
 |[],_,_,_=>yUq _
 |x::l,m,h,hs=>by
  have hd:=yUb.1 h
  have hx:=hs x ySk
  have:=zFx (l:=l) (m:=m.erase x) hd.2 fun y hy=>by
   have hne:y≠x:=by rintro rfl;exact hd.1 hy
   exact(List.mem_erase_of_ne hne).2 (hs y (ySl _ hy))
  rw[List.length_erase_of_mem hx]at this
  have:=List.length_pos_of_mem hx
  rw[ySx];omega
theorem z6y {l:List Int} (h:l.Nodup) (hr:∀x∈l,0≤x∧x<l.length) {n:Nat} (hn:n<l.length):(n:Int)∈l:=by
 apply Classical.byContradiction
 intro hx
 have hnd:((n:Int)::l).Nodup:=yUb.2 ⟨hx,h⟩
 have:=zFx (m:=(List.range l.length).map fun k:Nat=>(k:Int)) hnd fun y hy=>by
  rw[yTh]
  rcases ySy.1 hy with rfl|hy
  ·exact⟨n,yUv.2 hn,rfl⟩
  ·have:=hr y hy
   exact⟨y.toNat,yUv.2 (by omega),by omega⟩
 simp at this
 omega
theorem zBv {α β:Type} {l:List (α×β)} (h:(l.map (·.1)).Nodup) {k:α} {x y:β} (hx:(k,x)∈l) (hy:(k,y)∈l):x=y:=by
 induction l with
 |nil=>cases hx
 |cons p l ih=>
  rw[ySn,yUb]at h
  rcases ySy.1 hx with ex|hx<;>rcases ySy.1 hy with ey|hy
  ·rw[← ex]at ey;exact(Prod.mk.inj ey).2.symm
  ·exact absurd (yTb (f:=(·.1)) hy) (by rw[← ex]at h;exact h.1)
  ·exact absurd (yTb (f:=(·.1)) hx) (by rw[← ey]at h;exact h.1)
  ·exact ih h.2 hx hy
theorem sD:∀{l:List (Int×Place)} {k:Int} {x:Place},pget l k=some x→(k,x)∈l
 |[],k,x,h=>by cases h
 |p::l,k,x,h=>by
  rw[pget,yYk]at h
  by_cases e:p.1=k
  ·rw[ySw e]at h
   simp only[yUk,Option.some.injEq]at h
   subst h;subst e
   exact ySk
  ·rw[ySp e]at h
   exact ySl _ (sD h)
theorem zFy {l:List (Int×Place)} {k:Int} (h:pget l k=none):k∉l.map (·.1):=by
 intro hk
 obtain⟨⟨k',x⟩,hx,rfl⟩:=yTh.1 hk
 rw[pget,Option.map_eq_none_iff,List.find?_eq_none]at h
 have:=h _ hx
 simp at this
theorem zVe:∀{l:List (Int×Place)} {k:Int} {x:Place},k∉l.map (·.1)→nX k x l=l++[(k,x)]
 |[],k,x,_=>rfl
 |p::l,k,x,h=>by
  rw[ySn,ySy,not_or]at h
  rw[nX,ySe h.1,zVe h.2];rfl
def xE (Q:List (List Nat)) (r:xN):List Nat:=Q.getD r.queue.toNat []
def z8p (s p:Int) (e:Ent):zD:=⟨e.id,s,p,e.qty,e.top⟩
def wH (a:Arena) (s p:Int) (k:Nat):zD:=z8p s p (a.slotAt k).ent
def Book.rOrds (b:Book) (Q:List (List Nat)) (s:Int) (r:xN):List zD:=(xE Q r).map (wH b.a s r.price)
def Book.sideL (b:Book) (Q:List (List Nat)) (s:Int):List zD:=(b.rungs s).flatMap (b.rOrds Q s)
def Book.flat (b:Book) (Q:List (List Nat)):List zD:=b.sideL Q 1++b.sideL Q 2
def vB (a:Arena) (s p:Int) (k:Nat):Int×Place:=((a.slotAt k).id,⟨s,p,k⟩)
def Book.plcs (b:Book) (Q:List (List Nat)) (s:Int):List (Int×Place):=(b.rungs s).flatMap fun r=>(xE Q r).map (vB b.a s r.price)
def Book.qs (b:Book):List Int:=b.buys.map (·.queue)++b.sells.map (·.queue)++b.spare
structure Book.Core (b:Book) (Q:List (List Nat)) (hole:Int):Prop where
 wf:b.a.Wf Q
 srt:∀s,s=1∨s=2→(b.rungs s).Pairwise fun r r'=>btr s r.price r'.price=true
 rng:∀q∈b.qs,0≤q∧q<Q.length
 nd:b.qs.Nodup
 ql:b.qs.length=Q.length
 ne:∀s,s=1∨s=2→∀r∈b.rungs s,r.queue≠hole→xE Q r≠[]
 sp:∀q∈b.spare,Q.getD q.toNat []=[]
 at_:b.at_.Perm (b.plcs Q 1++b.plcs Q 2)
 ids:((b.flat Q).map (·.id)).Nodup
 qb:Q.length≤250
structure Book.Tops (b:Book) (L:List zD):Prop where
 fl:∀o∈L,o.top=(b.hasF o.side && decide (o.id=b.topI o.side))
 th:∀s,s=1∨s=2→b.hasF s=true→∃o∈L,o.side=s∧o.id=b.topI s
structure Book.Rep (b:Book) (L:List zD):Prop where
 ex:∃Q,b.Core Q (-1)∧b.Tops L∧L=b.flat Q
theorem bU (b:Book) (Q:List (List Nat)) (s:Int):(b.plcs Q s).map (·.1)=(b.sideL Q s).map (·.id):=by
 rw[Book.plcs,Book.sideL,rK,rK]
 refine xF fun r _=> ?_
 rw[Book.rOrds,yUx,yUx]
 rfl
theorem Book.Core.keysP {b:Book} {Q:List (List Nat)} {h:Int} (c:b.Core Q h):(b.at_.map (·.1)).Perm ((b.flat Q).map (·.id)):=by
 have:=c.at_.map (·.1)
 rw[ySr,bU,bU,← ySr]at this
 exact this
theorem Book.Core.keys {b:Book} {Q:List (List Nat)} {h:Int} (c:b.Core Q h):(b.at_.map (·.1)).Nodup:=c.keysP.nodup_iff.2 c.ids
theorem Book.Core.len {b:Book} {Q:List (List Nat)} {h:Int} (c:b.Core Q h):b.at_.length=(b.flat Q).length:=by
 have:=c.keysP.length_eq
 simpa using this
theorem Book.Core.plc {b:Book} {Q:List (List Nat)} {h:Int} (c:b.Core Q h) {s:Int} (hs:s=1∨s=2) {r:xN} (hr:r∈b.rungs s) {k:Nat} (hk:k∈xE Q r):((b.a.slotAt k).id,(⟨s,r.price,k⟩:Place))∈b.at_:=by
 refine c.at_.mem_iff.2 ?_
 have hp:vB b.a s r.price k∈b.plcs Q s:=yUg.2 ⟨r,hr,yTb hk⟩
 rcases hs with rfl|rfl
 ·exact yTr _ hp
 ·exact yTu _ hp
theorem Book.Core.plcI {b:Book} {Q:List (List Nat)} {h:Int} (c:b.Core Q h) {id:Int} {x:Place} (hx:(id,x)∈b.at_):∃(k:Nat) (r:xN),(x.side=1∨x.side=2)∧r∈b.rungs x.side∧k∈xE Q r∧x=⟨x.side,r.price,k⟩∧(b.a.slotAt k).id=id:=by
 have:=c.at_.mem_iff.1 hx
 rcases yTi.1 this with hp|hp
 all_goals
  obtain⟨r,hr,hp⟩:=yUg.1 hp
  obtain⟨k,hk,e⟩:=yTh.1 hp
  simp only[vB,Prod.mk.injEq]at e
  obtain⟨e1,rfl⟩:=e
  exact⟨k,r,by simp,hr,hk,rfl,e1⟩
theorem zUn {Q:List (List Nat)} {r:xN} (h:0≤r.queue∧r.queue<Q.length):Q[r.queue.toNat]? =some (xE Q r):=by
 obtain⟨l,hl⟩:=z6 (l:=Q) (i:=r.queue.toNat) (by omega)
 rw[xE,zI hl,hl]
theorem uR {b:Book} {s:Int} (hs:s=1∨s=2) {r:xN} (hr:r∈b.rungs s):r.queue∈b.qs:=by
 rcases hs with rfl|rfl
 ·exact yTr _ (yTr _ (yTb (f:=(·.queue)) hr))
 ·exact yTr _ (yTu _ (yTb (f:=(·.queue)) hr))
theorem Book.Core.get {b:Book} {Q:List (List Nat)} {h:Int} (c:b.Core Q h) {s:Int} (hs:s=1∨s=2) {r:xN} (hr:r∈b.rungs s):Q[r.queue.toNat]? =some (xE Q r):=zUn (c.rng _ (uR hs hr))
def clr (L:List zD) (s:Int):List zD:=L.map fun o=>if o.side=s then{o with top:=false}else o
theorem nY (s x:Int):btr s x x=false:=by
 rw[btr];split<;>exact ySp (by omega)
theorem Book.Core.flag {b:Book} {Q:List (List Nat)} {h:Int} (c:b.Core Q h) {a':Arena} (hw:a'.Wf Q) (hi:∀k,(a'.slotAt k).id=(b.a.slotAt k).id):({b with a:=a'}:Book).Core Q h:=by
 have e1:∀s,({b with a:=a'}:Book).plcs Q s=b.plcs Q s:=by
  intro s
  refine xF fun r _=>yTq fun k _=> ?_
  simp only[vB,hi]
 have e2:((({b with a:=a'}:Book).flat Q).map (·.id))=(b.flat Q).map (·.id):=by
  rw[Book.flat,Book.flat,ySr,ySr,← bU,← bU,← bU,← bU,e1,e1]
 exact⟨hw,c.srt,c.rng,c.nd,c.ql,c.ne,c.sp,by rw[e1,e1];exact c.at_,by rw[e2];exact c.ids,c.qb⟩
theorem yFn (a:Arena) (n:Int) (t:Bool) (k:Nat):((a.topF n t).slotAt k).id=(a.slotAt k).id:=by
 rw[zRo];split<;>rfl
theorem Book.Core.untop {b:Book} {Q:List (List Nat)} {h:Int} (c:b.Core Q h) (s:Int):(b.untop s).Wf Q∧∀k,((b.untop s).slotAt k).id=(b.a.slotAt k).id:=by
 rw[Book.untop]
 repeat' split
 all_goals first|exact⟨c.wf,fun _=>rfl⟩|exact⟨c.wf.top _ _,fun k=>yFn _ _ _ k⟩
theorem Book.Core.untop_flat {b:Book} {Q:List (List Nat)} {h:Int} (c:b.Core Q h) (ht:b.Tops (b.flat Q)) {s:Int} (hs:s=1∨s=2):({b with a:=b.untop s}:Book).flat Q=clr (b.flat Q) s:=by
 have hfl:∀{s':Int} (hs':s'=1∨s'=2) {r:xN} (hr:r∈b.rungs s') {k:Nat} (hk:k∈xE Q r),(b.a.slotAt k).top=(b.hasF s' && decide ((b.a.slotAt k).id=b.topI s')):=by
  intro s' hs' r hr k hk
  have hm:wH b.a s' r.price k∈b.flat Q:=by
   have:wH b.a s' r.price k∈b.sideL Q s':=yUg.2 ⟨r,hr,yTb hk⟩
   rcases hs' with rfl|rfl
   ·exact yTr _ this
   ·exact yTu _ this
  exact ht.fl _ hm
 have key:∀{s':Int} (hs':s'=1∨s'=2) {r:xN} (hr:r∈b.rungs s') {k:Nat} (hk:k∈xE Q r),((b.untop s).slotAt k).ent=if s'=s then{(b.a.slotAt k).ent with top:=false}else(b.a.slotAt k).ent:=by
  intro s' hs' r hr k hk
  have hplc:=c.plc hs' hr hk
  have htop:=hfl hs' hr hk
  have hno:(b.a.slotAt k).top=false→(b.a.slotAt k).ent=if s'=s then{(b.a.slotAt k).ent with top:=false}else(b.a.slotAt k).ent:=by
   intro e
   split
   ·rw[Slot.ent,e]
   ·rfl
  rw[Book.untop]
  by_cases hh:b.hasF s=true
  ·rw[ySf hh]
   cases hg:pget b.at_ (b.topI s)with
   |none=>
    dsimp only
    by_cases e:s'=s
    ·subst e
     refine hno ?_
     rw[htop,hh,yTm]
     refine ySp fun e2=> ?_
     rw[← e2]at hg
     exact zFy hg (yTb (f:=(·.1)) hplc)
    ·rw[ySe e]
   |some o=>
    dsimp only
    obtain⟨k',r',hs2,hr2,hk2,ho,hid⟩:=c.plcI (sD hg)
    by_cases es:o.side=s
    ·rw[ySf es,zRo]
     have hos:o.slot=(k':Int):=by rw[ho]
     by_cases ek:k=k'
     ·subst ek
      have hu:b.a.usedAt o.slot=true:=by
       obtain⟨_,⟨_,_,h2⟩,h3⟩:=c.wf.toWf0.mem (c.get hs' hr) hk
       have hlt:=(ySg.1 h3).1
       simp only[Arena.usedAt,ySs,yTj,hos,ySt]
       exact⟨by omega,by omega,h2.used⟩
      rw[ySf ⟨hu,by rw[hos];rfl⟩]
      have:=c.plc hs2 hr2 hk2
      have e3:=zBv c.keys hplc this
      have e4:s'=s:=by
       have:=congrArg Place.side e3
       dsimp only at this
       rw[this,es]
      rw[ySf e4];rfl
     ·rw[ySe (fun e=>ek (by have:=e.2;rw[hos]at this;simpa using this))]
      by_cases e:s'=s
      ·subst e
       refine hno ?_
       rw[htop,hh,yTm]
       refine ySp fun e2=>ek ?_
       have hp2:=c.plc hs2 hr2 hk2
       rw[hid,← e2]at hp2
       have e3:=zBv c.keys hplc hp2
       have:=congrArg Place.slot e3
       dsimp only at this
       omega
      ·rw[ySe e]
    ·rw[ySe es]
     by_cases e:s'=s
     ·subst e
      refine hno ?_
      rw[htop,hh,yTm]
      refine ySp fun e2=>es ?_
      have hp2:=sD hg
      rw[← e2]at hp2
      have e3:=zBv c.keys hplc hp2
      rw[← e3]
     ·rw[ySe e]
  ·rw[ySe hh]
   by_cases e:s'=s
   ·subst e
    refine hno ?_
    have:b.hasF s'=false:=by simpa using hh
    rw[htop,this,yTz]
   ·rw[ySe e]
 have side:∀s',s'=1∨s'=2→({b with a:=b.untop s}:Book).sideL Q s'=clr (b.sideL Q s') s:=by
  intro s' hs'
  rw[clr,Book.sideL,Book.sideL,rK]
  refine xF fun r hr=> ?_
  rw[Book.rOrds,Book.rOrds,yUx]
  refine yTq fun k hk=> ?_
  simp only[wH,Function.comp,key hs' hr hk,z8p]
  by_cases e:s'=s
  ·rw[ySf e];exact(ySf e).symm
  ·rw[ySe e];exact(ySe e).symm
 rw[Book.flat,side 1 (.inl rfl),side 2 (.inr rfl),Book.flat,clr,clr,clr,ySr]
open Go Cv Go.Proofs
def before (s p:Int) (o:zD):Bool:=decide (o.side<s)||(decide (o.side=s) && !btr s p o.price)
def uT (L:List zD) (s p:Int):Bool:=L.all fun o=> !decide (o.side=s)||btr s p o.price
def zAk (L:List zD) (s id p q:Int):List zD:=
 let L1:=if uT L s p=true then clr L s else L
 L1.takeWhile (before s p)++⟨id,s,p,q,uT L s p⟩::L1.dropWhile (before s p)
theorem z7k {α:Type} {f:α→Bool}:∀{A B:List α},(∀x∈A,f x=true)→(∀x∈B,f x=false)→(A++B).takeWhile f=A∧(A++B).dropWhile f=B
 |[],[],_,_=>⟨rfl,rfl⟩
 |[],b::B,_,h=>by
  have:=h b ySk
  simp[this]
 |a::A,B,h,h2=>by
  obtain⟨i1,i2⟩:=z7k (A:=A) (B:=B) (fun x hx=>h x (ySl _ hx)) h2
  have:=h a ySk
  rw[yTt,List.takeWhile_cons,List.dropWhile_cons,this]
  simp[i1,i2]
theorem qF {b:Book} {Q:List (List Nat)} {s:Int} {r:xN} {o:zD} (h:o∈b.rOrds Q s r):o.side=s∧o.price=r.price:=by
 obtain⟨k,_,rfl⟩:=yTh.1 h
 exact⟨rfl,rfl⟩
theorem b8 {b:Book} {Q:List (List Nat)} {s:Int} {o:zD} (h:o∈b.sideL Q s):o.side=s∧∃r∈b.rungs s,o∈b.rOrds Q s r∧o.price=r.price:=by
 obtain⟨r,hr,ho⟩:=yUg.1 h
 exact⟨(qF ho).1,r,hr,ho,(qF ho).2⟩
structure Spl (s p:Int) (R1 R2:List xN):Prop where
 a:∀r∈R1,btr s r.price p=true
 b:∀r∈R2,btr s p r.price=true
theorem zWx {s x y:Int} (h:btr s x y=true):btr s y x=false:=by
 rw[btr]at h ⊢
 split at h
 ·rename_i e;rw[ySf e];have:=yVd h;exact ySp (by omega)
 ·rename_i e;rw[ySe e];have:=yVd h;exact ySp (by omega)
theorem zOl {s x y z:Int} (h:btr s x y=true) (h2:btr s y z=true):btr s x z=true:=by
 rw[btr]at h h2 ⊢
 split at h
 ·rename_i e;rw[ySf e]at h2 ⊢;have:=yVd h;have:=yVd h2;exact ySw (by omega)
 ·rename_i e;rw[ySe e]at h2 ⊢;have:=yVd h;have:=yVd h2;exact ySw (by omega)
theorem z6o {s x y:Int} (h:btr s x y=false) (hne:x≠y):btr s y x=true:=by
 rw[btr]at h ⊢
 split at h
 ·rename_i e;rw[ySf e];have:=yVx h;exact ySw (by omega)
 ·rename_i e;rw[ySe e];have:=yVx h;exact ySw (by omega)
theorem lG {s p:Int} {l:List xN} (hs:l.Pairwise fun r r'=>btr s r.price r'.price=true):
 (∀r∈l.take (zX s l p),btr s r.price p=true)∧
 (if kR s l p=true then ∃r,l[zX s l p]? =some r∧r.price=p∧∀r'∈l.drop (zX s l p+1),btr s p r'.price=true
  else ∀r'∈l.drop (zX s l p),btr s p r'.price=true):=by
 have e1:l.take (zX s l p)=l.takeWhile fun r=>btr s r.price p:=by
  rw[zX]
  have h:=List.take_left (l₁:=l.takeWhile fun r=>btr s r.price p) (l₂:=l.dropWhile fun r=>btr s r.price p)
  rwa [yXd]at h
 have e2:l.drop (zX s l p)=l.dropWhile fun r=>btr s r.price p:=by
  have h:=yUm (zX s l p) l
  have h2:=yXd (p:=fun r:xN=>btr s r.price p) (l:=l)
  rw[e1]at h
  exact List.append_cancel_left (h.trans h2.symm)
 refine⟨fun r hr=> ?_,?_⟩
 ·rw[e1]at hr
  exact yVh.1 List.all_takeWhile r hr
 have hd:∀r,l[zX s l p]? =some r→btr s r.price p=false:=by
  intro r hr
  have h0:(l.drop (zX s l p))[0]? =some r:=by rw[yVg];exact hr
  rw[e2]at h0
  cases hdw:l.dropWhile fun r=>btr s r.price p with
  |nil=>rw[hdw]at h0;cases h0
  |cons x y=>
   rw[hdw]at h0
   cases h0
   have:=List.head?_dropWhile_not (fun r:xN=>btr s r.price p) l
   rw[hdw]at this
   simpa using this
 have hpw:∀r r',l[zX s l p]? =some r→r'∈l.drop (zX s l p+1)→btr s r.price r'.price=true:=by
  intro r r' hr hr'
  have hlt:=(ySg.1 hr).1
  have:=List.Pairwise.sublist (List.drop_sublist (zX s l p) l) hs
  rw[yUy hlt,yWh,(ySg.1 hr).2]at this
  exact this.1 r' hr'
 split
 ·rename_i hb
  rw[kR]at hb
  cases hr:l[zX s l p]? with
  |none=>rw[hr]at hb;cases hb
  |some r=>
   rw[hr]at hb
   have hp:r.price=p:=yVd hb
   exact⟨r,rfl,hp,fun r' hr'=>by rw[← hp];exact hpw r r' hr hr'⟩
 ·rename_i hb
  intro r' hr'
  by_cases hlt:zX s l p<l.length
  ·obtain⟨r,hr⟩:=z6 hlt
   rw[kR,hr]at hb
   have hp:¬r.price=p:=fun e=>hb (ySw e)
   have h1:=z6o (hd r hr) hp
   rw[yUy hlt,(ySg.1 hr).2]at hr'
   rcases ySy.1 hr' with rfl|hr'
   ·exact h1
   ·exact zOl h1 (hpw r r' hr hr')
  ·rw[yVp (by omega)]at hr'
   cases hr'
def Book.setR (b:Book) (s:Int) (l:List xN):Book:=if s=1 then{b with buys:=l}else{b with sells:=l}
theorem z3h {b:Book} {s:Int} (hs:s=1∨s=2):∃rest,b.qs.Perm ((b.rungs s).map (·.queue)++rest)∧∀l,(b.setR s l).qs.Perm (l.map (·.queue)++rest):=by
 rcases hs with rfl|rfl
 ·refine⟨b.sells.map (·.queue)++b.spare,?_,fun l=> ?_⟩
  ·rw[Book.qs,ySq];exact .refl _
  ·show(l.map (·.queue)++b.sells.map (·.queue)++b.spare).Perm _
   rw[ySq]
 ·refine⟨b.buys.map (·.queue)++b.spare,?_,fun l=> ?_⟩
  ·rw[Book.qs]
   show(b.buys.map (·.queue)++b.sells.map (·.queue)++b.spare).Perm (b.sells.map (·.queue)++(b.buys.map (·.queue)++b.spare))
   rw[← ySq];exact yUh.append_right _
  ·show(b.buys.map (·.queue)++l.map (·.queue)++b.spare).Perm (l.map (·.queue)++(b.buys.map (·.queue)++b.spare))
   rw[← ySq];exact yUh.append_right _
structure Queued (b:Book) (Q:List (List Nat)) (s p:Int) (b':Book) (n:Int) (Q':List (List Nat)) (R1 R2:List xN):Prop where
 core:b'.Core Q' n
 rungs:b'.rungs s=R1++⟨p,n⟩::R2
 spl:Spl s p R1 R2
 flat:b'.flat Q'=b.flat Q
 at_:b'.at_=b.at_
 free:b'.a.free=b.a.free
 tops:∀L,b.Tops L→b'.Tops L
 qty:∀x,b'.hasF x=b.hasF x∧b'.topI x=b.topI x
theorem z7s {α:Type} {l:List α} {x d:α} {n:Nat}:(l++[x]).getD n d=if n=l.length then x else l.getD n d:=by
 rw[ySi,ySi,List.getElem?_append]
 split
 ·rw[ySe (by omega)]
 ·rename_i h
  by_cases e:n=l.length
  ·rw[ySf e,e,yXv];rfl
  ·rw[ySe e,yTf (show([x]:List α).length≤n-l.length by simp;omega),yTf (by omega)]
theorem Book.Core.add {b:Book} {Q:List (List Nat)} (c:b.Core Q (-1)) {s p n:Int} (hs:s=1∨s=2) {R1 R2:List xN} (hr:b.rungs s=R1++R2) (spl:Spl s p R1 R2) {b':Book} {Q':List (List Nat)}
 (hrs:b'.rungs s=R1++⟨p,n⟩::R2) (hro:∀s',s'≠s→s'=1∨s'=2→b'.rungs s'=b.rungs s') (hat:b'.at_=b.at_) (hw:b'.a.Wf Q') (hsl:b'.a.slots=b.a.slots)
 (hQ:∀k,Q'.getD k []=Q.getD k []) (hn:Q.getD n.toNat []=[]) (hrng:∀q∈b'.qs,0≤q∧q<Q'.length) (hnd:b'.qs.Nodup) (hql:b'.qs.length=Q'.length) (hsp:∀q∈b'.spare,Q.getD q.toNat []=[]) (hqb:Q'.length≤250):
 b'.Core Q' n∧b'.flat Q'=b.flat Q:=by
 have hslQ:∀r,xE Q' r=xE Q r:=fun r=>hQ _
 have hsa:∀k,b'.a.slotAt k=b.a.slotAt k:=fun k=>by rw[Arena.slotAt,Arena.slotAt,hsl]
 have hn':xE Q ⟨p,n⟩=[]:=hn
 have hro':∀s' r,b'.rOrds Q' s' r=b.rOrds Q s' r:=by
  intro s' r
  rw[Book.rOrds,Book.rOrds,hslQ]
  exact yTq fun k _=>by rw[wH,wH,hsa]
 have hpo:∀s' (r:xN),(xE Q' r).map (vB b'.a s' r.price)=(xE Q r).map (vB b.a s' r.price):=by
  intro s' r
  rw[hslQ]
  exact yTq fun k _=>by rw[vB,vB,hsa]
 have hside:∀s',s'=1∨s'=2→b'.sideL Q' s'=b.sideL Q s':=by
  intro s' hs'
  rw[Book.sideL,Book.sideL]
  by_cases e:s'=s
  ·subst e
   rw[hrs,hr,yUc,yUc,yTv,xF (fun r _=>hro' s' r),xF (l:=R2) (fun r _=>hro' s' r),hro',Book.rOrds,hn',yWe,yUu]
  ·rw[hro s' e hs'];exact xF fun r _=>hro' s' r
 have hplc:∀s',s'=1∨s'=2→b'.plcs Q' s'=b.plcs Q s':=by
  intro s' hs'
  rw[Book.plcs,Book.plcs]
  by_cases e:s'=s
  ·subst e
   rw[hrs,hr,yUc,yUc,yTv,xF (fun r _=>hpo s' r),xF (l:=R2) (fun r _=>hpo s' r),hpo,hn',yWe,yUu]
  ·rw[hro s' e hs'];exact xF fun r _=>hpo s' r
 have hflat:b'.flat Q'=b.flat Q:=by rw[Book.flat,Book.flat,hside 1 (.inl rfl),hside 2 (.inr rfl)]
 refine⟨⟨hw,fun s' hs'=> ?_,hrng,hnd,hql,fun s' hs' r hr' hne=> ?_,fun q hq=>by rw[hQ];exact hsp q hq,by rw[hat,hplc 1 (.inl rfl),hplc 2 (.inr rfl)];exact c.at_,by rw[hflat];exact c.ids,hqb⟩,hflat⟩
 ·by_cases e:s'=s
  ·subst e
   have h0:=c.srt s' hs'
   rw[hr,List.pairwise_append]at h0
   rw[hrs,List.pairwise_append,yWh]
   refine⟨h0.1,⟨spl.b,h0.2.1⟩,fun x hx y hy=> ?_⟩
   rcases ySy.1 hy with rfl|hy
   ·exact spl.a x hx
   ·exact h0.2.2 x hx y hy
  ·rw[hro s' e hs'];exact c.srt s' hs'
 ·rw[hslQ]
  have hold:∀r∈b.rungs s',xE Q r≠[]:=fun r hr=>c.ne s' hs' r hr fun e=>by
   have:=c.rng _ (uR hs' hr)
   omega
  by_cases e:s'=s
  ·subst e
   rw[hrs]at hr'
   rcases yTi.1 hr' with h|h
   ·exact hold r (by rw[hr];exact yTr _ h)
   ·rcases ySy.1 h with rfl|h
    ·exact absurd rfl hne
    ·exact hold r (by rw[hr];exact yTu _ h)
  ·rw[hro s' e hs']at hr';exact hold r hr'
theorem zLa (b:Book) {s:Int} (hs:s=1∨s=2) (l:List xN):(b.setR s l).rungs s=l∧∀s',s'≠s→s'=1∨s'=2→(b.setR s l).rungs s'=b.rungs s':=by
 rcases hs with rfl|rfl
 ·exact⟨rfl,fun s' h h2=>by rcases h2 with rfl|rfl;exact absurd rfl h;rfl⟩
 ·exact⟨rfl,fun s' h h2=>by rcases h2 with rfl|rfl;rfl;exact absurd rfl h⟩
theorem z4j (b:Book) {s p:Int} (hs:s=1∨s=2):b.queueF s p=if kR s (b.rungs s) p=true then(b,((b.rungs s).getD (zX s (b.rungs s) p) ⟨0,0⟩).queue)else(({b with a:=b.newQ.2.2,spare:=b.newQ.2.1}:Book).setR s (b.ins s p),b.newQ.1):=by
 rcases hs with rfl|rfl<;>rfl
theorem Book.Core.queue {b:Book} {Q:List (List Nat)} (c:b.Core Q (-1)) (hl:(b.flat Q).length<250) {s:Int} (hs:s=1∨s=2) (p:Int):∃Q' R1 R2,Queued b Q s p (b.queueF s p).1 (b.queueF s p).2 Q' R1 R2:=by
 have hsp:=lG (p:=p) (c.srt s hs)
 rw[z4j b hs]
 by_cases hb:kR s (b.rungs s) p=true
 ·rw[ySf hb]at hsp ⊢
  obtain⟨h1,r,hr,hp,h2⟩:=hsp
  have hlt:=(ySg.1 hr).1
  have er:(⟨p,r.queue⟩:xN)=r:=by rw[← hp]
  have hsplit:b.rungs s=(b.rungs s).take (zX s (b.rungs s) p)++r::(b.rungs s).drop (zX s (b.rungs s) p+1):=by
   conv=>lhs;rw[← yUm (zX s (b.rungs s) p) (b.rungs s)]
   rw[yUy hlt,(ySg.1 hr).2]
  refine⟨Q,_,_,⟨⟨c.wf,c.srt,c.rng,c.nd,c.ql,fun s' hs' r' hr' _=>c.ne s' hs' r' hr' fun e=> ?_,c.sp,c.at_,c.ids,c.qb⟩,?_,⟨h1,h2⟩,rfl,rfl,rfl,fun _ h=>h,fun _=>⟨rfl,rfl⟩⟩⟩
  ·have:=c.rng _ (uR hs' hr');omega
  ·dsimp only
   rw[zI hr,er];exact hsplit
 ·rw[ySe hb]at hsp ⊢
  obtain⟨h1,h2⟩:=hsp
  have hr:b.rungs s=(b.rungs s).take (zX s (b.rungs s) p)++(b.rungs s).drop (zX s (b.rungs s) p):=(yUm _ _).symm
  obtain⟨g1,g2⟩:=zLa ({b with a:=b.newQ.2.2,spare:=b.newQ.2.1}:Book) hs (b.ins s p)
  have tops:∀x,((({b with a:=b.newQ.2.2,spare:=b.newQ.2.1}:Book).setR s (b.ins s p)).hasF x=b.hasF x∧(({b with a:=b.newQ.2.2,spare:=b.newQ.2.1}:Book).setR s (b.ins s p)).topI x=b.topI x):=by
   intro x;rcases hs with rfl|rfl<;>exact⟨rfl,rfl⟩
  have hat:(({b with a:=b.newQ.2.2,spare:=b.newQ.2.1}:Book).setR s (b.ins s p)).at_=b.at_:=by rcases hs with rfl|rfl<;>rfl
  have ha:(({b with a:=b.newQ.2.2,spare:=b.newQ.2.1}:Book).setR s (b.ins s p)).a=b.newQ.2.2:=by rcases hs with rfl|rfl<;>rfl
  have hspr:(({b with a:=b.newQ.2.2,spare:=b.newQ.2.1}:Book).setR s (b.ins s p)).spare=b.newQ.2.1:=by rcases hs with rfl|rfl<;>rfl
  obtain⟨rest,q1,q2⟩:=z3h (b:=({b with a:=b.newQ.2.2,spare:=b.newQ.2.1}:Book)) hs
  have q2:=q2 (b.ins s p)
  have hqs:(({b with a:=b.newQ.2.2,spare:=b.newQ.2.1}:Book).setR s (b.ins s p)).qs.Perm (b.newQ.1::({b with a:=b.newQ.2.2,spare:=b.newQ.2.1}:Book).qs):=by
   refine q2.trans (.trans ?_ (q1.symm.cons _))
   rw[← yTt]
   refine List.Perm.append_right _ ?_
   show((b.ins s p).map (·.queue)).Perm (b.newQ.1::(b.rungs s).map (·.queue))
   conv=>rhs;rw[hr]
   rw[Book.ins,ySr,ySr,ySn]
   exact ySv
  generalize hB:(({b with a:=b.newQ.2.2,spare:=b.newQ.2.1}:Book).setR s (b.ins s p))=B at*
  have fin:∀Q',B.a.Wf Q'→B.a.slots=b.a.slots→B.a.free=b.a.free→(∀k,Q'.getD k []=Q.getD k [])→Q.getD b.newQ.1.toNat []=[]→(∀q∈B.qs,0≤q∧q<Q'.length)→B.qs.Nodup→B.qs.length=Q'.length→(∀q∈B.spare,Q.getD q.toNat []=[])→Q'.length≤250→∃Q' R1 R2,Queued b Q s p B b.newQ.1 Q' R1 R2:=by
   intro Q' w1 w2 w3 w4 w5 w6 w7 w8 w9 w10
   obtain⟨u1,u2⟩:=c.add hs hr ⟨h1,h2⟩ (b':=B) (Q':=Q') (n:=b.newQ.1) (by rw[g1];rfl) g2 hat w1 w2 w4 w5 w6 w7 w8 w9 w10
   refine⟨Q',_,_,⟨u1,g1.trans rfl,⟨h1,h2⟩,u2,hat,w3,fun L h=>⟨fun o ho=> ?_,fun s' hs' hh=> ?_⟩,tops⟩⟩
   ·rw[(tops o.side).1,(tops o.side).2];exact h.fl o ho
   ·rw[(tops s').1]at hh
    rw[(tops s').2];exact h.th s' hs' hh
  by_cases he:b.spare.length=0
  ·have hnq:b.newQ=((b.a.queues.length:Int),b.spare,b.a.openQ):=by rw[Book.newQ,ySf he]
   have hql:=c.wf.ql
   have hspe:b.spare=[]:=yTn he
   have hqs':B.qs.Perm ((Q.length:Int)::b.qs):=by
    rw[hnq]at hqs
    rw[← hql];exact hqs
   refine fin (Q++[[]]) (by rw[ha,hnq];exact c.wf.open) (by rw[ha,hnq];rfl) (by rw[ha,hnq];rfl) (fun k=> ?_) ?_ (fun q hq=> ?_) ?_ ?_ (fun q hq=> ?_) ?_
   ·rw[z7s]
    split
    ·rename_i e;rw[e,ySi,yTf (yTd _)];rfl
    ·rfl
   ·rw[hnq,ySi,yTf (by dsimp only;omega)];rfl
   ·rw[ySm]
    rcases ySy.1 (hqs'.mem_iff.1 hq)with rfl|hq
    ·simp only[yWx];omega
    ·have:=c.rng q hq;simp only[yWx];omega
   ·refine hqs'.nodup_iff.2 (yUb.2 ⟨fun hm=> ?_,c.nd⟩)
    have:=c.rng _ hm;omega
   ·rw[hqs'.length_eq,ySx,ySm,c.ql];rfl
   ·rw[hspr,hnq]at hq
    rw[hspe]at hq;cases hq
   ·have h1:=zZz (l:=b.rungs 1) (f:=b.rOrds Q 1) fun r hr e=>c.ne 1 (.inl rfl) r hr (fun e2=>by have:=c.rng _ (uR (.inl rfl) hr);omega) (List.map_eq_nil_iff.1 e)
    have h2:=zZz (l:=b.rungs 2) (f:=b.rOrds Q 2) fun r hr e=>c.ne 2 (.inr rfl) r hr (fun e2=>by have:=c.rng _ (uR (.inr rfl) hr);omega) (List.map_eq_nil_iff.1 e)
    have h3:=c.ql
    rw[Book.flat,ySm,Book.sideL,Book.sideL]at hl
    rw[Book.qs,ySm,ySm,ySh,ySh,he]at h3
    rw[nO]at h1 hl
    rw[m8]at h2 hl
    rw[ySm,yWx]
    omega
  ·have hnq:b.newQ=(b.spare.getD (b.spare.length-1) 0,b.spare.take (b.spare.length-1),b.a):=by rw[Book.newQ,ySe he]
   obtain⟨sp,q,hspq⟩:∃sp q,b.spare=sp++[q]:=⟨_,_,(List.dropLast_concat_getLast (l:=b.spare) (by intro e;rw[e]at he;exact he rfl)).symm⟩
   have e1:b.newQ=(q,sp,b.a):=by
    rw[hnq,hspq]
    simp
   have hqs':B.qs.Perm b.qs:=by
    refine hqs.trans ?_
    rw[e1]
    show(q::(b.buys.map (·.queue)++b.sells.map (·.queue)++sp)).Perm (b.buys.map (·.queue)++b.sells.map (·.queue)++b.spare)
    rw[hspq,← ySq]
    exact yWs q _|>.symm
   have hq0:q∈b.spare:=by rw[hspq];simp
   refine fin Q (by rw[ha,e1];exact c.wf) (by rw[ha,e1]) (by rw[ha,e1]) (fun _=>rfl) (by rw[e1];exact c.sp q hq0) (fun q hq=>c.rng q (hqs'.mem_iff.1 hq)) (hqs'.nodup_iff.2 c.nd) (by rw[hqs'.length_eq];exact c.ql) (fun q' hq'=> ?_) c.qb
   rw[hspr,e1]at hq'
   exact c.sp q' (by rw[hspq];exact yTr _ hq')
open Go Cv Go.Proofs
theorem Book.Core.used {b:Book} {Q:List (List Nat)} (c:b.Core Q (-1)) (hl:(b.flat Q).length<250):b.a.free≠0:=by
 intro hf
 have hcn:=c.wf.free
 rw[hf]at hcn
 have hz:(b.a.slots.map (·.used)).countP (!·)=0:=by omega
 rw[List.countP_eq_zero]at hz
 have hin:∀k∈List.range 250,k∈((b.rungs 1).flatMap (xE Q)++(b.rungs 2).flatMap (xE Q)):=by
  intro k hk
  have hk:=yUv.1 hk
  obtain⟨s,hs⟩:=z6 (l:=b.a.slots) (i:=k) (by rw[c.wf.len];exact hk)
  have hu:s.used=true:=by
   have:=hz s.used (yTb (ySo hs))
   simpa using this
  obtain⟨n,l,hn,hkl⟩:=c.wf.us k s hs hu
  have hnQ:=(ySg.1 hn).1
  have hm:(n:Int)∈b.qs:=z6y c.nd (fun x hx=>by rw[c.ql];exact c.rng x hx) (by rw[c.ql];exact hnQ)
  have e:∀r:xN,r.queue=(n:Int)→k∈xE Q r:=by
   intro r hr
   rw[xE,hr,ySt,zI hn];exact hkl
  rw[Book.qs]at hm
  rcases yTi.1 hm with hm|hm
  ·rcases yTi.1 hm with hm|hm
   ·obtain⟨r,hr,er⟩:=yTh.1 hm
    exact yTr _ (yUg.2 ⟨r,hr,e r er⟩)
   ·obtain⟨r,hr,er⟩:=yTh.1 hm
    exact yTu _ (yUg.2 ⟨r,hr,e r er⟩)
  ·have:=c.sp _ hm
   rw[ySt,zI hn]at this
   rw[this]at hkl;cases hkl
 have h1:=zFx List.nodup_range hin
 have e:∀s,(b.sideL Q s).length=((b.rungs s).flatMap (xE Q)).length:=by
  intro s
  rw[Book.sideL,yXn,yXn]
  congr 1
  exact yTq fun r _=>by rw[Book.rOrds,ySh]
 rw[ySm,← e,← e,List.length_range]at h1
 rw[Book.flat,ySm]at hl
 omega
theorem zQn {s p:Int} {o:zD} (h:o.side≠s) (hlt:o.side=1∨o.side=2) (hs:s=1∨s=2):before s p o=decide (s=2):=by
 rw[before,ySp h,yTz,Bool.or_false]
 rcases hs with rfl|rfl
 ·rw[ySp (by omega),ySp (by omega)]
 ·rw[ySw (by omega),ySw rfl]
theorem Queued.put {b:Book} {Q:List (List Nat)} {s p:Int} {b':Book} {n:Int} {Q':List (List Nat)} {R1 R2:List xN} (h:Queued b Q s p b' n Q' R1 R2) (hs:s=1∨s=2) {id qty:Int} (top:Bool) (hid:id∉(b.flat Q).map (·.id)) (hf:b.a.free≠0) (hq:1≤qty∧qty≤1000000):
 ∃Q3 A B,({b' with a:=(b'.a.push n id qty top).1,at_:=nX id ⟨s,p,(b'.a.push n id qty top).2.1⟩ b'.at_}:Book).Core Q3 (-1)∧b'.flat Q'=A++B∧
  ({b' with a:=(b'.a.push n id qty top).1,at_:=nX id ⟨s,p,(b'.a.push n id qty top).2.1⟩ b'.at_}:Book).flat Q3=A++⟨id,s,p,qty,top⟩::B∧(∀o∈A,before s p o=true)∧∀o∈B,before s p o=false:=by
 have c:=h.core
 have hrm:(⟨p,n⟩:xN)∈b'.rungs s:=by rw[h.rungs];simp
 have hnr:0≤n∧n<Q'.length:=c.rng n (uR hs hrm)
 obtain⟨m,rfl⟩:∃m:Nat,n=m:=⟨n.toNat,by omega⟩
 have hl:Q'[m]? =some (xE Q' ⟨p,m⟩):=zUn (r:=⟨p,m⟩) hnr
 obtain⟨k,k1,k2,k3,k4,kw,kent,kfree⟩:=c.wf.put (id:=id) hl (by rw[h.free];exact hf) top hq
 have hpush:b'.a.push m id qty top=(b'.a.put m id qty top,(k:Int),0):=by
  have:=c.wf.ql
  rw[Arena.push,ySe (by omega),ySe (by omega),ySe (by rw[h.free];exact hf),k1]
 rw[hpush]
 dsimp only
 have hmQ:=(ySg.1 hl).1
 have hqd:∀s' (r:xN),(s'=1∨s'=2)→r∈b'.rungs s'→(r.queue=m→s'=s∧r=⟨p,m⟩):=by
  intro s' r hs' hr e
  obtain⟨rest,q1,_⟩:=z3h (b:=b') hs
  have hnd:=q1.nodup_iff.1 c.nd
  rw[h.rungs,ySr,ySn]at hnd
  by_cases es:s'=s
  ·subst es
   refine⟨rfl,?_⟩
   rw[h.rungs]at hr
   have hnd2:=(yUt.1 hnd).1
   rcases yTi.1 hr with hr|hr
   ·exact absurd e ((yUt.1 hnd2).2.2 r.queue (yTb (f:=(·.queue)) hr) m ySk)
   ·rcases ySy.1 hr with rfl|hr
    ·rfl
    ·have:=(yUb.1 (yUt.1 hnd2).2.1).1
     exact absurd (e▸yTb (f:=(·.queue)) hr) this
  ·exfalso
   have hcn:=c.nd
   rw[Book.qs]at hcn
   have hcn2:=(yUt.1 (yUt.1 hcn).1).2.2
   have ha:(m:Int)∈(b'.rungs s).map (·.queue):=yTh.2 ⟨_,hrm,rfl⟩
   have hb:(m:Int)∈(b'.rungs s').map (·.queue):=yTh.2 ⟨r,hr,e⟩
   rcases hs with rfl|rfl<;>rcases hs' with rfl|rfl
   ·exact es rfl
   ·exact hcn2 _ ha _ hb rfl
   ·exact hcn2 _ hb _ ha rfl
   ·exact es rfl
 have hsl1:xE (Q'.set m (xE Q' ⟨p,m⟩++[k])) ⟨p,m⟩=xE Q' ⟨p,m⟩++[k]:=by
  show(Q'.set m _).getD (Int.toNat (m:Int)) []=_
  rw[ySt];exact zI (wW hmQ)
 have hsl2:∀q:Int,0≤q→q≠m→(Q'.set m (xE Q' ⟨p,m⟩++[k])).getD q.toNat []=Q'.getD q.toNat []:=by
  intro q h0 hne
  rw[ySi,vS (by omega),ySi]
 generalize hQ3:Q'.set m (xE Q' ⟨p,m⟩++[k])=Q3 at*
 have hQl:Q3.length=Q'.length:=by rw[← hQ3,yTa]
 have hpid:=bU
 have hord:∀s' (r:xN),(s'=1∨s'=2)→r∈b'.rungs s'→∀j∈xE Q' r,j≠k∧(wH (b'.a.put m id qty top) s' r.price j=wH b'.a s' r.price j∧vB (b'.a.put m id qty top) s' r.price j=vB b'.a s' r.price j):=by
  intro s' r hs' hr j hj
  have hjk:j≠k:=by rintro rfl;exact k4 _ _ (c.get hs' hr) hj
  have:=kent j
  rw[ySe hjk]at this
  refine⟨hjk,by rw[wH,wH,this],?_⟩
  have:=congrArg Ent.id this
  rw[vB,vB]
  exact congrArg (fun i=>(i,(⟨s',r.price,j⟩:Place))) this
 have hr0:∀s' (r:xN),(s'=1∨s'=2)→r∈b'.rungs s'→r.queue≠m→xE Q3 r=xE Q' r:=by
  intro s' r hs' hr hne
  exact hsl2 _ (c.rng _ (uR hs' hr)).1 hne
 generalize hB:({b' with a:=b'.a.put m id qty top,at_:=nX id ⟨s,p,k⟩ b'.at_}:Book)=B3
 have hBr:∀s',B3.rungs s'=b'.rungs s':=by intro s';rw[← hB];rfl
 have hBa:B3.a=b'.a.put m id qty top:=by rw[← hB]
 have hBat:B3.at_=nX id ⟨s,p,k⟩ b'.at_:=by rw[← hB]
 have hBqs:B3.qs=b'.qs:=by rw[← hB];rfl
 have hBsp:B3.spare=b'.spare:=by rw[← hB]
 have hro:∀s' (r:xN),(s'=1∨s'=2)→r∈b'.rungs s'→r.queue≠m→B3.rOrds Q3 s' r=b'.rOrds Q' s' r∧(xE Q3 r).map (vB B3.a s' r.price)=(xE Q' r).map (vB b'.a s' r.price):=by
  intro s' r hs' hr hne
  rw[Book.rOrds,Book.rOrds,hr0 s' r hs' hr hne,hBa]
  exact⟨yTq fun j hj=>(hord s' r hs' hr j hj).2.1,yTq fun j hj=>(hord s' r hs' hr j hj).2.2⟩
 have hnew:wH B3.a s p k=⟨id,s,p,qty,top⟩∧vB B3.a s p k=(id,⟨s,p,k⟩):=by
  have:=kent k
  rw[ySf rfl]at this
  rw[wH,hBa,this]
  refine⟨rfl,?_⟩
  have:=congrArg Ent.id this
  rw[vB]
  exact congrArg (fun i=>(i,(⟨s,p,k⟩:Place))) this
 have hroN:B3.rOrds Q3 s ⟨p,m⟩=b'.rOrds Q' s ⟨p,m⟩++[⟨id,s,p,qty,top⟩]∧(xE Q3 ⟨p,m⟩).map (vB B3.a s p)=(xE Q' ⟨p,m⟩).map (vB b'.a s p)++[(id,⟨s,p,k⟩)]:=by
  rw[Book.rOrds,Book.rOrds,hsl1,ySr,ySr,List.map_singleton,List.map_singleton]
  refine⟨?_,?_⟩
  ·rw[hnew.1,yTq (g:=wH b'.a s p) fun j hj=>by rw[hBa];exact(hord s ⟨p,m⟩ hs hrm j hj).2.1]
  ·rw[hnew.2,yTq (g:=vB b'.a s p) fun j hj=>by rw[hBa];exact(hord s ⟨p,m⟩ hs hrm j hj).2.2]
 have hR1:∀r∈R1,r∈b'.rungs s∧r.queue≠m:=by
  intro r hr
  have hm:r∈b'.rungs s:=by rw[h.rungs];exact yTr _ hr
  refine⟨hm,fun e=> ?_⟩
  have e2:=(hqd s r hs hm e).2
  have:=h.spl.a r hr
  rw[e2,nY]at this;cases this
 have hR2:∀r∈R2,r∈b'.rungs s∧r.queue≠m:=by
  intro r hr
  have hm:r∈b'.rungs s:=by rw[h.rungs];exact yTu _ (ySl _ hr)
  refine⟨hm,fun e=> ?_⟩
  have e2:=(hqd s r hs hm e).2
  have:=h.spl.b r hr
  rw[e2,nY]at this;cases this
 have zB:B3.sideL Q3 s=(R1.flatMap (b'.rOrds Q' s)++b'.rOrds Q' s ⟨p,m⟩)++⟨id,s,p,qty,top⟩::R2.flatMap (b'.rOrds Q' s):=by
  rw[Book.sideL,hBr,h.rungs,yUc,yTv,hroN.1,xF (l:=R1) (fun r hr=>(hro s r hs (hR1 r hr).1 (hR1 r hr).2).1),xF (l:=R2) (fun r hr=>(hro s r hs (hR2 r hr).1 (hR2 r hr).2).1)]
  simp
 have sideO:b'.sideL Q' s=(R1.flatMap (b'.rOrds Q' s)++b'.rOrds Q' s ⟨p,m⟩)++R2.flatMap (b'.rOrds Q' s):=by
  rw[Book.sideL,h.rungs,yUc,yTv,ySq]
 have plcN:(B3.plcs Q3 s).Perm ((id,⟨s,p,k⟩)::b'.plcs Q' s):=by
  rw[Book.plcs,hBr,h.rungs,yUc,yTv,hroN.2,xF (l:=R1) (fun r hr=>(hro s r hs (hR1 r hr).1 (hR1 r hr).2).2),xF (l:=R2) (fun r hr=>(hro s r hs (hR2 r hr).1 (hR2 r hr).2).2),Book.plcs,h.rungs,yUc,yTv]
  rw[ySq,List.singleton_append,← ySq]
  refine ySv.trans ?_
  rw[ySq]
 have other:∀s',s'≠s→s'=1∨s'=2→B3.sideL Q3 s'=b'.sideL Q' s'∧B3.plcs Q3 s'=b'.plcs Q' s':=by
  intro s' hne hs'
  have hne':∀r∈b'.rungs s',r.queue≠m:=fun r hr e=>hne (hqd s' r hs' hr e).1
  rw[Book.sideL,Book.sideL,Book.plcs,Book.plcs,hBr]
  exact⟨xF fun r hr=>(hro s' r hs' hr (hne' r hr)).1,xF fun r hr=>(hro s' r hs' hr (hne' r hr)).2⟩
 have bA:∀o∈R1.flatMap (b'.rOrds Q' s)++b'.rOrds Q' s ⟨p,m⟩,before s p o=true:=by
  intro o ho
  rcases yTi.1 ho with ho|ho
  ·obtain⟨r,hr,ho⟩:=yUg.1 ho
   obtain⟨e1,e2⟩:=qF ho
   rw[before,e1,e2,zWx (h.spl.a r hr)];simp
  ·obtain⟨e1,e2⟩:=qF ho
   rw[before,e1,e2,nY];simp
 have bB:∀o∈R2.flatMap (b'.rOrds Q' s),before s p o=false:=by
  intro o ho
  obtain⟨r,hr,ho⟩:=yUg.1 ho
  obtain⟨e1,e2⟩:=qF ho
  rw[before,e1,e2,h.spl.b r hr];simp
 have bO:∀s',s'≠s→s'=1∨s'=2→∀o∈b'.sideL Q' s',before s p o=decide (s=2):=by
  intro s' hne hs' o ho
  have:=(b8 ho).1
  exact zQn (by omega) (by omega) hs
 have flatE:∃A B,b'.flat Q'=A++B∧B3.flat Q3=A++⟨id,s,p,qty,top⟩::B∧(∀o∈A,before s p o=true)∧∀o∈B,before s p o=false:=by
  rcases hs with rfl|rfl
  ·refine⟨_,R2.flatMap (b'.rOrds Q' 1)++b'.sideL Q' 2,?_,?_,bA,fun o ho=> ?_⟩
   ·rw[Book.flat,sideO];simp only[ySq]
   ·rw[Book.flat,zB,(other 2 (by decide) (.inr rfl)).1];simp only[ySq,yTt]
   ·rcases yTi.1 ho with ho|ho
    ·exact bB o ho
    ·exact bO 2 (by decide) (.inr rfl) o ho
  ·refine⟨b'.sideL Q' 1++(R1.flatMap (b'.rOrds Q' 2)++b'.rOrds Q' 2 ⟨p,m⟩),R2.flatMap (b'.rOrds Q' 2),?_,?_,fun o ho=> ?_,bB⟩
   ·rw[Book.flat,sideO];simp only[ySq]
   ·rw[Book.flat,zB,(other 1 (by decide) (.inl rfl)).1];simp only[ySq]
   ·rcases yTi.1 ho with ho|ho
    ·exact bO 1 (by decide) (.inl rfl) o ho
    ·exact bA o ho
 obtain⟨A,B,f1,f2,f3,f4⟩:=flatE
 refine⟨Q3,A,B,⟨by rw[hBa];exact kw,fun s' hs'=>by rw[hBr];exact c.srt s' hs',by rw[hBqs,hQl];exact c.rng,by rw[hBqs];exact c.nd,by rw[hBqs,hQl];exact c.ql,fun s' hs' r hr _=> ?_,fun q hq=> ?_,?_,?_,by rw[hQl];exact c.qb⟩,f1,f2,f3,f4⟩
 ·rw[hBr]at hr
  by_cases e:r.queue=m
  ·obtain⟨rfl,rfl⟩:=hqd s' r hs' hr e
   rw[hsl1];simp
  ·rw[hr0 s' r hs' hr e];exact c.ne s' hs' r hr e
 ·rw[hBsp]at hq
  have hqq:q∈b'.qs:=yTu _ hq
  rw[hsl2 q (c.rng q hqq).1 fun e=> ?_]
  ·exact c.sp q hq
  ·have hcn:=c.nd
   rw[Book.qs]at hcn
   refine(yUt.1 hcn).2.2 m ?_ q hq e.symm
   rcases hs with rfl|rfl
   ·exact yTr _ (yTh.2 ⟨_,hrm,rfl⟩)
   ·exact yTu _ (yTh.2 ⟨_,hrm,rfl⟩)
 ·have hnk:id∉b'.at_.map (·.1):=by
   rw[c.keysP.mem_iff,h.flat];exact hid
  rw[hBat,zVe hnk]
  refine(yWs _ _).trans ?_
  rcases hs with rfl|rfl
  ·rw[(other 2 (by decide) (.inr rfl)).2]
   exact(c.at_.cons _).trans (plcN.symm.append_right _)
  ·rw[(other 1 (by decide) (.inl rfl)).2]
   refine(c.at_.cons _).trans ?_
   refine(ySv.symm).trans (plcN.symm.append_left _)
 ·rw[f2,ySr,ySn]
  have h1:=c.ids
  rw[f1,ySr]at h1
  have h2:id∉(A++B).map (·.id):=by rw[← f1,h.flat];exact hid
  refine ySv.nodup_iff.2 (yUb.2 ⟨by rw[ySr]at h2;exact h2,h1⟩)
open Go Cv Go.Proofs
def kC (L:List zD) (id:Int):Bool:=L.any fun o=>decide (o.id=id)
def rC (L:List zD) (s id p q:Int):List zD×Int:=if q<1∨1000000<q then(L,24)else if kC L id=true then(L,25)else if 250≤L.length then(L,13)else(zAk L s id p q,0)
theorem hasId_iff {L:List zD} {id:Int}:kC L id=true↔id∈L.map (·.id):=by
 rw[kC,yYe,yTh]
 constructor
 ·rintro⟨o,ho,e⟩;exact⟨o,ho,yVd e⟩
 ·rintro⟨o,ho,e⟩;exact⟨o,ho,ySw e⟩
theorem a9 {b:Book} {Q:List (List Nat)} {o:zD} (h:o∈b.flat Q):(o.side=1∨o.side=2)∧∃r∈b.rungs o.side,o∈b.rOrds Q o.side r∧o.price=r.price:=by
 rcases yTi.1 h with h|h
 all_goals
  obtain⟨e,r,hr,ho,hp⟩:=b8 h
  rw[e]
  exact⟨by simp,r,hr,ho,hp⟩
theorem flat_mem {b:Book} {Q:List (List Nat)} {s:Int} (hs:s=1∨s=2) {o:zD} (h:o∈b.sideL Q s):o∈b.flat Q:=by
 rcases hs with rfl|rfl
 ·exact yTr _ h
 ·exact yTu _ h
theorem Book.Core.leads {b:Book} {Q:List (List Nat)} (c:b.Core Q (-1)) {s:Int} (hs:s=1∨s=2) (p:Int):b.leads s p=uT (b.flat Q) s p:=by
 have hsrt:=c.srt s hs
 have hne:=c.ne s hs
 rw[Book.leads]
 cases hr:b.rungs s with
 |nil=>
  symm
  dsimp only
  rw[uT,yVh]
  intro o ho
  obtain⟨_,r,hr2,_⟩:=a9 ho
  by_cases e:o.side=s
  ·rw[e,hr]at hr2;cases hr2
  ·rw[ySp e];rfl
 |cons r0 l=>
  dsimp only
  rw[hr,yWh]at hsrt
  have hm:r0∈b.rungs s:=by rw[hr];exact ySk
  cases hb:btr s p r0.price with
  |true=>
   symm
   rw[uT,yVh]
   intro o ho
   obtain⟨_,r,hr2,_,hp⟩:=a9 ho
   by_cases e:o.side=s
   ·rw[e,hr]at hr2
    rw[hp]
    rcases ySy.1 hr2 with rfl|hr2
    ·rw[hb];simp
    ·rw[zOl hb (hsrt.1 r hr2)];simp
   ·rw[ySp e];rfl
  |false=>
   symm
   rw[uT,List.all_eq_false]
   have h0:=hne r0 hm fun e=>by have:=c.rng _ (uR hs hm);omega
   cases hk:xE Q r0 with
   |nil=>exact absurd hk h0
   |cons k ks=>
    refine⟨wH b.a s r0.price k,flat_mem hs (yUg.2 ⟨r0,hm,by rw[Book.rOrds,hk];exact ySk⟩),?_⟩
    show ¬((!decide (s=s))||btr s p r0.price)=true
    rw[hb];simp
theorem z1t {L:List zD} {s:Int} {o:zD} (h:o∈clr L s):∃o'∈L,o.id=o'.id∧o.side=o'.side∧o.price=o'.price∧o.qty=o'.qty∧o.top=(if o.side=s then false else o'.top):=by
 obtain⟨o',ho,e⟩:=yTh.1 h
 refine⟨o',ho,?_⟩
 by_cases c:o'.side=s
 ·rw[ySf c]at e
  subst e
  exact⟨rfl,rfl,rfl,rfl,(ySf c).symm⟩
 ·rw[ySe c]at e
  subst e
  exact⟨rfl,rfl,rfl,rfl,(ySe c).symm⟩
theorem yHk {L:List zD} {s:Int} {o:zD} (h:o∈L) (hs:o.side≠s):o∈clr L s:=yTh.2 ⟨o,h,ySe hs⟩
theorem z3b (L:List zD) (s:Int):(clr L s).map (·.id)=L.map (·.id):=by
 rw[clr,yUx]
 refine yTq fun o _=> ?_
 simp only[Function.comp]
 split<;>rfl
theorem zUe (b:Book) (id:Int) {s:Int} (hs:s=1∨s=2):(b.leadF id s).a=b.untop s∧(b.leadF id s).buys=b.buys∧(b.leadF id s).sells=b.sells∧(b.leadF id s).at_=b.at_∧(b.leadF id s).spare=b.spare∧∀s',s'=1∨s'=2→(b.leadF id s).hasF s'=(if s'=s then true else b.hasF s')∧(b.leadF id s).topI s'=(if s'=s then id else b.topI s'):=by
 rcases hs with rfl|rfl
 ·exact⟨rfl,rfl,rfl,rfl,rfl,fun s' h=>by rcases h with rfl|rfl<;>exact⟨rfl,rfl⟩⟩
 ·exact⟨rfl,rfl,rfl,rfl,rfl,fun s' h=>by rcases h with rfl|rfl<;>exact⟨rfl,rfl⟩⟩
theorem Book.Core.like {b b':Book} {Q:List (List Nat)} {h:Int} (c:b.Core Q h) (e1:b'.a=b.a) (e2:b'.buys=b.buys) (e3:b'.sells=b.sells) (e4:b'.at_=b.at_) (e5:b'.spare=b.spare):b'.Core Q h∧b'.flat Q=b.flat Q:=by
 have er:∀s,b'.rungs s=b.rungs s:=fun s=>by rw[Book.rungs,Book.rungs,e2,e3]
 have eo:∀s r,b'.rOrds Q s r=b.rOrds Q s r:=fun s r=>by rw[Book.rOrds,Book.rOrds,e1]
 have es:∀s,b'.sideL Q s=b.sideL Q s:=fun s=>by rw[Book.sideL,Book.sideL,er];exact xF fun r _=>eo s r
 have ep:∀s,b'.plcs Q s=b.plcs Q s:=fun s=>by rw[Book.plcs,Book.plcs,er,e1]
 have ef:b'.flat Q=b.flat Q:=by rw[Book.flat,Book.flat,es,es]
 have eq:b'.qs=b.qs:=by rw[Book.qs,Book.qs,e2,e3,e5]
 exact⟨⟨by rw[e1];exact c.wf,fun s hs=>by rw[er];exact c.srt s hs,by rw[eq];exact c.rng,by rw[eq];exact c.nd,by rw[eq];exact c.ql,fun s hs=>by rw[er];exact c.ne s hs,by rw[e5];exact c.sp,by rw[e4,ep,ep];exact c.at_,by rw[ef];exact c.ids,c.qb⟩,ef⟩
theorem Book.Rep.stand {b:Book} {L:List zD} (h:b.Rep L) {s:Int} (hs:s=1∨s=2) {id p q:Int} (hid:id∉L.map (·.id)) (hl:L.length<250) (hq:1≤q∧q≤1000000):(b.stand s id p q).Rep (zAk L s id p q):=by
 obtain⟨Q,c,ht,rfl⟩:=h
 have hld:=c.leads hs p
 have h1:(b.led id s p).Core Q (-1)∧(b.led id s p).flat Q=(if uT (b.flat Q) s p=true then clr (b.flat Q) s else b.flat Q):=by
  rw[Book.led,hld]
  split
  ·obtain⟨e1,e2,e3,e4,e5,_⟩:=zUe b id hs
   obtain⟨u1,u2⟩:=c.untop s
   obtain⟨v1,v2⟩:=Book.Core.like (b':=b.leadF id s) (c.flag u1 u2) e1 e2 e3 e4 e5
   exact⟨v1,v2.trans (c.untop_flat ht hs)⟩
  ·exact⟨c,rfl⟩
 obtain⟨c1,f1⟩:=h1
 have hlen1:((b.led id s p).flat Q).length<250:=by
  rw[f1];split
  ·rw[clr,ySh];exact hl
  ·exact hl
 have hid1:id∉((b.led id s p).flat Q).map (·.id):=by
  rw[f1];split
  ·rw[z3b];exact hid
  ·exact hid
 obtain⟨Q',R1,R2,hqd⟩:=c1.queue hlen1 hs p
 obtain⟨Q3,A,B,k1,k2,k3,k4,k5⟩:=hqd.put hs (b.leads s p) hid1 (c1.used hlen1) hq
 have hAB:A++B=(if uT (b.flat Q) s p=true then clr (b.flat Q) s else b.flat Q):=by rw[← k2,hqd.flat,f1]
 have hins:zAk (b.flat Q) s id p q=A++⟨id,s,p,q,b.leads s p⟩::B:=by
  rw[zAk]
  obtain⟨t1,t2⟩:=z7k k4 k5
  rw[← hAB,t1,t2,hld]
 refine⟨Q3,k1,?_,?_⟩
 ·rw[hins,hld]
  show Book.Tops {((b.led id s p).queueF s p).1 with a:=_,at_:=_} _
  have hto:∀x,({((b.led id s p).queueF s p).1 with a:=(((b.led id s p).queueF s p).1.a.push ((b.led id s p).queueF s p).2 id q (b.leads s p)).1,at_:=nX id ⟨s,p,(((b.led id s p).queueF s p).1.a.push ((b.led id s p).queueF s p).2 id q (b.leads s p)).2.1⟩ ((b.led id s p).queueF s p).1.at_}:Book).hasF x=(b.led id s p).hasF x∧({((b.led id s p).queueF s p).1 with a:=(((b.led id s p).queueF s p).1.a.push ((b.led id s p).queueF s p).2 id q (b.leads s p)).1,at_:=nX id ⟨s,p,(((b.led id s p).queueF s p).1.a.push ((b.led id s p).queueF s p).2 id q (b.leads s p)).2.1⟩ ((b.led id s p).queueF s p).1.at_}:Book).topI x=(b.led id s p).topI x:=hqd.qty
  generalize ({((b.led id s p).queueF s p).1 with a:=(((b.led id s p).queueF s p).1.a.push ((b.led id s p).queueF s p).2 id q (b.leads s p)).1,at_:=nX id ⟨s,p,(((b.led id s p).queueF s p).1.a.push ((b.led id s p).queueF s p).2 id q (b.leads s p)).2.1⟩ ((b.led id s p).queueF s p).1.at_}:Book)=B3 at*
  have mAB:∀o,o∈A++⟨id,s,p,q,uT (b.flat Q) s p⟩::B↔o=⟨id,s,p,q,uT (b.flat Q) s p⟩∨o∈A++B:=by
   intro o
   rw[yTi,ySy,yTi]
   constructor
   ·rintro(h|h|h)
    ·exact .inr (.inl h)
    ·exact .inl h
    ·exact .inr (.inr h)
   ·rintro(h|h|h)
    ·exact .inr (.inl h)
    ·exact .inl h
    ·exact .inr (.inr h)
  have hsd:∀o∈b.flat Q,o.side=1∨o.side=2:=fun o ho=>(a9 ho).1
  by_cases hlead:uT (b.flat Q) s p=true
  ·rw[ySf hlead]at hAB
   have hb1:b.led id s p=b.leadF id s:=by rw[Book.led,ySf (hld.trans hlead)]
   obtain⟨_,_,_,_,_,e6⟩:=zUe b id hs
   rw[hb1]at hto
   refine⟨fun o ho=> ?_,fun s' hs' hh=> ?_⟩
   ·rcases(mAB o).1 ho with rfl|ho
    ·rw[(hto s).1,(hto s).2,(e6 s hs).1,(e6 s hs).2,ySf rfl,ySf rfl,hlead];simp
    ·rw[hAB]at ho
     obtain⟨o',ho',i1,i2,_,_,i5⟩:=z1t ho
     rw[(hto _).1,(hto _).2,i5,(e6 o.side (by rw[i2];exact hsd o' ho')).1,(e6 o.side (by rw[i2];exact hsd o' ho')).2]
     by_cases e:o.side=s
     ·rw[ySf e,ySf e,ySf e,yTm]
      symm
      refine ySp fun e2=>hid ?_
      rw[← e2,i1];exact yTb ho'
     ·rw[ySe e,ySe e,ySe e,ht.fl o' ho',i1,i2]
   ·rw[(hto s').2,(e6 s' hs').2]
    by_cases e:s'=s
    ·rw[ySf e]
     exact⟨_,(mAB _).2 (.inl rfl),e.symm,rfl⟩
    ·rw[(hto s').1,(e6 s' hs').1,ySe e]at hh
     rw[ySe e]
     obtain⟨o,ho,o1,o2⟩:=ht.th s' hs' hh
     exact⟨o,(mAB _).2 (.inr (by rw[hAB];exact yHk ho (by rw[o1];exact e))),o1,o2⟩
  ·rw[ySe hlead]at hAB
   have hlf:uT (b.flat Q) s p=false:=by simpa using hlead
   have hb1:b.led id s p=b:=by rw[Book.led,ySe (by rw[hld];exact hlead)]
   rw[hb1]at hto
   refine⟨fun o ho=> ?_,fun s' hs' hh=> ?_⟩
   ·rw[(hto _).1,(hto _).2]
    rcases(mAB o).1 ho with rfl|ho
    ·show uT (b.flat Q) s p=(b.hasF s && decide (id=b.topI s))
     rw[hlf]
     cases hh:b.hasF s with
     |false=>rfl
     |true=>
      rw[yTm]
      symm
      refine ySp fun e2=>hid ?_
      obtain⟨o,ho,_,o2⟩:=ht.th s hs hh
      rw[e2,← o2];exact yTb ho
    ·rw[hAB]at ho;exact ht.fl o ho
   ·rw[(hto s').1]at hh
    rw[(hto s').2]
    obtain⟨o,ho,o1,o2⟩:=ht.th s' hs' hh
    exact⟨o,(mAB _).2 (.inr (by rw[hAB];exact ho)),o1,o2⟩
 ·rw[hins];exact k3.symm
theorem Book.Rep.pget {b:Book} {L:List zD} (h:b.Rep L) (id:Int):(pget b.at_ id).isSome=kC L id:=by
 obtain⟨Q,c,ht,rfl⟩:=h
 cases hg:Sx.pget b.at_ id with
 |none=>
  have:=zFy hg
  rw[c.keysP.mem_iff,← hasId_iff]at this
  symm;simpa using this
 |some x=>
  have:=yTb (f:=(·.1)) (sD hg)
  rw[c.keysP.mem_iff,← hasId_iff]at this
  symm;exact this
theorem Book.Rep.len {b:Book} {L:List zD} (h:b.Rep L):b.at_.length=L.length:=by
 obtain⟨Q,c,ht,rfl⟩:=h
 exact c.len
theorem Book.Rep.add {b:Book} {L:List zD} (h:b.Rep L) {s:Int} (hs:s=1∨s=2) (id p q:Int):(b.addF s id p q).1.Rep (rC L s id p q).1∧(b.addF s id p q).2=(rC L s id p q).2:=by
 rw[Book.addF,rC,h.pget,h.len]
 repeat' split
 all_goals first|exact⟨h,rfl⟩|skip
 rename_i c1 c2 c3
 exact⟨h.stand hs (fun e=>c2 (hasId_iff.2 e)) (by omega) (by omega),rfl⟩
theorem z5l:book0.Rep []:=by
 refine⟨[],⟨⟨⟨by simp[book0,zKk],rfl,fun n l h=>by simp at h,fun n l h=>by simp at h,fun n l h=>by simp at h,fun k s hk hu=> ?_,?_⟩,fun n l h=>by simp at h⟩,fun s hs=> ?_,fun q hq=>by simp[book0,Book.qs]at hq,by simp[book0,Book.qs],rfl,fun s hs r hr=> ?_,fun q hq=>by simp[book0]at hq,?_,?_,by decide⟩,⟨fun o ho=>(by cases ho),fun s hs hh=> ?_⟩,?_⟩
 ·have:=ySo hk
  rw[yVt this]at hu;cases hu
 ·decide
 ·rcases hs with rfl|rfl<;>exact List.Pairwise.nil
 ·rcases hs with rfl|rfl<;>cases hr
 ·exact List.Perm.refl _
 ·exact List.nodup_nil
 ·rcases hs with rfl|rfl<;>cases hh
 ·rfl
open Go Cv Go.Proofs
structure BoI where
 b:Book
 s:Int
 r:xN
 l:List Nat
def BoI.ords (i:BoI):List zD:=(i.b.a.ents i.l).map fun e=>⟨e.id,i.s,i.r.price,e.qty,e.top⟩
def ordersC:Con:=con1 BoI (fun i=>[.nm 0 0,zA i.s,.agg [zA i.r.price,zA i.r.queue]]) (fun i=>[yC i.b]) (fun i=>i.b.a.listOk i.r.queue i.l) (fun _=> .own 1) (fun i=>[yC i.b,.own 68 5 (i.ords.map wG)])
def yGx (i:BoI):List SAnn:=[{ι:=Nat,slots:=fun j=>[(7,.own 0),(18,zA j)],rows:=fun j=>[.own 68 5 ((i.ords.take j).map wG)]}]
end Sx
