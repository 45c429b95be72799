/- Texts of ours, one behind the other: a walk that the kernel reckons, and contracts of functions. No condition. -/
import Derived.Laws.Externs
import Derived.Test.YtogkpgfggfbhaaaGreatX6
namespace Sx
set_option linter.unusedVariables false
set_option maxRecDepth 100000
open Go Cv Go.Proofs
def zCr (a:Cmd) (b:Cmd) (c:Cmd→Prop) (d:TmI):Prop:=sb a.label=sb b.label∧c a∧Sx.AObj.cells (Sx.V.agg [V.d (dI 0),V.d (dI 0),V.d (dI 0),V.d (dI 0),V.d (dI 0),V.d (dI 0),V.d (dI 0),V.d (dI 0),V.d kR]).cl 36=Sx.AObj.cells (Sx.V.agg [V.d (dI 0),V.d (dI 0),V.d (dI 0),V.d (dI 0),V.d (dI 0),V.d (dI 0),V.d (dI 0),V.d (dI 0),V.d kR]).cl 36∧Sx.AObj.cells [V.d (dI d.c.kind),V.d (dI d.c.id),V.d (dI d.c.inst),V.d (dI d.c.side),V.d (dI d.c.price),V.d (dI d.c.qty),V.d (dI d.c.least),V.d (dI d.c.time),V.d (D.v (Value.string (sb d.c.label)))] 36=Sx.AObj.cells [V.d (dI d.c.kind),V.d (dI d.c.id),V.d (dI d.c.inst),V.d (dI d.c.side),V.d (dI d.c.price),V.d (dI d.c.qty),V.d (dI d.c.least),V.d (dI d.c.time),V.d (D.v (Value.string (sb d.c.label)))] 36∧Sx.AObj.cells [V.d (D.v (Value.string (sb d.p.code))),V.own 0,V.d (dI d.p.tick),V.d (dI d.p.low),V.d (dI d.p.high),V.d (dI d.p.wide),V.d (dI d.p.rule),V.d (dI d.p.top),V.d (dI d.p.least),V.d (dI d.p.part),V.own ((0:Nat)+(1:Nat))] 26=Sx.AObj.cells [V.d (D.v (Value.string (sb d.p.code))),V.own 0,V.d (dI d.p.tick),V.d (dI d.p.low),V.d (dI d.p.high),V.d (dI d.p.wide),V.d (dI d.p.rule),V.d (dI d.p.top),V.d (dI d.p.least),V.d (dI d.p.part),V.own ((0:Nat)+(1:Nat))] 26∧AObj.fro 1 (iE d.p.settle)=AObj.fro 1 (iE d.p.settle)∧AObj.fro 1 (iE d.p.months)=AObj.fro 1 (iE d.p.months)
def zJg (a:Cmd) (b:Cmd) (c:Cmd→Prop) (d:TmI):Prop:=a.time=b.time∧zCr a b c d
def zJd (a:Cmd) (b:Cmd) (c:Cmd→Prop) (d:TmI):Prop:=a.id=b.id∧a.inst=b.inst∧a.side=b.side∧a.price=b.price∧a.qty=b.qty∧a.least=b.least∧zJg a b c d
def rY (a:Cmd) (b:Cmd→Prop) (c:TmI):Prop:=∃(d:Cmd),d.kind=a.kind∧zJd d a b c
def zFb (a:TmI) (b:WiI) (c:Cmd):Prop:=(xK a).qty=IntKind.i64.wrap (x4 b)∧(xK a).least=c.least∧(xK a).time=c.time∧sb (xK a).label=sb c.label∧True
def zFu (a:TmI) (b:Cmd):Prop:=(xK a).qty=b.qty∧(xK a).least=b.least∧(xK a).time=b.time∧sb (xK a).label=sb b.label∧True
def yLw (t:TmI):Prop:=
 ∃(a:WiI),a.n=t.c.kind∧a.lo=0∧a.hi=8∧(yY a)∧∀(b:Unit),True→∃(c:WiI),c.n=t.c.id∧c.lo=0∧c.hi=30∧(yY c)∧∀(d:Unit),True→∃(e:Cmd),e.kind=IntKind.i64.wrap (x4 a)∧e.id=IntKind.i64.wrap (x4 c)∧e.inst=0∧e.side=0∧e.price=0∧e.qty=0∧e.least=0∧e.time=0∧sb e.label=ByteArray.mk #[]∧∃(f:Cmd→Prop),cnd (decide (e.kind>4)) (∃(g:Cmd),g.kind=1∧zJd g e f t) (rY e f t)∧∀(g:Cmd),f g→∃(h:Prd),sb h.code=sb t.p.code∧iE h.months=iE t.p.months∧h.tick=t.p.tick∧h.low=t.p.low∧h.high=t.p.high∧h.wide=t.p.wide∧h.rule=t.p.rule∧h.top=t.p.top∧h.least=t.p.least∧h.part=t.p.part∧iE h.settle=iE t.p.settle∧(z8 h)∧∀(j:Unit),True→∃(k:WiI),k.n=t.c.inst∧k.lo=0∧k.hi=IntKind.i64.wrap ((↑h.count:Int)-1)∧(yY k)∧∀(l:Unit),True→∃(m:WiI),m.n=t.c.side∧m.lo=0∧m.hi=1∧(yY m)∧∀(n:Unit),True→∃(p:WiI),p.n=t.c.qty∧p.lo=0∧p.hi=11∧(yY p)∧∀(q:Unit),True→∃(r:WiI),r.n=t.c.price∧r.lo=0∧r.hi=9∧(yY r)∧∀(s:Unit),True→t.p.tick=t.p.tick∧cnd (g.kind==1) (∃(u:Cmd),u.kind=g.kind∧u.id=IntKind.i64.wrap (t.i+1)∧u.inst=zG k.n k.lo k.hi∧u.side=IntKind.i64.wrap (x4 m)∧u.price=IntKind.i64.wrap (t.p.tick*zG r.n r.lo r.hi)∧u.qty=IntKind.i64.wrap (x4 p)∧u.least=g.least∧u.time=1∧sb u.label=sb g.label∧∃(v:Cmd→Prop),(IntKind.i64=IntKind.i64∧(5:Int)≠(0:Int)∧cnd (t.c.time.tmod (5:Int)==(2:Int)) (∃(w:Cmd),w.kind=u.kind∧w.id=u.id∧w.inst=u.inst∧w.side=u.side∧w.price=u.price∧w.qty=u.qty∧w.least=u.least∧w.time=2∧zCr w u v t) (rY u v t))∧∀(w:Cmd),v w→∃(x:Cmd),x.kind=w.kind∧x.id=w.id∧x.inst=w.inst∧x.side=w.side∧x.price=w.price∧x.qty=w.qty∧x.least=w.least∧x.time=w.time∧sb x.label=sb w.label∧∃(y:Cmd→Prop),(IntKind.i64=IntKind.i64∧(5:Int)≠(0:Int)∧cnd (t.c.time.tmod (5:Int)==(3:Int)) (∃(z:Cmd),z.kind=x.kind∧z.id=x.id∧z.inst=x.inst∧z.side=x.side∧z.price=x.price∧z.qty=x.qty∧z.least=x.least∧z.time=3∧zCr z x y t) (rY x y t))∧∀(z:Cmd),y z→∃(a_1:Cmd),a_1.kind=z.kind∧a_1.id=z.id∧a_1.inst=z.inst∧a_1.side=z.side∧a_1.price=z.price∧a_1.qty=z.qty∧a_1.least=z.least∧a_1.time=z.time∧sb a_1.label=sb z.label∧∃(a_2:Cmd→Prop),(IntKind.i64=IntKind.i64∧(4:Int)≠(0:Int)∧cnd (t.c.least.tmod (4:Int)==(1:Int)) (∃(a_3:WiI),a_3.n=t.c.least∧a_3.lo=0∧a_3.hi=a_1.qty∧(yY a_3)∧∀(a_4:Unit),True→∃(a_5:Cmd),a_5.kind=a_1.kind∧a_5.id=a_1.id∧a_5.inst=a_1.inst∧a_5.side=a_1.side∧a_5.price=a_1.price∧a_5.qty=a_1.qty∧a_5.least=zG a_3.n a_3.lo a_3.hi∧zJg a_5 a_1 a_2 t) (rY a_1 a_2 t))∧∀(a_3:Cmd),a_2 a_3→∃(a_4:dZ),sb a_4.p.code=sb t.p.code∧iE a_4.p.months=iE t.p.months∧a_4.p.tick=t.p.tick∧a_4.p.low=t.p.low∧a_4.p.high=t.p.high∧a_4.p.wide=t.p.wide∧a_4.p.rule=t.p.rule∧a_4.p.top=t.p.top∧a_4.p.least=t.p.least∧a_4.p.part=t.p.part∧iE a_4.p.settle=iE t.p.settle∧a_4.n=a_3.inst∧(kZ a_4)∧∀(a_5:Unit),True→cnd (!(a_4.p.legs a_4.n).snd.snd) (∃(a_6:Unit),(xK t).kind=a_3.kind∧(xK t).id=a_3.id∧(xK t).inst=a_3.inst∧(xK t).side=a_3.side∧(xK t).price=IntKind.i64.wrap (a_3.price+IntKind.i64.wrap (8*t.p.tick))∧zFu t a_3) (∃(a_6:Unit),(xK t).kind=a_3.kind∧(xK t).id=a_3.id∧(xK t).inst=a_3.inst∧(xK t).side=a_3.side∧(xK t).price=IntKind.i64.wrap (a_3.price-IntKind.i64.wrap (4*t.p.tick))∧zFu t a_3)) (cnd (g.kind==4) (∃(u:Unit),(xK t).kind=g.kind∧(xK t).id=g.id∧(xK t).inst=0∧(xK t).side=0∧(xK t).price=IntKind.i64.wrap (IntKind.i64.wrap (t.p.tick*zG r.n r.lo r.hi)+IntKind.i64.wrap (5*t.p.tick))∧zFb t p g) (∃(u:Unit),(xK t).kind=g.kind∧(xK t).id=g.id∧(xK t).inst=0∧(xK t).side=0∧(xK t).price=IntKind.i64.wrap (t.p.tick*zG r.n r.lo r.hi)∧zFb t p g))
set_option linter.unusedSimpArgs false
open Go Cv Go.Proofs
theorem ySe (t:TmI) (h:tameC.cnd t):yLw t:=by
 obtain⟨hc,hs,⟨r1,r2,r3,r4,r5,r6,r7,r8⟩,i0,i1⟩:t.p.check=0∧t.p.small∧t.c.raw∧0≤t.i∧t.i≤1000000:=h
 have ok:=kP hc
 have t1:=ok.t1
 have t2:=ok.t2
 have m2:=ok.m2
 have hcl:=xV t.p
 have hcd:=cW hc
 have bk:=yS (n:=t.c.kind) (lo:=0) (hi:=8) (by omega)
 have bi:=yS (n:=t.c.id) (lo:=0) (hi:=30) (by omega)
 have bs:=yS (n:=t.c.side) (lo:=0) (hi:=1) (by omega)
 have bq:=yS (n:=t.c.qty) (lo:=0) (hi:=11) (by omega)
 have bp:=yS (n:=t.c.price) (lo:=0) (hi:=9) (by omega)
 have mb:=sS (a:=t.p.tick) (b:=zG t.c.price 0 9) (m:=1000) (n:=9) (by omega) (by omega)
 have wp:IntKind.i64.wrap (t.p.tick*zG t.c.price 0 9)=t.p.tick*zG t.c.price 0 9:=w64 (by omega)
 unfold yLw rY zJd zJg zCr kR zFu zFb x4 yY z8 kZ dI
 refine⟨⟨t.c.kind,0,8⟩,rfl,rfl,rfl,⟨r1,by dsimp only;omega,by dsimp only;omega,by dsimp only;omega⟩,fun _ _=>⟨⟨t.c.id,0,30⟩,rfl,rfl,rfl,⟨r2,by dsimp only;omega,by dsimp only;omega,by dsimp only;omega⟩,fun _ _=> ?_⟩⟩
 dsimp only
 rw[w64 (x:=1+zG t.c.kind 0 8) (by omega),w64 (x:=1+zG t.c.id 0 30) (by omega)]
 refine⟨⟨1+zG t.c.kind 0 8,1+zG t.c.id 0 30,0,0,0,0,0,0,[]⟩,rfl,rfl,rfl,rfl,rfl,rfl,rfl,rfl,rfl,fun c=>c=⟨vU t.c,1+zG t.c.id 0 30,0,0,0,0,0,0,[]⟩,zJ (fun e=>⟨⟨vU t.c,1+zG t.c.id 0 30,0,0,0,0,0,0,[]⟩,?_,rfl,rfl,rfl,rfl,rfl,rfl,rfl,rfl,rfl,by(repeat'(first|exact trivial|exact rfl|apply And.intro))⟩) (fun e=>⟨⟨vU t.c,1+zG t.c.id 0 30,0,0,0,0,0,0,[]⟩,?_,rfl,rfl,rfl,rfl,rfl,rfl,rfl,rfl,rfl,by(repeat'(first|exact trivial|exact rfl|apply And.intro))⟩),fun c hcc=> ?_⟩
 ·dsimp only at e ⊢;rw[vU,yWm (by omega)]
 ·dsimp only at e ⊢;rw[vU,yWl (by omega)]
 subst hcc
 refine⟨t.p,rfl,rfl,rfl,rfl,rfl,rfl,rfl,rfl,rfl,rfl,rfl,hs,fun _ _=> ?_⟩
 rw[w64 (x:=(t.p.count:Int)-1) (by omega)]
 refine⟨⟨t.c.inst,0,(t.p.count:Int)-1⟩,rfl,rfl,rfl,⟨r3,by dsimp only;omega,by dsimp only;omega,by dsimp only;omega⟩,fun _ _=>⟨⟨t.c.side,0,1⟩,rfl,rfl,rfl,⟨r4,by dsimp only;omega,by dsimp only;omega,by dsimp only;omega⟩,fun _ _=>⟨⟨t.c.qty,0,11⟩,rfl,rfl,rfl,⟨r6,by dsimp only;omega,by dsimp only;omega,by dsimp only;omega⟩,fun _ _=>⟨⟨t.c.price,0,9⟩,rfl,rfl,rfl,⟨r5,by dsimp only;omega,by dsimp only;omega,by dsimp only;omega⟩,fun _ _=>⟨rfl,?_⟩⟩⟩⟩⟩
 dsimp only
 rw[wp,w64 (x:=1+zG t.c.side 0 1) (by omega),w64 (x:=1+zG t.c.qty 0 11) (by omega),w64 (x:=t.i+1) (by omega)]
 refine Cv.cnd.mk (fun k=> ?_) (fun k=> ?_)
 ·have k:vU t.c=1:=by simpa using k
  refine⟨{yZ t with id:=t.i+1,time:=1},rfl,rfl,rfl,rfl,rfl,rfl,rfl,rfl,rfl,fun c=>c={yZ t with id:=t.i+1,time:=if t.c.time.tmod 5=2 then 2 else 1},⟨rfl,by decide,Cv.cnd.mk (fun e=>⟨{yZ t with id:=t.i+1,time:=2},rfl,rfl,rfl,rfl,rfl,rfl,rfl,rfl,rfl,?_,by(repeat'(first|exact trivial|exact rfl|apply And.intro))⟩) (fun e=>⟨{yZ t with id:=t.i+1,time:=1},rfl,rfl,rfl,rfl,rfl,rfl,rfl,rfl,rfl,?_,by(repeat'(first|exact trivial|exact rfl|apply And.intro))⟩)⟩,fun c hcc=> ?_⟩
  ·have e:t.c.time.tmod 5=2:=by simpa using e
   rw[yWm e]
  ·have e:¬t.c.time.tmod 5=2:=by simpa using e
   rw[yWl e]
  subst hcc
  refine⟨{yZ t with id:=t.i+1,time:=if t.c.time.tmod 5=2 then 2 else 1},rfl,rfl,rfl,rfl,rfl,rfl,rfl,rfl,rfl,fun c=>c={yZ t with id:=t.i+1,time:=fE t.c},⟨rfl,by decide,Cv.cnd.mk (fun e=>⟨{yZ t with id:=t.i+1,time:=3},rfl,rfl,rfl,rfl,rfl,rfl,rfl,rfl,rfl,?_,by(repeat'(first|exact trivial|exact rfl|apply And.intro))⟩) (fun e=>⟨{yZ t with id:=t.i+1,time:=if t.c.time.tmod 5=2 then 2 else 1},rfl,rfl,rfl,rfl,rfl,rfl,rfl,rfl,rfl,?_,by(repeat'(first|exact trivial|exact rfl|apply And.intro))⟩)⟩,fun c hcc=> ?_⟩
  ·have e:t.c.time.tmod 5=3:=by simpa using e
   rw[fE,yWm e]
  ·have e:¬t.c.time.tmod 5=3:=by simpa using e
   rw[fE,yWl e]
  subst hcc
  have hq:(yZ t).qty=1+zG t.c.qty 0 11:=rfl
  refine⟨{yZ t with id:=t.i+1,time:=fE t.c},rfl,rfl,rfl,rfl,rfl,rfl,rfl,rfl,rfl,fun c=>c={yZ t with id:=t.i+1,time:=fE t.c,least:=dN t.c (yZ t).qty},⟨rfl,by decide,Cv.cnd.mk (fun e=>⟨⟨t.c.least,0,(yZ t).qty⟩,rfl,rfl,rfl,⟨r7,by dsimp only;omega,by dsimp only;omega,by dsimp only;omega⟩,fun _ _=>⟨{yZ t with id:=t.i+1,time:=fE t.c,least:=zG t.c.least 0 (yZ t).qty},rfl,rfl,rfl,rfl,rfl,rfl,rfl,rfl,rfl,?_,by(repeat'(first|exact trivial|exact rfl|apply And.intro))⟩⟩) (fun e=>⟨{yZ t with id:=t.i+1,time:=fE t.c},rfl,rfl,rfl,rfl,rfl,rfl,rfl,rfl,rfl,?_,by(repeat'(first|exact trivial|exact rfl|apply And.intro))⟩)⟩,fun c hcc=> ?_⟩
  ·have e:t.c.least.tmod 4=1:=by simpa using e
   rw[dN,yWm e]
  ·have e:¬t.c.least.tmod 4=1:=by simpa using e
   rw[dN,yWl e];rfl
  subst hcc
  refine⟨⟨t.p,(yZ t).inst⟩,rfl,rfl,rfl,rfl,rfl,rfl,rfl,rfl,rfl,rfl,rfl,rfl,hs,fun _ _=> ?_⟩
  dsimp only
  have hp:(yZ t).price=t.p.tick*zG t.c.price 0 9:=rfl
  have hk1:(yZ t).kind=1:=k
  rw[w64 (x:=8*t.p.tick) (by omega),w64 (x:=4*t.p.tick) (by omega),w64 (x:=(yZ t).price+8*t.p.tick) (by omega),w64 (x:=(yZ t).price-4*t.p.tick) (by omega)]
  refine Cv.cnd.mk (fun e=>⟨(),?_⟩) (fun e=>⟨(),?_⟩)
  ·have e:(t.p.legs (yZ t).inst).2.2=false:=by simpa using e
   have:xK t={yZ t with id:=t.i+1,time:=fE t.c,least:=dN t.c (yZ t).qty,price:=(yZ t).price+8*t.p.tick}:=by
    simp only[xK,hk1,if_true,e,yXe,if_false]
   rw[this];(repeat'(first|exact trivial|exact rfl|apply And.intro))
  ·have e:(t.p.legs (yZ t).inst).2.2=true:=by simpa using e
   have:xK t={yZ t with id:=t.i+1,time:=fE t.c,least:=dN t.c (yZ t).qty,price:=(yZ t).price-4*t.p.tick}:=by
    simp only[xK,hk1,if_true,e]
   rw[this];(repeat'(first|exact trivial|exact rfl|apply And.intro))
 ·have k:¬vU t.c=1:=by simpa using k
  have k:¬(yZ t).kind=1:=k
  rw[w64 (x:=5*t.p.tick) (by omega),w64 (x:=t.p.tick*zG t.c.price 0 9+5*t.p.tick) (by omega)]
  have et:xK t={yZ t with price:=if(yZ t).kind=4 then(yZ t).price+5*t.p.tick else(yZ t).price,side:=0,inst:=0}:=by
   simp only[xK,k,if_false]
  rw[et]
  refine Cv.cnd.mk (fun e=>⟨(),?_⟩) (fun e=>⟨(),?_⟩)
  ·have e:vU t.c=4:=by simpa using e
   have e:(yZ t).kind=4:=e
   simp only[yWm e];(repeat'(first|exact trivial|exact rfl|apply And.intro))
  ·have e:¬vU t.c=4:=by simpa using e
   have e:¬(yZ t).kind=4:=e
   simp only[yWl e];(repeat'(first|exact trivial|exact rfl|apply And.intro))
theorem tame_ok:tameC.ok Tryz.prog 21:=okw mixed (gokc within_ok (gokc zYk (gokc z7p gok0))) 0 (fun _=>ySb) (fun _=>[]) [] Tryz.func21 ySe
open Go Cv Go.Proofs
structure ShI where
 a:Int
 b:Int
 c:Int
def add64C:Con:=con1 ShI (fun i=>[rF i.a,rF i.b,rF i.c]) (fun _=>[]) (fun i=>0≤i.a∧0≤i.b∧0≤i.c∧i.c≤1) (fun i=> .tup [rF ((i.a+i.b+i.c) % 18446744073709551616),rF ((i.a+i.b+i.c) / 18446744073709551616)]) (fun _=>[])
theorem z6x {P : Program} {f : FuncId} {fn : Func} (hf : P.funcs[f]? = some fn) (hname : (fn.name == "runtime.NumGoroutine") = false) (hb : fn.body.isNone = true) (hn : Extern.findNext fn = none) (he : Extern.find fn = some add64Entry) : add64C.ok P f := by
 intro i hc k L E w ys R hv
 obtain⟨h1,h2,h3,h4⟩:0≤i.a∧0≤i.b∧0≤i.c∧i.c≤1:=hc
 simp only[add64C,con1,VRL,VR,DR]at hv
 obtain⟨_,_,rfl,⟨rfl,_⟩,_,_,rfl,⟨rfl,_⟩,_,_,rfl,⟨rfl,_⟩,rfl⟩:=hv
 unfold Does
 rw[run_callFunc_extern hf hname hb hn he,run_add64 i.a i.b i.c h1 h2 h3 h4]
 simp only[Result.andThen]
 refine⟨_,yXz.2 rfl,(),trivial,E,Ev.le.refl _,?_,R⟩
 simp only[add64C,con1,VR,VRL,DR]
 exact⟨_,rfl,_,_,rfl,⟨rfl,rfl⟩,_,_,rfl,⟨rfl,rfl⟩,rfl⟩
theorem z7b:add64C.ok Tryz.prog 301:=by
 refine z6x (P:=Tryz.prog) (f:=301) (fn:=Tryz.f301) Tryz.func301 ?_ ?_ ?_ ?_
 ·kernel_rfl
 ·kernel_rfl
 ·kernel_rfl
 ·kernel_rfl
structure M2 where
 a:Int
 b:Int
def mul64C:Con:=con1 M2 (fun i=>[rF i.a,rF i.b]) (fun _=>[]) (fun i=>0≤i.a∧i.a≤2000000000∧0≤i.b∧i.b≤2000000000) (fun i=> .tup [rF 0,rF (i.a*i.b)]) (fun _=>[])
def div64C:Con:=con1 M2 (fun i=>[rF 0,rF i.a,rF i.b]) (fun _=>[]) (fun i=>0≤i.a∧i.a≤4000000000000000000∧1≤i.b∧i.b≤2000000000) (fun i=> .tup [rF (i.a / i.b),rF (i.a % i.b)]) (fun _=>[])
def ishareC:Con:=con1 ShI (fun i=>[zA i.a,zA i.b,zA i.c]) (fun _=>[]) (fun i=>0≤i.a∧i.a≤2000000000∧0≤i.b∧i.b≤2000000000∧1≤i.c∧i.c≤2000000000) (fun i=> .tup [zA (i.a*i.b / i.c),yL true]) (fun _=>[])
def isumC:Con:=con1 (List Int) (fun l=>[iV l]) (fun _=>[]) (fun l=>l.length≤1000∧∀x∈l,0≤x∧x≤1000000) (fun l=> .tup [zA l.sum,yL true]) (fun _=>[])
def yRk (l:List Int):List SAnn:=[{ι:=Nat,slots:=fun j=>[(4,rF (l.take j).sum),(5,zA 0),(11,zA j)],rows:=fun _=>[]}]
structure LqI where
 l:List Int
 q:Int
def yQ (l:List Int) (q:Int):Bool:=decide (l.length≤250) && decide (0≤q) && l.all (fun n=>decide (1≤n) && decide (n≤1000000)) && decide (q≤l.sum)
def rightC:Con:=con1 LqI (fun i=>[iV i.l,zA i.q]) (fun _=>[]) (fun i=>i.l.length≤1000000∧yV i.q) (fun i=>yL (yQ i.l i.q)) (fun _=>[])
def yRi (i:LqI):List SAnn:=[{ι:=Nat,slots:=fun j=>[(5,zA (i.l.take j).sum),(17,zA j)],rows:=fun _=>[]}]
def uQ:List Int→Int→List Int
 |[],_=>[]
 |n::l,q=>min n q::uQ l (q-min n q)
def gB (l:List Int) (q:Int):List Int:=if yQ l q=true then uQ l q else[]
def fifoC:Con:=con1 LqI (fun i=>[iV i.l,zA i.q]) (fun _=>[]) (fun i=>i.l.length≤1000000∧yV i.q) (fun _=> .own 0) (fun i=>[.own 2 1 (iE (gB i.l i.q))])
def yRn (i:LqI):List SAnn:=[{ι:=Nat,slots:=fun j=>[(5,.own 0),(1,zA (i.q-((uQ i.l i.q).take j).sum)),(15,zA j)],rows:=fun j=>[.own 2 1 (iE ((uQ i.l i.q).take j))]}]
open Go Cv Go.Proofs
def lE (a:M2):=(IntKind.u64.wrap (IntKind.u64.wrap (pQ IntKind.u64 a.a 32*zGe IntKind.u64 a.b 4294967295)+pQ IntKind.u64 (IntKind.u64.wrap (zGe IntKind.u64 a.a 4294967295*zGe IntKind.u64 a.b 4294967295)) 32))
def yDl (i:M2):Prop:=
 (0:Int)≤(32:Int)∧(0:Int)≤(32:Int)∧(0:Int)≤(32:Int)∧(0:Int)≤(32:Int)∧(0:Int)≤(32:Int)∧∃(a:Unit),0=IntKind.u64.wrap (IntKind.u64.wrap (IntKind.u64.wrap (pQ IntKind.u64 i.a 32*pQ IntKind.u64 i.b 32)+pQ IntKind.u64 (lE i) 32)+pQ IntKind.u64 (IntKind.u64.wrap (zGe IntKind.u64 (lE i) 4294967295+IntKind.u64.wrap (zGe IntKind.u64 i.a 4294967295*pQ IntKind.u64 i.b 32))) 32)∧i.a*i.b=IntKind.u64.wrap (i.a*i.b)∧True
def yEo (i:M2):Prop:=
 cnd (i.b==0) False (cnd (decide (i.b≤0)) False (IntKind.u64=IntKind.u64∧i.b≠0∧IntKind.u64=IntKind.u64∧i.b≠0∧∃(a:Unit),i.a / i.b=IntKind.u64.wrap (i.a.tdiv i.b)∧i.a % i.b=i.a.tmod i.b∧True))
def z2n (i:ShI):Prop:=
 cnd (decide (i.a<0)) (∃(a:Unit),i.a*i.b / i.c=0∧true=false∧True) (cnd (decide (i.b<0)) (∃(a:Unit),i.a*i.b / i.c=0∧true=false∧True) (cnd (decide (i.c<1)) (∃(a:Unit),i.a*i.b / i.c=0∧true=false∧True) (∃(a:M2),a.a=IntKind.u64.wrap i.a∧a.b=IntKind.u64.wrap i.b∧(0≤a.a∧a.a≤(2000000000:Int)∧(0:Int)≤a.b∧a.b≤2000000000)∧∀(b:Unit),True→cnd (decide (0≥IntKind.u64.wrap i.c)) (∃(c:Unit),i.a*i.b / i.c=0∧true=false∧True) (∃(c:M2),(0:Int)=(0:Int)∧c.a=a.a*a.b∧c.b=IntKind.u64.wrap i.c∧(0≤c.a∧c.a≤(4000000000000000000:Int)∧(1:Int)≤c.b∧c.b≤2000000000)∧∀(d:Unit),True→cnd (decide (c.a / c.b>9223372036854775807)) (∃(e:Unit),i.a*i.b / i.c=0∧true=false∧True) (∃(e:Unit),i.a*i.b / i.c=IntKind.i64.wrap (c.a / c.b)∧true=true∧True)))))
def yKr (l:List Int):Prop:=
 ∃(a:Nat),(List.take a l).sum=(0:Int)∧(0:Int)=0∧(↑a:Int)=0∧∃(b:Nat→Prop),∃(c:Nat→Nat),b a∧∀(d:Nat),b d→cnd (decide ((↑d:Int)<(↑(iE l).length:Int))) ((0≤(↑d:Int)∧(↑d:Int)<(↑(iE l).length:Int))∧∃(e:Int),zF (iE l) (↑d:Int).toNat 0 1=some [dI e]∧∃(f:ShI),f.a=(List.take d l).sum∧f.b=IntKind.u64.wrap e∧f.c=0∧(0≤f.a∧0≤f.b∧0≤f.c∧f.c≤1)∧∀(g:Unit),True→(0:Int)≤(63:Int)∧∃(h:Nat),(List.take h l).sum=(f.a+f.b+f.c) % (18446744073709551616:Int)∧(0:Int)=IntKind.i64.wrap (0+IntKind.i64.wrap (pQ IntKind.i64 e 63+IntKind.i64.wrap ((f.a+f.b+f.c) / (18446744073709551616:Int))))∧vQ h d b c) ((0:Int)≤(63:Int)∧cnd (0 !=pQ IntKind.i64 (IntKind.i64.wrap (List.take d l).sum) 63) (∃(e:Unit),l.sum=0∧true=false∧True) (∃(e:Unit),l.sum=IntKind.i64.wrap (List.take d l).sum∧true=true∧True))
def yBy (i:LqI):Prop:=
 cnd (decide ((↑(iE i.l).length:Int)>250)) (∃(a:Unit),yQ i.l i.q=false∧True) (cnd (decide (i.q<0)) (∃(a:Unit),yQ i.l i.q=false∧True) (∃(a:Nat),(List.take a i.l).sum=0∧(↑a:Int)=0∧∃(b:Nat→Prop),∃(c:Nat→Nat),b a∧∀(d:Nat),b d→cnd (decide ((↑d:Int)<(↑(iE i.l).length:Int))) ((0≤(↑d:Int)∧(↑d:Int)<(↑(iE i.l).length:Int))∧∃(e:Int),zF (iE i.l) (↑d:Int).toNat 0 1=some [dI e]∧cnd (decide (e<1)) (∃(f:Unit),yQ i.l i.q=false∧True) (cnd (decide (e>1000000)) (∃(f:Unit),yQ i.l i.q=false∧True) (∃(f:Nat),(List.take f i.l).sum=IntKind.i64.wrap ((List.take d i.l).sum+e)∧vQ f d b c))) (∃(e:Unit),yQ i.l i.q=decide (i.q≤(List.take d i.l).sum)∧True)))
def j0 (a:LqI):Prop:=a.l.length≤(1000000:Nat)∧(-9223372036854775808:Int)≤a.q∧a.q≤9223372036854775807
def wA (a:Nat) (b:LqI):=(List.take a (uQ b.l b.q))
def yLn (i:LqI):Prop:=
 ∃(a:LqI),iE a.l=iE i.l∧a.q=i.q∧(j0 a)∧∀(b:Unit),True→cnd (!yQ a.l a.q) (∃(c:Unit),iE (gB i.l i.q)=[]∧True) (∃(c:Nat),i.q-(wA c i).sum=i.q∧(↑c:Int)=0∧iE (wA c i)=[]∧∃(d:Nat→Prop),∃(e:Nat→Nat),d c∧∀(f:Nat),d f→cnd (decide ((↑f:Int)<(↑(iE i.l).length:Int))) ((0≤(↑f:Int)∧(↑f:Int)<(↑(iE i.l).length:Int))∧∃(g:Int),zF (iE i.l) (↑f:Int).toNat 0 1=some [dI g]∧((iE (wA f i)).length+1)*(8:Nat)≤(70368744177664:Nat)∧∃(h:Nat),i.q-(wA h i).sum=IntKind.i64.wrap (i.q-(wA f i).sum-min g (i.q-(wA f i).sum))∧(↑h:Int)=IntKind.i64.wrap ((↑f:Int)+1)∧iE (wA h i)=iE (wA f i)++[[dI (min g (i.q-(wA f i).sum))]]∧d h∧e h<e f∧True) (∃(g:Unit),iE (gB i.l i.q)=iE (wA f i)∧True))
open Go Cv Go.Proofs
theorem zRu {x:Int} (h0:0≤x) (h1:x<4294967296):zGe .u64 x 4294967295=x:=by
 have e:zGe .u64 x 4294967295=IntKind.u64.wrap ((BitVec.ofInt 64 x &&& BitVec.ofInt 64 4294967295).toNat:Int):=rfl
 obtain⟨n,rfl⟩:=Int.eq_ofNat_of_zero_le h0
 have hn:n<4294967296:=by omega
 rw[e,BitVec.toNat_and,BitVec.ofInt_natCast,BitVec.toNat_ofNat,show(BitVec.ofInt 64 4294967295).toNat=2 ^ 32-1 by decide,Nat.and_two_pow_sub_one_eq_mod]
 rw[show n % 2 ^ 64 % 2 ^ 32=n by omega,zAc (by omega)]
theorem zIe {x:Int} (h0:0≤x) (h1:x<4294967296):pQ .u64 x 32=0:=by
 have:=zBv .u64 x 32 (by decide)
 rw[show((32:Nat):Int)=32 by rfl]at this
 rw[this];omega
theorem z2p {a b m n:Int} (ha:0≤a∧a≤m) (hb:0≤b∧b≤n):0≤a*b∧a*b≤m*n:=
 ⟨y2p ha.1 hb.1,Int.mul_le_mul ha.2 hb.2 hb.1 (by omega)⟩
theorem yMk (i:M2) (h:mul64C.cnd i):yDl i:=by
 obtain⟨h1,h2,h3,h4⟩:0≤i.a∧i.a≤2000000000∧0≤i.b∧i.b≤2000000000:=h
 have hm:=z2p ⟨h1,h2⟩ ⟨h3,h4⟩
 have hs:pQ IntKind.u64 (i.a*i.b) 32=(i.a*i.b) / 4294967296:=by
  have:=zBv .u64 (i.a*i.b) 32 (by decide)
  rw[show((32:Nat):Int)=32 by rfl]at this
  exact this
 unfold yDl lE
 refine⟨by decide,by decide,by decide,by decide,by decide,(),?_,?_,trivial⟩
 ·rw[zRu h1 (by omega),zRu h3 (by omega),zIe h1 (by omega),zIe h3 (by omega),zAc (x:=i.a*i.b) (by omega),hs]
  simp only[Int.zero_mul,Int.mul_zero,Int.zero_add,Int.add_zero]
  rw[zAc (x:=0) (by omega)]
  simp only[Int.zero_add,Int.add_zero]
  rw[zAc (x:=i.a*i.b / 4294967296) (by omega),zIe (x:=i.a*i.b / 4294967296) (by omega) (by omega),zRu (x:=i.a*i.b / 4294967296) (by omega) (by omega),zAc (x:=i.a*i.b / 4294967296) (by omega),zIe (x:=i.a*i.b / 4294967296) (by omega) (by omega)]
  rfl
 ·rw[zAc (by omega)]
theorem yAk:mul64C.ok Tryz.prog 290:=okw mixed gok0 0 (fun _=>[]) (fun _=>[]) [] Tryz.func290 yMk
theorem yRa (i:M2) (h:div64C.cnd i):yEo i:=by
 obtain⟨h1,h2,h3,h4⟩:0≤i.a∧i.a≤4000000000000000000∧1≤i.b∧i.b≤2000000000:=h
 unfold yEo
 have hd:0≤i.a / i.b∧i.a / i.b≤i.a:=⟨Int.ediv_nonneg h1 (by omega),Int.ediv_le_self _ h1⟩
 refine Cv.cnd.mk (fun c=>absurd (eq_of_beq c) (by omega)) (fun _=>zJ (fun c=>by omega) (fun _=>⟨rfl,by omega,rfl,by omega,(),?_,?_,trivial⟩))
 ·rw[Int.tdiv_eq_ediv_of_nonneg h1,zAc (by omega)]
 ·rw[Int.tmod_eq_emod_of_nonneg h1]
theorem yAn:div64C.ok Tryz.prog 291:=okw mixed gok0 0 (fun _=>[]) (fun _=>[]) [] Tryz.func291 yRa
theorem yIj (i:ShI) (h:ishareC.cnd i):z2n i:=by
 obtain⟨h1,h2,h3,h4,h5,h6⟩:0≤i.a∧i.a≤2000000000∧0≤i.b∧i.b≤2000000000∧1≤i.c∧i.c≤2000000000:=h
 have hm:=z2p ⟨h1,h2⟩ ⟨h3,h4⟩
 have hd:0≤i.a*i.b / i.c∧i.a*i.b / i.c≤i.a*i.b:=⟨Int.ediv_nonneg hm.1 (by omega),Int.ediv_le_self _ hm.1⟩
 unfold z2n
 rw[zAc (x:=i.a) (by omega),zAc (x:=i.b) (by omega),zAc (x:=i.c) (by omega)]
 refine zJ (fun c=>by omega) (fun _=>zJ (fun c=>by omega) (fun _=>zJ (fun c=>by omega) (fun _=>⟨⟨i.a,i.b⟩,rfl,rfl,⟨h1,h2,h3,h4⟩,fun _ _=>zJ (fun c=>by omega) (fun _=>⟨⟨i.a*i.b,i.c⟩,rfl,rfl,rfl,⟨hm.1,by dsimp only;omega,h5,h6⟩,fun _ _=>zJ (fun c=>by dsimp only at c;omega) (fun _=>⟨(),?_,rfl,trivial⟩)⟩)⟩)))
 rw[w64 (by dsimp only;omega)]
theorem zNh:ishareC.ok Tryz.prog 278:=okw mixed (gokc yAk (gokc yAn gok0)) 0 (fun _=>[]) (fun _=>[]) [] Tryz.func278 yIj
theorem wjn {j:Nat} (h:j≤1000000):((j+1:Nat):Int)=IntKind.i64.wrap ((j:Int)+1):=by rw[w64 (by omega)];rfl
theorem jS {l:List Int} {j:Nat} {x:Int} (h:l[j]? =some x):(l.take (j+1)).sum=(l.take j).sum+x:=by
 rw[yYm,h];simp
theorem jK {l:List Int} (h:∀x∈l,0≤x∧x≤1000000):∀j:Nat,0≤(l.take j).sum∧(l.take j).sum≤1000000*j
 |0=>by simp
 |j+1=>by
  have ih:=jK h j
  cases hx:l[j]? with
  |none=>
   have:l.take (j+1)=l.take j:=by
    rw[yYm,hx];simp
   rw[this];omega
  |some x=>
   have:=h x (yWv hx)
   rw[jS hx];omega
theorem ySm (l:List Int) (h:isumC.cnd l):yKr l:=by
 obtain⟨hl,hb⟩:l.length≤1000∧∀x∈l,0≤x∧x≤1000000:=h
 unfold yKr vQ dI
 simp only[y5]
 refine⟨0,by(first|exact rfl|exact trivial),by(first|exact rfl|exact trivial),by(first|exact rfl|exact trivial),fun j=>j≤l.length,fun j=>l.length-j,yYe _,fun j hj=>zJ (fun c=> ?_) (fun c=> ?_)⟩
 ·have hj':j<l.length:=by omega
  obtain⟨x,hx⟩:=yA (l:=l) (i:=j) hj'
  have bx:=hb x (yWv hx)
  have bs:=jK hb j
  refine⟨⟨by omega,by omega⟩,x,elI hx,⟨(l.take j).sum,x,0⟩,rfl,by rw[zAc (by omega)],rfl,⟨bs.1,bx.1,by dsimp only;omega,by dsimp only;omega⟩,fun _ _=>⟨by decide,j+1,?_,?_,wjn (by omega),hj',by dsimp only;omega,trivial⟩⟩
  ·rw[jS hx];dsimp only;omega
  ·have e:pQ IntKind.i64 x 63=x / 9223372036854775808:=by
    have:=zBv .i64 x 63 (by decide)
    rw[show((63:Nat):Int)=63 by rfl]at this
    exact this
   dsimp only
   rw[e,show x / 9223372036854775808=0 by omega,show((l.take j).sum+x+0) / 18446744073709551616=0 by omega]
   rfl
 ·have hj':j=l.length:=by omega
  subst hj'
  have bs:=jK hb l.length
  rw[y1u]at bs
  have e:pQ IntKind.i64 l.sum 63=l.sum / 9223372036854775808:=by
   have:=zBv .i64 l.sum 63 (by decide)
   rw[show((63:Nat):Int)=63 by rfl]at this
   exact this
  rw[y1u,w64 (x:=l.sum) (by omega),e,show l.sum / 9223372036854775808=0 by omega]
  exact⟨by decide,Cv.cnd.mk (fun c=>absurd c (by decide)) (fun _=>⟨(),by(first|exact rfl|exact trivial),by(first|exact rfl|exact trivial),trivial⟩)⟩
theorem yHo:isumC.ok Tryz.prog 295:=okw mixed (gokc z7b gok0) 0 (fun _=>[]) (fun l=>yRk l) [] Tryz.func295 ySm
theorem yMy (i:LqI) (h:rightC.cnd i):yBy i:=by
 obtain⟨hl,hq⟩:i.l.length≤1000000∧yV i.q:=h
 unfold yBy vQ dI
 simp only[y5]
 refine zJ (fun c=>⟨(),?_,trivial⟩) (fun c1=>zJ (fun c=>⟨(),?_,trivial⟩) (fun c2=> ?_))
 ·rw[yQ,yWy (by omega:¬i.l.length≤250)];rfl
 ·rw[yQ,yWy (by omega:¬0≤i.q)];simp
 refine⟨0,by(first|exact rfl|exact trivial),by(first|exact rfl|exact trivial),fun j=>j≤i.l.length∧∀k<j,∀x,i.l[k]? =some x→1≤x∧x≤1000000,fun j=>i.l.length-j,⟨yYe _,fun k hk=>absurd hk (Nat.not_lt_zero k)⟩,fun j hj=>zJ (fun c=> ?_) (fun c=> ?_)⟩
 ·obtain⟨hj0,hjb⟩:=hj
  have hj':j<i.l.length:=by omega
  obtain⟨x,hx⟩:=yA (l:=i.l) (i:=j) hj'
  have bad (hn:¬(1≤x∧x≤1000000)):yQ i.l i.q=false:=by
   have:(i.l.all fun n=>decide (1≤n) && decide (n≤1000000))=false:=by
    rw[List.all_eq_false]
    exact⟨x,yWv hx,by simpa using hn⟩
   rw[yQ,this];simp
  have bs:0≤(i.l.take j).sum∧(i.l.take j).sum≤1000000*j:=by
   have:=jK (l:=i.l.take j) (fun y hy=>by
    obtain⟨k,hk⟩:=yYi.1 hy
    have hkj:k<j:=by
     have:=(yWn.1 hk).1
     rw[yXi]at this;omega
    rw[List.getElem?_take_of_lt hkj]at hk
    have:=hjb k hkj y hk;omega) j
   rwa [List.take_take,Nat.min_self]at this
  refine⟨⟨by omega,by omega⟩,x,elI hx,zJ (fun d=>⟨(),bad (by omega),trivial⟩) (fun d=>zJ (fun e=>⟨(),bad (by omega),trivial⟩) (fun e=>⟨j+1,?_,wjn (by omega),⟨hj',fun k hk y hy=> ?_⟩,by dsimp only;omega,trivial⟩))⟩
  ·rw[jS hx,w64 (by omega)]
  ·by_cases hkj:k=j
   ·rw[hkj,hx]at hy;cases hy;omega
   ·exact hjb k (by omega) y hy
 ·obtain⟨hj0,hjb⟩:=hj
  have hj':j=i.l.length:=by omega
  subst hj'
  have:(i.l.all fun n=>decide (1≤n) && decide (n≤1000000))=true:=by
   rw[yZn]
   intro y hy
   obtain⟨k,hk⟩:=yYi.1 hy
   have:=hjb k ((yWn.1 hk).1) y hk
   simpa using this
  refine⟨(),?_,trivial⟩
  rw[yQ,this,yXf (by omega:i.l.length≤250),yXf (by omega:0≤i.q),y1u]
  rfl
theorem zCi:rightC.ok Tryz.prog 276:=okw mixed gok0 0 (fun _=>[]) (fun i=>yRi i) [] Tryz.func276 yMy
theorem jB {l:List Int} {q:Int} (h:yQ l q=true):l.length≤250∧0≤q∧(∀x∈l,1≤x∧x≤1000000)∧q≤l.sum:=by
 simp only[yQ,yWz,yXy,yZn]at h
 exact⟨h.1.1.1,h.1.1.2,h.1.2,h.2⟩
theorem zHw {l:List Int} {q:Int} (h:yQ l q=true):q≤250000000:=by
 obtain⟨h1,h2,h3,h4⟩:=jB h
 have:=jK (l:=l) (fun x hx=>by have:=h3 x hx;omega) l.length
 rw[y1u]at this
 omega
theorem sN:∀(l:List Int) (q:Int),(uQ l q).length=l.length
 |[],_=>rfl
 |n::l,q=>by rw[uQ,yXa,yXa,sN l]
theorem zMm:∀(l:List Int) (q:Int) (j:Nat) (n:Int),l[j]? =some n→(uQ l q)[j]? =some (min n (q-((uQ l q).take j).sum))
 |[],_,_,_,h=>by simp at h
 |m::l,q,0,n,h=>by simp at h;subst h;simp[uQ]
 |m::l,q,j+1,n,h=>by
  rw[yYf]at h
  rw[uQ,yYf,zMm l _ j n h,yYb,yXj]
  congr 2;omega
theorem zGb:∀(l:List Int) (q:Int) (j:Nat),0≤q→(∀x∈l,0≤x)→0≤q-((uQ l q).take j).sum∧q-((uQ l q).take j).sum≤q
 |[],q,j,h,_=>by simp[uQ,h]
 |m::l,q,0,h,_=>by simp[h]
 |m::l,q,j+1,h,hb=>by
  have hm:=hb m yWq
  have:=zGb l (q-min m q) j (by omega) (fun x hx=>hb x (yWr _ hx))
  rw[uQ,yYb,yXj]
  omega
theorem yRv (i:LqI) (h:fifoC.cnd i):yLn i:=by
 obtain⟨hl,hq⟩:i.l.length≤1000000∧yV i.q:=h
 unfold yLn wA j0 dI
 refine⟨i,rfl,rfl,⟨hl,hq⟩,fun _ _=>Cv.cnd.mk (fun c=> ?_) (fun c=> ?_)⟩
 ·have c:yQ i.l i.q=false:=by simpa using c
  refine⟨(),?_,trivial⟩
  rw[gB,yWl (by rw[c];decide)];rfl
 have c:yQ i.l i.q=true:=by simpa using c
 obtain⟨h1,h2,h3,h4⟩:=jB c
 have hq2:=zHw c
 have h3':∀x∈i.l,0≤x:=fun x hx=>by have:=h3 x hx;omega
 simp only[y5]
 refine⟨0,by simp,rfl,rfl,fun j=>j≤i.l.length,fun j=>i.l.length-j,yYe _,fun j hj=>zJ (fun d=> ?_) (fun d=> ?_)⟩
 ·have hj':j<i.l.length:=by omega
  obtain⟨x,hx⟩:=yA (l:=i.l) (i:=j) hj'
  have bx:=h3 x (yWv hx)
  have g:=zMm i.l i.q j x hx
  have r:=zGb i.l i.q j h2 h3'
  refine⟨⟨by omega,by omega⟩,x,elI hx,by rw[yXi];omega,j+1,?_,wjn (by omega),?_,hj',by dsimp only;omega,trivial⟩
  ·rw[jS g,w64 (by omega)];omega
  ·rw[yYm,g];simp[iE]
 ·have hj':j=i.l.length:=by omega
  subst hj'
  refine⟨(),?_,trivial⟩
  rw[gB,yWm c,yXg (by rw[sN];omega)]
theorem z2v:fifoC.ok Tryz.prog 251:=okw mixed (gokc zCi gok0) 0 (fun _=>[]) (fun i=>yRn i) [] Tryz.func251 yRv
open Go Cv Go.Proofs
structure Ent where
 slot:Int
 id:Int
 qty:Int
 top:Bool
 deriving DecidableEq
def yTd:Ent:=⟨0,0,0,false⟩
def zHl (e:Ent):List D:=[.v (.int .i64 e.slot),.v (.int .i64 e.id),.v (.int .i64 e.qty),.v (.bool e.top)]
@[reducible] def yUt (e:Ent):V:= .agg [zA e.slot,zA e.id,zA e.qty,yL e.top]
def Slot.ent (s:Slot):Ent:=⟨s.n,s.id,s.qty,s.top⟩
def Arena.slotAt (a:Arena) (k:Nat):Slot:=a.slots.getD k slot0
def Arena.getF (a:Arena) (n:Int):Ent×Bool:=if a.usedAt n=true then((a.slotAt n.toNat).ent,true)else(yTd,false)
def agetC:Con:=con1 ArN (fun i=>[.nm 0 0,zA i.n]) (fun i=>[jO i.a]) (fun i=>i.a.slots.length≤1000000) (fun i=> .tup [yUt (i.a.getF i.n).1,yL (i.a.getF i.n).2]) (fun i=>[jO i.a])
def zUk (sl:List Slot):Int→List Nat→Prop
 |at_,[]=>at_= -1
 |at_,k::l=>at_=k∧k<sl.length∧zUk sl (sl.getD k slot0).back l
structure ArL where
 a:Arena
 n:Int
 l:List Nat
def rG (l:List Nat) (j:Nat):Int:=match l[j]? with
 |some k=>k
 |none=> -1
def Arena.ents (a:Arena) (l:List Nat):List Ent:=l.map fun k=>(a.slotAt k).ent
structure Arena.listOk (a:Arena) (n:Int) (l:List Nat):Prop where
 len:l.length≤1000000
 ch:if 0≤n∧n<a.queues.length then zUk a.slots (a.queues.getD n.toNat bU).first l else l=[]
def alistC:Con:=con1 ArL (fun i=>[.nm 0 0,zA i.n]) (fun i=>[jO i.a]) (fun i=>i.a.listOk i.n i.l) (fun _=> .own 1) (fun i=>[jO i.a,.own 246 4 ((i.a.ents i.l).map zHl)])
def yQt (i:ArL):List SAnn:=[{ι:=Nat,slots:=fun j=>[(5,.own 0),(6,zA (rG i.l j))],rows:=fun j=>[.own 246 4 ((i.a.ents (i.l.take j)).map zHl)]}]
structure TkI where
 a:Arena
 n:Int
 qty:Int
def Arena.dropF (a:Arena) (k:Nat):Arena:=
 let s:=a.slotAt k
 let q:=a.queues.getD s.queue.toNat bU
 let sl1:=if s.ahead= -1 then a.slots else a.slots.modify s.ahead.toNat fun x=>{x with back:=s.back}
 let sl2:=if s.back= -1 then sl1 else sl1.modify s.back.toNat fun x=>{x with ahead:=s.ahead}
 ⟨sl2.set k slot0,a.queues.set s.queue.toNat ⟨if s.ahead= -1 then s.back else q.first,if s.back= -1 then s.ahead else q.last,q.total,IntKind.i64.wrap (q.count-1)⟩,IntKind.i64.wrap (a.free+1)⟩
def Arena.less (a:Arena) (k:Nat) (qty:Int):Arena:=
 {a with slots:=a.slots.modify k fun s=>{s with qty:=s.qty-qty},queues:=a.queues.modify (a.slotAt k).queue.toNat fun q=>{q with total:=IntKind.i64.wrap (q.total-qty)}}
def Arena.takeF (a:Arena) (n qty:Int):Arena×Int:=
 if a.usedAt n=false then(a,26)else if qty<1∨(a.slotAt n.toNat).qty<qty then(a,24)
 else if(a.slotAt n.toNat).qty=qty then((a.less n.toNat qty).dropF n.toNat,0)else(a.less n.toNat qty,0)
def Arena.okAt (a:Arena):Prop:=a.slots.length≤1000000∧∀(k:Nat) (s:Slot),a.slots[k]? =some s→s.used=true→(0≤s.queue∧s.queue<a.queues.length)∧s.qty≤1000000∧(s.ahead= -1∨(0≤s.ahead∧s.ahead<a.slots.length∧s.ahead≠k))∧(s.back= -1∨(0≤s.back∧s.back<a.slots.length∧s.back≠k))
def atakeC:Con:=con1 TkI (fun i=>[.nm 0 0,zA i.n,zA i.qty]) (fun i=>[jO i.a]) (fun i=>i.a.okAt) (fun i=>zA (i.a.takeF i.n i.qty).2) (fun i=>[jO (i.a.takeF i.n i.qty).1])
open Go Cv Go.Proofs
def tV (a:ArN):Prop:=∃(b:Unit),(a.a.getF a.n).fst.slot=0∧(a.a.getF a.n).fst.id=0∧(a.a.getF a.n).fst.qty=0∧(a.a.getF a.n).fst.top=false∧(a.a.getF a.n).snd=false∧jE a
def yLd (i:ArN):Prop:=
 cnd (decide (i.n<0)) (tV i) (cnd (decide (i.n≥(↑(List.map zR i.a.slots).length:Int))) (tV i) ((0≤i.n∧i.n<(↑(List.map zR i.a.slots).length:Int))∧∃(a:Bool),zF (List.map zR i.a.slots) i.n.toNat ((0:Nat)+(0:Nat)) 1=some [D.v (.bool a)]∧cnd (!a) (tV i) ((0≤i.n∧i.n<(↑(List.map zR i.a.slots).length:Int))∧∃(b:Int),∃(c:Int),∃(d:Int),∃(e:Bool),zF (List.map zR i.a.slots) i.n.toNat ((0:Nat)+(1:Nat)) 4=some [dI b,dI c,dI d,D.v (.bool e)]∧∃(f:Unit),(i.a.getF i.n).fst.slot=b∧(i.a.getF i.n).fst.id=c∧(i.a.getF i.n).fst.qty=d∧(i.a.getF i.n).fst.top=e∧(i.a.getF i.n).snd=true∧jE i)))
def lJ (a:ArL):Prop:=∃(b:Unit),a.a.free=a.a.free∧List.map zR a.a.slots=List.map zR a.a.slots∧List.map zP a.a.queues=List.map zP a.a.queues∧List.map zHl (a.a.ents a.l)=[]∧True
def yEr (i:ArL):Prop:=
 cnd (decide (i.n≥0)) (cnd (!decide (i.n<(↑(List.map zP i.a.queues).length:Int))) (lJ i) ((0≤i.n∧i.n<(↑(List.map zP i.a.queues).length:Int))∧∃(a:Int),zF (List.map zP i.a.queues) i.n.toNat ((0:Nat)+(0:Nat)) 1=some [dI a]∧∃(b:Nat),rG i.l b=a∧List.map zHl (i.a.ents (List.take b i.l))=[]∧∃(c:Nat→Prop),∃(d:Nat→Nat),c b∧∀(e:Nat),c e→cnd (rG i.l e !=(-1)) ((0≤rG i.l e∧rG i.l e<(↑(List.map zR i.a.slots).length:Int))∧∃(f:Int),∃(g:Int),∃(h:Int),∃(j:Bool),zF (List.map zR i.a.slots) (rG i.l e).toNat ((0:Nat)+(1:Nat)) 4=some [dI f,dI g,dI h,D.v (.bool j)]∧((List.map zHl (i.a.ents (List.take e i.l))).length+1)*(32:Nat)≤(70368744177664:Nat)∧(0≤rG i.l e∧rG i.l e<(↑(List.map zR i.a.slots).length:Int))∧∃(k:Int),zF (List.map zR i.a.slots) (rG i.l e).toNat ((0:Nat)+(7:Nat)) 1=some [dI k]∧∃(l:Nat),rG i.l l=k∧List.map zHl (i.a.ents (List.take l i.l))=List.map zHl (i.a.ents (List.take e i.l))++[[dI f,dI g,dI h,D.v (.bool j)]]∧c l∧d l<d e∧Sx.AObj.cells (jT (kG 0 1 3) [V.own 1,V.own 2,zA i.a.free]) (350:TypeId)=Sx.AObj.cells (jT (kG 0 1 3) [V.own 1,V.own 2,zA i.a.free]) (350:TypeId)∧AObj.own 305 8 (List.map zR i.a.slots)=AObj.own 305 8 (List.map zR i.a.slots)∧AObj.own 354 4 (List.map zP i.a.queues)=AObj.own 354 4 (List.map zP i.a.queues)) (∃(f:Unit),i.a.free=i.a.free∧List.map zR i.a.slots=List.map zR i.a.slots∧List.map zP i.a.queues=List.map zP i.a.queues∧List.map zHl (i.a.ents i.l)=List.map zHl (i.a.ents (List.take e i.l))∧True))) (lJ i)
def zAq (a:TkI):Prop:=(a.a.takeF a.n a.qty).fst.free=a.a.free∧List.map zR (a.a.takeF a.n a.qty).fst.slots=List.map zR a.a.slots∧List.map zP (a.a.takeF a.n a.qty).fst.queues=List.map zP a.a.queues∧True
def pL (a:TkI):Prop:=∃(b:Unit),(a.a.takeF a.n a.qty).snd=26∧zAq a
def zAv (a:TkI):Prop:=∃(b:Unit),(a.a.takeF a.n a.qty).snd=24∧zAq a
def xC (a:TkI) (b:Int):=(yE (List.map zR a.a.slots) a.n.toNat ((0:Nat)+(1:Nat)+2) [dI (IntKind.i64.wrap (b-a.qty))])
def jQ (a:TkI) (b:Int) (c:Int) (d:Int):=(yE (xC a b) c.toNat ((0:Nat)+(7:Nat)) [dI d])
def lL (a:TkI) (b:Int) (c:Int) (d:Int) (e:Int) (f:Int):=(yE (jQ a b c d) e.toNat ((0:Nat)+(6:Nat)) [dI f])
def wG (a:TkI) (b:Int) (c:Int):=(yE (List.map zP a.a.queues) b.toNat ((0:Nat)+(2:Nat)) [dI (IntKind.i64.wrap (c-a.qty))])
def f8 (a:TkI) (b:Int) (c:Int) (d:Int) (e:Int):=(yE (wG a b c) d.toNat ((0:Nat)+(0:Nat)) [dI e])
def nP (a:TkI) (b:Int) (c:Int) (d:Int) (e:Int) (f:Int):=(yE (f8 a b c d e) d.toNat ((0:Nat)+(1:Nat)) [dI f])
def zAs (a:TkI) (b:Int) (c:Int) (d:Int):=(yE (xC a b) c.toNat ((0:Nat)+(6:Nat)) [dI d])
def zAz (a:Int) (b:TkI) (c:Int):Prop:=0≤a∧a<(↑(xC b c).length:Int)
def pB (a:TkI) (b:Int) (c:Int) (d:Int) (e:Int):=(yE (wG a b c) d.toNat ((0:Nat)+(1:Nat)) [dI e])
def yBa (i:TkI):Prop:=
 cnd (decide (i.n<0)) (pL i) (cnd (decide (i.n≥(↑(List.map zR i.a.slots).length:Int))) (pL i) ((0≤i.n∧i.n<(↑(List.map zR i.a.slots).length:Int))∧∃(a:Bool),zF (List.map zR i.a.slots) i.n.toNat ((0:Nat)+(0:Nat)) 1=some [D.v (.bool a)]∧cnd (!a) (pL i) ((0≤i.n∧i.n<(↑(List.map zR i.a.slots).length:Int))∧cnd (decide (i.qty<1)) (zAv i) (∃(b:Int),zF (List.map zR i.a.slots) i.n.toNat ((0:Nat)+(1:Nat)+2) 1=some [dI b]∧cnd (decide (i.qty>b)) (zAv i) (∃(c:Int),zF (List.map zR i.a.slots) i.n.toNat ((0:Nat)+(1:Nat)+2) 1=some [dI c]∧i.n.toNat<(List.map zR i.a.slots).length∧∃(d:Int),zF (xC i c) i.n.toNat ((0:Nat)+(5:Nat)) 1=some [dI d]∧(0≤d∧d<(↑(List.map zP i.a.queues).length:Int))∧∃(e:Int),zF (List.map zP i.a.queues) d.toNat ((0:Nat)+(2:Nat)) 1=some [dI e]∧(0≤d∧d<(↑(List.map zP i.a.queues).length:Int))∧d.toNat<(List.map zP i.a.queues).length∧∃(f:Int),zF (xC i c) i.n.toNat ((0:Nat)+(1:Nat)+2) 1=some [dI f]∧cnd (f==0) (∃(g:Int),zF (xC i c) i.n.toNat ((0:Nat)+(5:Nat)) 1=some [dI g]∧(0≤g∧g<(↑(wG i d e).length:Int))∧∃(h:Int),zF (xC i c) i.n.toNat ((0:Nat)+(6:Nat)) 1=some [dI h]∧cnd (h==(-1)) (∃(j:Int),zF (xC i c) i.n.toNat ((0:Nat)+(7:Nat)) 1=some [dI j]∧g.toNat<(wG i d e).length∧∃(k:Int),zF (xC i c) i.n.toNat ((0:Nat)+(7:Nat)) 1=some [dI k]∧cnd (k==(-1)) (∃(l:Int),zF (xC i c) i.n.toNat ((0:Nat)+(6:Nat)) 1=some [dI l]∧g.toNat<(f8 i d e g j).length∧∃(m:Int),zF (nP i d e g j l) g.toNat ((0:Nat)+(3:Nat)) 1=some [dI m]∧g.toNat<(nP i d e g j l).length∧i.n.toNat<(xC i c).length∧∃(n:Unit),(i.a.takeF i.n i.qty).snd=0∧(i.a.takeF i.n i.qty).fst.free=IntKind.i64.wrap (i.a.free+1)∧List.map zR (i.a.takeF i.n i.qty).fst.slots=yE (xC i c) i.n.toNat 0 [D.v (.bool false),dI 0,dI 0,dI 0,D.v (.bool false),dI 0,dI 0,dI 0]∧List.map zP (i.a.takeF i.n i.qty).fst.queues=yE (nP i d e g j l) g.toNat ((0:Nat)+(3:Nat)) [dI (IntKind.i64.wrap (m-1))]∧True) (∃(l:Int),zF (xC i c) i.n.toNat ((0:Nat)+(7:Nat)) 1=some [dI l]∧∃(m:Int),zF (xC i c) i.n.toNat ((0:Nat)+(6:Nat)) 1=some [dI m]∧(zAz l i c)∧l.toNat<(xC i c).length∧∃(n:Int),zF (f8 i d e g j) g.toNat ((0:Nat)+(3:Nat)) 1=some [dI n]∧g.toNat<(f8 i d e g j).length∧i.n.toNat<(zAs i c l m).length∧∃(p:Unit),(i.a.takeF i.n i.qty).snd=0∧(i.a.takeF i.n i.qty).fst.free=IntKind.i64.wrap (i.a.free+1)∧List.map zR (i.a.takeF i.n i.qty).fst.slots=yE (zAs i c l m) i.n.toNat 0 [D.v (.bool false),dI 0,dI 0,dI 0,D.v (.bool false),dI 0,dI 0,dI 0]∧List.map zP (i.a.takeF i.n i.qty).fst.queues=yE (f8 i d e g j) g.toNat ((0:Nat)+(3:Nat)) [dI (IntKind.i64.wrap (n-1))]∧True)) (∃(j:Int),zF (xC i c) i.n.toNat ((0:Nat)+(6:Nat)) 1=some [dI j]∧∃(k:Int),zF (xC i c) i.n.toNat ((0:Nat)+(7:Nat)) 1=some [dI k]∧(zAz j i c)∧j.toNat<(xC i c).length∧∃(l:Int),zF (jQ i c j k) i.n.toNat ((0:Nat)+(7:Nat)) 1=some [dI l]∧cnd (l==(-1)) (∃(m:Int),zF (jQ i c j k) i.n.toNat ((0:Nat)+(6:Nat)) 1=some [dI m]∧g.toNat<(wG i d e).length∧∃(n:Int),zF (pB i d e g m) g.toNat ((0:Nat)+(3:Nat)) 1=some [dI n]∧g.toNat<(pB i d e g m).length∧i.n.toNat<(jQ i c j k).length∧∃(p:Unit),(i.a.takeF i.n i.qty).snd=0∧(i.a.takeF i.n i.qty).fst.free=IntKind.i64.wrap (i.a.free+1)∧List.map zR (i.a.takeF i.n i.qty).fst.slots=yE (jQ i c j k) i.n.toNat 0 [D.v (.bool false),dI 0,dI 0,dI 0,D.v (.bool false),dI 0,dI 0,dI 0]∧List.map zP (i.a.takeF i.n i.qty).fst.queues=yE (pB i d e g m) g.toNat ((0:Nat)+(3:Nat)) [dI (IntKind.i64.wrap (n-1))]∧True) (∃(m:Int),zF (jQ i c j k) i.n.toNat ((0:Nat)+(7:Nat)) 1=some [dI m]∧∃(n:Int),zF (jQ i c j k) i.n.toNat ((0:Nat)+(6:Nat)) 1=some [dI n]∧(0≤m∧m<(↑(jQ i c j k).length:Int))∧m.toNat<(jQ i c j k).length∧∃(p:Int),zF (wG i d e) g.toNat ((0:Nat)+(3:Nat)) 1=some [dI p]∧g.toNat<(wG i d e).length∧i.n.toNat<(lL i c j k m n).length∧∃(q:Unit),(i.a.takeF i.n i.qty).snd=0∧(i.a.takeF i.n i.qty).fst.free=IntKind.i64.wrap (i.a.free+1)∧List.map zR (i.a.takeF i.n i.qty).fst.slots=yE (lL i c j k m n) i.n.toNat 0 [D.v (.bool false),dI 0,dI 0,dI 0,D.v (.bool false),dI 0,dI 0,dI 0]∧List.map zP (i.a.takeF i.n i.qty).fst.queues=yE (wG i d e) g.toNat ((0:Nat)+(3:Nat)) [dI (IntKind.i64.wrap (p-1))]∧True))) (∃(g:Unit),(i.a.takeF i.n i.qty).snd=0∧(i.a.takeF i.n i.qty).fst.free=i.a.free∧List.map zR (i.a.takeF i.n i.qty).fst.slots=yE (List.map zR i.a.slots) i.n.toNat ((0:Nat)+(1:Nat)+2) [dI (IntKind.i64.wrap (c-i.qty))]∧List.map zP (i.a.takeF i.n i.qty).fst.queues=yE (List.map zP i.a.queues) d.toNat ((0:Nat)+(2:Nat)) [dI (IntKind.i64.wrap (e-i.qty))]∧True))))))
open Go Cv Go.Proofs
theorem zId {a:Arena} {n:Int} (h:n<0∨(a.slots.length:Int)≤n):a.usedAt n=false:=by
 rcases h with h|h
 ·rw[Arena.usedAt,yWy (by omega),yZq]
 ·rw[Arena.usedAt,yWy (show ¬n<(a.slots.length:Int)by omega),yZq,y1s]
theorem z4c {a:Arena} {n:Int} {s:Slot} (h0:0≤n) (hs:a.slots[n.toNat]? =some s):a.usedAt n=s.used:=by
 have hl:=(yWn.1 hs).1
 rw[Arena.usedAt,yXf h0,yXf (show n<(a.slots.length:Int)by omega),zK hs];simp
theorem xP {a:Arena} {k:Nat} {s:Slot} (hs:a.slots[k]? =some s):a.slotAt k=s:=zK hs
theorem yUg (i:ArN) (h:agetC.cnd i):yLd i:=by
 have h:i.a.slots.length≤1000000:=h
 unfold yLd tV jE dI
 simp only[yWo]
 have no (e:i.a.usedAt i.n=false):i.a.getF i.n=(yTd,false):=by rw[Arena.getF,yWl (by rw[e];decide)]
 refine zJ (fun c=> ?_) (fun c=>zJ (fun d=> ?_) (fun d=> ?_))
 ·rw[no (zId (.inl c))];(repeat'(first|exact rfl|exact trivial|assumption|apply And.intro|refine fun(_:Unit) (_:True)=>?_|refine Exists.intro () ?_|omega|(dsimp only;omega)))
 ·rw[no (zId (.inr (by omega)))];(repeat'(first|exact rfl|exact trivial|assumption|apply And.intro|refine fun(_:Unit) (_:True)=>?_|refine Exists.intro () ?_|omega|(dsimp only;omega)))
 ·obtain⟨s,hs⟩:=yA (l:=i.a.slots) (i:=i.n.toNat) (by omega)
  have eu:=z4c (a:=i.a) (n:=i.n) (by omega) hs
  refine⟨⟨by omega,by omega⟩,s.used,elA hs (by simp[zR]) rfl,Cv.cnd.mk (fun u=> ?_) (fun u=> ?_)⟩
  ·rw[no (by rw[eu];simpa using u)];(repeat'(first|exact rfl|exact trivial|assumption|apply And.intro|refine fun(_:Unit) (_:True)=>?_|refine Exists.intro () ?_|omega|(dsimp only;omega)))
  ·have e:i.a.usedAt i.n=true:=by rw[eu];simpa using u
   have et:i.a.getF i.n=(s.ent,true):=by rw[Arena.getF,yWm e,xP hs]
   rw[et]
   refine⟨⟨by omega,by omega⟩,s.n,s.id,s.qty,s.top,elA hs (by simp[zR]) rfl,?_⟩
   (repeat'(first|exact rfl|exact trivial|assumption|apply And.intro|refine fun(_:Unit) (_:True)=>?_|refine Exists.intro () ?_|omega|(dsimp only;omega)))
theorem z3m:agetC.ok Tryz.prog 148:=okw mixed gok0 1 (fun _=>[]) (fun _=>[]) [0] Tryz.func148 yUg
theorem zPh:∀{sl:List Slot} {at_:Int} {l:List Nat},zUk sl at_ l→rG l 0=at_∧∀j k,l[j]? =some k→k<sl.length∧rG l (j+1)=(sl.getD k slot0).back
 |sl,at_,[],h=>⟨h.symm,fun j k hk=>by simp at hk⟩
 |sl,at_,x::l,h=>by
  obtain⟨h1,h2,h3⟩:=h
  have ih:=zPh h3
  refine⟨h1.symm,fun j k hk=> ?_⟩
  cases j with
  |zero=>
   simp at hk;subst hk
   exact⟨h2,by rw[← ih.1];rfl⟩
  |succ j=>
   rw[yYf]at hk
   obtain⟨a,b⟩:=ih.2 j k hk
   exact⟨a,by rw[← b];rfl⟩
theorem yQs (i:ArL) (h:alistC.cnd i):yEr i:=by
 obtain⟨hl,h⟩:i.l.length≤1000000∧(if 0≤i.n∧i.n<i.a.queues.length then zUk i.a.slots (i.a.queues.getD i.n.toNat bU).first i.l else i.l=[]):=⟨h.len,h.ch⟩
 unfold yEr lJ dI
 simp only[yWo]
 have out (e:¬(0≤i.n∧i.n<(i.a.queues.length:Int))):i.l=[]:=by rw[yWl e]at h;exact h
 refine zJ (fun c=>Cv.cnd.mk (fun d=> ?_) (fun d=> ?_)) (fun c=> ?_)
 ·have d:¬i.n<(i.a.queues.length:Int):=by simpa using d
  rw[out (by omega)];(repeat'(first|exact rfl|exact trivial|assumption|apply And.intro|refine fun(_:Unit) (_:True)=>?_|refine Exists.intro () ?_|omega|(dsimp only;omega)))
 ·have d:i.n<(i.a.queues.length:Int):=by simpa using d
  rw[yWm ⟨by omega,d⟩]at h
  obtain⟨q,hq⟩:=yA (l:=i.a.queues) (i:=i.n.toNat) (by omega)
  rw[zK hq]at h
  obtain⟨n0,nx⟩:=zPh h
  refine⟨⟨by omega,by omega⟩,q.first,elA hq (by simp[zP]) rfl,0,n0,rfl,fun j=>j≤i.l.length,fun j=>i.l.length-j,yYe _,fun j hj=>Cv.cnd.mk (fun e=> ?_) (fun e=> ?_)⟩
  ·have e:rG i.l j≠-1:=by simpa using e
   obtain⟨k,hk⟩:∃k,i.l[j]? =some k:=by
    cases hk:i.l[j]? with
    |none=>rw[rG,hk]at e;exact absurd rfl e
    |some k=>exact⟨k,rfl⟩
   have hjl:=(yWn.1 hk).1
   obtain⟨hkl,hnx⟩:=nx j k hk
   have en:rG i.l j=k:=by rw[rG,hk]
   obtain⟨s,hs⟩:=yA (l:=i.a.slots) (i:=k) hkl
   rw[en,yXc]
   refine⟨⟨by omega,by omega⟩,s.n,s.id,s.qty,s.top,elA hs (by simp[zR]) rfl,?_,⟨by omega,by omega⟩,s.back,elA hs (by simp[zR]) rfl,j+1,by rw[hnx,zK hs],?_,hjl,by dsimp only;omega,by(repeat'(first|exact trivial|exact rfl|apply And.intro))⟩
   ·simp only[Arena.ents,yWo,yXi];omega
   ·rw[yYm,hk]
    simp only[Arena.ents,Option.toList,yWw,yWu,y0g,xP hs]
    rfl
  ·have e:rG i.l j= -1:=by simpa using e
   have hj':i.l.length≤j:=by
    apply Classical.byContradiction
    intro hn
    obtain⟨k,hk⟩:=yA (l:=i.l) (i:=j) (by omega)
    rw[rG,hk]at e
    simp only at e;omega
   rw[yXg hj']
   (repeat'(first|exact rfl|exact trivial|assumption|apply And.intro|refine fun(_:Unit) (_:True)=>?_|refine Exists.intro () ?_|omega|(dsimp only;omega)))
 ·rw[out (by omega)];(repeat'(first|exact rfl|exact trivial|assumption|apply And.intro|refine fun(_:Unit) (_:True)=>?_|refine Exists.intro () ?_|omega|(dsimp only;omega)))
theorem z9y:alistC.ok Tryz.prog 275:=okw mixed gok0 1 (fun _=>[]) (fun i=>yQt i) [0] Tryz.func275 yQs
theorem z0y {α:Type} {l:List α} {i k:Nat} {x y:α} (h:i≠k) (hk:l[k]? =some x):(l.set i y)[k]? =some x:=by
 rw[List.getElem?_set_ne h];exact hk
theorem yPn (i:TkI) (h:atakeC.cnd i):yBa i:=by
 obtain⟨hl,hok⟩:i.a.okAt:=h
 unfold yBa pB zAz zAs nP f8 wG lL jQ xC zAv pL zAq dI
 simp only[yWo]
 have no (e:i.a.usedAt i.n=false):i.a.takeF i.n i.qty=(i.a,26):=by rw[Arena.takeF,yWm e]
 refine zJ (fun c=> ?_) (fun c=>zJ (fun d=> ?_) (fun d=> ?_))
 ·rw[no (zId (.inl c))];(repeat'(first|exact rfl|exact trivial|assumption|apply And.intro|refine fun(_:Unit) (_:True)=>?_|refine Exists.intro () ?_|omega|(dsimp only;omega)))
 ·rw[no (zId (.inr (by omega)))];(repeat'(first|exact rfl|exact trivial|assumption|apply And.intro|refine fun(_:Unit) (_:True)=>?_|refine Exists.intro () ?_|omega|(dsimp only;omega)))
 obtain⟨k,hk⟩:∃k,k=i.n.toNat:=⟨_,rfl⟩
 rw[← hk]
 obtain⟨s,hs⟩:=yA (l:=i.a.slots) (i:=k) (by omega)
 have hs':i.a.slots[i.n.toNat]? =some s:=by rw[← hk];exact hs
 have eu:=z4c (a:=i.a) (n:=i.n) (by omega) hs'
 refine⟨⟨by omega,by omega⟩,s.used,elA hs (by simp[zR]) rfl,Cv.cnd.mk (fun u=> ?_) (fun u=> ?_)⟩
 ·rw[no (by rw[eu];simpa using u)];(repeat'(first|exact rfl|exact trivial|assumption|apply And.intro|refine fun(_:Unit) (_:True)=>?_|refine Exists.intro () ?_|omega|(dsimp only;omega)))
 have u:s.used=true:=by simpa using u
 have e:¬i.a.usedAt i.n=false:=by rw[eu,u];decide
 obtain⟨⟨q0,q1⟩,sq,sa,sb⟩:=hok k s hs u
 have esl:i.a.slotAt i.n.toNat=s:=xP hs'
 have bad (hq:i.qty<1∨s.qty<i.qty):i.a.takeF i.n i.qty=(i.a,24):=by rw[Arena.takeF,yWl e,esl,yWm hq]
 refine⟨⟨by omega,by omega⟩,zJ (fun c1=>by rw[bad (.inl c1)];(repeat'(first|exact rfl|exact trivial|assumption|apply And.intro|refine fun(_:Unit) (_:True)=>?_|refine Exists.intro () ?_|omega|(dsimp only;omega)))) (fun c1=>⟨s.qty,elA hs (by simp[zR]) rfl,zJ (fun c2=>by rw[bad (.inr (by omega))];(repeat'(first|exact rfl|exact trivial|assumption|apply And.intro|refine fun(_:Unit) (_:True)=>?_|refine Exists.intro () ?_|omega|(dsimp only;omega)))) (fun c2=>⟨s.qty,elA hs (by simp[zR]) rfl,by omega,?_⟩)⟩)⟩
 obtain⟨q,hq⟩:=yA (l:=i.a.queues) (i:=s.queue.toNat) (by omega)
 have hs1:(i.a.slots.set k {s with qty:=s.qty-i.qty})[k]? =some {s with qty:=s.qty-i.qty}:=uJ hs
 have hq1:(i.a.queues.set s.queue.toNat {q with total:=IntKind.i64.wrap (q.total-i.qty)})[s.queue.toNat]? =some {q with total:=IntKind.i64.wrap (q.total-i.qty)}:=uJ hq
 have hle:i.a.less i.n.toNat i.qty=⟨i.a.slots.set k {s with qty:=s.qty-i.qty},i.a.queues.set s.queue.toNat {q with total:=IntKind.i64.wrap (q.total-i.qty)},i.a.free⟩:=by
  rw[Arena.less,esl,dL hs',dL hq,hk]
 have hL:(i.a.slots.set k {s with qty:=s.qty-i.qty}).length=i.a.slots.length:=yXv
 have hQ:(i.a.queues.set s.queue.toNat {q with total:=IntKind.i64.wrap (q.total-i.qty)}).length=i.a.queues.length:=yXv
 have tk:i.a.takeF i.n i.qty=if s.qty=i.qty then((i.a.less i.n.toNat i.qty).dropF i.n.toNat,0)else(i.a.less i.n.toNat i.qty,0):=by rw[Arena.takeF,yWl e,esl,yWl (by omega)]
 rw[hle,← hk]at tk
 rw[w64 (x:=s.qty-i.qty) (by omega),yF hs (y:={s with qty:=s.qty-i.qty}) rfl]
 refine⟨s.queue,elA hs1 (by simp[zR]) rfl,⟨q0,q1⟩,q.total,elA hq (by simp[zP]) rfl,⟨q0,q1⟩,by omega,s.qty-i.qty,elA hs1 (by simp[zR]) rfl,?_⟩
 rw[yF hq (y:={q with total:=IntKind.i64.wrap (q.total-i.qty)}) rfl]
 simp only[yWo]
 generalize hL1:i.a.slots.set k {s with qty:=s.qty-i.qty}=L1 at*
 generalize hQ1:i.a.queues.set s.queue.toNat {q with total:=IntKind.i64.wrap (q.total-i.qty)}=Q1 at*
 refine Cv.cnd.mk (fun z=> ?_) (fun z=> ?_)
 ·have z:s.qty=i.qty:=by have:s.qty-i.qty=0:=by simpa using z
                         omega
  rw[yWm z]at tk
  have esl1:(⟨L1,Q1,i.a.free⟩:Arena).slotAt k={s with qty:=s.qty-i.qty}:=xP hs1
  have eq1:Q1.getD s.queue.toNat bU={q with total:=IntKind.i64.wrap (q.total-i.qty)}:=zK hq1
  rw[Arena.dropF,esl1]at tk
  dsimp only at tk
  rw[eq1]at tk
  dsimp only at tk
  rw[tk]
  refine⟨s.queue,elA hs1 (by simp[zR]) rfl,⟨q0,by omega⟩,s.ahead,elA hs1 (by simp[zR]) rfl,Cv.cnd.mk (fun ea=> ?_) (fun ea=> ?_)⟩
  ·have ea:s.ahead= -1:=by simpa using ea
   refine⟨s.back,elA hs1 (by simp[zR]) rfl,by omega,s.back,elA hs1 (by simp[zR]) rfl,?_⟩
   rw[yF hq1 (y:=⟨s.back,q.last,IntKind.i64.wrap (q.total-i.qty),q.count⟩) rfl]
   have hq2:(Q1.set s.queue.toNat ⟨s.back,q.last,IntKind.i64.wrap (q.total-i.qty),q.count⟩)[s.queue.toNat]? =some ⟨s.back,q.last,IntKind.i64.wrap (q.total-i.qty),q.count⟩:=uJ hq1
   simp only[yWo,yXv]
   refine Cv.cnd.mk (fun eb=> ?_) (fun eb=> ?_)
   ·have eb:s.back= -1:=by simpa using eb
    refine⟨s.ahead,elA hs1 (by simp[zR]) rfl,by omega,q.count,?_,?_⟩
    ·rw[yF hq2 (y:=⟨s.back,s.ahead,IntKind.i64.wrap (q.total-i.qty),q.count⟩) rfl]
     exact elA (uJ hq2) (by simp[zP]) rfl
    rw[yF hq2 (y:=⟨s.back,s.ahead,IntKind.i64.wrap (q.total-i.qty),q.count⟩) rfl,yF (uJ hq2) (y:=⟨s.back,s.ahead,IntKind.i64.wrap (q.total-i.qty),IntKind.i64.wrap (q.count-1)⟩) rfl,yF hs1 (y:=slot0) rfl]
    simp only[yWo,yXv,y0t,yWm ea,yWm eb]
    refine⟨by omega,by omega,(),by(first|exact rfl|exact trivial),by(first|exact rfl|exact trivial),by(first|exact rfl|exact trivial),by(first|exact rfl|exact trivial),trivial⟩
   ·have eb:s.back≠-1:=by simpa using eb
    obtain⟨b0,b1,b2⟩:0≤s.back∧s.back<i.a.slots.length∧s.back≠k:=by omega
    obtain⟨x,hx⟩:=yA (l:=L1) (i:=s.back.toNat) (by omega)
    refine⟨s.back,elA hs1 (by simp[zR]) rfl,s.ahead,elA hs1 (by simp[zR]) rfl,⟨b0,by omega⟩,by omega,q.count,elA hq2 (by simp[zP]) rfl,?_⟩
    rw[yF hx (y:={x with ahead:=s.ahead}) rfl,yF hq2 (y:=⟨s.back,q.last,IntKind.i64.wrap (q.total-i.qty),IntKind.i64.wrap (q.count-1)⟩) rfl,yF (z0y (by omega) hs1) (y:=slot0) rfl]
    simp only[yWo,yXv,y0t,yWm ea,yWl eb,dL hx]
    refine⟨by omega,by omega,(),by(first|exact rfl|exact trivial),by(first|exact rfl|exact trivial),by(first|exact rfl|exact trivial),by(first|exact rfl|exact trivial),trivial⟩
  ·have ea:s.ahead≠-1:=by simpa using ea
   obtain⟨a0,a1,a2⟩:0≤s.ahead∧s.ahead<i.a.slots.length∧s.ahead≠k:=by omega
   obtain⟨x,hx⟩:=yA (l:=L1) (i:=s.ahead.toNat) (by omega)
   have hs2:(L1.set s.ahead.toNat {x with back:=s.back})[k]? =some {s with qty:=s.qty-i.qty}:=z0y (by omega) hs1
   refine⟨s.ahead,elA hs1 (by simp[zR]) rfl,s.back,elA hs1 (by simp[zR]) rfl,⟨a0,by omega⟩,by omega,s.back,?_,?_⟩
   ·rw[yF hx (y:={x with back:=s.back}) rfl]
    exact elA hs2 (by simp[zR]) rfl
   rw[yF hx (y:={x with back:=s.back}) rfl]
   simp only[yWo,yXv]
   refine Cv.cnd.mk (fun eb=> ?_) (fun eb=> ?_)
   ·have eb:s.back= -1:=by simpa using eb
    refine⟨s.ahead,elA hs2 (by simp[zR]) rfl,by omega,q.count,?_,?_⟩
    ·rw[yF hq1 (y:=⟨q.first,s.ahead,IntKind.i64.wrap (q.total-i.qty),q.count⟩) rfl]
     exact elA (uJ hq1) (by simp[zP]) rfl
    rw[yF hq1 (y:=⟨q.first,s.ahead,IntKind.i64.wrap (q.total-i.qty),q.count⟩) rfl,yF (uJ hq1) (y:=⟨q.first,s.ahead,IntKind.i64.wrap (q.total-i.qty),IntKind.i64.wrap (q.count-1)⟩) rfl,yF hs2 (y:=slot0) rfl]
    simp only[yWo,yXv,y0t,yWl ea,yWm eb,dL hx]
    refine⟨by omega,by omega,(),by(first|exact rfl|exact trivial),by(first|exact rfl|exact trivial),by(first|exact rfl|exact trivial),by(first|exact rfl|exact trivial),trivial⟩
   ·have eb:s.back≠-1:=by simpa using eb
    obtain⟨b0,b1,b2⟩:0≤s.back∧s.back<i.a.slots.length∧s.back≠k:=by omega
    obtain⟨y,hy⟩:=yA (l:=L1.set s.ahead.toNat {x with back:=s.back}) (i:=s.back.toNat) (by rw[yXv];omega)
    refine⟨s.back,elA hs2 (by simp[zR]) rfl,s.ahead,elA hs2 (by simp[zR]) rfl,⟨b0,by omega⟩,by omega,q.count,elA hq1 (by simp[zP]) rfl,?_⟩
    rw[yF hy (y:={y with ahead:=s.ahead}) rfl,yF hq1 (y:=⟨q.first,q.last,IntKind.i64.wrap (q.total-i.qty),IntKind.i64.wrap (q.count-1)⟩) rfl,yF (z0y (by omega) hs2) (y:=slot0) rfl]
    simp only[yWo,yXv,y0t,yWl ea,yWl eb,dL hx,dL hy]
    refine⟨by omega,by omega,(),by(first|exact rfl|exact trivial),by(first|exact rfl|exact trivial),by(first|exact rfl|exact trivial),by(first|exact rfl|exact trivial),trivial⟩
 ·have z:¬s.qty=i.qty:=by have:¬s.qty-i.qty=0:=by simpa using z
                          omega
  rw[yWl z]at tk
  rw[tk]
  exact⟨(),rfl,rfl,rfl,rfl,trivial⟩
theorem yCn:atakeC.ok Tryz.prog 195:=okw mixed gok0 1 (fun _=>[]) (fun _=>[]) [0] Tryz.func195 yPn
open Go Cv Go.Proofs
structure PlI where
 l:List Int
 least:Int
 q:Int
def zZd (l:List Int) (least q:Int):List Int:=l.map fun k=>if least≤k*q / l.sum then k*q / l.sum else 0
def j9:List (Int×Int)→Int→List Int
 |[],_=>[]
 |(n,x)::r,q=>(x+min (n-x) q)::j9 r (q-min (n-x) q)
def PlI.p0 (i:PlI):List Int:=zZd i.l i.least i.q
def PlI.p1 (i:PlI):List Int:=j9 (i.l.zip i.p0) (i.q-i.p0.sum)
def kV (i:PlI):List Int:=if yQ i.l i.q=true∧1≤i.least then i.p1 else[]
def plainC:Con:=con1 PlI (fun i=>[iV i.l,zA i.least,zA i.q]) (fun _=>[]) (fun i=>i.l.length≤1000000∧yV i.q∧yV i.least) (fun _=> .own 0) (fun i=>[.own 2 1 (iE (kV i))])
def yQq (i:PlI):List SAnn:=[
 {ι:=Nat,slots:=fun j=>[(9,.own 0),(36,zA j)],rows:=fun j=>[.own 2 1 (iE (i.p0.take j++List.replicate (i.l.length-j) 0))]},
 {ι:=Nat,slots:=fun j=>[(2,zA (i.q-(i.p0.take j).sum)),(58,zA j)],rows:=fun _=>[]},
 {ι:=Nat,slots:=fun j=>[(9,.own 0),(2,zA (i.q-i.p0.sum+(i.p0.take j).sum-(i.p1.take j).sum)),(68,zA j)],rows:=fun j=>[.own 2 1 (iE (i.p1.take j++i.p0.drop j))]}]
open Go Cv Go.Proofs
def fY (a:Nat) (b:PlI):=(iE (List.take a b.p1++List.drop a b.p0))
def nE (a:Nat) (b:PlI):Prop:=0≤(↑a:Int)∧(↑a:Int)<(↑(fY a b).length:Int)
def gL (a:Nat) (b:PlI):=(List.take a b.p0++List.replicate (b.l.length-a) 0)
def gI (a:Nat) (b:PlI):=(iE (gL a b))
def b6 (a:Nat) (b:PlI):=(↑(gI a b).length:Int)
def yBt (i:PlI):Prop:=
 ∃(a:LqI),iE a.l=iE i.l∧a.q=i.q∧(j0 a)∧∀(b:Unit),True→cnd (!yQ a.l a.q) (∃(c:Unit),iE (kV i)=[]∧True) (cnd (decide (i.least<1)) (∃(c:Unit),iE (kV i)=[]∧True) (∃(c:List Int),iE c=iE i.l∧(c.length≤1000∧∀(d:Int),d∈c→0≤d∧d≤1000000)∧∀(d:Unit),True→(0≤(↑(iE i.l).length:Int)∧(↑(iE i.l).length:Int)≤(↑(iE i.l).length:Int)∧(↑(iE i.l).length:Int)≤9223372036854775807∧(↑(8:Nat):Int)*(↑(iE i.l).length:Int)≤2 ^ (48:Nat))∧∃(e:Nat),(↑e:Int)=0∧iE (gL e i)=List.replicate (↑(iE i.l).length:Int).toNat [dI 0]∧∃(f:Nat→Prop),∃(g:Nat→Nat),f e∧∀(h:Nat),f h→cnd (decide ((↑h:Int)<(↑(iE i.l).length:Int))) ((0≤(↑h:Int)∧(↑h:Int)<(↑(iE i.l).length:Int))∧∃(j:Int),zF (iE i.l) (↑h:Int).toNat 0 1=some [dI j]∧∃(k:ShI),k.a=j∧k.b=i.q∧k.c=c.sum∧(0≤k.a∧k.a≤(2000000000:Int)∧(0:Int)≤k.b∧k.b≤(2000000000:Int)∧(1:Int)≤k.c∧k.c≤2000000000)∧∀(l:Unit),True→cnd (decide (k.a*k.b / k.c≥i.least)) ((0≤(↑h:Int)∧(↑h:Int)<(b6 h i))∧(↑h:Int).toNat<(gI h i).length∧∃(m:Nat),(↑m:Int)=IntKind.i64.wrap ((↑h:Int)+1)∧iE (gL m i)=yE (gI h i) (↑h:Int).toNat 0 [dI (k.a*k.b / k.c)]∧f m∧g m<g h∧True) (∃(m:Nat),(↑m:Int)=IntKind.i64.wrap ((↑h:Int)+1)∧iE (gL m i)=iE (gL h i)∧f m∧g m<g h∧True)) (∃(j:Nat),i.q-(List.take j i.p0).sum=i.q∧(↑j:Int)=0∧∃(k:Nat→Prop),∃(l:Nat→Nat),k j∧∀(m:Nat),k m→cnd (decide ((↑m:Int)<(b6 h i))) ((0≤(↑m:Int)∧(↑m:Int)<(b6 h i))∧∃(n:Int),zF (gI h i) (↑m:Int).toNat 0 1=some [dI n]∧∃(p:Nat),i.q-(List.take p i.p0).sum=IntKind.i64.wrap (i.q-(List.take m i.p0).sum-n)∧(↑p:Int)=IntKind.i64.wrap ((↑m:Int)+1)∧k p∧l p<l m∧AObj.own 2 1 (gI h i)=AObj.own 2 1 (gI h i)) (∃(n:Nat),i.q-i.p0.sum+(List.take n i.p0).sum-(List.take n i.p1).sum=i.q-(List.take m i.p0).sum∧(↑n:Int)=0∧iE (List.take n i.p1++List.drop n i.p0)=iE (gL h i)∧∃(p:Nat→Prop),∃(q:Nat→Nat),p n∧∀(r:Nat),p r→cnd (decide ((↑r:Int)<(b6 h i))) ((0≤(↑r:Int)∧(↑r:Int)<(↑(iE i.l).length:Int))∧∃(s:Int),zF (iE i.l) (↑r:Int).toNat 0 1=some [dI s]∧(nE r i)∧∃(t:Int),zF (fY r i) (↑r:Int).toNat 0 1=some [dI t]∧(nE r i)∧∃(u:Int),zF (fY r i) (↑r:Int).toNat 0 1=some [dI u]∧(nE r i)∧(↑r:Int).toNat<(fY r i).length∧∃(v:Nat),i.q-i.p0.sum+(List.take v i.p0).sum-(List.take v i.p1).sum=IntKind.i64.wrap (i.q-i.p0.sum+(List.take r i.p0).sum-(List.take r i.p1).sum-min (IntKind.i64.wrap (s-t)) (i.q-i.p0.sum+(List.take r i.p0).sum-(List.take r i.p1).sum))∧(↑v:Int)=IntKind.i64.wrap ((↑r:Int)+1)∧iE (List.take v i.p1++List.drop v i.p0)=yE (fY r i) (↑r:Int).toNat 0 [dI (IntKind.i64.wrap (u+min (IntKind.i64.wrap (s-t)) (i.q-i.p0.sum+(List.take r i.p0).sum-(List.take r i.p1).sum)))]∧p v∧q v<q r∧True) (∃(s:Unit),iE (kV i)=iE (List.take r i.p1++List.drop r i.p0)∧True)))))
open Go Cv Go.Proofs
theorem l9:∀(z:List (Int×Int)) (q:Int),(j9 z q).length=z.length
 |[],_=>rfl
 |(n,x)::z,q=>by rw[j9,yXa,yXa,l9 z]
theorem zIw:∀(z:List (Int×Int)) (q:Int) (j:Nat) (n x:Int),z[j]? =some (n,x)→(j9 z q)[j]? =some (x+min (n-x) (q+((z.map (·.2)).take j).sum-((j9 z q).take j).sum))
 |[],_,_,_,_,h=>by simp at h
 |(m,y)::z,q,0,n,x,h=>by simp at h;obtain⟨rfl,rfl⟩:=h;simp[j9]
 |(m,y)::z,q,j+1,n,x,h=>by
  rw[yYf]at h
  rw[j9,yYf,zIw z _ j n x h,yYb,yXj,yWu,yYb,yXj]
  congr 3;dsimp only;omega
theorem zGg:∀(z:List (Int×Int)) (q:Int) (j:Nat),0≤q→(∀y∈z,y.2≤y.1)→0≤q+((z.map (·.2)).take j).sum-((j9 z q).take j).sum∧q+((z.map (·.2)).take j).sum-((j9 z q).take j).sum≤q
 |[],q,j,h,_=>by simp[j9,h]
 |(m,y)::z,q,0,h,_=>by simp[h]
 |(m,y)::z,q,j+1,h,hb=>by
  have hm:=hb (m,y) yWq
  have:=zGg z (q-min (m-y) q) j (by dsimp only at hm;omega) (fun x hx=>hb x (yWr _ hx))
  rw[j9,yYb,yXj,yWu,yYb,yXj]
  dsimp only at hm ⊢
  omega
theorem yDh {k q S:Int} (hk:0≤k) (hq:0≤q) (hS:1≤S) (hqS:q≤S):0≤k*q / S∧k*q / S≤k:=by
 refine⟨Int.ediv_nonneg (y2p hk hq) (by omega),?_⟩
 have:k*q≤k*S:=y1m hqS hk
 exact Int.ediv_le_of_le_mul (by omega) this
theorem zOb {q S least:Int} (hq:0≤q) (hS:1≤S):∀(l:List Int),(∀x∈l,0≤x)→S*(l.map fun k=>if least≤k*q / S then k*q / S else 0).sum≤q*l.sum
 |[],_=>by simp
 |k::l,h=>by
  have ih:=zOb (least:=least) hq hS l (fun x hx=>h x (yWr _ hx))
  have hk:=h k yWq
  rw[yWu,yXj,yXj,Int.mul_add,Int.mul_add]
  have h1:S*(k*q / S)≤k*q:=by
   have:=Int.mul_ediv_add_emod (k*q) S
   have:=Int.emod_nonneg (k*q) (show S≠0 by omega)
   omega
  have h2:0≤k*q:=y2p hk hq
  have h3:S*(if least≤k*q / S then k*q / S else 0)≤q*k:=by
   rw[y0s q k]
   split
   ·exact h1
   ·simpa using h2
  omega
theorem z8l {i:PlI} {j:Nat} {n:Int} (h:i.l[j]? =some n):i.p0[j]? =some (if i.least≤n*i.q / i.l.sum then n*i.q / i.l.sum else 0):=by
 rw[PlI.p0,zZd,yYj,h];rfl
theorem z0m (i:PlI):i.p0.length=i.l.length:=by simp[PlI.p0,zZd]
theorem z3c {l:List Int} {j m:Nat} {n:Int} (hl:l.length=m) (h:l[j]? =some n):(l.take j++List.replicate (m-j) 0).set j n=l.take (j+1)++List.replicate (m-(j+1)) 0:=by
 have hj:=(yWn.1 h).1
 rw[List.set_append_right _ _ (by rw[yXi];omega),yXi,show j-min j l.length=0 by omega,show m-j=(m-(j+1))+1 by omega,y0o,y0x,yYm,h]
 simp
theorem yFk {l:List Int} {j m:Nat} (hl:l.length=m) (hj:j<m):(l.take j++List.replicate (m-j) 0)[j]? =some 0:=by
 rw[yYv (by rw[yXi];omega),yXi,show j-min j l.length=0 by omega,show m-j=(m-(j+1))+1 by omega,y0o];rfl
theorem z9a {α:Type} {l:List α} {j:Nat} {x:α} (h:l[j]? =some x):l.set j x=l:=by
 obtain⟨h1,h2⟩:=yWn.1 h
 rw[← h2];exact List.set_getElem_self h1
theorem yQe {a b:List Int} {j:Nat} {x:Int} (ha:a.length=b.length) (h:b[j]? =some x):(a.take j++b.drop j)[j]? =some x:=by
 have hj:=(yWn.1 h).1
 rw[yYv (by rw[yXi];omega),yXi,show j-min j a.length=0 by omega,yZk]
 exact h
theorem yHc {a b:List Int} {j:Nat} {y:Int} (ha:a.length=b.length) (h:a[j]? =some y):(a.take j++b.drop j).set j y=a.take (j+1)++b.drop (j+1):=by
 have hj:=(yWn.1 h).1
 rw[List.set_append_right _ _ (by rw[yXi];omega),yXi,show j-min j a.length=0 by omega,yZb (by omega),y0x,yYm,h]
 simp
theorem zSa {l:List Int} {j:Nat} {x y:Int} (h:l[j]? =some x):yE (iE l) j 0 [D.v (.int .i64 y)]=iE (l.set j y):=yF (f:=fun n:Int=>[D.v (.int .i64 n)]) h rfl
theorem zCq {i:PlI} (h:yQ i.l i.q=true) (hne:0<i.l.length):1≤i.l.sum∧i.l.sum≤250000000∧(∀(j:Nat) (n x:Int),i.l[j]? =some n→i.p0[j]? =some x→0≤x∧x≤n)∧i.p0.sum≤i.q:=by
 obtain⟨h1,h2,h3,h4⟩:=jB h
 have hb:=jK (l:=i.l) (fun x hx=>by have:=h3 x hx;omega) i.l.length
 rw[y1u]at hb
 have hS:1≤i.l.sum:=by
  obtain⟨x,hx⟩:=yA (l:=i.l) (i:=0) hne
  have:=h3 x (yWv hx)
  cases hl:i.l with
  |nil=>rw[hl]at hne;exact absurd hne (Nat.lt_irrefl 0)
  |cons a r=>
   rw[hl]at hx;simp at hx;subst hx
   have hr:=jK (l:=r) (fun y hy=>by have:=h3 y (by rw[hl];exact yWr _ hy);omega) r.length
   rw[y1u]at hr
   rw[yXj];omega
 refine⟨hS,by omega,fun j n x hn hx=> ?_,?_⟩
 ·have hn1:=h3 n (yWv hn)
  have:=yDh (k:=n) (by omega) h2 hS h4
  rw[z8l hn]at hx
  cases hx
  split<;>omega
 ·have:=zOb (least:=i.least) h2 hS i.l (fun x hx=>by have:=h3 x hx;omega)
  have e:i.l.sum*i.p0.sum≤i.l.sum*i.q:=by rw[y0s i.l.sum i.q];exact this
  exact Int.le_of_mul_le_mul_left e (by omega)
theorem yMm (i:PlI) (h:plainC.cnd i):yBt i:=by
 obtain⟨hl,hq,hle⟩:i.l.length≤1000000∧yV i.q∧yV i.least:=h
 unfold yBt b6 gI gL nE fY j0 dI
 refine⟨⟨i.l,i.q⟩,rfl,rfl,⟨hl,hq⟩,fun _ _=>Cv.cnd.mk (fun c=> ?_) (fun c=>zJ (fun d=> ?_) (fun d=> ?_))⟩
 ·have c:yQ i.l i.q=false:=by simpa using c
  refine⟨(),?_,trivial⟩
  rw[kV,yWl (by rw[c];simp)];rfl
 ·refine⟨(),?_,trivial⟩
  rw[kV,yWl (by omega)];rfl
 have c:yQ i.l i.q=true:=by simpa using c
 have eS:kV i=i.p1:=by rw[kV,yWm ⟨c,by omega⟩]
 obtain⟨h1,h2,h3,h4⟩:=jB c
 have hq2:=zHw c
 have hp0:=z0m i
 have hzl:(i.l.zip i.p0).length=i.l.length:=by rw[List.length_zip,hp0];simp
 have hp1:i.p1.length=i.l.length:=by rw[PlI.p1,l9,hzl]
 have hz2:(i.l.zip i.p0).map (·.2)=i.p0:=by rw[List.map_snd_zip];omega
 have h64:i.l.length≤250:=h1
 have hrl:∀j,j≤i.l.length→(List.take j i.p0++List.replicate (i.l.length-j) 0).length=i.l.length:=by
  intro j hj;rw[yWs,yXi,yZm];omega
 simp only[y5]
 refine⟨i.l,rfl,⟨by omega,fun x hx=>by have:=h3 x hx;omega⟩,fun _ _=>⟨⟨by omega,by omega,by omega,by omega⟩,0,by(first|exact rfl|exact trivial),?_,fun j=>j≤i.l.length,fun j=>i.l.length-j,yYe _,fun j hj=>zJ (fun e=> ?_) (fun e=> ?_)⟩⟩
 ·simp[iE]
 ·have hj':j<i.l.length:=by omega
  obtain⟨n,hn⟩:=yA (l:=i.l) (i:=j) hj'
  have bn:=h3 n (yWv hn)
  obtain⟨f1,f2,f3,f4⟩:=zCq c (by omega)
  have g:=z8l hn
  refine⟨⟨by omega,by omega⟩,n,elI hn,⟨n,i.q,i.l.sum⟩,rfl,rfl,rfl,⟨by dsimp only;omega,by dsimp only;omega,by dsimp only;omega,by dsimp only;omega,by dsimp only;omega,by dsimp only;omega⟩,fun _ _=>zJ (fun a=> ?_) (fun a=> ?_)⟩
  ·have a:n*i.q / i.l.sum≥i.least:=a
   rw[yWm (by omega)]at g
   refine⟨⟨by omega,by rw[hrl j (by omega)];omega⟩,by rw[hrl j (by omega)];omega,j+1,wjn (by omega),?_,hj',by dsimp only;omega,trivial⟩
   rw[yXc,zSa (yFk hp0 hj'),z3c hp0 g]
  ·have a:¬n*i.q / i.l.sum≥i.least:=a
   rw[yWl (by omega)]at g
   refine⟨j+1,wjn (by omega),?_,hj',by dsimp only;omega,trivial⟩
   rw[← z3c hp0 g,z9a (yFk hp0 hj')]
 have hje:j=i.l.length:=by omega
 subst hje
 have eP:List.take i.l.length i.p0++List.replicate (i.l.length-i.l.length) 0=i.p0:=by rw[yXg (by omega)];simp
 rw[eP,hp0]
 have px:∀(k:Nat) (n x:Int),i.l[k]? =some n→i.p0[k]? =some x→0≤x∧x≤n:=fun k n x hn hx=>(zCq c (by have:=(yWn.1 hn).1;omega)).2.2.1 k n x hn hx
 have pb:∀x∈i.p0,0≤x∧x≤1000000:=by
  intro x hx
  obtain⟨k,hk⟩:=yYi.1 hx
  obtain⟨n,hn⟩:=yA (l:=i.l) (i:=k) (by have:=(yWn.1 hk).1;omega)
  have:=px k n x hn hk
  have:=h3 n (yWv hn)
  omega
 have pq:i.p0.sum≤i.q:=by
  by_cases hz:0<i.l.length
  ·exact(zCq c hz).2.2.2
  ·have:i.p0=[]:=yXr (by omega)
   rw[this];simpa using h2
 refine⟨0,by simp,by(first|exact rfl|exact trivial),fun k=>k≤i.l.length,fun k=>i.l.length-k,yYe _,fun k hk=>zJ (fun e=> ?_) (fun e=> ?_)⟩
 ·have hk':k<i.l.length:=by omega
  obtain⟨x,hx⟩:=yA (l:=i.p0) (i:=k) (by omega)
  have bx:=pb x (yWv hx)
  have bs:=jK pb k
  refine⟨⟨by omega,by omega⟩,x,elI hx,k+1,?_,wjn (by omega),hk',by dsimp only;omega,by(repeat'(first|exact trivial|exact rfl|apply And.intro))⟩
  rw[jS hx,w64 (by omega)];omega
 have hke:k=i.l.length:=by omega
 subst hke
 rw[yXg (l:=i.p0) (by omega)]
 refine⟨0,by simp,by(first|exact rfl|exact trivial),by simp,fun j=>j≤i.l.length,fun j=>i.l.length-j,yYe _,fun j hj=>zJ (fun e=> ?_) (fun e=> ?_)⟩
 ·have hj':j<i.l.length:=by omega
  obtain⟨n,hn⟩:=yA (l:=i.l) (i:=j) hj'
  obtain⟨x,hx⟩:=yA (l:=i.p0) (i:=j) (by omega)
  have bn:=h3 n (yWv hn)
  have bx:=px j n x hn hx
  have hz:(i.l.zip i.p0)[j]? =some (n,x):=by rw[y1e];exact⟨hn,hx⟩
  have g:=zIw (i.l.zip i.p0) (i.q-i.p0.sum) j n x hz
  have r:=zGg (i.l.zip i.p0) (i.q-i.p0.sum) j (by omega) (fun y hy=>by
   obtain⟨k,hk⟩:=yYi.1 hy
   rw[y1e]at hk
   exact(px k y.1 y.2 hk.1 hk.2).2)
  rw[hz2]at g r
  have b0:=jK pb i.p0.length
  rw[y1u]at b0
  have hml:(List.take j i.p1++List.drop j i.p0).length=i.l.length:=by rw[yWs,yXi,yXp];omega
  have hma:=yQe (a:=i.p1) (b:=i.p0) (by omega) hx
  change i.p1[j]? =_ at g
  change 0≤_-(List.take j i.p1).sum∧_-(List.take j i.p1).sum≤_ at r
  change i.p1[j]? =some (x+min (n-x) (_-(List.take j i.p1).sum))at g
  rw[hml]
  refine⟨⟨by omega,by omega⟩,n,elI hn,⟨by omega,by omega⟩,x,elI hma,⟨by omega,by omega⟩,x,elI hma,⟨by omega,by omega⟩,by omega,?_⟩
  rw[w64 (x:=n-x) (by omega),w64 (x:=x+min (n-x) (i.q-i.p0.sum+(List.take j i.p0).sum-(List.take j i.p1).sum)) (by omega)]
  refine⟨j+1,?_,wjn (by omega),?_,hj',by dsimp only;omega,trivial⟩
  ·rw[jS hx,jS g,w64 (by omega)];omega
  ·rw[yXc,zSa hma,yHc (by omega) g]
 ·have hje:j=i.l.length:=by omega
  subst hje
  refine⟨(),?_,trivial⟩
  rw[eS,yXg (by omega),yZu (by omega),yXk]
theorem yAs:plainC.ok Tryz.prog 289:=okw mixed (gokc zCi (gokc yHo (gokc zNh gok0))) 0 (fun _=>[]) (fun i=>yQq i) [] Tryz.func289 yMm
open Go Cv Go.Proofs
structure RsI where
 l:List Int
 out:List Int
 least:Int
 q:Int
def RsI.idx (i:RsI) (k:Nat):List Nat:=(List.range k).filter fun n=>decide (i.out.getD n 0<i.l.getD n 0)
def RsI.left (i:RsI) (k:Nat):List Int:=(i.idx k).map fun n=>i.l.getD n 0-i.out.getD n 0
def RsI.pl (i:RsI):List Int:=kV ⟨i.left i.l.length,i.least,i.q⟩
def RsI.add (i:RsI) (k:Nat):List Int:=(((i.idx i.l.length).zip i.pl).take k).foldl (fun o y=>o.set y.1 (IntKind.i64.wrap (o.getD y.1 0+y.2))) i.out
def mK (i:RsI):List Int:=i.add i.pl.length
@[reducible] def RsI.ok (i:RsI):Prop:=i.l.length≤250∧i.out.length=i.l.length∧yV i.q∧yV i.least∧∀n,0≤i.out.getD n 0∧i.out.getD n 0≤i.l.getD n 0∧i.l.getD n 0≤1000000
def restC:Con:=con1 RsI (fun i=>[iV i.l,.own 0,zA i.least,zA i.q]) (fun i=>[.own 2 1 (iE i.out)]) RsI.ok (fun _=> .own 1) (fun i=>[.gone,.own 2 1 (iE (mK i))])
def yUc (i:RsI):List SAnn:=[
 {ι:=Nat,slots:=fun j=>[(9,.own 0),(10,.own 1),(16,zA j)],rows:=fun j=>[.own 2 1 (iE (i.left j)),.own 3 1 (iE ((i.idx j).map fun(n:Nat)=>(n:Int)))]},
 {ι:=Nat,slots:=fun k=>[(1,.own 0),(50,zA k)],rows:=fun k=>[.own 2 1 (iE (i.add k))]}]
structure zD where
 id:Int
 side:Int
 price:Int
 qty:Int
 top:Bool
 deriving DecidableEq
def wO (o:zD):List D:=[.v (.int .i64 o.id),.v (.int .i64 o.side),.v (.int .i64 o.price),.v (.int .i64 o.qty),.v (.bool o.top)]
@[reducible] def zQj (o:zD):V:= .agg [zA o.id,zA o.side,zA o.price,zA o.qty,yL o.top]
def topFC:Con:=con1 zD (fun o=>[zQj o]) (fun _=>[]) (fun _=>True) (fun o=>yL o.top) (fun _=>[])
def topI (l:List zD):Int:=zGs (l.findIdx? fun o=>o.top)
def idxOrdC:Con:=con1 (List zD) (fun l=>[roV 5 (l.map wO),.fn 253 [] []]) (fun _=>[]) (fun l=>l.length≤1000000) (fun l=>zA (topI l)) (fun _=>[])
def yHg (l:List zD):List SAnn:=[{ι:=Nat,slots:=fun j=>[(8,zA j)],rows:=fun _=>[]}]
open Go Cv Go.Proofs
def yLq (i:RsI):Prop:=
 ∃(a:Nat),(↑a:Int)=0∧iE (i.left a)=[]∧iE (List.map (fun(n:Nat) ↦ (↑n:Int)) (i.idx a))=[]∧∃(b:Nat→Prop),∃(c:Nat→Nat),b a∧∀(d:Nat),b d→cnd (decide ((↑d:Int)<(↑(iE i.l).length:Int))) ((0≤(↑d:Int)∧(↑d:Int)<(↑(iE i.l).length:Int))∧∃(e:Int),zF (iE i.l) (↑d:Int).toNat 0 1=some [dI e]∧(0≤(↑d:Int)∧(↑d:Int)<(↑(iE i.out).length:Int))∧∃(f:Int),zF (iE i.out) (↑d:Int).toNat 0 1=some [dI f]∧cnd (decide (e>f)) ((0≤(↑d:Int)∧(↑d:Int)<(↑(iE i.l).length:Int))∧∃(g:Int),zF (iE i.l) (↑d:Int).toNat 0 1=some [dI g]∧(0≤(↑d:Int)∧(↑d:Int)<(↑(iE i.out).length:Int))∧∃(h:Int),zF (iE i.out) (↑d:Int).toNat 0 1=some [dI h]∧((iE (i.left d)).length+1)*(8:Nat)≤(70368744177664:Nat)∧((iE (List.map (fun(g:Nat) ↦ (↑g:Int)) (i.idx d))).length+1)*(8:Nat)≤(70368744177664:Nat)∧∃(j:Nat),(↑j:Int)=IntKind.i64.wrap ((↑d:Int)+1)∧iE (i.left j)=iE (i.left d)++[[dI (IntKind.i64.wrap (g-h))]]∧iE (List.map (fun(g:Nat) ↦ (↑g:Int)) (i.idx j))=iE (List.map (fun(g:Nat) ↦ (↑g:Int)) (i.idx d))++[[dI (↑d:Int)]]∧b j∧c j<c d∧AObj.own 2 1 (iE i.out)=AObj.own 2 1 (iE i.out)) (∃(g:Nat),(↑g:Int)=IntKind.i64.wrap ((↑d:Int)+1)∧iE (i.left g)=iE (i.left d)∧iE (List.map (fun(e:Nat) ↦ (↑e:Int)) (i.idx g))=iE (List.map (fun(e:Nat) ↦ (↑e:Int)) (i.idx d))∧b g∧c g<c d∧AObj.own 2 1 (iE i.out)=AObj.own 2 1 (iE i.out))) (∃(e:PlI),iE e.l=iE (i.left d)∧e.least=i.least∧e.q=i.q∧(e.l.length≤1000000∧((-9223372036854775808)≤e.q∧e.q≤9223372036854775807)∧(-9223372036854775808)≤e.least∧e.least≤9223372036854775807)∧∀(f:Unit),True→∃(g:Nat),(↑g:Int)=0∧iE (i.add g)=iE i.out∧∃(h:Nat→Prop),∃(j:Nat→Nat),h g∧∀(k:Nat),h k→cnd (decide ((↑k:Int)<(↑(iE (kV e)).length:Int))) ((0≤(↑k:Int)∧(↑k:Int)<(↑(iE (kV e)).length:Int))∧∃(l:Int),zF (iE (kV e)) (↑k:Int).toNat 0 1=some [dI l]∧(0≤(↑k:Int)∧(↑k:Int)<(↑(iE (List.map (fun(l:Nat) ↦ (↑l:Int)) (i.idx d))).length:Int))∧∃(m:Int),zF (iE (List.map (fun(l:Nat) ↦ (↑l:Int)) (i.idx d))) (↑k:Int).toNat 0 1=some [dI m]∧(0≤m∧m<(↑(iE (i.add k)).length:Int))∧∃(n:Int),zF (iE (i.add k)) m.toNat 0 1=some [dI n]∧(0≤m∧m<(↑(iE (i.add k)).length:Int))∧m.toNat<(iE (i.add k)).length∧∃(p:Nat),(↑p:Int)=IntKind.i64.wrap ((↑k:Int)+1)∧iE (i.add p)=yE (iE (i.add k)) m.toNat 0 [dI (IntKind.i64.wrap (n+l))]∧h p∧j p<j k∧AObj.own 2 1 (iE (kV e))=AObj.own 2 1 (iE (kV e))∧AObj.fro 1 (iE (i.left d))=AObj.fro 1 (iE (i.left d))∧AObj.own 3 1 (iE (List.map (fun(l:Nat) ↦ (↑l:Int)) (i.idx d)))=AObj.own 3 1 (iE (List.map (fun(l:Nat) ↦ (↑l:Int)) (i.idx d)))) (∃(l:Unit),iE (mK i)=iE (i.add k)∧True))
def yLx (o:zD):Prop:=
 ∃(a:Unit),o.top=o.top∧True
def z2d (l:List zD):Prop:=
 ∃(a:Nat),(↑a:Int)=0∧∃(b:Nat→Prop),∃(c:Nat→Nat),b a∧∀(d:Nat),b d→cnd (decide ((↑d:Int)<(↑(List.map wO l).length:Int))) ((0≤(↑d:Int)∧(↑d:Int)<(↑(List.map wO l).length:Int))∧∃(e:Int),∃(f:Int),∃(g:Int),∃(h:Int),∃(j:Bool),zF (List.map wO l) (↑d:Int).toNat 0 5=some [dI e,dI f,dI g,dI h,D.v (.bool j)]∧∃(k:zD),k.id=e∧k.side=f∧k.price=g∧k.qty=h∧k.top=j∧True∧∀(m:Unit),True→cnd k.top (∃(n:Unit),topI l=(↑d:Int)∧True) (cB d b c)) (∃(e:Unit),topI l=(-1)∧True)
open Go Cv Go.Proofs
theorem yGk:topFC.ok Tryz.prog 253:=okw (V:=yLx) mixed gok0 0 (fun _=>[]) (fun _=>[]) [] Tryz.func253 fun(o:zD) _=>by
 unfold yLx
 exact⟨(),rfl,trivial⟩
theorem zZj (i:PlI):(kV i).length=i.l.length∨kV i=[]:=by
 rw[kV]
 split
 ·left;rw[PlI.p1,l9,List.length_zip,z0m];simp
 ·exact .inr rfl
theorem yMh {l:List zD} {k:Nat} {o:zD} (h:l[k]? =some o):zF (l.map wO) k 0 5=some [D.v (.int .i64 o.id),.v (.int .i64 o.side),.v (.int .i64 o.price),.v (.int .i64 o.qty),.v (.bool o.top)]:=elA h (by simp[wO]) rfl
theorem yIu (l:List zD) (h:idxOrdC.cnd l):z2d l:=by
 have h:l.length≤1000000:=h
 unfold z2d cB vQ dI
 simp only[yWo]
 refine⟨0,rfl,fun j=>j≤l.length∧∀k<j,∀x,l[k]? =some x→x.top=false,fun j=>l.length-j,⟨by omega,fun k hk=>by omega⟩,?_⟩
 rintro j ⟨h3,h4⟩
 refine zJ (fun hj=> ?_) (fun hj=> ?_)
 ·obtain⟨s,hs⟩:=yA (l:=l) (i:=j) (by omega)
  refine⟨⟨by omega,by omega⟩,s.id,s.side,s.price,s.qty,s.top,yMh hs,s,rfl,rfl,rfl,rfl,rfl,trivial,fun _ _=>Cv.cnd.mk (fun e=> ?_) (fun e=> ?_)⟩
  ·rw[topI,zFa hs e h4];(repeat'(first|exact rfl|exact trivial|assumption|apply And.intro|refine fun(_:Unit) (_:True)=>?_|refine Exists.intro () ?_|omega|(dsimp only;omega)))
  ·refine⟨j+1,by rw[w64 (by omega)];rfl,⟨by omega,fun k hk x hx=> ?_⟩,by(first|omega|(dsimp only;omega)),by(repeat'(first|exact trivial|exact rfl|apply And.intro))⟩
   rcases yZa k j with hk'|hk'
   ·exact h4 k hk' x hx
   ·obtain rfl:k=j:=by omega
    rw[hs]at hx;cases hx;exact e
 ·rw[topI,zDu fun k x hx=>h4 k (by have:=(yWn.1 hx).1;omega) x hx];(repeat'(first|exact rfl|exact trivial|assumption|apply And.intro|refine fun(_:Unit) (_:True)=>?_|refine Exists.intro () ?_|omega|(dsimp only;omega)))
theorem z8d:idxOrdC.ok Tryz.prog 252:=okw mixed (gokc yGk gok0) 0 (fun _=>[]) (fun l=>yHg l) [] Tryz.func252 yIu
theorem yCs (i:RsI) (j:Nat):i.idx (j+1)=i.idx j++if i.out.getD j 0<i.l.getD j 0 then[j]else[]:=by
 rw[RsI.idx,y1j,y0i]
 by_cases h:i.out.getD j 0<i.l.getD j 0
 ·rw[yWm h,yZs (by simpa using h)];rfl
 ·rw[yWl h,yZt (by simpa using h)];rfl
theorem yNe (i:RsI) {k n:Nat} (h:n∈i.idx k):n<k:=by
 have:=(yXt.1 h).1
 exact yZg.1 this
theorem z2e (i:RsI) (k:Nat):(i.idx k).length≤k:=by
 have:=yZy (fun n=>decide (i.out.getD n 0<i.l.getD n 0)) (List.range k)
 rw[List.length_range]at this
 exact this
theorem zXb:∀(z:List (Nat×Int)) (o:List Int),(z.foldl (fun o y=>o.set y.1 (IntKind.i64.wrap (o.getD y.1 0+y.2))) o).length=o.length
 |[],_=>rfl
 |y::z,o=>by rw[y0n,zXb z,yXv]
theorem yTc (i:RsI) (h:restC.cnd i):yLq i:=by
 obtain⟨hl,ho,hq,hle,hb⟩:i.ok:=h
 unfold yLq dI
 simp only[y5,yWo]
 have hil:∀j,(i.left j).length=(i.idx j).length:=fun j=>yWo _
 refine⟨0,by(first|exact rfl|exact trivial),by(first|exact rfl|exact trivial),by(first|exact rfl|exact trivial),fun j=>j≤i.l.length,fun j=>i.l.length-j,yYe _,fun j hj=>zJ (fun c=> ?_) (fun c=> ?_)⟩
 ·have hj':j<i.l.length:=by omega
  obtain⟨n,hn⟩:=yA (l:=i.l) (i:=j) hj'
  obtain⟨o,hoo⟩:=yA (l:=i.out) (i:=j) (by omega)
  have bj:=hb j
  rw[zK hn,zK hoo]at bj
  have is:=yCs i j
  rw[zK hn,zK hoo]at is
  have il:=z2e i j
  refine⟨⟨by omega,by omega⟩,n,elI hn,⟨by omega,by omega⟩,o,elI hoo,zJ (fun a=> ?_) (fun a=> ?_)⟩
  ·rw[yWm (by omega)]at is
   refine⟨⟨by omega,by omega⟩,n,elI hn,⟨by omega,by omega⟩,o,elI hoo,by rw[hil];omega,by omega,j+1,wjn (by omega),?_,?_,hj',by dsimp only;omega,by(repeat'(first|exact trivial|exact rfl|apply And.intro))⟩
   ·rw[w64 (by omega),RsI.left,is,yWw]
    simp[iE,RsI.left,hn,hoo]
   ·rw[is];simp[iE]
  ·rw[yWl (by omega),yXk]at is
   exact⟨j+1,wjn (by omega),by rw[RsI.left,is];rfl,by rw[is],hj',by dsimp only;omega,by(repeat'(first|exact trivial|exact rfl|apply And.intro))⟩
 have hje:j=i.l.length:=by omega
 subst hje
 have il:=z2e i i.l.length
 refine⟨⟨i.left i.l.length,i.least,i.q⟩,rfl,rfl,rfl,⟨by dsimp only;rw[hil];omega,hq,hle⟩,fun _ _=> ?_⟩
 have epl:kV ⟨i.left i.l.length,i.least,i.q⟩=i.pl:=rfl
 rw[epl]
 have hpl:i.pl.length≤(i.idx i.l.length).length:=by
  rcases zZj ⟨i.left i.l.length,i.least,i.q⟩with e|e
  ·rw[epl]at e;rw[e];dsimp only;rw[hil];exact yXn _
  ·rw[epl]at e;rw[e];exact yYe _
 have hal:∀k,(i.add k).length=i.out.length:=fun k=>zXb _ _
 refine⟨0,by(first|exact rfl|exact trivial),by(first|exact rfl|exact trivial),fun k=>k≤i.pl.length,fun k=>i.pl.length-k,yYe _,fun k hk=>zJ (fun c=> ?_) (fun c=> ?_)⟩
 ·have hk':k<i.pl.length:=by omega
  obtain⟨x,hx⟩:=yA (l:=i.pl) (i:=k) hk'
  obtain⟨n,hn⟩:=yA (l:=i.idx i.l.length) (i:=k) (by omega)
  have hnl:=yNe i (yWv hn)
  obtain⟨y,hy⟩:=yA (l:=i.add k) (i:=n) (by rw[hal];omega)
  have ea:i.add (k+1)=(i.add k).set n (IntKind.i64.wrap (y+x)):=by
   have hz:((i.idx i.l.length).zip i.pl)[k]? =some (n,x):=by rw[y1e];exact⟨hn,hx⟩
   have ey:(i.add k).getD n 0=y:=zK hy
   rw[RsI.add,yYm,hz,y2m]
   show(i.add k).set n (IntKind.i64.wrap ((i.add k).getD n 0+x))=_
   rw[ey]
  have hnm:((i.idx i.l.length).map fun(n:Nat)=>(n:Int))[k]? =some (n:Int):=by rw[yYj,hn];rfl
  rw[hal]
  refine⟨⟨by omega,by omega⟩,x,elI hx,⟨by omega,by omega⟩,n,elI hnm,⟨by omega,by omega⟩,y,elI hy,⟨by omega,by omega⟩,by omega,k+1,wjn (by omega),?_,hk',by dsimp only;omega,by(repeat'(first|exact trivial|exact rfl|apply And.intro))⟩
  rw[ea,yXc,zSa hy]
 ·have hke:k=i.pl.length:=by omega
  subst hke
  exact⟨(),rfl,trivial⟩
theorem z3p:restC.ok Tryz.prog 277:=okw mixed (gokc yAs gok0) 0 (fun _=>[]) (fun i=>yUc i) [] Tryz.func277 yTc
open Go Cv Go.Proofs
structure PsI where
 l:List Int
 top:Int
 most:Int
 least:Int
 q:Int
def PsI.first (i:PsI):Int:=min (min (i.l.getD i.top.toNat 0) i.most) i.q
def PsI.rs (i:PsI):RsI:=if 0≤i.top∧i.top<i.l.length then⟨i.l,(List.replicate i.l.length 0).set i.top.toNat i.first,i.least,i.q-i.first⟩else⟨i.l,List.replicate i.l.length 0,i.least,i.q⟩
def zCt (i:PsI):List Int:=if yQ i.l i.q=true∧1≤i.least∧0≤i.most then mK i.rs else[]
def proC:Con:=con1 PsI (fun i=>[iV i.l,zA i.top,zA i.most,zA i.least,zA i.q]) (fun _=>[]) (fun i=>i.l.length≤1000000∧yV i.q∧yV i.least∧yV i.most) (fun _=> .own 0) (fun i=>[.own 2 1 (iE (zCt i))])
structure SpI where
 l:List Int
 part:Int
 least:Int
 q:Int
def SpI.rs (i:SpI):RsI:=⟨i.l,gB i.l (i.q*i.part / 100),i.least,i.q-i.q*i.part / 100⟩
def zAy (i:SpI):List Int:=if yQ i.l i.q=true∧0≤i.part∧i.part≤100∧1≤i.least then mK i.rs else[]
def splC:Con:=con1 SpI (fun i=>[iV i.l,zA i.part,zA i.least,zA i.q]) (fun _=>[]) (fun i=>i.l.length≤1000000∧yV i.q∧yV i.least∧yV i.part) (fun _=> .own 0) (fun i=>[.own 2 1 (iE (zAy i))])
open Go Cv Go.Proofs
def zCc (a:RsI):Prop:=a.l.length≤250∧a.out.length=a.l.length∧((-9223372036854775808)≤a.q∧a.q≤9223372036854775807)∧((-9223372036854775808)≤a.least∧a.least≤9223372036854775807)∧∀(b:Nat),0≤a.out.getD b 0∧a.out.getD b 0≤a.l.getD b 0∧a.l.getD b (0:Int)≤(1000000:Int)
def zLh (a:RsI) (b:PsI):Prop:=(zCc a)∧∀(c:Unit),True→∃(d:Unit),iE (zCt b)=iE (mK a)∧True
def zRy (a:PsI):Prop:=∃(b:RsI),iE b.l=iE a.l∧b.least=a.least∧b.q=a.q∧iE b.out=List.replicate (↑(iE a.l).length:Int).toNat [dI 0]∧zLh b a
def rZ (a:PsI):=(List.replicate (↑(iE a.l).length:Int).toNat [dI 0])
def zJb (a:PsI) (b:Int):=(yE (rZ a) a.top.toNat 0 [dI (min (min b a.most) a.q)])
def ySn (i:PsI):Prop:=
 ∃(a:LqI),iE a.l=iE i.l∧a.q=i.q∧(j0 a)∧∀(b:Unit),True→cnd (!yQ a.l a.q) (∃(c:Unit),iE (zCt i)=[]∧True) (cnd (decide (i.least<1)) (∃(c:Unit),iE (zCt i)=[]∧True) (cnd (decide (i.most<0)) (∃(c:Unit),iE (zCt i)=[]∧True) ((0≤(↑(iE i.l).length:Int)∧(↑(iE i.l).length:Int)≤(↑(iE i.l).length:Int)∧(↑(iE i.l).length:Int)≤9223372036854775807∧(↑(8:Nat):Int)*(↑(iE i.l).length:Int)≤2 ^ (48:Nat))∧cnd (decide (i.top≥0)) (cnd (decide (i.top<(↑(iE i.l).length:Int))) ((0≤i.top∧i.top<(↑(iE i.l).length:Int))∧∃(c:Int),zF (iE i.l) i.top.toNat 0 1=some [dI c]∧(0≤i.top∧i.top<(↑(rZ i).length:Int))∧i.top.toNat<(rZ i).length∧(0≤i.top∧i.top<(↑(zJb i c).length:Int))∧∃(d:Int),zF (zJb i c) i.top.toNat 0 1=some [dI d]∧∃(e:RsI),iE e.l=iE i.l∧e.least=i.least∧e.q=IntKind.i64.wrap (i.q-d)∧iE e.out=yE (rZ i) i.top.toNat 0 [dI (min (min c i.most) i.q)]∧zLh e i) (zRy i)) (zRy i))))
def ySh (i:SpI):Prop:=
 ∃(a:LqI),iE a.l=iE i.l∧a.q=i.q∧(j0 a)∧∀(b:Unit),True→cnd (!yQ a.l a.q) (∃(c:Unit),iE (zAy i)=[]∧True) (cnd (decide (i.part<0)) (∃(c:Unit),iE (zAy i)=[]∧True) (cnd (decide (i.part>100)) (∃(c:Unit),iE (zAy i)=[]∧True) (cnd (decide (i.least<1)) (∃(c:Unit),iE (zAy i)=[]∧True) (∃(c:ShI),c.a=i.q∧c.b=i.part∧c.c=100∧(0≤c.a∧c.a≤(2000000000:Int)∧(0:Int)≤c.b∧c.b≤(2000000000:Int)∧(1:Int)≤c.c∧c.c≤2000000000)∧∀(d:Unit),True→∃(e:LqI),iE e.l=iE i.l∧e.q=c.a*c.b / c.c∧(j0 e)∧∀(f:Unit),True→∃(g:RsI),iE g.l=iE i.l∧g.least=i.least∧g.q=IntKind.i64.wrap (i.q-c.a*c.b / c.c)∧iE g.out=iE (gB e.l e.q)∧(zCc g)∧∀(h:Unit),True→∃(j:Unit),iE (zAy i)=iE (mK g)∧True))))
open Go Cv Go.Proofs
theorem z9v {l:List Int} {q r:Int} (h:yQ l q=true) (h0:0≤r) (h1:r≤q):yQ l r=true:=by
 obtain⟨a,b,c,d⟩:=jB h
 have e:(l.all fun n=>decide (1≤n) && decide (n≤1000000))=true:=by
  rw[yZn];intro x hx;simpa using c x hx
 rw[yQ,e,yXf a,yXf h0,yXf (show r≤l.sum by omega)];rfl
theorem getD_none {l:List Int} {n:Nat} (h:l[n]? =none):l.getD n 0=0:=by rw[yWt,h];rfl
theorem lU {l:List Int} {q:Int} (h:yQ l q=true) (n:Nat):0≤l.getD n 0∧l.getD n 0≤1000000:=by
 cases hn:l[n]? with
 |none=>rw[getD_none hn];decide
 |some x=>rw[zK hn];have:=(jB h).2.2.1 x (yWv hn);omega
theorem z6q {l:List Int} {q:Int} (h:yQ l q=true) (n:Nat):0≤(gB l q).getD n 0∧(gB l q).getD n 0≤l.getD n 0:=by
 rw[gB,yWm h]
 obtain⟨a,b,c,d⟩:=jB h
 cases hn:l[n]? with
 |none=>
  have:(uQ l q)[n]? =none:=by rw[List.getElem?_eq_none_iff,sN];exact List.getElem?_eq_none_iff.1 hn
  rw[getD_none hn,getD_none this];decide
 |some x=>
  rw[zK hn,zK (zMm l q n x hn)]
  have:=zGb l q n b (fun y hy=>by have:=c y hy;omega)
  have:=c x (yWv hn)
  omega
theorem yVq (i:SpI) (h:splC.cnd i):ySh i:=by
 obtain⟨hl,hq,hle,hpa⟩:i.l.length≤1000000∧yV i.q∧yV i.least∧yV i.part:=h
 unfold ySh zCc j0
 have no (e:¬(yQ i.l i.q=true∧0≤i.part∧i.part≤100∧1≤i.least)):zAy i=[]:=by rw[zAy,yWl e]
 refine⟨⟨i.l,i.q⟩,rfl,rfl,⟨hl,hq⟩,fun _ _=>Cv.cnd.mk (fun c=> ?_) (fun c=>zJ (fun d=> ?_) (fun d=>zJ (fun e=> ?_) (fun e=>zJ (fun f=> ?_) (fun f=> ?_))))⟩
 ·have c:yQ i.l i.q=false:=by simpa using c
  exact⟨(),by rw[no (by rw[c];simp)];rfl,trivial⟩
 ·exact⟨(),by rw[no (by omega)];rfl,trivial⟩
 ·exact⟨(),by rw[no (by omega)];rfl,trivial⟩
 ·exact⟨(),by rw[no (by omega)];rfl,trivial⟩
 have c:yQ i.l i.q=true:=by simpa using c
 obtain⟨h1,h2,h3,h4⟩:=jB c
 have hq2:=zHw c
 have m0:0≤i.q*i.part:=y2p h2 (by omega)
 have m1:i.q*i.part≤i.q*100:=y1m (by omega) h2
 have hr:=z9v (r:=i.q*i.part / 100) c (by omega) (by omega)
 have es:zAy i=mK i.rs:=by rw[zAy,yWm ⟨c,by omega,by omega,by omega⟩]
 refine⟨⟨i.q,i.part,100⟩,rfl,rfl,rfl,⟨by dsimp only;omega,by dsimp only;omega,by dsimp only;omega,by dsimp only;omega,by dsimp only;omega,by dsimp only;omega⟩,fun _ _=>⟨⟨i.l,i.q*i.part / 100⟩,rfl,rfl,⟨hl,by dsimp only;omega,by dsimp only;omega⟩,fun _ _=>⟨i.rs,rfl,rfl,?_,rfl,⟨h1,?_,?_,hle,?_⟩,fun _ _=>⟨(),by rw[es],trivial⟩⟩⟩⟩
 ·rw[w64 (by dsimp only;omega)];rfl
 ·show(gB i.l (i.q*i.part / 100)).length=i.l.length
  rw[gB,yWm hr,sN]
 ·show yV (i.q-i.q*i.part / 100)
  exact⟨by omega,by omega⟩
 ·intro n
  have a:=z6q hr n
  have b:=lU c n
  exact⟨a.1,a.2,b.2⟩
theorem yNt:splC.ok Tryz.prog 255:=okw mixed (gokc zCi (gokc zNh (gokc z2v (gokc z3p gok0)))) 0 (fun _=>[]) (fun _=>[]) [] Tryz.func255 yVq
theorem yRd (n:Nat):List.replicate n [D.v (.int .i64 0)]=iE (List.replicate n 0):=by simp[iE]
theorem zXo (n k:Nat):(List.replicate n (0:Int)).getD k 0=0:=by
 rw[yWt,List.getElem?_replicate];split<;>rfl
theorem yEi (n t k:Nat) (x:Int):((List.replicate n (0:Int)).set t x).getD k 0=x∧k=t∨((List.replicate n (0:Int)).set t x).getD k 0=0:=by
 rw[yWt,y1z]
 split
 ·rename_i e
  split
  ·exact .inl ⟨rfl,e.symm⟩
  ·exact .inr rfl
 ·right;rw[← yWt];exact zXo n k
theorem yVw (i:PsI) (h:proC.cnd i):ySn i:=by
 obtain⟨hl,hq,hle,hmo⟩:i.l.length≤1000000∧yV i.q∧yV i.least∧yV i.most:=h
 unfold ySn zRy zJb rZ zLh zCc j0 dI
 have no (e:¬(yQ i.l i.q=true∧1≤i.least∧0≤i.most)):zCt i=[]:=by rw[zCt,yWl e]
 refine⟨⟨i.l,i.q⟩,rfl,rfl,⟨hl,hq⟩,fun _ _=>Cv.cnd.mk (fun c=> ?_) (fun c=>zJ (fun d=> ?_) (fun d=>zJ (fun e=> ?_) (fun e=> ?_)))⟩
 ·have c:yQ i.l i.q=false:=by simpa using c
  exact⟨(),by rw[no (by rw[c];simp)];rfl,trivial⟩
 ·exact⟨(),by rw[no (by omega)];rfl,trivial⟩
 ·exact⟨(),by rw[no (by omega)];rfl,trivial⟩
 have c:yQ i.l i.q=true:=by simpa using c
 obtain⟨h1,h2,h3,h4⟩:=jB c
 have hq2:=zHw c
 have es:zCt i=mK i.rs:=by rw[zCt,yWm ⟨c,by omega,by omega⟩]
 simp only[y5,yXc,yRd]
 have out (hn:¬(0≤i.top∧i.top<(i.l.length:Int))):i.rs=⟨i.l,List.replicate i.l.length 0,i.least,i.q⟩:=by rw[PsI.rs,yWl hn]
 have ok0:RsI.ok ⟨i.l,List.replicate i.l.length 0,i.least,i.q⟩:=⟨h1,by simp,hq,hle,fun n=>by
  have:=lU c n
  dsimp only
  rw[zXo];omega⟩
 refine⟨⟨by omega,by omega,by omega,by omega⟩,zJ (fun a=>zJ (fun b=> ?_) (fun b=> ?_)) (fun a=> ?_)⟩
 ·obtain⟨n,hn⟩:=yA (l:=i.l) (i:=i.top.toNat) (by omega)
  have hf:i.first=min (min n i.most) i.q:=by rw[PsI.first,zK hn]
  have bn:=h3 n (yWv hn)
  have hr0:(List.replicate i.l.length (0:Int))[i.top.toNat]? =some 0:=by rw[List.getElem?_replicate,yWm (by omega)]
  have ers:i.rs=⟨i.l,(List.replicate i.l.length 0).set i.top.toNat i.first,i.least,i.q-i.first⟩:=by rw[PsI.rs,yWm ⟨by omega,by omega⟩]
  refine⟨⟨by omega,by omega⟩,n,elI hn,?_⟩
  rw[zSa hr0,← hf]
  simp only[y5,yXv,yZm]
  refine⟨⟨by omega,by omega⟩,by omega,⟨by omega,by omega⟩,i.first,elI (uJ hr0),?_⟩
  rw[w64 (x:=i.q-i.first) (by omega)]
  refine⟨⟨i.l,(List.replicate i.l.length 0).set i.top.toNat i.first,i.least,i.q-i.first⟩,rfl,rfl,rfl,rfl,⟨h1,by simp,⟨by dsimp only;omega,by dsimp only;omega⟩,hle,fun k=> ?_⟩,fun _ _=>⟨(),by rw[es,ers],trivial⟩⟩
  have bk:=lU c k
  dsimp only
  rcases yEi i.l.length i.top.toNat k i.first with⟨g,gk⟩|g
  ·rw[g,gk,zK hn];omega
  ·rw[g];omega
 ·refine⟨⟨i.l,List.replicate i.l.length 0,i.least,i.q⟩,rfl,rfl,rfl,rfl,ok0,fun _ _=>⟨(),by rw[es,out (by omega)],trivial⟩⟩
 ·refine⟨⟨i.l,List.replicate i.l.length 0,i.least,i.q⟩,rfl,rfl,rfl,rfl,ok0,fun _ _=>⟨(),by rw[es,out (by omega)],trivial⟩⟩
theorem yMq:proC.ok Tryz.prog 254:=okw mixed (gokc zCi (gokc z3p gok0)) 0 (fun _=>[]) (fun _=>[]) [] Tryz.func254 yVw
open Go Cv Go.Proofs
structure AlI where
 p:Prd
 l:List zD
 q:Int
def AlI.qs (i:AlI):List Int:=i.l.map (·.qty)
def qF (i:AlI):List Int:=if i.p.rule=1 then gB i.qs i.q else if i.p.rule=2 then zCt ⟨i.qs,topI i.l,i.p.top,i.p.least,i.q⟩else if i.p.rule=3 then zAy ⟨i.qs,i.p.part,i.p.least,i.q⟩else[]
def allocC:Con:=con1 AlI (fun i=>[prdV i.p,roV 5 (i.l.map wO),zA i.q]) (fun _=>[]) (fun i=>i.l.length≤1000∧yV i.q∧yV i.p.least∧yV i.p.top∧yV i.p.part) (fun _=> .own 0) (fun i=>[.own 2 1 (iE (qF i))])
def yMo (i:AlI):List SAnn:=[{ι:=Nat,slots:=fun j=>[(7,.own 0),(13,zA j)],rows:=fun j=>[.own 2 1 (iE (i.qs.take j))]}]
open Go Cv Go.Proofs
def yBc (i:AlI):Prop:=
 ∃(a:Nat),(↑a:Int)=0∧iE (List.take a i.qs)=[]∧∃(b:Nat→Prop),∃(c:Nat→Nat),b a∧∀(d:Nat),b d→cnd (decide ((↑d:Int)<(↑(List.map wO i.l).length:Int))) ((0≤(↑d:Int)∧(↑d:Int)<(↑(List.map wO i.l).length:Int))∧∃(e:Int),∃(f:Int),∃(g:Int),∃(h:Int),∃(j:Bool),zF (List.map wO i.l) (↑d:Int).toNat 0 5=some [dI e,dI f,dI g,dI h,D.v (.bool j)]∧((iE (List.take d i.qs)).length+1)*(8:Nat)≤(70368744177664:Nat)∧∃(k:Nat),(↑k:Int)=IntKind.i64.wrap ((↑d:Int)+1)∧iE (List.take k i.qs)=iE (List.take d i.qs)++[[dI h]]∧b k∧c k<c d∧Sx.AObj.cells [V.d (D.v (Value.string (sb i.p.code))),V.own 0,V.d (dI i.p.tick),V.d (dI i.p.low),V.d (dI i.p.high),V.d (dI i.p.wide),V.d (dI i.p.rule),V.d (dI i.p.top),V.d (dI i.p.least),V.d (dI i.p.part),V.own ((0:Nat)+(1:Nat))] 26=Sx.AObj.cells [V.d (D.v (Value.string (sb i.p.code))),V.own 0,V.d (dI i.p.tick),V.d (dI i.p.low),V.d (dI i.p.high),V.d (dI i.p.wide),V.d (dI i.p.rule),V.d (dI i.p.top),V.d (dI i.p.least),V.d (dI i.p.part),V.own ((0:Nat)+(1:Nat))] 26∧AObj.fro 1 (iE i.p.settle)=AObj.fro 1 (iE i.p.settle)∧AObj.fro 1 (iE i.p.months)=AObj.fro 1 (iE i.p.months)) (cnd (i.p.rule==1) (∃(e:LqI),iE e.l=iE (List.take d i.qs)∧e.q=i.q∧(j0 e)∧∀(f:Unit),True→∃(g:Unit),iE (qF i)=iE (gB e.l e.q)∧True) (cnd (i.p.rule==2) (∃(e:List zD),List.map wO e=List.map wO i.l∧e.length≤1000000∧∀(f:Unit),True→∃(g:PsI),iE g.l=iE (List.take d i.qs)∧g.top=topI e∧g.most=i.p.top∧g.least=i.p.least∧g.q=i.q∧(g.l.length≤1000000∧((-9223372036854775808)≤g.q∧g.q≤9223372036854775807)∧((-9223372036854775808)≤g.least∧g.least≤9223372036854775807)∧(-9223372036854775808)≤g.most∧g.most≤9223372036854775807)∧∀(h:Unit),True→∃(j:Unit),iE (qF i)=iE (zCt g)∧True) (cnd (i.p.rule==3) (∃(e:SpI),iE e.l=iE (List.take d i.qs)∧e.part=i.p.part∧e.least=i.p.least∧e.q=i.q∧(e.l.length≤1000000∧((-9223372036854775808)≤e.q∧e.q≤9223372036854775807)∧((-9223372036854775808)≤e.least∧e.least≤9223372036854775807)∧(-9223372036854775808)≤e.part∧e.part≤9223372036854775807)∧∀(f:Unit),True→∃(g:Unit),iE (qF i)=iE (zAy e)∧True) (∃(e:Unit),iE (qF i)=[]∧True))))
open Go Cv Go.Proofs
theorem yMe (i:AlI) (h:allocC.cnd i):yBc i:=by
 obtain⟨hl,hq,hle,hto,hpa⟩:i.l.length≤1000∧yV i.q∧yV i.p.least∧yV i.p.top∧yV i.p.part:=h
 have hql:i.qs.length=i.l.length:=by simp[AlI.qs]
 unfold yBc j0 dI
 simp only[y5,yWo]
 refine⟨0,by(first|exact rfl|exact trivial),by(first|exact rfl|exact trivial),fun j=>j≤i.l.length,fun j=>i.l.length-j,yYe _,fun j hj=>zJ (fun c=> ?_) (fun c=> ?_)⟩
 ·have hj':j<i.l.length:=by omega
  obtain⟨o,ho⟩:=yA (l:=i.l) (i:=j) hj'
  have hqo:i.qs[j]? =some o.qty:=by rw[AlI.qs,yYj,ho];rfl
  refine⟨⟨by omega,by omega⟩,o.id,o.side,o.price,o.qty,o.top,yMh ho,by rw[yXi];omega,j+1,wjn (by omega),?_,hj',by dsimp only;omega,by(repeat'(first|exact trivial|exact rfl|apply And.intro))⟩
  rw[yYm,hqo];simp[iE]
 have hje:j=i.l.length:=by omega
 subst hje
 rw[yXg (l:=i.qs) (by omega)]
 refine Cv.cnd.mk (fun a=> ?_) (fun a=>Cv.cnd.mk (fun b=> ?_) (fun b=>Cv.cnd.mk (fun d=> ?_) (fun d=> ?_)))
 ·have a:i.p.rule=1:=by simpa using a
  exact⟨⟨i.qs,i.q⟩,rfl,rfl,⟨by dsimp only;omega,hq⟩,fun _ _=>⟨(),by rw[qF,yWm a],trivial⟩⟩
 ·have a:¬i.p.rule=1:=by simpa using a
  have b:i.p.rule=2:=by simpa using b
  exact⟨i.l,rfl,by omega,fun _ _=>⟨⟨i.qs,topI i.l,i.p.top,i.p.least,i.q⟩,rfl,rfl,rfl,rfl,rfl,⟨by dsimp only;omega,hq,hle,hto⟩,fun _ _=>⟨(),by rw[qF,yWl a,yWm b],trivial⟩⟩⟩
 ·have a:¬i.p.rule=1:=by simpa using a
  have b:¬i.p.rule=2:=by simpa using b
  have d:i.p.rule=3:=by simpa using d
  exact⟨⟨i.qs,i.p.part,i.p.least,i.q⟩,rfl,rfl,rfl,rfl,⟨by dsimp only;omega,hq,hle,hpa⟩,fun _ _=>⟨(),by rw[qF,yWl a,yWl b,yWm d],trivial⟩⟩
 ·have a:¬i.p.rule=1:=by simpa using a
  have b:¬i.p.rule=2:=by simpa using b
  have d:¬i.p.rule=3:=by simpa using d
  exact⟨(),by rw[qF,yWl a,yWl b,yWl d];rfl,trivial⟩
theorem yBi:allocC.ok Tryz.prog 219:=okw mixed (gokc z2v (gokc z8d (gokc yMq (gokc yNt gok0)))) 0 (fun _=>[]) (fun i=>yMo i) [] Tryz.func219 yMe
open Go Cv Go.Proofs
def vE (l:List Nat) (t:Int):Int:=match l with
 |[]=>t
 |k::_=>k
def kM:List Nat→Int→Int
 |[],p=>p
 |k::l,_=>kM l k
structure zSh (s:Slot) (n k:Nat) (p t:Int):Prop where
 used:s.used=true
 no:s.n=k
 queue:s.queue=n
 ahead:s.ahead=p
 back:s.back=t
 q1:0≤s.qty
 q2:s.qty≤1000000
def seg (sl:List Slot) (n:Nat):Int→List Nat→Int→Prop
 |_,[],_=>True
 |p,k::l,t=>(∃s,sl[k]? =some s∧zSh s n k p (vE l t))∧seg sl n k l t
theorem zEn (l1 l2:List Nat) (t:Int):vE (l1++l2) t=vE l1 (vE l2 t):=by cases l1<;>rfl
theorem bC:∀(l1 l2:List Nat) (p:Int),kM (l1++l2) p=kM l2 (kM l1 p)
 |[],l2,p=>rfl
 |k::l1,l2,p=>bC l1 l2 k
theorem eG {sl:List Slot} {n:Nat}:∀{l1 l2:List Nat} {p t:Int},seg sl n p (l1++l2) t↔seg sl n p l1 (vE l2 t)∧seg sl n (kM l1 p) l2 t
 |[],l2,p,t=>by simp[seg,kM]
 |k::l1,l2,p,t=>by
  rw[yXx,seg,seg,zEn,eG,kM,and_assoc]
theorem z2j {sl:List Slot} {n k:Nat}:∀{l:List Nat} {p t:Int},seg sl n p l t→k∈l→∃s p' t',sl[k]? =some s∧zSh s n k p' t'
 |j::l,p,t,h,hk=>by
  rcases yXd.1 hk with rfl|hk
  ·obtain⟨⟨s,h1,h2⟩,_⟩:=h
   exact⟨s,_,_,h1,h2⟩
  ·exact z2j h.2 hk
theorem wP {sl sl':List Slot} {n:Nat}:∀{l:List Nat} {p t:Int},(∀k∈l,sl'[k]? =sl[k]?)→seg sl n p l t→seg sl' n p l t
 |[],p,t,_,h=>h
 |k::l,p,t,e,⟨⟨s,h1,h2⟩,h3⟩=>⟨⟨s,by rw[e k yWq];exact h1,h2⟩,wP (fun j hj=>e j (yWr _ hj)) h3⟩
theorem dG {α:Type} {l:List α} {f:α→α} {i j:Nat} (h:i≠j):(l.modify i f)[j]? =l[j]? :=by rw[List.getElem?_modify];cases l[j]? <;>simp[h]
theorem sC {α:Type} {l:List α} {f:α→α} {i:Nat} {x:α} (h:l[i]? =some x):(l.modify i f)[i]? =some (f x):=by rw[List.getElem?_modify,h];simp
theorem vS {α:Type} {l:List α} {x:α} {i j:Nat} (h:i≠j):(l.set i x)[j]? =l[j]? :=by rw[y1z,yWl h]
theorem uY {α:Type} {l:List α} {x:α} {i:Nat} (h:i<l.length):(l.set i x)[i]? =some x:=by rw[y1z,yWm rfl,yWm h]
theorem uH {α:Type} {Q:List α} {n m:Nat} {x y:α} (h:(Q.set n x)[m]? =some y):(m=n∧y=x)∨(m≠n∧Q[m]? =some y):=by
 by_cases e:n=m
 ·subst e
  have hn:n<Q.length:=by
   have:=(yWn.1 h).1
   simpa using this
  rw[uY hn]at h
  cases h
  exact .inl ⟨rfl,rfl⟩
 ·rw[vS e]at h
  exact .inr ⟨fun c=>e c.symm,h⟩
theorem zVp {sl:List Slot} {n k:Nat} {l:List Nat} {p t:Int} (t':Int) (hk:k∉l) (h:seg sl n p (l++[k]) t):seg (sl.modify k fun s=>{s with back:=t'}) n p (l++[k]) t':=by
 rw[eG]at h ⊢
 obtain⟨h1,⟨s,h2,h3⟩,_⟩:=h
 refine⟨wP (fun j hj=>dG (fun e=>hk (e▸hj))) h1,⟨_,sC h2,?_⟩,trivial⟩
 exact⟨h3.used,h3.no,h3.queue,h3.ahead,rfl,h3.q1,h3.q2⟩
theorem z5y {sl:List Slot} {n k:Nat} {l:List Nat} {p t:Int} (p':Int) (hk:k∉l) (h:seg sl n p (k::l) t):seg (sl.modify k fun s=>{s with ahead:=p'}) n p' (k::l) t:=by
 obtain⟨⟨s,h1,h2⟩,h3⟩:=h
 refine⟨⟨_,sC h1,?_⟩,wP (fun j hj=>dG (fun e=>hk (e▸hj))) h3⟩
 exact⟨h2.used,h2.no,h2.queue,rfl,h2.back,h2.q1,h2.q2⟩
theorem wD (l:List Nat):l=[]∨∃(x:List Nat) (j:Nat),l=x++[j]∧∀p:Int,kM l p=(j:Int):=by
 rcases List.eq_nil_or_concat l with rfl|⟨x,j,rfl⟩
 ·exact .inl rfl
 ·exact .inr ⟨x,j,by simp,fun p=>by rw[List.concat_eq_append,bC];rfl⟩
theorem m4 (l:List Nat):kM l (-1)= -1↔l=[]:=by
 rcases wD l with rfl|⟨x,j,rfl,e⟩
 ·simp[kM]
 ·rw[e];simp
theorem zOl (l:List Nat):vE l (-1)= -1↔l=[]:=by
 cases l with
 |nil=>simp[vE]
 |cons k l=>simp only[vE];constructor
            ·intro h;omega
            ·intro h;cases h
theorem tZ {α β:Type} {g:α→β} {f:α→α} (h:∀x,g (f x)=g x):∀(l:List α) (i:Nat),(l.modify i f).map g=l.map g
 |[],i=>by simp
 |a::l,0=>by simp[h]
 |a::l,i+1=>by rw[y1x,yWu,yWu,tZ h l i]
theorem zLk:∀(m:Nat) {l:List Nat},l.Nodup→(∀k∈l,k<m)→l.length≤m
 |0,[],_,_=>yXn 0
 |0,k::l,_,h=>absurd (h k yWq) (by omega)
 |m+1,l,hn,h=>by
  have:=zLk m (hn.erase m) fun k hk=>by
   have:=(hn.mem_erase_iff).1 hk
   have:=h k this.2
   omega
  by_cases hm:m∈l
  ·rw[List.length_erase_of_mem hm]at this;omega
  ·rw[List.erase_of_not_mem hm]at this;omega
theorem z4r {f g:Nat→Int} {k:Nat}:∀{l:List Nat},l.Nodup→k∈l→(∀j∈l,j≠k→g j=f j)→(l.map g).sum=(l.map f).sum+(g k-f k)
 |j::l,hn,hk,h=>by
  have hn:=yYl.1 hn
  rw[yWu,yWu,yXj,yXj]
  rcases yXd.1 hk with rfl|hk
  ·have:l.map g=l.map f:=yXu fun i hi=>h i (yWr _ hi) (fun e=>hn.1 (e▸hi))
   rw[this];omega
  ·have e:=h j yWq (fun e=>hn.1 (e▸hk))
   rw[z4r hn.2 hk (fun i hi=>h i (yWr _ hi)),e]
   omega
theorem yDp {f:Nat→Int} {m:Int}:∀{l:List Nat},(∀j∈l,0≤f j∧f j≤m)→0≤(l.map f).sum∧(l.map f).sum≤m*l.length
 |[],_=>by simp
 |j::l,h=>by
  have:=h j yWq
  have:=yDp (l:=l) fun i hi=>h i (yWr _ hi)
  rw[yWu,yXj,yXa,Int.natCast_add,Int.mul_add]
  simp only[Int.natCast_one,Int.mul_one]
  omega
def Arena.qsum (a:Arena) (l:List Nat):Int:=(l.map fun k=>(a.slotAt k).qty).sum
structure Arena.Wf0 (a:Arena) (Q:List (List Nat)):Prop where
 len:a.slots.length=250
 ql:a.queues.length=Q.length
 q:∀(n:Nat) (l:List Nat),Q[n]? =some l→a.queues[n]? =some ⟨vE l (-1),kM l (-1),a.qsum l,l.length⟩
 sg:∀(n:Nat) (l:List Nat),Q[n]? =some l→seg a.slots n (-1) l (-1)
 nd:∀(n:Nat) (l:List Nat),Q[n]? =some l→l.Nodup
 us:∀(k:Nat) (s:Slot),a.slots[k]? =some s→s.used=true→∃(n:Nat) (l:List Nat),Q[n]? =some l∧k∈l
 free:a.free=((a.slots.map (·.used)).countP (!·):Nat)
structure Arena.Wf (a:Arena) (Q:List (List Nat)):Prop extends a.Wf0 Q where
 pos:∀(n:Nat) (l:List Nat),Q[n]? =some l→∀k∈l,1≤(a.slotAt k).qty
theorem Arena.Wf0.mem {a:Arena} {Q:List (List Nat)} (h:a.Wf0 Q) {n k:Nat} {l:List Nat} (hl:Q[n]? =some l) (hk:k∈l):k<250∧(∃p t,zSh (a.slotAt k) n k p t)∧a.slots[k]? =some (a.slotAt k):=by
 obtain⟨s,p,t,h1,h2⟩:=z2j (h.sg n l hl) hk
 have e:a.slotAt k=s:=zK h1
 have hlt:=(yWn.1 h1).1
 rw[h.len]at hlt
 exact⟨hlt,⟨p,t,by rw[e];exact h2⟩,by rw[e];exact h1⟩
theorem Arena.Wf0.one {a:Arena} {Q:List (List Nat)} (h:a.Wf0 Q) {n m k:Nat} {l l':List Nat} (hl:Q[n]? =some l) (hl':Q[m]? =some l') (hk:k∈l) (hk':k∈l'):n=m:=by
 obtain⟨_,⟨_,_,h1⟩,_⟩:=h.mem hl hk
 obtain⟨_,⟨_,_,h2⟩,_⟩:=h.mem hl' hk'
 have:=h1.queue
 have:=h2.queue
 omega
theorem Arena.Wf0.short {a:Arena} {Q:List (List Nat)} (h:a.Wf0 Q) {n:Nat} {l:List Nat} (hl:Q[n]? =some l):l.length≤250:=zLk 250 (h.nd n l hl) fun k hk=>(h.mem hl hk).1
theorem bV {a a':Arena} {l:List Nat} (h:∀k∈l,(a'.slotAt k).qty=(a.slotAt k).qty):a'.qsum l=a.qsum l:=by rw[Arena.qsum,Arena.qsum,yXu h]
theorem Arena.Wf0.sum {a:Arena} {Q:List (List Nat)} (h:a.Wf0 Q) {n:Nat} {l:List Nat} (hl:Q[n]? =some l):0≤a.qsum l∧a.qsum l≤250000000:=by
 have:=yDp (f:=fun k=>(a.slotAt k).qty) (m:=1000000) (l:=l) fun j hj=>by
  obtain⟨_,⟨_,_,h1⟩,_⟩:=h.mem hl hj
  exact⟨h1.q1,h1.q2⟩
 have:=h.short hl
 rw[Arena.qsum]
 omega
theorem zOw {sl:List Slot} {n:Nat}:∀{l:List Nat} {p:Int},seg sl n p l (-1)→zUk sl (vE l (-1)) l
 |[],p,_=>rfl
 |k::l,p,⟨⟨s,h1,h2⟩,h3⟩=>by
  refine⟨rfl,(yWn.1 h1).1,?_⟩
  rw[zK h1,h2.back]
  exact zOw h3
theorem Arena.Wf0.ok {a:Arena} {Q:List (List Nat)} (h:a.Wf0 Q):a.okAt:=by
 refine⟨by rw[h.len];decide,fun k s hk hu=> ?_⟩
 obtain⟨n,l,hl,hkl⟩:=h.us k s hk hu
 have hQ:=(yWn.1 hl).1
 have hql:=h.ql
 obtain⟨l1,l2,rfl⟩:=List.append_of_mem hkl
 have hsg:=h.sg n _ hl
 have hnd:=h.nd n _ hl
 rw[eG]at hsg
 obtain⟨_,⟨s',h1,h2⟩,_⟩:=hsg
 rw[hk]at h1;cases h1
 have hq:=h2.queue
 have hd:=yYq.1 hnd
 have hd2:=yYl.1 hd.2.1
 refine⟨⟨by omega,by omega⟩,h2.q2,?_,?_⟩
 ·rw[h2.ahead]
  rcases wD l1 with rfl|⟨x,j,rfl,e⟩
  ·exact .inl rfl
  ·have hj:j∈x++[j]:=by simp
   have hjl:=(h.mem hl (yYa _ hj)).1
   rw[e,h.len]
   refine .inr ⟨by omega,by omega,fun e2=> ?_⟩
   have:j=k:=by omega
   exact hd.2.2 j hj k yWq this
 ·rw[h2.back]
  cases l2 with
  |nil=>exact .inl rfl
  |cons j x=>
   have hjl:=(h.mem hl (yYd _ (yWr _ yWq))).1
   rw[vE,h.len]
   refine .inr ⟨by omega,by omega,fun e2=> ?_⟩
   have:j=k:=by omega
   exact hd2.1 (this▸yWq)
theorem Arena.Wf0.open {a:Arena} {Q:List (List Nat)} (h:a.Wf0 Q):a.openQ.Wf0 (Q++[[]]):=by
 have g:∀{n:Nat} {l:List Nat},(Q++[[]])[n]? =some l→Q[n]? =some l∨(n=Q.length∧l=[]):=by
  intro n l hl
  rw[List.getElem?_append]at hl
  split at hl
  ·exact .inl hl
  ·rename_i hn
   have:=(yWn.1 hl).1
   simp only[y0f]at this
   have e:n-Q.length=0:=by omega
   rw[e]at hl
   cases hl
   exact .inr ⟨by omega,rfl⟩
 refine⟨h.len,by simp[Arena.openQ,h.ql],fun n l hl=> ?_,fun n l hl=> ?_,fun n l hl=> ?_,fun k s hk hu=> ?_,h.free⟩
 ·rcases g hl with hl|⟨rfl,rfl⟩
  ·show(a.queues++[bU])[n]? =_
   rw[yZo (by have:=(yWn.1 hl).1;have:=h.ql;omega)]
   exact h.q n l hl
  ·show(a.queues++[bU])[_]? =_
   rw[← h.ql,yYv (yXn _),y2c]
   rfl
 ·rcases g hl with hl|⟨rfl,rfl⟩
  ·exact h.sg n l hl
  ·trivial
 ·rcases g hl with hl|⟨rfl,rfl⟩
  ·exact h.nd n l hl
  ·exact List.nodup_nil
 ·obtain⟨n,l,hl,hkl⟩:=h.us k s hk hu
  exact⟨n,l,by rw[yZo (yWn.1 hl).1];exact hl,hkl⟩
theorem Arena.Wf.open {a:Arena} {Q:List (List Nat)} (h:a.Wf Q):a.openQ.Wf (Q++[[]]):=by
 refine⟨h.toWf0.open,fun n l hl k hk=> ?_⟩
 rw[List.getElem?_append]at hl
 split at hl
 ·exact h.pos n l hl k hk
 ·have:=(yWn.1 hl).1
  simp only[y0f]at this
  have e:n-Q.length=0:=by omega
  rw[e]at hl
  cases hl
  cases hk
theorem zLr {sl sl':List Slot} {n:Nat}:∀{l:List Nat} {p t:Int},(∀k∈l,∀s,sl[k]? =some s→∃s',sl'[k]? =some s'∧s'.used=s.used∧s'.n=s.n∧s'.queue=s.queue∧s'.ahead=s.ahead∧s'.back=s.back∧0≤s'.qty∧s'.qty≤1000000)→seg sl n p l t→seg sl' n p l t
 |[],p,t,_,h=>h
 |k::l,p,t,e,⟨⟨s,h1,h2⟩,h3⟩=>by
  obtain⟨s',q0,q1,q2,q3,q4,q5,q6,q7⟩:=e k yWq s h1
  exact⟨⟨s',q0,⟨q1.trans h2.used,q2.trans h2.no,q3.trans h2.queue,q4.trans h2.ahead,q5.trans h2.back,q6,q7⟩⟩,zLr (fun j hj=>e j (yWr _ hj)) h3⟩
theorem zQy (a:Arena) (n:Int) (t:Bool) (j:Nat):(a.topF n t).slotAt j=if a.usedAt n=true∧j=n.toNat then{a.slotAt j with top:=t}else a.slotAt j:=by
 rw[Arena.topF]
 by_cases hu:a.usedAt n=true
 ·rw[yWm hu]
  by_cases e:j=n.toNat
  ·subst e
   rw[yWm ⟨hu,rfl⟩]
   have hlt:n.toNat<a.slots.length:=by
    simp only[Arena.usedAt,yWz,yXy]at hu
    omega
   show(a.slots.modify n.toNat _).getD n.toNat slot0=_
   obtain⟨s,hs⟩:=yA hlt
   rw[zK (sC hs),xP hs]
  ·rw[yWl (fun h=>e h.2)]
   show(a.slots.modify n.toNat _).getD j slot0=a.slots.getD j slot0
   rw[yWt,dG (fun h=>e h.symm),yWt]
 ·rw[yWl hu,yWl (fun h=>hu h.1)]
theorem Arena.Wf.top {a:Arena} {Q:List (List Nat)} (h:a.Wf Q) (n:Int) (t:Bool):(a.topF n t).Wf Q:=by
 have hq:∀j,((a.topF n t).slotAt j).qty=(a.slotAt j).qty:=by
  intro j
  rw[zQy]
  split<;>rfl
 by_cases hu:a.usedAt n=true
 ·have e:a.topF n t={a with slots:=a.slots.modify n.toNat fun s=>{s with top:=t}}:=by rw[Arena.topF,yWm hu]
  have hm:∀(k:Nat) (s:Slot),a.slots[k]? =some s→∃s',(a.topF n t).slots[k]? =some s'∧s'.used=s.used∧s'.n=s.n∧s'.queue=s.queue∧s'.ahead=s.ahead∧s'.back=s.back∧s'.qty=s.qty:=by
   intro k s hk
   rw[e]
   by_cases ek:n.toNat=k
   ·subst ek
    exact⟨_,sC hk,rfl,rfl,rfl,rfl,rfl,rfl⟩
   ·exact⟨s,by rw[dG ek];exact hk,rfl,rfl,rfl,rfl,rfl,rfl⟩
  have hl:(a.topF n t).slots.length=250:=by rw[e];simpa using h.len
  have hmu:(a.topF n t).slots.map (·.used)=a.slots.map (·.used):=by rw[e];exact tZ (g:=fun s:Slot=>s.used) (f:=fun s:Slot=>{s with top:=t}) (fun _=>rfl) _ _
  refine⟨⟨hl,by rw[e];exact h.ql,fun m l hm'=> ?_,fun m l hm'=> ?_,h.nd,fun k s hk hs=> ?_,by rw[hmu];rw[e];exact h.free⟩,fun m l hm' k hk=>by rw[hq];exact h.pos m l hm' k hk⟩
  ·rw[bV fun k _=>hq k]
   rw[e];exact h.q m l hm'
  ·refine zLr (fun k hk s hs=> ?_) (h.sg m l hm')
   obtain⟨s',q0,q1,q2,q3,q4,q5,q6⟩:=hm k s hs
   obtain⟨_,⟨_,_,h2⟩,h3⟩:=h.mem hm' hk
   rw[hs]at h3;cases h3
   exact⟨s',q0,q1,q2,q3,q4,q5,by rw[q6];exact h2.q1,by rw[q6];exact h2.q2⟩
  ·have hlt:=(yWn.1 hk).1
   rw[hl,← h.len]at hlt
   obtain⟨s0,h0⟩:=yA hlt
   obtain⟨s',q0,q1,_⟩:=hm k s0 h0
   rw[hk]at q0;cases q0
   exact h.us k s0 h0 (by rw[← q1];exact hs)
 ·have e:a.topF n t=a:=by rw[Arena.topF,yWl hu]
  rw[e];exact h
theorem zLw {sl:List Slot} {k:Nat} {s x:Slot} (hk:sl[k]? =some s):((sl.set k x).map (·.used)).countP (!·)+(if s.used=true then 0 else 1)=(sl.map (·.used)).countP (!·)+(if x.used=true then 0 else 1):=by
 have hlt:=(yWn.1 hk).1
 have e:(sl.map (·.used))[k]'(by simpa using hlt)=s.used:=by
  rw[List.getElem_map,(yWn.1 hk).2]
 rw[List.map_set,List.countP_set (by simpa using hlt),e]
 have hp:s.used=false→1≤(sl.map (·.used)).countP (!·):=by
  intro h
  apply List.countP_pos_iff.2
  exact⟨s.used,yXh (yWv hk),by rw[h];rfl⟩
 generalize (sl.map (·.used)).countP (!·)=c at hp ⊢
 cases h1:s.used<;>cases h2:x.used
 all_goals
  simp only[h1,y1q,Bool.not_true,yXe,↓reduceIte,if_true,if_false]at hp ⊢
  try have hp:=hp trivial
  omega
theorem z2b {sl:List Slot}:(sl.map (·.used)).countP (!·)≤sl.length:=by
 have:=List.countP_le_length (p:=fun b:Bool=> !b) (l:=sl.map (·.used))
 simpa using this
theorem Arena.Wf0.unused {a:Arena} {Q:List (List Nat)} (h:a.Wf0 Q) (hf:a.free≠0):∃k:Nat,kK a.slots=k∧k<250∧a.slots[k]? =some (a.slotAt k)∧(a.slotAt k).used=false∧∀(n:Nat) (l:List Nat),Q[n]? =some l→k∉l:=by
 have hx:∃s∈a.slots,s.used=false:=by
  have hp:0<(a.slots.map (·.used)).countP (!·):=by have:=h.free;omega
  obtain⟨b,hb,hb2⟩:=List.countP_pos_iff.1 hp
  obtain⟨s,hs,rfl⟩:=yXl.1 hb
  exact⟨s,hs,by simpa using hb2⟩
 obtain⟨s,hs,hu⟩:=hx
 cases hi:a.slots.findIdx? fun s=> !s.used with
 |none=>
  rw[y1d]at hi
  have:=hi s hs
  rw[hu]at this;cases this
 |some k=>
  have hi':=hi
  rw[yZp]at hi
  obtain⟨hk,hku,_⟩:=hi
  have hk1:a.slots[k]? =some a.slots[k]:=yXw hk
  have e:=xP hk1
  rw[← e]at hku
  have hku:(a.slotAt k).used=false:=by simpa using hku
  refine⟨k,by rw[kK,hi'];rfl,by rw[← h.len];exact hk,by rw[e];exact hk1,hku,fun n l hl hkl=> ?_⟩
  obtain⟨_,⟨_,_,h2⟩,_⟩:=h.mem hl hkl
  have:=h2.used
  rw[hku]at this
  cases this
theorem Arena.Wf.put {a:Arena} {Q:List (List Nat)} (h:a.Wf Q) {n:Nat} {l:List Nat} (hl:Q[n]? =some l) (hf:a.free≠0) {id qty:Int} (top:Bool) (hq:1≤qty∧qty≤1000000):
 ∃k:Nat,kK a.slots=k∧k<250∧(a.slotAt k).used=false∧(∀(m:Nat) (l:List Nat),Q[m]? =some l→k∉l)∧(a.put n id qty top).Wf (Q.set n (l++[k]))∧
  (∀j,((a.put n id qty top).slotAt j).ent=if j=k then⟨k,id,qty,top⟩else(a.slotAt j).ent)∧(a.put n id qty top).free=a.free-1:=by
 obtain⟨k,hk,hk2,hk1,hku,hkn⟩:=h.toWf0.unused hf
 have hkl:=hkn n l hl
 have hnQ:=(yWn.1 hl).1
 have hqn:=h.q n l hl
 have hnq:a.queues.getD n bU=⟨vE l (-1),kM l (-1),a.qsum l,l.length⟩:=zK hqn
 have hsum:=h.toWf0.sum hl
 have hsh:=h.toWf0.short hl
 have hlen:=h.len
 have hcl:=z2b (sl:=a.slots)
 have hfree:=h.free
 obtain⟨x,hx⟩:∃x:Slot,x=⟨true,k,id,qty,top,n,kM l (-1),-1⟩:=⟨_,rfl⟩
 have hS:(a.put n id qty top).slots=if kM l (-1)= -1 then a.slots.set k x else(a.slots.set k x).modify (kM l (-1)).toNat fun s=>{s with back:=k}:=by
  simp only[Arena.put,yXc,hnq,hk,hx]
 have hQs:(a.put n id qty top).queues=a.queues.set n ⟨vE (l++[k]) (-1),k,a.qsum l+qty,(l.length:Int)+1⟩:=by
  simp only[Arena.put,yXc,hnq,hk]
  rw[w64 (by omega),w64 (by omega)]
  congr 2
  by_cases e:l=[]
  ·subst e;rfl
  ·rw[yWl (fun c=>e ((m4 l).1 c)),zEn]
   cases l with
   |nil=>exact absurd rfl e
   |cons y ys=>rfl
 have hF:(a.put n id qty top).free=a.free-1:=by
  simp only[Arena.put]
  rw[w64 (by omega)]
 have hset:(a.slots.set k x)[k]? =some x:=uY (by omega)
 have hlo:kM l (-1)= -1∨∃(y:List Nat) (j:Nat),l=y++[j]∧kM l (-1)=(j:Int):=by
  rcases wD l with e|⟨y,j,e,e2⟩
  ·exact .inl ((m4 l).2 e)
  ·exact .inr ⟨y,j,e,e2 _⟩
 have hoth:∀j,j≠k→(kM l (-1)≠(j:Int))→(a.put n id qty top).slots[j]? =a.slots[j]? :=by
  intro j hj hj2
  rw[hS]
  split
  ·exact vS (fun e=>hj e.symm)
  ·rcases hlo with e|⟨y,i,_,e⟩
   ·contradiction
   ·rw[dG (by omega),vS (fun e=>hj e.symm)]
 have hself:(a.put n id qty top).slots[k]? =some x:=by
  rw[hS]
  split
  ·exact hset
  ·rcases hlo with e|⟨y,i,e1,e⟩
   ·contradiction
   ·have:i≠k:=by rintro rfl;exact hkl (by rw[e1];simp)
    rw[dG (by omega)];exact hset
 have hlike:∀j,j≠k→((a.put n id qty top).slotAt j).ent=(a.slotAt j).ent∧((a.put n id qty top).slotAt j).used=(a.slotAt j).used∧((a.put n id qty top).slotAt j).qty=(a.slotAt j).qty:=by
  intro j hj
  by_cases c:kM l (-1)=(j:Int)
  ·have e:(a.put n id qty top).slots=(a.slots.set k x).modify j fun s=>{s with back:=k}:=by
    rw[hS,yWl (by omega),c];rfl
   by_cases hjl:j<a.slots.length
   ·obtain⟨s,hs⟩:=yA hjl
    have h1:(a.put n id qty top).slots[j]? =some {s with back:=k}:=by rw[e];exact sC (by rw[vS (fun e=>hj e.symm)];exact hs)
    rw[xP h1,xP hs];exact⟨rfl,rfl,rfl⟩
   ·have h1:(a.put n id qty top).slots[j]? =none:=yXm (by rw[e];simpa using hjl)
    have h2:a.slots[j]? =none:=yXm (by omega)
    rw[Arena.slotAt,Arena.slotAt,yWt,yWt,h1,h2]
    exact⟨rfl,rfl,rfl⟩
  ·have:=hoth j hj c
   rw[Arena.slotAt,Arena.slotAt,yWt,yWt,this]
   exact⟨rfl,rfl,rfl⟩
 have hselfA:(a.put n id qty top).slotAt k=x:=xP hself
 have hent:∀j,((a.put n id qty top).slotAt j).ent=if j=k then⟨k,id,qty,top⟩else(a.slotAt j).ent:=by
  intro j
  split
  ·rename_i e;rw[e,hselfA,hx];rfl
  ·rename_i e;exact(hlike j e).1
 have gQ:∀{m:Nat} {l':List Nat},(Q.set n (l++[k]))[m]? =some l'→(m=n∧l'=l++[k])∨(m≠n∧Q[m]? =some l'):=by
  intro m l' hm
  exact uH hm
 have hsgn:seg (a.put n id qty top).slots n (-1) (l++[k]) (-1):=by
  rw[eG]
  refine⟨?_,⟨x,hself,?_⟩,trivial⟩
  ·rcases wD l with e|⟨y,j,e,e2⟩
   ·subst e;trivial
   ·have h0:=h.sg n l hl
    have hnd:=h.nd n l hl
    rw[hS,yWl (by rw[e2];omega),e2,yXc]
    rw[e]at h0 hnd hkl ⊢
    have hd:=yYq.1 hnd
    refine zVp (k:Int) (fun hj=>hd.2.2 j hj j yWq rfl) (t:= -1) ?_
    exact wP (fun i hi=>vS (fun e=>hkl (e▸hi))) h0
  ·rw[hx]
   exact⟨rfl,rfl,rfl,rfl,rfl,by dsimp only;omega,hq.2⟩
 refine⟨k,hk,hk2,hku,hkn,⟨⟨?_,?_,?_,?_,?_,?_,?_⟩,?_⟩,hent,hF⟩
 ·rw[hS];split<;>simp[hlen]
 ·rw[hQs];simp[h.ql]
 ·intro m l' hm
  rcases gQ hm with⟨rfl,rfl⟩|⟨e,hm⟩
  ·rw[hQs,uY (by rw[h.ql];exact hnQ),bC]
   have:(a.put m id qty top).qsum (l++[k])=a.qsum l+qty:=by
    rw[Arena.qsum,yWw,List.sum_append]
    have e1:l.map (fun k=>((a.put m id qty top).slotAt k).qty)=l.map fun k=>(a.slotAt k).qty:=yXu fun j hj=>(hlike j (fun e=>hkl (e▸hj))).2.2
    rw[e1]
    simp only[yWu,y0g,yXj,List.sum_nil,hselfA]
    rw[hx,Arena.qsum];dsimp only;omega
   rw[this]
   simp[kM]
  ·rw[hQs,vS (fun c=>e c.symm),h.q m l' hm,bV]
   intro j hj
   exact(hlike j (fun e=>hkn m l' hm (e▸hj))).2.2.symm
 ·intro m l' hm
  rcases gQ hm with⟨rfl,rfl⟩|⟨e,hm⟩
  ·exact hsgn
  ·refine wP (fun j hj=>hoth j (fun e=>hkn m l' hm (e▸hj)) fun c=> ?_) (h.sg m l' hm)
   rcases hlo with e2|⟨y,i,e1,e2⟩
   ·omega
   ·have:i=j:=by omega
    exact e (h.toWf0.one hm hl hj (by rw[e1];simp[this]))
 ·intro m l' hm
  rcases gQ hm with⟨rfl,rfl⟩|⟨e,hm⟩
  ·refine yYq.2 ⟨h.nd m l hl,by simp,?_⟩
   rintro i hi j hj rfl
   rw[yXz.1 hj]at hi
   exact hkl hi
  ·exact h.nd m l' hm
 ·intro j s hj hs
  by_cases e:j=k
  ·exact⟨n,l++[k],uY hnQ,by rw[e];simp⟩
  ·have hu:(a.slotAt j).used=true:=by rw[← (hlike j e).2.1,xP hj];exact hs
   have hjl:j<a.slots.length:=by
    have:=(yWn.1 hj).1
    rw[hS]at this
    split at this<;>simpa using this
   obtain⟨s',hs'⟩:=yA hjl
   rw[xP hs']at hu
   obtain⟨m,l',hm,hjm⟩:=h.us j s' hs' hu
   by_cases em:m=n
   ·subst em
    rw[hl]at hm;cases hm
    exact⟨m,l++[k],uY hnQ,yYa _ hjm⟩
   ·exact⟨m,l',by rw[vS (fun c=>em c.symm)];exact hm,hjm⟩
 ·have hmu:(a.put n id qty top).slots.map (·.used)=(a.slots.set k x).map (·.used):=by
   rw[hS]
   split
   ·rfl
   ·exact tZ (g:=fun s:Slot=>s.used) (f:=fun s:Slot=>{s with back:=k}) (fun _=>rfl) _ _
  have:=zLw (x:=x) hk1
  rw[hku,yWl (by decide),show x.used=true by rw[hx],yWm rfl]at this
  rw[hmu,hF,hfree]
  omega
 ·intro m l' hm j hj
  rcases gQ hm with⟨rfl,rfl⟩|⟨e,hm⟩
  ·rcases yXo.1 hj with hj|hj
   ·rw[(hlike j (fun e=>hkl (e▸hj))).2.2];exact h.pos m l hl j hj
   ·rw[yXz.1 hj,hselfA,hx];exact hq.1
  ·rw[(hlike j (fun e=>hkn m l' hm (e▸hj))).2.2];exact h.pos m l' hm j hj
open Go Cv Go.Proofs
theorem zDb (a:Arena) (k:Nat) (q:Int) (j:Nat) (hk:k<a.slots.length):(a.less k q).slotAt j=if j=k then{a.slotAt j with qty:=(a.slotAt j).qty-q}else a.slotAt j:=by
 split
 ·rename_i e
  subst e
  obtain⟨s,hs⟩:=yA hk
  rw[xP hs,xP (a:=a.less j q) (sC hs)]
 ·rename_i e
  show(a.slots.modify k _).getD j slot0=a.slots.getD j slot0
  rw[yWt,dG (fun c=>e c.symm),yWt]
theorem Arena.Wf0.less {a:Arena} {Q:List (List Nat)} (h:a.Wf0 Q) {n k:Nat} {l:List Nat} (hl:Q[n]? =some l) (hk:k∈l) {q:Int} (hq:0≤q∧q≤(a.slotAt k).qty):(a.less k q).Wf0 Q:=by
 obtain⟨hk2,⟨p,t,hs⟩,hk1⟩:=h.mem hl hk
 have hkl:k<a.slots.length:=by rw[h.len];exact hk2
 have hqt:(a.slotAt k).queue.toNat=n:=by rw[hs.queue];exact yXc n
 have hm:∀(j:Nat) (s:Slot),a.slots[j]? =some s→∃s',(a.less k q).slots[j]? =some s'∧s'.used=s.used∧s'.n=s.n∧s'.queue=s.queue∧s'.ahead=s.ahead∧s'.back=s.back:=by
  intro j s hj
  by_cases e:k=j
  ·subst e
   exact⟨_,sC hj,rfl,rfl,rfl,rfl,rfl⟩
  ·exact⟨s,by rw[show(a.less k q).slots=a.slots.modify k _ from rfl,dG e];exact hj,rfl,rfl,rfl,rfl,rfl⟩
 have hsl:(a.less k q).slots.length=250:=by simpa[Arena.less]using h.len
 have hqs:(a.less k q).queues=a.queues.modify n fun x=>{x with total:=IntKind.i64.wrap (x.total-q)}:=by rw[Arena.less,hqt]
 have hmu:(a.less k q).slots.map (·.used)=a.slots.map (·.used):=tZ (g:=fun s:Slot=>s.used) (f:=fun s:Slot=>{s with qty:=s.qty-q}) (fun _=>rfl) _ _
 refine⟨hsl,by rw[hqs];simpa using h.ql,fun m l' hm'=> ?_,fun m l' hm'=> ?_,h.nd,fun j s hj hu=> ?_,by rw[hmu];exact h.free⟩
 ·by_cases e:n=m
  ·subst e
   rw[hl]at hm';cases hm'
   rw[hqs,sC (h.q n l hl)]
   have hsum:=h.sum hl
   have e2:(a.less k q).qsum l=a.qsum l-q:=by
    rw[Arena.qsum,Arena.qsum,z4r (k:=k) (f:=fun k=>(a.slotAt k).qty) (h.nd n l hl) hk]
    ·rw[zDb a k q k hkl,yWm rfl];dsimp only;omega
    ·intro j _ hj
     rw[zDb a k q j hkl,yWl hj]
   have h1:=hs.q2
   rw[e2]
   dsimp only
   rw[w64 (by omega)]
  ·rw[hqs,dG e,h.q m l' hm',bV]
   intro j hj
   have:j≠k:=fun c=>e (h.one hl hm' hk (c▸hj))
   rw[zDb a k q j hkl,yWl this]
 ·refine zLr (fun j hj s hs'=> ?_) (h.sg m l' hm')
  obtain⟨s',q0,q1,q2,q3,q4,q5⟩:=hm j s hs'
  refine⟨s',q0,q1,q2,q3,q4,q5,?_⟩
  have e:=xP q0
  rw[← e,zDb a k q j hkl]
  obtain⟨_,⟨_,_,h2⟩,h3⟩:=h.mem hm' hj
  have:=h2.q1
  have:=h2.q2
  split
  ·rename_i c
   subst c
   dsimp only
   omega
  ·omega
 ·have hlt:=(yWn.1 hj).1
  rw[hsl,← h.len]at hlt
  obtain⟨s0,h0⟩:=yA hlt
  obtain⟨s',q0,q1,_⟩:=hm j s0 h0
  rw[hj]at q0;cases q0
  exact h.us j s0 h0 (by rw[← q1];exact hu)
theorem Arena.Wf0.drop {a:Arena} {Q:List (List Nat)} (h:a.Wf0 Q) {n k:Nat} {l1 l2:List Nat} (hl:Q[n]? =some (l1++k::l2)) (h0:(a.slotAt k).qty=0):
 (a.dropF k).Wf0 (Q.set n (l1++l2))∧(∀j,j≠k→((a.dropF k).slotAt j).ent=(a.slotAt j).ent∧((a.dropF k).slotAt j).used=(a.slotAt j).used∧((a.dropF k).slotAt j).qty=(a.slotAt j).qty)∧(a.dropF k).slotAt k=slot0∧(a.dropF k).free=a.free+1:=by
 have hkm:k∈l1++k::l2:=by simp
 have hnQ:=(yWn.1 hl).1
 obtain⟨hk2,_,hk1⟩:=h.mem hl hkm
 have hlen:=h.len
 have hkl:k<a.slots.length:=by omega
 have hsg:=h.sg n _ hl
 have hnd:=h.nd n _ hl
 have hd:=yYq.1 hnd
 have hd2:=yYl.1 hd.2.1
 have k1:k∉l1:=fun hk=>hd.2.2 k hk k yWq rfl
 have k2:k∉l2:=hd2.1
 rw[eG]at hsg
 obtain⟨g1,⟨s,hs1,hs⟩,g2⟩:=hsg
 have es:=xP hs1
 have eqn:(a.queues.getD s.queue.toNat bU)=⟨vE (l1++k::l2) (-1),kM (l1++k::l2) (-1),a.qsum (l1++k::l2),(l1++k::l2).length⟩:=by
  rw[hs.queue,yXc];exact zK (h.q n _ hl)
 have hfree:=h.free
 have hcl:=z2b (sl:=a.slots)
 have hsh:=h.short hl
 obtain⟨sl1,hsl1⟩:∃sl1,sl1=if kM l1 (-1)= -1 then a.slots else a.slots.modify (kM l1 (-1)).toNat fun x=>{x with back:=vE l2 (-1)}:=⟨_,rfl⟩
 obtain⟨sl2,hsl2⟩:∃sl2,sl2=if vE l2 (-1)= -1 then sl1 else sl1.modify (vE l2 (-1)).toNat fun x=>{x with ahead:=kM l1 (-1)}:=⟨_,rfl⟩
 have hS:(a.dropF k).slots=sl2.set k slot0:=by
  simp only[Arena.dropF,es,hs.ahead,hs.back]
  rw[hsl2,hsl1]
 have hQs:(a.dropF k).queues=a.queues.set n ⟨vE (l1++l2) (-1),kM (l1++l2) (-1),a.qsum (l1++l2),(l1++l2).length⟩:=by
  simp only[Arena.dropF,es,eqn,hs.ahead,hs.back]
  rw[hs.queue,yXc]
  have el:(l1++k::l2).length=(l1++l2).length+1:=by simp;omega
  have eq:a.qsum (l1++k::l2)=a.qsum (l1++l2):=by
   rw[Arena.qsum,Arena.qsum,yWw,List.sum_append,yWw,List.sum_append,yWu,yXj,h0]
   omega
  rw[el]at hsh ⊢
  rw[w64 (by omega),eq]
  congr 2
  ·cases l1 with
   |nil=>simp[kM,zEn,vE]
   |cons y ys=>
    rw[yWl (by rw[m4];simp)]
    rfl
  ·rcases wD l2 with e|⟨x,j,e,e2⟩
   ·subst e;simp[vE,bC,kM]
   ·have:l2≠[]:=by rw[e];simp
    rw[yWl (fun c=>this ((zOl l2).1 c)),bC,bC,kM,e2,e2]
  ·simp
 have hF:(a.dropF k).free=a.free+1:=by
  simp only[Arena.dropF]
  rw[w64 (by omega)]
 have hc1:kM l1 (-1)= -1∨∃(y:List Nat) (j:Nat),l1=y++[j]∧kM l1 (-1)=(j:Int):=by
  rcases wD l1 with e|⟨y,j,e,e2⟩
  ·exact .inl ((m4 l1).2 e)
  ·exact .inr ⟨y,j,e,e2 _⟩
 have hc2:vE l2 (-1)= -1∨∃(y:List Nat) (j:Nat),l2=j::y∧vE l2 (-1)=(j:Int):=by
  cases l2 with
  |nil=>exact .inl rfl
  |cons j y=>exact .inr ⟨y,j,rfl,rfl⟩
 have hoth:∀j,j∉l1→j∉l2→j≠k→(a.dropF k).slots[j]? =a.slots[j]? :=by
  intro j h1 h2 h3
  rw[hS,vS (fun e=>h3 e.symm),hsl2]
  have e1:sl1[j]? =a.slots[j]? :=by
   rw[hsl1]
   split
   ·rfl
   ·rcases hc1 with e|⟨y,i,e,e2⟩
    ·contradiction
    ·rw[dG]
     rw[e2,yXc]
     rintro rfl
     exact h1 (by rw[e];simp)
  split
  ·exact e1
  ·rcases hc2 with e|⟨y,i,e,e2⟩
   ·contradiction
   ·rw[dG,e1]
    rw[e2,yXc]
    rintro rfl
    exact h2 (by rw[e];simp)
 have hlike:∀j,j≠k→((a.dropF k).slotAt j).ent=(a.slotAt j).ent∧((a.dropF k).slotAt j).used=(a.slotAt j).used∧((a.dropF k).slotAt j).qty=(a.slotAt j).qty:=by
  intro j hj
  have m1:∀(sl:List Slot) (i:Nat) (b:Int),((sl.modify i fun x=>{x with back:=b}).getD j slot0).ent=(sl.getD j slot0).ent∧((sl.modify i fun x=>{x with back:=b}).getD j slot0).used=(sl.getD j slot0).used∧((sl.modify i fun x=>{x with back:=b}).getD j slot0).qty=(sl.getD j slot0).qty:=by
   intro sl i b
   rw[yWt,yWt,List.getElem?_modify]
   cases sl[j]? with
   |none=>exact⟨rfl,rfl,rfl⟩
   |some s=>by_cases e:i=j<;>simp[e,Slot.ent]
  have m2:∀(sl:List Slot) (i:Nat) (b:Int),((sl.modify i fun x=>{x with ahead:=b}).getD j slot0).ent=(sl.getD j slot0).ent∧((sl.modify i fun x=>{x with ahead:=b}).getD j slot0).used=(sl.getD j slot0).used∧((sl.modify i fun x=>{x with ahead:=b}).getD j slot0).qty=(sl.getD j slot0).qty:=by
   intro sl i b
   rw[yWt,yWt,List.getElem?_modify]
   cases sl[j]? with
   |none=>exact⟨rfl,rfl,rfl⟩
   |some s=>by_cases e:i=j<;>simp[e,Slot.ent]
  have e0:(a.dropF k).slotAt j=sl2.getD j slot0:=by
   rw[Arena.slotAt,hS,yWt,vS (fun e=>hj e.symm),yWt]
  have e1:(sl1.getD j slot0).ent=(a.slotAt j).ent∧(sl1.getD j slot0).used=(a.slotAt j).used∧(sl1.getD j slot0).qty=(a.slotAt j).qty:=by
   rw[hsl1]
   split
   ·exact⟨rfl,rfl,rfl⟩
   ·exact m1 _ _ _
  have e2:(sl2.getD j slot0).ent=(sl1.getD j slot0).ent∧(sl2.getD j slot0).used=(sl1.getD j slot0).used∧(sl2.getD j slot0).qty=(sl1.getD j slot0).qty:=by
   rw[hsl2]
   split
   ·exact⟨rfl,rfl,rfl⟩
   ·exact m2 _ _ _
  rw[e0]
  exact⟨e2.1.trans e1.1,e2.2.1.trans e1.2.1,e2.2.2.trans e1.2.2⟩
 have hl1:sl1.length=250:=by rw[hsl1];split<;>simp[hlen]
 have hl2:sl2.length=250:=by rw[hsl2];split<;>simp[hl1]
 have hself:(a.dropF k).slots[k]? =some slot0:=by rw[hS];exact uY (by omega)
 have hsgn:seg (a.dropF k).slots n (-1) (l1++l2) (-1):=by
  rw[hS,eG]
  constructor
  ·--the part ahead
   refine wP (sl:=sl2) (fun j hj=>vS (fun e=>k1 (e▸hj))) ?_
   have f1:seg sl1 n (-1) l1 (vE l2 (-1)):=by
    rcases wD l1 with e|⟨y,j,e,e2⟩
    ·subst e;trivial
    ·rw[hsl1,yWl (by rw[e2];omega),e2,yXc]
     subst e
     have hd3:=yYq.1 hd.1
     exact zVp _ (fun hj=>hd3.2.2 j hj j yWq rfl) g1
   refine wP (fun j hj=> ?_) f1
   rw[hsl2]
   split
   ·rfl
   ·rcases hc2 with e|⟨y,i,e,e2⟩
    ·contradiction
    ·refine dG ?_
     rw[e2,yXc]
     rintro rfl
     exact hd.2.2 i hj i (yWr _ (by rw[e];simp)) rfl
  ·--the part behind
   refine wP (sl:=sl2) (fun j hj=>vS (fun e=>k2 (e▸hj))) ?_
   have f1:seg sl1 n k l2 (-1):=by
    refine wP (fun j hj=> ?_) g2
    rw[hsl1]
    split
    ·rfl
    ·rcases hc1 with e|⟨y,i,e,e2⟩
     ·contradiction
     ·refine dG ?_
      rw[e2,yXc]
      rintro rfl
      exact hd.2.2 i (by rw[e];simp) i (yWr _ hj) rfl
   rcases hc2 with e|⟨y,j,e,e2⟩
   ·rw[(zOl l2).1 e];trivial
   ·rw[hsl2,yWl (by rw[e2];omega),e2,yXc]
    rw[e]at f1 hd2 ⊢
    exact z5y _ (yYl.1 hd2.2).1 f1
 refine⟨⟨?_,?_,?_,?_,?_,?_,?_⟩,hlike,xP hself,hF⟩
 ·rw[hS,yXv];exact hl2
 ·rw[hQs];simp[h.ql]
 ·intro m l' hm
  rcases uH hm with⟨rfl,rfl⟩|⟨e,hm⟩
  ·rw[hQs,uY (by rw[h.ql];exact hnQ)]
   congr 2
   refine(bV fun j hj=>(hlike j fun e=> ?_).2.2).symm
   subst e
   rcases yXo.1 hj with hj|hj
   ·exact k1 hj
   ·exact k2 hj
  ·rw[hQs,vS (fun c=>e c.symm),h.q m l' hm]
   congr 2
   refine(bV fun j hj=>(hlike j fun e2=> ?_).2.2).symm
   subst e2
   exact e (h.one hm hl hj hkm)
 ·intro m l' hm
  rcases uH hm with⟨rfl,rfl⟩|⟨e,hm⟩
  ·exact hsgn
  ·refine wP (fun j hj=>hoth j ?_ ?_ ?_) (h.sg m l' hm)
   ·exact fun c=>e (h.one hm hl hj (yYa _ c))
   ·exact fun c=>e (h.one hm hl hj (yYd _ (yWr _ c)))
   ·rintro rfl;exact e (h.one hm hl hj hkm)
 ·intro m l' hm
  rcases uH hm with⟨rfl,rfl⟩|⟨e,hm⟩
  ·refine yYq.2 ⟨hd.1,hd2.2,fun i hi j hj=>hd.2.2 i hi j (yWr _ hj)⟩
  ·exact h.nd m l' hm
 ·intro j s' hj hu
  have hjk:j≠k:=by
   rintro rfl
   rw[hself]at hj;cases hj;cases hu
  have hu2:(a.slotAt j).used=true:=by rw[← (hlike j hjk).2.1,xP hj];exact hu
  have hjl:j<a.slots.length:=by
   have:=(yWn.1 hj).1
   rw[hS,yXv]at this
   omega
  obtain⟨s0,hs0⟩:=yA hjl
  rw[xP hs0]at hu2
  obtain⟨m,l',hm,hjm⟩:=h.us j s0 hs0 hu2
  by_cases em:m=n
  ·subst em
   rw[hl]at hm;cases hm
   refine⟨m,_,uY hnQ,?_⟩
   rcases yXo.1 hjm with hj|hj
   ·exact yYa _ hj
   ·rcases yXd.1 hj with e|hj
    ·exact absurd e hjk
    ·exact yYd _ hj
  ·exact⟨m,l',by rw[vS (fun c=>em c.symm)];exact hm,hjm⟩
 ·have hmu:(a.dropF k).slots.map (·.used)=(a.slots.set k slot0).map (·.used):=by
   have e1:sl2.map (·.used)=a.slots.map (·.used):=by
    have f2:sl2.map (·.used)=sl1.map (·.used):=by
     rw[hsl2]
     split
     ·rfl
     ·exact tZ (g:=fun s:Slot=>s.used) (f:=fun s:Slot=>{s with ahead:=kM l1 (-1)}) (fun _=>rfl) _ _
    have f1:sl1.map (·.used)=a.slots.map (·.used):=by
     rw[hsl1]
     split
     ·rfl
     ·exact tZ (g:=fun s:Slot=>s.used) (f:=fun s:Slot=>{s with back:=vE l2 (-1)}) (fun _=>rfl) _ _
    rw[f2,f1]
   rw[hS,List.map_set,e1,List.map_set]
  have:=zLw (x:=slot0) hs1
  rw[hs.used,yWm rfl,show slot0.used=false from rfl,yWl (by decide)]at this
  rw[hmu,hF,hfree]
  omega
theorem Arena.Wf.take {a:Arena} {Q:List (List Nat)} (h:a.Wf Q) {n k:Nat} {l:List Nat} (hl:Q[n]? =some l) (hk:k∈l) {q:Int} (hq:1≤q∧q≤(a.slotAt k).qty):
 (a.takeF k q).2=0∧(∀j,j≠k→((a.takeF k q).1.slotAt j).ent=(a.slotAt j).ent∧((a.takeF k q).1.slotAt j).used=(a.slotAt j).used)∧
   (if(a.slotAt k).qty=q then(a.takeF k q).1.Wf (Q.set n (l.erase k))∧(a.takeF k q).1.slotAt k=slot0∧(a.takeF k q).1.free=a.free+1
    else(a.takeF k q).1.Wf Q∧(a.takeF k q).1.slotAt k={a.slotAt k with qty:=(a.slotAt k).qty-q}∧(a.takeF k q).1.free=a.free):=by
 obtain⟨hk2,⟨p,t,hs⟩,hk1⟩:=h.toWf0.mem hl hk
 have hkl:k<a.slots.length:=by rw[h.len];exact hk2
 have hu:a.usedAt k=true:=by
  simp only[Arena.usedAt,yWz,yXy]
  refine⟨by omega,by omega,?_⟩
  rw[yXc]
  exact hs.used
 have hless:=h.toWf0.less hl hk (q:=q) (by omega)
 have hat:=zDb a k q
 rw[Arena.takeF,yWl (by rw[hu];decide),yXc,yWl (by omega)]
 by_cases e:(a.slotAt k).qty=q
 ·rw[yWm e,yWm e]
  obtain⟨l1,l2,rfl⟩:=List.append_of_mem hk
  have hnd:=h.nd n _ hl
  have hd:=yYq.1 hnd
  have k1:k∉l1:=fun hk=>hd.2.2 k hk k yWq rfl
  obtain⟨d1,d2,d3,d4⟩:=hless.drop hl (by rw[hat k hkl,yWm rfl];dsimp only;omega)
  have ee:(l1++k::l2).erase k=l1++l2:=by rw[List.erase_append_right _ k1,List.erase_cons_head]
  refine⟨rfl,fun j hj=> ?_,?_,d3,d4⟩
  ·have:=d2 j hj
   rw[hat j hkl,yWl hj]at this
   exact⟨this.1,this.2.1⟩
  ·rw[ee]
   refine⟨d1,fun m l' hm j hj=> ?_⟩
   have hj2:j≠k∧∃l'',Q[m]? =some l''∧j∈l'':=by
    have hd2:=yYl.1 hd.2.1
    rcases uH hm with⟨rfl,rfl⟩|⟨e3,hm⟩
    ·refine⟨?_,_,hl,?_⟩
     ·rintro rfl
      rcases yXo.1 hj with hj|hj
      ·exact k1 hj
      ·exact hd2.1 hj
     ·rcases yXo.1 hj with hj|hj
      ·exact yYa _ hj
      ·exact yYd _ (yWr _ hj)
    ·refine⟨?_,_,hm,hj⟩
     rintro rfl
     exact e3 (h.toWf0.one hm hl hj hk)
   obtain⟨hj3,l'',hm2,hj4⟩:=hj2
   have:=(d2 j hj3).2.2
   rw[hat j hkl,yWl hj3]at this
   dsimp only
   rw[this]
   exact h.pos m l'' hm2 j hj4
 ·rw[yWl e,yWl e]
  refine⟨rfl,fun j hj=> ?_,⟨hless,fun m l' hm j hj=> ?_⟩,?_,rfl⟩
  ·dsimp only
   rw[hat j hkl,yWl hj];exact⟨rfl,rfl⟩
  ·dsimp only
   rw[hat j hkl]
   split
   ·rename_i c
    subst c
    dsimp only
    omega
   ·exact h.pos m l' hm j hj
  ·dsimp only
   rw[hat k hkl,yWm rfl]
open Go Cv Go.Proofs
theorem xF {α β:Type} {f g:α→List β}:∀{l:List α},(∀x∈l,f x=g x)→l.flatMap f=l.flatMap g
 |[],_=>rfl
 |x::l,h=>by rw[yYc,yYc,h x yWq,xF fun y hy=>h y (yWr _ hy)]
theorem sL {α β γ:Type} {f:α→List β} {g:β→γ}:∀(l:List α),(l.flatMap f).map g=l.flatMap fun x=>(f x).map g
 |[]=>rfl
 |x::l=>by rw[yYc,yYc,yWw,sL l]
theorem z0t {α β:Type} {f:α→List β}:∀{l:List α},(∀x∈l,f x≠[])→l.length≤(l.flatMap f).length
 |[],_=>yXn 0
 |x::l,h=>by
  have:=z0t (l:=l) fun y hy=>h y (yWr _ hy)
  have:=List.length_pos_iff.2 (h x yWq)
  rw[yYc,yWs,yXa];omega
theorem zFs {α:Type} [DecidableEq α]:∀{l m:List α},l.Nodup→(∀x∈l,x∈m)→l.length≤m.length
 |[],_,_,_=>yYe _
 |x::l,m,h,hs=>by
  have hd:=yYl.1 h
  have hx:=hs x yWq
  have:=zFs (l:=l) (m:=m.erase x) hd.2 fun y hy=>by
   have hne:y≠x:=by rintro rfl;exact hd.1 hy
   exact(List.mem_erase_of_ne hne).2 (hs y (yWr _ hy))
  rw[List.length_erase_of_mem hx]at this
  have:=List.length_pos_of_mem hx
  rw[yXa];omega
theorem z8j {l:List Int} (h:l.Nodup) (hr:∀x∈l,0≤x∧x<l.length) {n:Nat} (hn:n<l.length):(n:Int)∈l:=by
 apply Classical.byContradiction
 intro hx
 have hnd:((n:Int)::l).Nodup:=yYl.2 ⟨hx,h⟩
 have:=zFs (m:=(List.range l.length).map fun k:Nat=>(k:Int)) hnd fun y hy=>by
  rw[yXl]
  rcases yXd.1 hy with rfl|hy
  ·exact⟨n,yZg.2 hn,rfl⟩
  ·have:=hr y hy
   exact⟨y.toNat,yZg.2 (by omega),by omega⟩
 simp at this
 omega
theorem zBq {α β:Type} {l:List (α×β)} (h:(l.map (·.1)).Nodup) {k:α} {x y:β} (hx:(k,x)∈l) (hy:(k,y)∈l):x=y:=by
 induction l with
 |nil=>cases hx
 |cons p l ih=>
  rw[yWu,yYl]at h
  rcases yXd.1 hx with ex|hx<;>rcases yXd.1 hy with ey|hy
  ·rw[← ex]at ey;exact(Prod.mk.inj ey).2.symm
  ·exact absurd (yXh (f:=(·.1)) hy) (by rw[← ex]at h;exact h.1)
  ·exact absurd (yXh (f:=(·.1)) hx) (by rw[← ey]at h;exact h.1)
  ·exact ih h.2 hx hy
theorem sZ:∀{l:List (Int×Place)} {k:Int} {x:Place},pget l k=some x→(k,x)∈l
 |[],k,x,h=>by cases h
 |p::l,k,x,h=>by
  rw[pget,y2k]at h
  by_cases e:p.1=k
  ·rw[yXf e]at h
   simp only[yYo,Option.some.injEq]at h
   subst h;subst e
   exact yWq
  ·rw[yWy e]at h
   exact yWr _ (sZ h)
theorem zFo {l:List (Int×Place)} {k:Int} (h:pget l k=none):k∉l.map (·.1):=by
 intro hk
 obtain⟨⟨k',x⟩,hx,rfl⟩:=yXl.1 hk
 rw[pget,Option.map_eq_none_iff,List.find?_eq_none]at h
 have:=h _ hx
 simp at this
theorem zWw:∀{l:List (Int×Place)} {k:Int} {x:Place},k∉l.map (·.1)→nT k x l=l++[(k,x)]
 |[],k,x,_=>rfl
 |p::l,k,x,h=>by
  rw[yWu,yXd,not_or]at h
  rw[nT,yWl h.1,zWw h.2];rfl
def xE (Q:List (List Nat)) (r:xM):List Nat:=Q.getD r.queue.toNat []
def yFa (s p:Int) (e:Ent):zD:=⟨e.id,s,p,e.qty,e.top⟩
def wN (a:Arena) (s p:Int) (k:Nat):zD:=yFa s p (a.slotAt k).ent
def Book.rOrds (b:Book) (Q:List (List Nat)) (s:Int) (r:xM):List zD:=(xE Q r).map (wN b.a s r.price)
def Book.sideL (b:Book) (Q:List (List Nat)) (s:Int):List zD:=(b.rungs s).flatMap (b.rOrds Q s)
def Book.flat (b:Book) (Q:List (List Nat)):List zD:=b.sideL Q 1++b.sideL Q 2
def vH (a:Arena) (s p:Int) (k:Nat):Int×Place:=((a.slotAt k).id,⟨s,p,k⟩)
def Book.plcs (b:Book) (Q:List (List Nat)) (s:Int):List (Int×Place):=(b.rungs s).flatMap fun r=>(xE Q r).map (vH b.a s r.price)
def Book.qs (b:Book):List Int:=b.buys.map (·.queue)++b.sells.map (·.queue)++b.spare
structure Book.Core (b:Book) (Q:List (List Nat)) (hole:Int):Prop where
 wf:b.a.Wf Q
 srt:∀s,s=1∨s=2→(b.rungs s).Pairwise fun r r'=>btr s r.price r'.price=true
 rng:∀q∈b.qs,0≤q∧q<Q.length
 nd:b.qs.Nodup
 ql:b.qs.length=Q.length
 ne:∀s,s=1∨s=2→∀r∈b.rungs s,r.queue≠hole→xE Q r≠[]
 sp:∀q∈b.spare,Q.getD q.toNat []=[]
 at_:b.at_.Perm (b.plcs Q 1++b.plcs Q 2)
 ids:((b.flat Q).map (·.id)).Nodup
 qb:Q.length≤250
structure Book.Tops (b:Book) (L:List zD):Prop where
 fl:∀o∈L,o.top=(b.hasF o.side && decide (o.id=b.topI o.side))
 th:∀s,s=1∨s=2→b.hasF s=true→∃o∈L,o.side=s∧o.id=b.topI s
structure Book.Rep (b:Book) (L:List zD):Prop where
 ex:∃Q,b.Core Q (-1)∧b.Tops L∧L=b.flat Q
theorem bM (b:Book) (Q:List (List Nat)) (s:Int):(b.plcs Q s).map (·.1)=(b.sideL Q s).map (·.id):=by
 rw[Book.plcs,Book.sideL,sL,sL]
 refine xF fun r _=> ?_
 rw[Book.rOrds,yYx,yYx]
 rfl
theorem Book.Core.keysP {b:Book} {Q:List (List Nat)} {h:Int} (c:b.Core Q h):(b.at_.map (·.1)).Perm ((b.flat Q).map (·.id)):=by
 have:=c.at_.map (·.1)
 rw[yWw,bM,bM,← yWw]at this
 exact this
theorem Book.Core.keys {b:Book} {Q:List (List Nat)} {h:Int} (c:b.Core Q h):(b.at_.map (·.1)).Nodup:=c.keysP.nodup_iff.2 c.ids
theorem Book.Core.len {b:Book} {Q:List (List Nat)} {h:Int} (c:b.Core Q h):b.at_.length=(b.flat Q).length:=by
 have:=c.keysP.length_eq
 simpa using this
theorem Book.Core.plc {b:Book} {Q:List (List Nat)} {h:Int} (c:b.Core Q h) {s:Int} (hs:s=1∨s=2) {r:xM} (hr:r∈b.rungs s) {k:Nat} (hk:k∈xE Q r):((b.a.slotAt k).id,(⟨s,r.price,k⟩:Place))∈b.at_:=by
 refine c.at_.mem_iff.2 ?_
 have hp:vH b.a s r.price k∈b.plcs Q s:=yYt.2 ⟨r,hr,yXh hk⟩
 rcases hs with rfl|rfl
 ·exact yYa _ hp
 ·exact yYd _ hp
theorem Book.Core.plcI {b:Book} {Q:List (List Nat)} {h:Int} (c:b.Core Q h) {id:Int} {x:Place} (hx:(id,x)∈b.at_):∃(k:Nat) (r:xM),(x.side=1∨x.side=2)∧r∈b.rungs x.side∧k∈xE Q r∧x=⟨x.side,r.price,k⟩∧(b.a.slotAt k).id=id:=by
 have:=c.at_.mem_iff.1 hx
 rcases yXo.1 this with hp|hp
 all_goals
  obtain⟨r,hr,hp⟩:=yYt.1 hp
  obtain⟨k,hk,e⟩:=yXl.1 hp
  simp only[vH,Prod.mk.injEq]at e
  obtain⟨e1,rfl⟩:=e
  exact⟨k,r,by simp,hr,hk,rfl,e1⟩
theorem zXe {Q:List (List Nat)} {r:xM} (h:0≤r.queue∧r.queue<Q.length):Q[r.queue.toNat]? =some (xE Q r):=by
 obtain⟨l,hl⟩:=yA (l:=Q) (i:=r.queue.toNat) (by omega)
 rw[xE,zK hl,hl]
theorem uW {b:Book} {s:Int} (hs:s=1∨s=2) {r:xM} (hr:r∈b.rungs s):r.queue∈b.qs:=by
 rcases hs with rfl|rfl
 ·exact yYa _ (yYa _ (yXh (f:=(·.queue)) hr))
 ·exact yYa _ (yYd _ (yXh (f:=(·.queue)) hr))
theorem Book.Core.get {b:Book} {Q:List (List Nat)} {h:Int} (c:b.Core Q h) {s:Int} (hs:s=1∨s=2) {r:xM} (hr:r∈b.rungs s):Q[r.queue.toNat]? =some (xE Q r):=zXe (c.rng _ (uW hs hr))
def clr (L:List zD) (s:Int):List zD:=L.map fun o=>if o.side=s then{o with top:=false}else o
theorem nG (s x:Int):btr s x x=false:=by
 rw[btr];split<;>exact yWy (by omega)
theorem Book.Core.flag {b:Book} {Q:List (List Nat)} {h:Int} (c:b.Core Q h) {a':Arena} (hw:a'.Wf Q) (hi:∀k,(a'.slotAt k).id=(b.a.slotAt k).id):({b with a:=a'}:Book).Core Q h:=by
 have e1:∀s,({b with a:=a'}:Book).plcs Q s=b.plcs Q s:=by
  intro s
  refine xF fun r _=>yXu fun k _=> ?_
  simp only[vH,hi]
 have e2:((({b with a:=a'}:Book).flat Q).map (·.id))=(b.flat Q).map (·.id):=by
  rw[Book.flat,Book.flat,yWw,yWw,← bM,← bM,← bM,← bM,e1,e1]
 exact⟨hw,c.srt,c.rng,c.nd,c.ql,c.ne,c.sp,by rw[e1,e1];exact c.at_,by rw[e2];exact c.ids,c.qb⟩
theorem yGr (a:Arena) (n:Int) (t:Bool) (k:Nat):((a.topF n t).slotAt k).id=(a.slotAt k).id:=by
 rw[zQy];split<;>rfl
theorem Book.Core.untop {b:Book} {Q:List (List Nat)} {h:Int} (c:b.Core Q h) (s:Int):(b.untop s).Wf Q∧∀k,((b.untop s).slotAt k).id=(b.a.slotAt k).id:=by
 rw[Book.untop]
 repeat' split
 all_goals first|exact⟨c.wf,fun _=>rfl⟩|exact⟨c.wf.top _ _,fun k=>yGr _ _ _ k⟩
theorem Book.Core.untop_flat {b:Book} {Q:List (List Nat)} {h:Int} (c:b.Core Q h) (ht:b.Tops (b.flat Q)) {s:Int} (hs:s=1∨s=2):({b with a:=b.untop s}:Book).flat Q=clr (b.flat Q) s:=by
 have hfl:∀{s':Int} (hs':s'=1∨s'=2) {r:xM} (hr:r∈b.rungs s') {k:Nat} (hk:k∈xE Q r),(b.a.slotAt k).top=(b.hasF s' && decide ((b.a.slotAt k).id=b.topI s')):=by
  intro s' hs' r hr k hk
  have hm:wN b.a s' r.price k∈b.flat Q:=by
   have:wN b.a s' r.price k∈b.sideL Q s':=yYt.2 ⟨r,hr,yXh hk⟩
   rcases hs' with rfl|rfl
   ·exact yYa _ this
   ·exact yYd _ this
  exact ht.fl _ hm
 have key:∀{s':Int} (hs':s'=1∨s'=2) {r:xM} (hr:r∈b.rungs s') {k:Nat} (hk:k∈xE Q r),((b.untop s).slotAt k).ent=if s'=s then{(b.a.slotAt k).ent with top:=false}else(b.a.slotAt k).ent:=by
  intro s' hs' r hr k hk
  have hplc:=c.plc hs' hr hk
  have htop:=hfl hs' hr hk
  have hno:(b.a.slotAt k).top=false→(b.a.slotAt k).ent=if s'=s then{(b.a.slotAt k).ent with top:=false}else(b.a.slotAt k).ent:=by
   intro e
   split
   ·rw[Slot.ent,e]
   ·rfl
  rw[Book.untop]
  by_cases hh:b.hasF s=true
  ·rw[yWm hh]
   cases hg:pget b.at_ (b.topI s)with
   |none=>
    dsimp only
    by_cases e:s'=s
    ·subst e
     refine hno ?_
     rw[htop,hh,yZd]
     refine yWy fun e2=> ?_
     rw[← e2]at hg
     exact zFo hg (yXh (f:=(·.1)) hplc)
    ·rw[yWl e]
   |some o=>
    dsimp only
    obtain⟨k',r',hs2,hr2,hk2,ho,hid⟩:=c.plcI (sZ hg)
    by_cases es:o.side=s
    ·rw[yWm es,zQy]
     have hos:o.slot=(k':Int):=by rw[ho]
     by_cases ek:k=k'
     ·subst ek
      have hu:b.a.usedAt o.slot=true:=by
       obtain⟨_,⟨_,_,h2⟩,h3⟩:=c.wf.toWf0.mem (c.get hs' hr) hk
       have hlt:=(yWn.1 h3).1
       simp only[Arena.usedAt,yWz,yXy,hos,yXc]
       exact⟨by omega,by omega,h2.used⟩
      rw[yWm ⟨hu,by rw[hos];rfl⟩]
      have:=c.plc hs2 hr2 hk2
      have e3:=zBq c.keys hplc this
      have e4:s'=s:=by
       have:=congrArg Place.side e3
       dsimp only at this
       rw[this,es]
      rw[yWm e4];rfl
     ·rw[yWl (fun e=>ek (by have:=e.2;rw[hos]at this;simpa using this))]
      by_cases e:s'=s
      ·subst e
       refine hno ?_
       rw[htop,hh,yZd]
       refine yWy fun e2=>ek ?_
       have hp2:=c.plc hs2 hr2 hk2
       rw[hid,← e2]at hp2
       have e3:=zBq c.keys hplc hp2
       have:=congrArg Place.slot e3
       dsimp only at this
       omega
      ·rw[yWl e]
    ·rw[yWl es]
     by_cases e:s'=s
     ·subst e
      refine hno ?_
      rw[htop,hh,yZd]
      refine yWy fun e2=>es ?_
      have hp2:=sZ hg
      rw[← e2]at hp2
      have e3:=zBq c.keys hplc hp2
      rw[← e3]
     ·rw[yWl e]
  ·rw[yWl hh]
   by_cases e:s'=s
   ·subst e
    refine hno ?_
    have:b.hasF s'=false:=by simpa using hh
    rw[htop,this,yZq]
   ·rw[yWl e]
 have side:∀s',s'=1∨s'=2→({b with a:=b.untop s}:Book).sideL Q s'=clr (b.sideL Q s') s:=by
  intro s' hs'
  rw[clr,Book.sideL,Book.sideL,sL]
  refine xF fun r hr=> ?_
  rw[Book.rOrds,Book.rOrds,yYx]
  refine yXu fun k hk=> ?_
  simp only[wN,Function.comp,key hs' hr hk,yFa]
  by_cases e:s'=s
  ·rw[yWm e];exact(yWm e).symm
  ·rw[yWl e];exact(yWl e).symm
 rw[Book.flat,side 1 (.inl rfl),side 2 (.inr rfl),Book.flat,clr,clr,clr,yWw]
open Go Cv Go.Proofs
def before (s p:Int) (o:zD):Bool:=decide (o.side<s)||(decide (o.side=s) && !btr s p o.price)
def uX (L:List zD) (s p:Int):Bool:=L.all fun o=> !decide (o.side=s)||btr s p o.price
def zEp (L:List zD) (s id p q:Int):List zD:=
 let L1:=if uX L s p=true then clr L s else L
 L1.takeWhile (before s p)++⟨id,s,p,q,uX L s p⟩::L1.dropWhile (before s p)
theorem yCu {α:Type} {f:α→Bool}:∀{A B:List α},(∀x∈A,f x=true)→(∀x∈B,f x=false)→(A++B).takeWhile f=A∧(A++B).dropWhile f=B
 |[],[],_,_=>⟨rfl,rfl⟩
 |[],b::B,_,h=>by
  have:=h b yWq
  simp[this]
 |a::A,B,h,h2=>by
  obtain⟨i1,i2⟩:=yCu (A:=A) (B:=B) (fun x hx=>h x (yWr _ hx)) h2
  have:=h a yWq
  rw[yXx,List.takeWhile_cons,List.dropWhile_cons,this]
  simp[i1,i2]
theorem qH {b:Book} {Q:List (List Nat)} {s:Int} {r:xM} {o:zD} (h:o∈b.rOrds Q s r):o.side=s∧o.price=r.price:=by
 obtain⟨k,_,rfl⟩:=yXl.1 h
 exact⟨rfl,rfl⟩
theorem bW {b:Book} {Q:List (List Nat)} {s:Int} {o:zD} (h:o∈b.sideL Q s):o.side=s∧∃r∈b.rungs s,o∈b.rOrds Q s r∧o.price=r.price:=by
 obtain⟨r,hr,ho⟩:=yYt.1 h
 exact⟨(qH ho).1,r,hr,ho,(qH ho).2⟩
structure Spl (s p:Int) (R1 R2:List xM):Prop where
 a:∀r∈R1,btr s r.price p=true
 b:∀r∈R2,btr s p r.price=true
theorem zUw {s x y:Int} (h:btr s x y=true):btr s y x=false:=by
 rw[btr]at h ⊢
 split at h
 ·rename_i e;rw[yWm e];have:=yZh h;exact yWy (by omega)
 ·rename_i e;rw[yWl e];have:=yZh h;exact yWy (by omega)
theorem zNp {s x y z:Int} (h:btr s x y=true) (h2:btr s y z=true):btr s x z=true:=by
 rw[btr]at h h2 ⊢
 split at h
 ·rename_i e;rw[yWm e]at h2 ⊢;have:=yZh h;have:=yZh h2;exact yXf (by omega)
 ·rename_i e;rw[yWl e]at h2 ⊢;have:=yZh h;have:=yZh h2;exact yXf (by omega)
theorem z8k {s x y:Int} (h:btr s x y=false) (hne:x≠y):btr s y x=true:=by
 rw[btr]at h ⊢
 split at h
 ·rename_i e;rw[yWm e];have:=y0a h;exact yXf (by omega)
 ·rename_i e;rw[yWl e];have:=y0a h;exact yXf (by omega)
theorem lY {s p:Int} {l:List xM} (hs:l.Pairwise fun r r'=>btr s r.price r'.price=true):
 (∀r∈l.take (zV s l p),btr s r.price p=true)∧
 (if kJ s l p=true then ∃r,l[zV s l p]? =some r∧r.price=p∧∀r'∈l.drop (zV s l p+1),btr s p r'.price=true
  else ∀r'∈l.drop (zV s l p),btr s p r'.price=true):=by
 have e1:l.take (zV s l p)=l.takeWhile fun r=>btr s r.price p:=by
  rw[zV]
  have h:=List.take_left (l₁:=l.takeWhile fun r=>btr s r.price p) (l₂:=l.dropWhile fun r=>btr s r.price p)
  rwa [y1g]at h
 have e2:l.drop (zV s l p)=l.dropWhile fun r=>btr s r.price p:=by
  have h:=yZc (zV s l p) l
  have h2:=y1g (p:=fun r:xM=>btr s r.price p) (l:=l)
  rw[e1]at h
  exact List.append_cancel_left (h.trans h2.symm)
 refine⟨fun r hr=> ?_,?_⟩
 ·rw[e1]at hr
  exact yZn.1 List.all_takeWhile r hr
 have hd:∀r,l[zV s l p]? =some r→btr s r.price p=false:=by
  intro r hr
  have h0:(l.drop (zV s l p))[0]? =some r:=by rw[yZk];exact hr
  rw[e2]at h0
  cases hdw:l.dropWhile fun r=>btr s r.price p with
  |nil=>rw[hdw]at h0;cases h0
  |cons x y=>
   rw[hdw]at h0
   cases h0
   have:=List.head?_dropWhile_not (fun r:xM=>btr s r.price p) l
   rw[hdw]at this
   simpa using this
 have hpw:∀r r',l[zV s l p]? =some r→r'∈l.drop (zV s l p+1)→btr s r.price r'.price=true:=by
  intro r r' hr hr'
  have hlt:=(yWn.1 hr).1
  have:=List.Pairwise.sublist (List.drop_sublist (zV s l p) l) hs
  rw[yZb hlt,y1a,(yWn.1 hr).2]at this
  exact this.1 r' hr'
 split
 ·rename_i hb
  rw[kJ]at hb
  cases hr:l[zV s l p]? with
  |none=>rw[hr]at hb;cases hb
  |some r=>
   rw[hr]at hb
   have hp:r.price=p:=yZh hb
   exact⟨r,rfl,hp,fun r' hr'=>by rw[← hp];exact hpw r r' hr hr'⟩
 ·rename_i hb
  intro r' hr'
  by_cases hlt:zV s l p<l.length
  ·obtain⟨r,hr⟩:=yA hlt
   rw[kJ,hr]at hb
   have hp:¬r.price=p:=fun e=>hb (yXf e)
   have h1:=z8k (hd r hr) hp
   rw[yZb hlt,(yWn.1 hr).2]at hr'
   rcases yXd.1 hr' with rfl|hr'
   ·exact h1
   ·exact zNp h1 (hpw r r' hr hr')
  ·rw[yZu (by omega)]at hr'
   cases hr'
def Book.setR (b:Book) (s:Int) (l:List xM):Book:=if s=1 then{b with buys:=l}else{b with sells:=l}
theorem z1j {b:Book} {s:Int} (hs:s=1∨s=2):∃rest,b.qs.Perm ((b.rungs s).map (·.queue)++rest)∧∀l,(b.setR s l).qs.Perm (l.map (·.queue)++rest):=by
 rcases hs with rfl|rfl
 ·refine⟨b.sells.map (·.queue)++b.spare,?_,fun l=> ?_⟩
  ·rw[Book.qs,yWx];exact .refl _
  ·show(l.map (·.queue)++b.sells.map (·.queue)++b.spare).Perm _
   rw[yWx]
 ·refine⟨b.buys.map (·.queue)++b.spare,?_,fun l=> ?_⟩
  ·rw[Book.qs]
   show(b.buys.map (·.queue)++b.sells.map (·.queue)++b.spare).Perm (b.sells.map (·.queue)++(b.buys.map (·.queue)++b.spare))
   rw[← yWx];exact yYn.append_right _
  ·show(b.buys.map (·.queue)++l.map (·.queue)++b.spare).Perm (l.map (·.queue)++(b.buys.map (·.queue)++b.spare))
   rw[← yWx];exact yYn.append_right _
structure Queued (b:Book) (Q:List (List Nat)) (s p:Int) (b':Book) (n:Int) (Q':List (List Nat)) (R1 R2:List xM):Prop where
 core:b'.Core Q' n
 rungs:b'.rungs s=R1++⟨p,n⟩::R2
 spl:Spl s p R1 R2
 flat:b'.flat Q'=b.flat Q
 at_:b'.at_=b.at_
 free:b'.a.free=b.a.free
 tops:∀L,b.Tops L→b'.Tops L
 qty:∀x,b'.hasF x=b.hasF x∧b'.topI x=b.topI x
theorem yBp {α:Type} {l:List α} {x d:α} {n:Nat}:(l++[x]).getD n d=if n=l.length then x else l.getD n d:=by
 rw[yWt,yWt,List.getElem?_append]
 split
 ·rw[yWl (by omega)]
 ·rename_i h
  by_cases e:n=l.length
  ·rw[yWm e,e,y2c];rfl
  ·rw[yWl e,yXm (show([x]:List α).length≤n-l.length by simp;omega),yXm (by omega)]
theorem Book.Core.add {b:Book} {Q:List (List Nat)} (c:b.Core Q (-1)) {s p n:Int} (hs:s=1∨s=2) {R1 R2:List xM} (hr:b.rungs s=R1++R2) (spl:Spl s p R1 R2) {b':Book} {Q':List (List Nat)}
 (hrs:b'.rungs s=R1++⟨p,n⟩::R2) (hro:∀s',s'≠s→s'=1∨s'=2→b'.rungs s'=b.rungs s') (hat:b'.at_=b.at_) (hw:b'.a.Wf Q') (hsl:b'.a.slots=b.a.slots)
 (hQ:∀k,Q'.getD k []=Q.getD k []) (hn:Q.getD n.toNat []=[]) (hrng:∀q∈b'.qs,0≤q∧q<Q'.length) (hnd:b'.qs.Nodup) (hql:b'.qs.length=Q'.length) (hsp:∀q∈b'.spare,Q.getD q.toNat []=[]) (hqb:Q'.length≤250):
 b'.Core Q' n∧b'.flat Q'=b.flat Q:=by
 have hslQ:∀r,xE Q' r=xE Q r:=fun r=>hQ _
 have hsa:∀k,b'.a.slotAt k=b.a.slotAt k:=fun k=>by rw[Arena.slotAt,Arena.slotAt,hsl]
 have hn':xE Q ⟨p,n⟩=[]:=hn
 have hro':∀s' r,b'.rOrds Q' s' r=b.rOrds Q s' r:=by
  intro s' r
  rw[Book.rOrds,Book.rOrds,hslQ]
  exact yXu fun k _=>by rw[wN,wN,hsa]
 have hpo:∀s' (r:xM),(xE Q' r).map (vH b'.a s' r.price)=(xE Q r).map (vH b.a s' r.price):=by
  intro s' r
  rw[hslQ]
  exact yXu fun k _=>by rw[vH,vH,hsa]
 have hside:∀s',s'=1∨s'=2→b'.sideL Q' s'=b.sideL Q s':=by
  intro s' hs'
  rw[Book.sideL,Book.sideL]
  by_cases e:s'=s
  ·subst e
   rw[hrs,hr,yYh,yYh,yYc,xF (fun r _=>hro' s' r),xF (l:=R2) (fun r _=>hro' s' r),hro',Book.rOrds,hn',y0g,yYu]
  ·rw[hro s' e hs'];exact xF fun r _=>hro' s' r
 have hplc:∀s',s'=1∨s'=2→b'.plcs Q' s'=b.plcs Q s':=by
  intro s' hs'
  rw[Book.plcs,Book.plcs]
  by_cases e:s'=s
  ·subst e
   rw[hrs,hr,yYh,yYh,yYc,xF (fun r _=>hpo s' r),xF (l:=R2) (fun r _=>hpo s' r),hpo,hn',y0g,yYu]
  ·rw[hro s' e hs'];exact xF fun r _=>hpo s' r
 have hflat:b'.flat Q'=b.flat Q:=by rw[Book.flat,Book.flat,hside 1 (.inl rfl),hside 2 (.inr rfl)]
 refine⟨⟨hw,fun s' hs'=> ?_,hrng,hnd,hql,fun s' hs' r hr' hne=> ?_,fun q hq=>by rw[hQ];exact hsp q hq,by rw[hat,hplc 1 (.inl rfl),hplc 2 (.inr rfl)];exact c.at_,by rw[hflat];exact c.ids,hqb⟩,hflat⟩
 ·by_cases e:s'=s
  ·subst e
   have h0:=c.srt s' hs'
   rw[hr,List.pairwise_append]at h0
   rw[hrs,List.pairwise_append,y1a]
   refine⟨h0.1,⟨spl.b,h0.2.1⟩,fun x hx y hy=> ?_⟩
   rcases yXd.1 hy with rfl|hy
   ·exact spl.a x hx
   ·exact h0.2.2 x hx y hy
  ·rw[hro s' e hs'];exact c.srt s' hs'
 ·rw[hslQ]
  have hold:∀r∈b.rungs s',xE Q r≠[]:=fun r hr=>c.ne s' hs' r hr fun e=>by
   have:=c.rng _ (uW hs' hr)
   omega
  by_cases e:s'=s
  ·subst e
   rw[hrs]at hr'
   rcases yXo.1 hr' with h|h
   ·exact hold r (by rw[hr];exact yYa _ h)
   ·rcases yXd.1 h with rfl|h
    ·exact absurd rfl hne
    ·exact hold r (by rw[hr];exact yYd _ h)
  ·rw[hro s' e hs']at hr';exact hold r hr'
theorem zMd (b:Book) {s:Int} (hs:s=1∨s=2) (l:List xM):(b.setR s l).rungs s=l∧∀s',s'≠s→s'=1∨s'=2→(b.setR s l).rungs s'=b.rungs s':=by
 rcases hs with rfl|rfl
 ·exact⟨rfl,fun s' h h2=>by rcases h2 with rfl|rfl;exact absurd rfl h;rfl⟩
 ·exact⟨rfl,fun s' h h2=>by rcases h2 with rfl|rfl;rfl;exact absurd rfl h⟩
theorem z7s (b:Book) {s p:Int} (hs:s=1∨s=2):b.queueF s p=if kJ s (b.rungs s) p=true then(b,((b.rungs s).getD (zV s (b.rungs s) p) ⟨0,0⟩).queue)else(({b with a:=b.newQ.2.2,spare:=b.newQ.2.1}:Book).setR s (b.ins s p),b.newQ.1):=by
 rcases hs with rfl|rfl<;>rfl
theorem Book.Core.queue {b:Book} {Q:List (List Nat)} (c:b.Core Q (-1)) (hl:(b.flat Q).length<250) {s:Int} (hs:s=1∨s=2) (p:Int):∃Q' R1 R2,Queued b Q s p (b.queueF s p).1 (b.queueF s p).2 Q' R1 R2:=by
 have hsp:=lY (p:=p) (c.srt s hs)
 rw[z7s b hs]
 by_cases hb:kJ s (b.rungs s) p=true
 ·rw[yWm hb]at hsp ⊢
  obtain⟨h1,r,hr,hp,h2⟩:=hsp
  have hlt:=(yWn.1 hr).1
  have er:(⟨p,r.queue⟩:xM)=r:=by rw[← hp]
  have hsplit:b.rungs s=(b.rungs s).take (zV s (b.rungs s) p)++r::(b.rungs s).drop (zV s (b.rungs s) p+1):=by
   conv=>lhs;rw[← yZc (zV s (b.rungs s) p) (b.rungs s)]
   rw[yZb hlt,(yWn.1 hr).2]
  refine⟨Q,_,_,⟨⟨c.wf,c.srt,c.rng,c.nd,c.ql,fun s' hs' r' hr' _=>c.ne s' hs' r' hr' fun e=> ?_,c.sp,c.at_,c.ids,c.qb⟩,?_,⟨h1,h2⟩,rfl,rfl,rfl,fun _ h=>h,fun _=>⟨rfl,rfl⟩⟩⟩
  ·have:=c.rng _ (uW hs' hr');omega
  ·dsimp only
   rw[zK hr,er];exact hsplit
 ·rw[yWl hb]at hsp ⊢
  obtain⟨h1,h2⟩:=hsp
  have hr:b.rungs s=(b.rungs s).take (zV s (b.rungs s) p)++(b.rungs s).drop (zV s (b.rungs s) p):=(yZc _ _).symm
  obtain⟨g1,g2⟩:=zMd ({b with a:=b.newQ.2.2,spare:=b.newQ.2.1}:Book) hs (b.ins s p)
  have tops:∀x,((({b with a:=b.newQ.2.2,spare:=b.newQ.2.1}:Book).setR s (b.ins s p)).hasF x=b.hasF x∧(({b with a:=b.newQ.2.2,spare:=b.newQ.2.1}:Book).setR s (b.ins s p)).topI x=b.topI x):=by
   intro x;rcases hs with rfl|rfl<;>exact⟨rfl,rfl⟩
  have hat:(({b with a:=b.newQ.2.2,spare:=b.newQ.2.1}:Book).setR s (b.ins s p)).at_=b.at_:=by rcases hs with rfl|rfl<;>rfl
  have ha:(({b with a:=b.newQ.2.2,spare:=b.newQ.2.1}:Book).setR s (b.ins s p)).a=b.newQ.2.2:=by rcases hs with rfl|rfl<;>rfl
  have hspr:(({b with a:=b.newQ.2.2,spare:=b.newQ.2.1}:Book).setR s (b.ins s p)).spare=b.newQ.2.1:=by rcases hs with rfl|rfl<;>rfl
  obtain⟨rest,q1,q2⟩:=z1j (b:=({b with a:=b.newQ.2.2,spare:=b.newQ.2.1}:Book)) hs
  have q2:=q2 (b.ins s p)
  have hqs:(({b with a:=b.newQ.2.2,spare:=b.newQ.2.1}:Book).setR s (b.ins s p)).qs.Perm (b.newQ.1::({b with a:=b.newQ.2.2,spare:=b.newQ.2.1}:Book).qs):=by
   refine q2.trans (.trans ?_ (q1.symm.cons _))
   rw[← yXx]
   refine List.Perm.append_right _ ?_
   show((b.ins s p).map (·.queue)).Perm (b.newQ.1::(b.rungs s).map (·.queue))
   conv=>rhs;rw[hr]
   rw[Book.ins,yWw,yWw,yWu]
   exact yXb
  generalize hB:(({b with a:=b.newQ.2.2,spare:=b.newQ.2.1}:Book).setR s (b.ins s p))=B at*
  have fin:∀Q',B.a.Wf Q'→B.a.slots=b.a.slots→B.a.free=b.a.free→(∀k,Q'.getD k []=Q.getD k [])→Q.getD b.newQ.1.toNat []=[]→(∀q∈B.qs,0≤q∧q<Q'.length)→B.qs.Nodup→B.qs.length=Q'.length→(∀q∈B.spare,Q.getD q.toNat []=[])→Q'.length≤250→∃Q' R1 R2,Queued b Q s p B b.newQ.1 Q' R1 R2:=by
   intro Q' w1 w2 w3 w4 w5 w6 w7 w8 w9 w10
   obtain⟨u1,u2⟩:=c.add hs hr ⟨h1,h2⟩ (b':=B) (Q':=Q') (n:=b.newQ.1) (by rw[g1];rfl) g2 hat w1 w2 w4 w5 w6 w7 w8 w9 w10
   refine⟨Q',_,_,⟨u1,g1.trans rfl,⟨h1,h2⟩,u2,hat,w3,fun L h=>⟨fun o ho=> ?_,fun s' hs' hh=> ?_⟩,tops⟩⟩
   ·rw[(tops o.side).1,(tops o.side).2];exact h.fl o ho
   ·rw[(tops s').1]at hh
    rw[(tops s').2];exact h.th s' hs' hh
  by_cases he:b.spare.length=0
  ·have hnq:b.newQ=((b.a.queues.length:Int),b.spare,b.a.openQ):=by rw[Book.newQ,yWm he]
   have hql:=c.wf.ql
   have hspe:b.spare=[]:=yXr he
   have hqs':B.qs.Perm ((Q.length:Int)::b.qs):=by
    rw[hnq]at hqs
    rw[← hql];exact hqs
   refine fin (Q++[[]]) (by rw[ha,hnq];exact c.wf.open) (by rw[ha,hnq];rfl) (by rw[ha,hnq];rfl) (fun k=> ?_) ?_ (fun q hq=> ?_) ?_ ?_ (fun q hq=> ?_) ?_
   ·rw[yBp]
    split
    ·rename_i e;rw[e,yWt,yXm (yXn _)];rfl
    ·rfl
   ·rw[hnq,yWt,yXm (by dsimp only;omega)];rfl
   ·rw[yWs]
    rcases yXd.1 (hqs'.mem_iff.1 hq)with rfl|hq
    ·simp only[y0f];omega
    ·have:=c.rng q hq;simp only[y0f];omega
   ·refine hqs'.nodup_iff.2 (yYl.2 ⟨fun hm=> ?_,c.nd⟩)
    have:=c.rng _ hm;omega
   ·rw[hqs'.length_eq,yXa,yWs,c.ql];rfl
   ·rw[hspr,hnq]at hq
    rw[hspe]at hq;cases hq
   ·have h1:=z0t (l:=b.rungs 1) (f:=b.rOrds Q 1) fun r hr e=>c.ne 1 (.inl rfl) r hr (fun e2=>by have:=c.rng _ (uW (.inl rfl) hr);omega) (List.map_eq_nil_iff.1 e)
    have h2:=z0t (l:=b.rungs 2) (f:=b.rOrds Q 2) fun r hr e=>c.ne 2 (.inr rfl) r hr (fun e2=>by have:=c.rng _ (uW (.inr rfl) hr);omega) (List.map_eq_nil_iff.1 e)
    have h3:=c.ql
    rw[Book.flat,yWs,Book.sideL,Book.sideL]at hl
    rw[Book.qs,yWs,yWs,yWo,yWo,he]at h3
    rw[nM]at h1 hl
    rw[nW]at h2 hl
    rw[yWs,y0f]
    omega
  ·have hnq:b.newQ=(b.spare.getD (b.spare.length-1) 0,b.spare.take (b.spare.length-1),b.a):=by rw[Book.newQ,yWl he]
   obtain⟨sp,q,hspq⟩:∃sp q,b.spare=sp++[q]:=⟨_,_,(List.dropLast_concat_getLast (l:=b.spare) (by intro e;rw[e]at he;exact he rfl)).symm⟩
   have e1:b.newQ=(q,sp,b.a):=by
    rw[hnq,hspq]
    simp
   have hqs':B.qs.Perm b.qs:=by
    refine hqs.trans ?_
    rw[e1]
    show(q::(b.buys.map (·.queue)++b.sells.map (·.queue)++sp)).Perm (b.buys.map (·.queue)++b.sells.map (·.queue)++b.spare)
    rw[hspq,← yWx]
    exact y0v q _|>.symm
   have hq0:q∈b.spare:=by rw[hspq];simp
   refine fin Q (by rw[ha,e1];exact c.wf) (by rw[ha,e1]) (by rw[ha,e1]) (fun _=>rfl) (by rw[e1];exact c.sp q hq0) (fun q hq=>c.rng q (hqs'.mem_iff.1 hq)) (hqs'.nodup_iff.2 c.nd) (by rw[hqs'.length_eq];exact c.ql) (fun q' hq'=> ?_) c.qb
   rw[hspr,e1]at hq'
   exact c.sp q' (by rw[hspq];exact yYa _ hq')
open Go Cv Go.Proofs
theorem Book.Core.used {b:Book} {Q:List (List Nat)} (c:b.Core Q (-1)) (hl:(b.flat Q).length<250):b.a.free≠0:=by
 intro hf
 have hcn:=c.wf.free
 rw[hf]at hcn
 have hz:(b.a.slots.map (·.used)).countP (!·)=0:=by omega
 rw[List.countP_eq_zero]at hz
 have hin:∀k∈List.range 250,k∈((b.rungs 1).flatMap (xE Q)++(b.rungs 2).flatMap (xE Q)):=by
  intro k hk
  have hk:=yZg.1 hk
  obtain⟨s,hs⟩:=yA (l:=b.a.slots) (i:=k) (by rw[c.wf.len];exact hk)
  have hu:s.used=true:=by
   have:=hz s.used (yXh (yWv hs))
   simpa using this
  obtain⟨n,l,hn,hkl⟩:=c.wf.us k s hs hu
  have hnQ:=(yWn.1 hn).1
  have hm:(n:Int)∈b.qs:=z8j c.nd (fun x hx=>by rw[c.ql];exact c.rng x hx) (by rw[c.ql];exact hnQ)
  have e:∀r:xM,r.queue=(n:Int)→k∈xE Q r:=by
   intro r hr
   rw[xE,hr,yXc,zK hn];exact hkl
  rw[Book.qs]at hm
  rcases yXo.1 hm with hm|hm
  ·rcases yXo.1 hm with hm|hm
   ·obtain⟨r,hr,er⟩:=yXl.1 hm
    exact yYa _ (yYt.2 ⟨r,hr,e r er⟩)
   ·obtain⟨r,hr,er⟩:=yXl.1 hm
    exact yYd _ (yYt.2 ⟨r,hr,e r er⟩)
  ·have:=c.sp _ hm
   rw[yXc,zK hn]at this
   rw[this]at hkl;cases hkl
 have h1:=zFs List.nodup_range hin
 have e:∀s,(b.sideL Q s).length=((b.rungs s).flatMap (xE Q)).length:=by
  intro s
  rw[Book.sideL,y1p,y1p]
  congr 1
  exact yXu fun r _=>by rw[Book.rOrds,yWo]
 rw[yWs,← e,← e,List.length_range]at h1
 rw[Book.flat,yWs]at hl
 omega
theorem zQz {s p:Int} {o:zD} (h:o.side≠s) (hlt:o.side=1∨o.side=2) (hs:s=1∨s=2):before s p o=decide (s=2):=by
 rw[before,yWy h,yZq,Bool.or_false]
 rcases hs with rfl|rfl
 ·rw[yWy (by omega),yWy (by omega)]
 ·rw[yXf (by omega),yXf rfl]
theorem Queued.put {b:Book} {Q:List (List Nat)} {s p:Int} {b':Book} {n:Int} {Q':List (List Nat)} {R1 R2:List xM} (h:Queued b Q s p b' n Q' R1 R2) (hs:s=1∨s=2) {id qty:Int} (top:Bool) (hid:id∉(b.flat Q).map (·.id)) (hf:b.a.free≠0) (hq:1≤qty∧qty≤1000000):
 ∃Q3 A B,({b' with a:=(b'.a.push n id qty top).1,at_:=nT id ⟨s,p,(b'.a.push n id qty top).2.1⟩ b'.at_}:Book).Core Q3 (-1)∧b'.flat Q'=A++B∧
  ({b' with a:=(b'.a.push n id qty top).1,at_:=nT id ⟨s,p,(b'.a.push n id qty top).2.1⟩ b'.at_}:Book).flat Q3=A++⟨id,s,p,qty,top⟩::B∧(∀o∈A,before s p o=true)∧∀o∈B,before s p o=false:=by
 have c:=h.core
 have hrm:(⟨p,n⟩:xM)∈b'.rungs s:=by rw[h.rungs];simp
 have hnr:0≤n∧n<Q'.length:=c.rng n (uW hs hrm)
 obtain⟨m,rfl⟩:∃m:Nat,n=m:=⟨n.toNat,by omega⟩
 have hl:Q'[m]? =some (xE Q' ⟨p,m⟩):=zXe (r:=⟨p,m⟩) hnr
 obtain⟨k,k1,k2,k3,k4,kw,kent,kfree⟩:=c.wf.put (id:=id) hl (by rw[h.free];exact hf) top hq
 have hpush:b'.a.push m id qty top=(b'.a.put m id qty top,(k:Int),0):=by
  have:=c.wf.ql
  rw[Arena.push,yWl (by omega),yWl (by omega),yWl (by rw[h.free];exact hf),k1]
 rw[hpush]
 dsimp only
 have hmQ:=(yWn.1 hl).1
 have hqd:∀s' (r:xM),(s'=1∨s'=2)→r∈b'.rungs s'→(r.queue=m→s'=s∧r=⟨p,m⟩):=by
  intro s' r hs' hr e
  obtain⟨rest,q1,_⟩:=z1j (b:=b') hs
  have hnd:=q1.nodup_iff.1 c.nd
  rw[h.rungs,yWw,yWu]at hnd
  by_cases es:s'=s
  ·subst es
   refine⟨rfl,?_⟩
   rw[h.rungs]at hr
   have hnd2:=(yYq.1 hnd).1
   rcases yXo.1 hr with hr|hr
   ·exact absurd e ((yYq.1 hnd2).2.2 r.queue (yXh (f:=(·.queue)) hr) m yWq)
   ·rcases yXd.1 hr with rfl|hr
    ·rfl
    ·have:=(yYl.1 (yYq.1 hnd2).2.1).1
     exact absurd (e▸yXh (f:=(·.queue)) hr) this
  ·exfalso
   have hcn:=c.nd
   rw[Book.qs]at hcn
   have hcn2:=(yYq.1 (yYq.1 hcn).1).2.2
   have ha:(m:Int)∈(b'.rungs s).map (·.queue):=yXl.2 ⟨_,hrm,rfl⟩
   have hb:(m:Int)∈(b'.rungs s').map (·.queue):=yXl.2 ⟨r,hr,e⟩
   rcases hs with rfl|rfl<;>rcases hs' with rfl|rfl
   ·exact es rfl
   ·exact hcn2 _ ha _ hb rfl
   ·exact hcn2 _ hb _ ha rfl
   ·exact es rfl
 have hsl1:xE (Q'.set m (xE Q' ⟨p,m⟩++[k])) ⟨p,m⟩=xE Q' ⟨p,m⟩++[k]:=by
  show(Q'.set m _).getD (Int.toNat (m:Int)) []=_
  rw[yXc];exact zK (uY hmQ)
 have hsl2:∀q:Int,0≤q→q≠m→(Q'.set m (xE Q' ⟨p,m⟩++[k])).getD q.toNat []=Q'.getD q.toNat []:=by
  intro q h0 hne
  rw[yWt,vS (by omega),yWt]
 generalize hQ3:Q'.set m (xE Q' ⟨p,m⟩++[k])=Q3 at*
 have hQl:Q3.length=Q'.length:=by rw[← hQ3,yXv]
 have hpid:=bM
 have hord:∀s' (r:xM),(s'=1∨s'=2)→r∈b'.rungs s'→∀j∈xE Q' r,j≠k∧(wN (b'.a.put m id qty top) s' r.price j=wN b'.a s' r.price j∧vH (b'.a.put m id qty top) s' r.price j=vH b'.a s' r.price j):=by
  intro s' r hs' hr j hj
  have hjk:j≠k:=by rintro rfl;exact k4 _ _ (c.get hs' hr) hj
  have:=kent j
  rw[yWl hjk]at this
  refine⟨hjk,by rw[wN,wN,this],?_⟩
  have:=congrArg Ent.id this
  rw[vH,vH]
  exact congrArg (fun i=>(i,(⟨s',r.price,j⟩:Place))) this
 have hr0:∀s' (r:xM),(s'=1∨s'=2)→r∈b'.rungs s'→r.queue≠m→xE Q3 r=xE Q' r:=by
  intro s' r hs' hr hne
  exact hsl2 _ (c.rng _ (uW hs' hr)).1 hne
 generalize hB:({b' with a:=b'.a.put m id qty top,at_:=nT id ⟨s,p,k⟩ b'.at_}:Book)=B3
 have hBr:∀s',B3.rungs s'=b'.rungs s':=by intro s';rw[← hB];rfl
 have hBa:B3.a=b'.a.put m id qty top:=by rw[← hB]
 have hBat:B3.at_=nT id ⟨s,p,k⟩ b'.at_:=by rw[← hB]
 have hBqs:B3.qs=b'.qs:=by rw[← hB];rfl
 have hBsp:B3.spare=b'.spare:=by rw[← hB]
 have hro:∀s' (r:xM),(s'=1∨s'=2)→r∈b'.rungs s'→r.queue≠m→B3.rOrds Q3 s' r=b'.rOrds Q' s' r∧(xE Q3 r).map (vH B3.a s' r.price)=(xE Q' r).map (vH b'.a s' r.price):=by
  intro s' r hs' hr hne
  rw[Book.rOrds,Book.rOrds,hr0 s' r hs' hr hne,hBa]
  exact⟨yXu fun j hj=>(hord s' r hs' hr j hj).2.1,yXu fun j hj=>(hord s' r hs' hr j hj).2.2⟩
 have hnew:wN B3.a s p k=⟨id,s,p,qty,top⟩∧vH B3.a s p k=(id,⟨s,p,k⟩):=by
  have:=kent k
  rw[yWm rfl]at this
  rw[wN,hBa,this]
  refine⟨rfl,?_⟩
  have:=congrArg Ent.id this
  rw[vH]
  exact congrArg (fun i=>(i,(⟨s,p,k⟩:Place))) this
 have hroN:B3.rOrds Q3 s ⟨p,m⟩=b'.rOrds Q' s ⟨p,m⟩++[⟨id,s,p,qty,top⟩]∧(xE Q3 ⟨p,m⟩).map (vH B3.a s p)=(xE Q' ⟨p,m⟩).map (vH b'.a s p)++[(id,⟨s,p,k⟩)]:=by
  rw[Book.rOrds,Book.rOrds,hsl1,yWw,yWw,List.map_singleton,List.map_singleton]
  refine⟨?_,?_⟩
  ·rw[hnew.1,yXu (g:=wN b'.a s p) fun j hj=>by rw[hBa];exact(hord s ⟨p,m⟩ hs hrm j hj).2.1]
  ·rw[hnew.2,yXu (g:=vH b'.a s p) fun j hj=>by rw[hBa];exact(hord s ⟨p,m⟩ hs hrm j hj).2.2]
 have hR1:∀r∈R1,r∈b'.rungs s∧r.queue≠m:=by
  intro r hr
  have hm:r∈b'.rungs s:=by rw[h.rungs];exact yYa _ hr
  refine⟨hm,fun e=> ?_⟩
  have e2:=(hqd s r hs hm e).2
  have:=h.spl.a r hr
  rw[e2,nG]at this;cases this
 have hR2:∀r∈R2,r∈b'.rungs s∧r.queue≠m:=by
  intro r hr
  have hm:r∈b'.rungs s:=by rw[h.rungs];exact yYd _ (yWr _ hr)
  refine⟨hm,fun e=> ?_⟩
  have e2:=(hqd s r hs hm e).2
  have:=h.spl.b r hr
  rw[e2,nG]at this;cases this
 have zB:B3.sideL Q3 s=(R1.flatMap (b'.rOrds Q' s)++b'.rOrds Q' s ⟨p,m⟩)++⟨id,s,p,qty,top⟩::R2.flatMap (b'.rOrds Q' s):=by
  rw[Book.sideL,hBr,h.rungs,yYh,yYc,hroN.1,xF (l:=R1) (fun r hr=>(hro s r hs (hR1 r hr).1 (hR1 r hr).2).1),xF (l:=R2) (fun r hr=>(hro s r hs (hR2 r hr).1 (hR2 r hr).2).1)]
  simp
 have sideO:b'.sideL Q' s=(R1.flatMap (b'.rOrds Q' s)++b'.rOrds Q' s ⟨p,m⟩)++R2.flatMap (b'.rOrds Q' s):=by
  rw[Book.sideL,h.rungs,yYh,yYc,yWx]
 have plcN:(B3.plcs Q3 s).Perm ((id,⟨s,p,k⟩)::b'.plcs Q' s):=by
  rw[Book.plcs,hBr,h.rungs,yYh,yYc,hroN.2,xF (l:=R1) (fun r hr=>(hro s r hs (hR1 r hr).1 (hR1 r hr).2).2),xF (l:=R2) (fun r hr=>(hro s r hs (hR2 r hr).1 (hR2 r hr).2).2),Book.plcs,h.rungs,yYh,yYc]
  rw[yWx,List.singleton_append,← yWx]
  refine yXb.trans ?_
  rw[yWx]
 have other:∀s',s'≠s→s'=1∨s'=2→B3.sideL Q3 s'=b'.sideL Q' s'∧B3.plcs Q3 s'=b'.plcs Q' s':=by
  intro s' hne hs'
  have hne':∀r∈b'.rungs s',r.queue≠m:=fun r hr e=>hne (hqd s' r hs' hr e).1
  rw[Book.sideL,Book.sideL,Book.plcs,Book.plcs,hBr]
  exact⟨xF fun r hr=>(hro s' r hs' hr (hne' r hr)).1,xF fun r hr=>(hro s' r hs' hr (hne' r hr)).2⟩
 have bA:∀o∈R1.flatMap (b'.rOrds Q' s)++b'.rOrds Q' s ⟨p,m⟩,before s p o=true:=by
  intro o ho
  rcases yXo.1 ho with ho|ho
  ·obtain⟨r,hr,ho⟩:=yYt.1 ho
   obtain⟨e1,e2⟩:=qH ho
   rw[before,e1,e2,zUw (h.spl.a r hr)];simp
  ·obtain⟨e1,e2⟩:=qH ho
   rw[before,e1,e2,nG];simp
 have bB:∀o∈R2.flatMap (b'.rOrds Q' s),before s p o=false:=by
  intro o ho
  obtain⟨r,hr,ho⟩:=yYt.1 ho
  obtain⟨e1,e2⟩:=qH ho
  rw[before,e1,e2,h.spl.b r hr];simp
 have bO:∀s',s'≠s→s'=1∨s'=2→∀o∈b'.sideL Q' s',before s p o=decide (s=2):=by
  intro s' hne hs' o ho
  have:=(bW ho).1
  exact zQz (by omega) (by omega) hs
 have flatE:∃A B,b'.flat Q'=A++B∧B3.flat Q3=A++⟨id,s,p,qty,top⟩::B∧(∀o∈A,before s p o=true)∧∀o∈B,before s p o=false:=by
  rcases hs with rfl|rfl
  ·refine⟨_,R2.flatMap (b'.rOrds Q' 1)++b'.sideL Q' 2,?_,?_,bA,fun o ho=> ?_⟩
   ·rw[Book.flat,sideO];simp only[yWx]
   ·rw[Book.flat,zB,(other 2 (by decide) (.inr rfl)).1];simp only[yWx,yXx]
   ·rcases yXo.1 ho with ho|ho
    ·exact bB o ho
    ·exact bO 2 (by decide) (.inr rfl) o ho
  ·refine⟨b'.sideL Q' 1++(R1.flatMap (b'.rOrds Q' 2)++b'.rOrds Q' 2 ⟨p,m⟩),R2.flatMap (b'.rOrds Q' 2),?_,?_,fun o ho=> ?_,bB⟩
   ·rw[Book.flat,sideO];simp only[yWx]
   ·rw[Book.flat,zB,(other 1 (by decide) (.inl rfl)).1];simp only[yWx]
   ·rcases yXo.1 ho with ho|ho
    ·exact bO 1 (by decide) (.inl rfl) o ho
    ·exact bA o ho
 obtain⟨A,B,f1,f2,f3,f4⟩:=flatE
 refine⟨Q3,A,B,⟨by rw[hBa];exact kw,fun s' hs'=>by rw[hBr];exact c.srt s' hs',by rw[hBqs,hQl];exact c.rng,by rw[hBqs];exact c.nd,by rw[hBqs,hQl];exact c.ql,fun s' hs' r hr _=> ?_,fun q hq=> ?_,?_,?_,by rw[hQl];exact c.qb⟩,f1,f2,f3,f4⟩
 ·rw[hBr]at hr
  by_cases e:r.queue=m
  ·obtain⟨rfl,rfl⟩:=hqd s' r hs' hr e
   rw[hsl1];simp
  ·rw[hr0 s' r hs' hr e];exact c.ne s' hs' r hr e
 ·rw[hBsp]at hq
  have hqq:q∈b'.qs:=yYd _ hq
  rw[hsl2 q (c.rng q hqq).1 fun e=> ?_]
  ·exact c.sp q hq
  ·have hcn:=c.nd
   rw[Book.qs]at hcn
   refine(yYq.1 hcn).2.2 m ?_ q hq e.symm
   rcases hs with rfl|rfl
   ·exact yYa _ (yXl.2 ⟨_,hrm,rfl⟩)
   ·exact yYd _ (yXl.2 ⟨_,hrm,rfl⟩)
 ·have hnk:id∉b'.at_.map (·.1):=by
   rw[c.keysP.mem_iff,h.flat];exact hid
  rw[hBat,zWw hnk]
  refine(y0v _ _).trans ?_
  rcases hs with rfl|rfl
  ·rw[(other 2 (by decide) (.inr rfl)).2]
   exact(c.at_.cons _).trans (plcN.symm.append_right _)
  ·rw[(other 1 (by decide) (.inl rfl)).2]
   refine(c.at_.cons _).trans ?_
   refine(yXb.symm).trans (plcN.symm.append_left _)
 ·rw[f2,yWw,yWu]
  have h1:=c.ids
  rw[f1,yWw]at h1
  have h2:id∉(A++B).map (·.id):=by rw[← f1,h.flat];exact hid
  refine yXb.nodup_iff.2 (yYl.2 ⟨by rw[yWw]at h2;exact h2,h1⟩)
open Go Cv Go.Proofs
def kA (L:List zD) (id:Int):Bool:=L.any fun o=>decide (o.id=id)
def rM (L:List zD) (s id p q:Int):List zD×Int:=if q<1∨1000000<q then(L,24)else if kA L id=true then(L,25)else if 250≤L.length then(L,13)else(zEp L s id p q,0)
theorem hasId_iff {L:List zD} {id:Int}:kA L id=true↔id∈L.map (·.id):=by
 rw[kA,List.any_eq_true,yXl]
 constructor
 ·rintro⟨o,ho,e⟩;exact⟨o,ho,yZh e⟩
 ·rintro⟨o,ho,e⟩;exact⟨o,ho,yXf e⟩
theorem mZ {b:Book} {Q:List (List Nat)} {o:zD} (h:o∈b.flat Q):(o.side=1∨o.side=2)∧∃r∈b.rungs o.side,o∈b.rOrds Q o.side r∧o.price=r.price:=by
 rcases yXo.1 h with h|h
 all_goals
  obtain⟨e,r,hr,ho,hp⟩:=bW h
  rw[e]
  exact⟨by simp,r,hr,ho,hp⟩
theorem flat_mem {b:Book} {Q:List (List Nat)} {s:Int} (hs:s=1∨s=2) {o:zD} (h:o∈b.sideL Q s):o∈b.flat Q:=by
 rcases hs with rfl|rfl
 ·exact yYa _ h
 ·exact yYd _ h
theorem Book.Core.leads {b:Book} {Q:List (List Nat)} (c:b.Core Q (-1)) {s:Int} (hs:s=1∨s=2) (p:Int):b.leads s p=uX (b.flat Q) s p:=by
 have hsrt:=c.srt s hs
 have hne:=c.ne s hs
 rw[Book.leads]
 cases hr:b.rungs s with
 |nil=>
  symm
  dsimp only
  rw[uX,yZn]
  intro o ho
  obtain⟨_,r,hr2,_⟩:=mZ ho
  by_cases e:o.side=s
  ·rw[e,hr]at hr2;cases hr2
  ·rw[yWy e];rfl
 |cons r0 l=>
  dsimp only
  rw[hr,y1a]at hsrt
  have hm:r0∈b.rungs s:=by rw[hr];exact yWq
  cases hb:btr s p r0.price with
  |true=>
   symm
   rw[uX,yZn]
   intro o ho
   obtain⟨_,r,hr2,_,hp⟩:=mZ ho
   by_cases e:o.side=s
   ·rw[e,hr]at hr2
    rw[hp]
    rcases yXd.1 hr2 with rfl|hr2
    ·rw[hb];simp
    ·rw[zNp hb (hsrt.1 r hr2)];simp
   ·rw[yWy e];rfl
  |false=>
   symm
   rw[uX,List.all_eq_false]
   have h0:=hne r0 hm fun e=>by have:=c.rng _ (uW hs hm);omega
   cases hk:xE Q r0 with
   |nil=>exact absurd hk h0
   |cons k ks=>
    refine⟨wN b.a s r0.price k,flat_mem hs (yYt.2 ⟨r0,hm,by rw[Book.rOrds,hk];exact yWq⟩),?_⟩
    show ¬((!decide (s=s))||btr s p r0.price)=true
    rw[hb];simp
theorem z3i {L:List zD} {s:Int} {o:zD} (h:o∈clr L s):∃o'∈L,o.id=o'.id∧o.side=o'.side∧o.price=o'.price∧o.qty=o'.qty∧o.top=(if o.side=s then false else o'.top):=by
 obtain⟨o',ho,e⟩:=yXl.1 h
 refine⟨o',ho,?_⟩
 by_cases c:o'.side=s
 ·rw[yWm c]at e
  subst e
  exact⟨rfl,rfl,rfl,rfl,(yWm c).symm⟩
 ·rw[yWl c]at e
  subst e
  exact⟨rfl,rfl,rfl,rfl,(yWl c).symm⟩
theorem yGt {L:List zD} {s:Int} {o:zD} (h:o∈L) (hs:o.side≠s):o∈clr L s:=yXl.2 ⟨o,h,yWl hs⟩
theorem z4k (L:List zD) (s:Int):(clr L s).map (·.id)=L.map (·.id):=by
 rw[clr,yYx]
 refine yXu fun o _=> ?_
 simp only[Function.comp]
 split<;>rfl
theorem zTf (b:Book) (id:Int) {s:Int} (hs:s=1∨s=2):(b.leadF id s).a=b.untop s∧(b.leadF id s).buys=b.buys∧(b.leadF id s).sells=b.sells∧(b.leadF id s).at_=b.at_∧(b.leadF id s).spare=b.spare∧∀s',s'=1∨s'=2→(b.leadF id s).hasF s'=(if s'=s then true else b.hasF s')∧(b.leadF id s).topI s'=(if s'=s then id else b.topI s'):=by
 rcases hs with rfl|rfl
 ·exact⟨rfl,rfl,rfl,rfl,rfl,fun s' h=>by rcases h with rfl|rfl<;>exact⟨rfl,rfl⟩⟩
 ·exact⟨rfl,rfl,rfl,rfl,rfl,fun s' h=>by rcases h with rfl|rfl<;>exact⟨rfl,rfl⟩⟩
theorem Book.Core.like {b b':Book} {Q:List (List Nat)} {h:Int} (c:b.Core Q h) (e1:b'.a=b.a) (e2:b'.buys=b.buys) (e3:b'.sells=b.sells) (e4:b'.at_=b.at_) (e5:b'.spare=b.spare):b'.Core Q h∧b'.flat Q=b.flat Q:=by
 have er:∀s,b'.rungs s=b.rungs s:=fun s=>by rw[Book.rungs,Book.rungs,e2,e3]
 have eo:∀s r,b'.rOrds Q s r=b.rOrds Q s r:=fun s r=>by rw[Book.rOrds,Book.rOrds,e1]
 have es:∀s,b'.sideL Q s=b.sideL Q s:=fun s=>by rw[Book.sideL,Book.sideL,er];exact xF fun r _=>eo s r
 have ep:∀s,b'.plcs Q s=b.plcs Q s:=fun s=>by rw[Book.plcs,Book.plcs,er,e1]
 have ef:b'.flat Q=b.flat Q:=by rw[Book.flat,Book.flat,es,es]
 have eq:b'.qs=b.qs:=by rw[Book.qs,Book.qs,e2,e3,e5]
 exact⟨⟨by rw[e1];exact c.wf,fun s hs=>by rw[er];exact c.srt s hs,by rw[eq];exact c.rng,by rw[eq];exact c.nd,by rw[eq];exact c.ql,fun s hs=>by rw[er];exact c.ne s hs,by rw[e5];exact c.sp,by rw[e4,ep,ep];exact c.at_,by rw[ef];exact c.ids,c.qb⟩,ef⟩
theorem Book.Rep.stand {b:Book} {L:List zD} (h:b.Rep L) {s:Int} (hs:s=1∨s=2) {id p q:Int} (hid:id∉L.map (·.id)) (hl:L.length<250) (hq:1≤q∧q≤1000000):(b.stand s id p q).Rep (zEp L s id p q):=by
 obtain⟨Q,c,ht,rfl⟩:=h
 have hld:=c.leads hs p
 have h1:(b.led id s p).Core Q (-1)∧(b.led id s p).flat Q=(if uX (b.flat Q) s p=true then clr (b.flat Q) s else b.flat Q):=by
  rw[Book.led,hld]
  split
  ·obtain⟨e1,e2,e3,e4,e5,_⟩:=zTf b id hs
   obtain⟨u1,u2⟩:=c.untop s
   obtain⟨v1,v2⟩:=Book.Core.like (b':=b.leadF id s) (c.flag u1 u2) e1 e2 e3 e4 e5
   exact⟨v1,v2.trans (c.untop_flat ht hs)⟩
  ·exact⟨c,rfl⟩
 obtain⟨c1,f1⟩:=h1
 have hlen1:((b.led id s p).flat Q).length<250:=by
  rw[f1];split
  ·rw[clr,yWo];exact hl
  ·exact hl
 have hid1:id∉((b.led id s p).flat Q).map (·.id):=by
  rw[f1];split
  ·rw[z4k];exact hid
  ·exact hid
 obtain⟨Q',R1,R2,hqd⟩:=c1.queue hlen1 hs p
 obtain⟨Q3,A,B,k1,k2,k3,k4,k5⟩:=hqd.put hs (b.leads s p) hid1 (c1.used hlen1) hq
 have hAB:A++B=(if uX (b.flat Q) s p=true then clr (b.flat Q) s else b.flat Q):=by rw[← k2,hqd.flat,f1]
 have hins:zEp (b.flat Q) s id p q=A++⟨id,s,p,q,b.leads s p⟩::B:=by
  rw[zEp]
  obtain⟨t1,t2⟩:=yCu k4 k5
  rw[← hAB,t1,t2,hld]
 refine⟨Q3,k1,?_,?_⟩
 ·rw[hins,hld]
  show Book.Tops {((b.led id s p).queueF s p).1 with a:=_,at_:=_} _
  have hto:∀x,({((b.led id s p).queueF s p).1 with a:=(((b.led id s p).queueF s p).1.a.push ((b.led id s p).queueF s p).2 id q (b.leads s p)).1,at_:=nT id ⟨s,p,(((b.led id s p).queueF s p).1.a.push ((b.led id s p).queueF s p).2 id q (b.leads s p)).2.1⟩ ((b.led id s p).queueF s p).1.at_}:Book).hasF x=(b.led id s p).hasF x∧({((b.led id s p).queueF s p).1 with a:=(((b.led id s p).queueF s p).1.a.push ((b.led id s p).queueF s p).2 id q (b.leads s p)).1,at_:=nT id ⟨s,p,(((b.led id s p).queueF s p).1.a.push ((b.led id s p).queueF s p).2 id q (b.leads s p)).2.1⟩ ((b.led id s p).queueF s p).1.at_}:Book).topI x=(b.led id s p).topI x:=hqd.qty
  generalize ({((b.led id s p).queueF s p).1 with a:=(((b.led id s p).queueF s p).1.a.push ((b.led id s p).queueF s p).2 id q (b.leads s p)).1,at_:=nT id ⟨s,p,(((b.led id s p).queueF s p).1.a.push ((b.led id s p).queueF s p).2 id q (b.leads s p)).2.1⟩ ((b.led id s p).queueF s p).1.at_}:Book)=B3 at*
  have mAB:∀o,o∈A++⟨id,s,p,q,uX (b.flat Q) s p⟩::B↔o=⟨id,s,p,q,uX (b.flat Q) s p⟩∨o∈A++B:=by
   intro o
   rw[yXo,yXd,yXo]
   constructor
   ·rintro(h|h|h)
    ·exact .inr (.inl h)
    ·exact .inl h
    ·exact .inr (.inr h)
   ·rintro(h|h|h)
    ·exact .inr (.inl h)
    ·exact .inl h
    ·exact .inr (.inr h)
  have hsd:∀o∈b.flat Q,o.side=1∨o.side=2:=fun o ho=>(mZ ho).1
  by_cases hlead:uX (b.flat Q) s p=true
  ·rw[yWm hlead]at hAB
   have hb1:b.led id s p=b.leadF id s:=by rw[Book.led,yWm (hld.trans hlead)]
   obtain⟨_,_,_,_,_,e6⟩:=zTf b id hs
   rw[hb1]at hto
   refine⟨fun o ho=> ?_,fun s' hs' hh=> ?_⟩
   ·rcases(mAB o).1 ho with rfl|ho
    ·rw[(hto s).1,(hto s).2,(e6 s hs).1,(e6 s hs).2,yWm rfl,yWm rfl,hlead];simp
    ·rw[hAB]at ho
     obtain⟨o',ho',i1,i2,_,_,i5⟩:=z3i ho
     rw[(hto _).1,(hto _).2,i5,(e6 o.side (by rw[i2];exact hsd o' ho')).1,(e6 o.side (by rw[i2];exact hsd o' ho')).2]
     by_cases e:o.side=s
     ·rw[yWm e,yWm e,yWm e,yZd]
      symm
      refine yWy fun e2=>hid ?_
      rw[← e2,i1];exact yXh ho'
     ·rw[yWl e,yWl e,yWl e,ht.fl o' ho',i1,i2]
   ·rw[(hto s').2,(e6 s' hs').2]
    by_cases e:s'=s
    ·rw[yWm e]
     exact⟨_,(mAB _).2 (.inl rfl),e.symm,rfl⟩
    ·rw[(hto s').1,(e6 s' hs').1,yWl e]at hh
     rw[yWl e]
     obtain⟨o,ho,o1,o2⟩:=ht.th s' hs' hh
     exact⟨o,(mAB _).2 (.inr (by rw[hAB];exact yGt ho (by rw[o1];exact e))),o1,o2⟩
  ·rw[yWl hlead]at hAB
   have hlf:uX (b.flat Q) s p=false:=by simpa using hlead
   have hb1:b.led id s p=b:=by rw[Book.led,yWl (by rw[hld];exact hlead)]
   rw[hb1]at hto
   refine⟨fun o ho=> ?_,fun s' hs' hh=> ?_⟩
   ·rw[(hto _).1,(hto _).2]
    rcases(mAB o).1 ho with rfl|ho
    ·show uX (b.flat Q) s p=(b.hasF s && decide (id=b.topI s))
     rw[hlf]
     cases hh:b.hasF s with
     |false=>rfl
     |true=>
      rw[yZd]
      symm
      refine yWy fun e2=>hid ?_
      obtain⟨o,ho,_,o2⟩:=ht.th s hs hh
      rw[e2,← o2];exact yXh ho
    ·rw[hAB]at ho;exact ht.fl o ho
   ·rw[(hto s').1]at hh
    rw[(hto s').2]
    obtain⟨o,ho,o1,o2⟩:=ht.th s' hs' hh
    exact⟨o,(mAB _).2 (.inr (by rw[hAB];exact ho)),o1,o2⟩
 ·rw[hins];exact k3.symm
theorem Book.Rep.pget {b:Book} {L:List zD} (h:b.Rep L) (id:Int):(pget b.at_ id).isSome=kA L id:=by
 obtain⟨Q,c,ht,rfl⟩:=h
 cases hg:Sx.pget b.at_ id with
 |none=>
  have:=zFo hg
  rw[c.keysP.mem_iff,← hasId_iff]at this
  symm;simpa using this
 |some x=>
  have:=yXh (f:=(·.1)) (sZ hg)
  rw[c.keysP.mem_iff,← hasId_iff]at this
  symm;exact this
theorem Book.Rep.len {b:Book} {L:List zD} (h:b.Rep L):b.at_.length=L.length:=by
 obtain⟨Q,c,ht,rfl⟩:=h
 exact c.len
theorem Book.Rep.add {b:Book} {L:List zD} (h:b.Rep L) {s:Int} (hs:s=1∨s=2) (id p q:Int):(b.addF s id p q).1.Rep (rM L s id p q).1∧(b.addF s id p q).2=(rM L s id p q).2:=by
 rw[Book.addF,rM,h.pget,h.len]
 repeat' split
 all_goals first|exact⟨h,rfl⟩|skip
 rename_i c1 c2 c3
 exact⟨h.stand hs (fun e=>c2 (hasId_iff.2 e)) (by omega) (by omega),rfl⟩
theorem z8g:book0.Rep []:=by
 refine⟨[],⟨⟨⟨by simp[book0,zJc],rfl,fun n l h=>by simp at h,fun n l h=>by simp at h,fun n l h=>by simp at h,fun k s hk hu=> ?_,?_⟩,fun n l h=>by simp at h⟩,fun s hs=> ?_,fun q hq=>by simp[book0,Book.qs]at hq,by simp[book0,Book.qs],rfl,fun s hs r hr=> ?_,fun q hq=>by simp[book0]at hq,?_,?_,by decide⟩,⟨fun o ho=>(by cases ho),fun s hs hh=> ?_⟩,?_⟩
 ·have:=yWv hk
  rw[yZr this]at hu;cases hu
 ·decide
 ·rcases hs with rfl|rfl<;>exact List.Pairwise.nil
 ·rcases hs with rfl|rfl<;>cases hr
 ·exact List.Perm.refl _
 ·exact List.nodup_nil
 ·rcases hs with rfl|rfl<;>cases hh
 ·rfl
open Go Cv Go.Proofs
structure BoI where
 b:Book
 s:Int
 r:xM
 l:List Nat
def BoI.ords (i:BoI):List zD:=(i.b.a.ents i.l).map fun e=>⟨e.id,i.s,i.r.price,e.qty,e.top⟩
def ordersC:Con:=con1 BoI (fun i=>[.nm 0 0,zA i.s,.agg [zA i.r.price,zA i.r.queue]]) (fun i=>[yB i.b]) (fun i=>i.b.a.listOk i.r.queue i.l) (fun _=> .own 1) (fun i=>[yB i.b,.own 56 5 (i.ords.map wO)])
def yGi (i:BoI):List SAnn:=[{ι:=Nat,slots:=fun j=>[(7,.own 0),(18,zA j)],rows:=fun j=>[.own 56 5 ((i.ords.take j).map wO)]}]
end Sx
