/- Texts of ours, one behind the other: a walk that the kernel reckons, and contracts of functions. No condition. -/
import Derived.Laws.Externs
import Derived.Test.YtogkpgfggfbhaaaGreatX6
namespace Sx
set_option linter.unusedVariables false
set_option maxRecDepth 100000
open Go Cv Go.Proofs
def l5 (a:Cmd) (b:Cmd) (c:Cmd→Prop) (d:TmI):Prop:=sb a.label=sb b.label∧c a∧Sx.AObj.cells (Sx.V.agg [V.d (dI 0),V.d (dI 0),V.d (dI 0),V.d (dI 0),V.d (dI 0),V.d (dI 0),V.d (dI 0),V.d (dI 0),V.d qZ]).cl 36=Sx.AObj.cells (Sx.V.agg [V.d (dI 0),V.d (dI 0),V.d (dI 0),V.d (dI 0),V.d (dI 0),V.d (dI 0),V.d (dI 0),V.d (dI 0),V.d qZ]).cl 36∧Sx.AObj.cells [V.d (dI d.c.kind),V.d (dI d.c.id),V.d (dI d.c.inst),V.d (dI d.c.side),V.d (dI d.c.price),V.d (dI d.c.qty),V.d (dI d.c.least),V.d (dI d.c.time),V.d (D.v (Value.string (sb d.c.label)))] 36=Sx.AObj.cells [V.d (dI d.c.kind),V.d (dI d.c.id),V.d (dI d.c.inst),V.d (dI d.c.side),V.d (dI d.c.price),V.d (dI d.c.qty),V.d (dI d.c.least),V.d (dI d.c.time),V.d (D.v (Value.string (sb d.c.label)))] 36∧Sx.AObj.cells [V.d (D.v (Value.string (sb d.p.code))),V.own 0,V.d (dI d.p.tick),V.d (dI d.p.low),V.d (dI d.p.high),V.d (dI d.p.wide),V.d (dI d.p.rule),V.d (dI d.p.top),V.d (dI d.p.least),V.d (dI d.p.part),V.own ((0:Nat)+(1:Nat))] 26=Sx.AObj.cells [V.d (D.v (Value.string (sb d.p.code))),V.own 0,V.d (dI d.p.tick),V.d (dI d.p.low),V.d (dI d.p.high),V.d (dI d.p.wide),V.d (dI d.p.rule),V.d (dI d.p.top),V.d (dI d.p.least),V.d (dI d.p.part),V.own ((0:Nat)+(1:Nat))] 26∧AObj.fro 1 (iE d.p.settle)=AObj.fro 1 (iE d.p.settle)∧AObj.fro 1 (iE d.p.months)=AObj.fro 1 (iE d.p.months)
def zHv (a:Cmd) (b:Cmd) (c:Cmd→Prop) (d:TmI):Prop:=a.time=b.time∧l5 a b c d
def zJu (a:Cmd) (b:Cmd) (c:Cmd→Prop) (d:TmI):Prop:=a.id=b.id∧a.inst=b.inst∧a.side=b.side∧a.price=b.price∧a.qty=b.qty∧a.least=b.least∧zHv a b c d
def rR (a:Cmd) (b:Cmd→Prop) (c:TmI):Prop:=∃(d:Cmd),d.kind=a.kind∧zJu d a b c
def zCe (a:TmI) (b:WiI) (c:Cmd):Prop:=(y9 a).qty=IntKind.i64.wrap (xV b)∧(y9 a).least=c.least∧(y9 a).time=c.time∧sb (y9 a).label=sb c.label∧True
def zEc (a:TmI) (b:Cmd):Prop:=(y9 a).qty=b.qty∧(y9 a).least=b.least∧(y9 a).time=b.time∧sb (y9 a).label=sb b.label∧True
def yGn (t:TmI):Prop:=
 ∃(a:WiI),a.n=t.c.kind∧a.lo=0∧a.hi=8∧(yV a)∧∀(b:Unit),True→∃(c:WiI),c.n=t.c.id∧c.lo=0∧c.hi=30∧(yV c)∧∀(d:Unit),True→∃(e:Cmd),e.kind=IntKind.i64.wrap (xV a)∧e.id=IntKind.i64.wrap (xV c)∧e.inst=0∧e.side=0∧e.price=0∧e.qty=0∧e.least=0∧e.time=0∧sb e.label=ByteArray.mk #[]∧∃(f:Cmd→Prop),cnd (decide (e.kind>4)) (∃(g:Cmd),g.kind=1∧zJu g e f t) (rR e f t)∧∀(g:Cmd),f g→∃(h:Prd),sb h.code=sb t.p.code∧iE h.months=iE t.p.months∧h.tick=t.p.tick∧h.low=t.p.low∧h.high=t.p.high∧h.wide=t.p.wide∧h.rule=t.p.rule∧h.top=t.p.top∧h.least=t.p.least∧h.part=t.p.part∧iE h.settle=iE t.p.settle∧(zY h)∧∀(j:Unit),True→∃(k:WiI),k.n=t.c.inst∧k.lo=0∧k.hi=IntKind.i64.wrap ((↑h.count:Int)-1)∧(yV k)∧∀(l:Unit),True→∃(m:WiI),m.n=t.c.side∧m.lo=0∧m.hi=1∧(yV m)∧∀(n:Unit),True→∃(p:WiI),p.n=t.c.qty∧p.lo=0∧p.hi=11∧(yV p)∧∀(q:Unit),True→∃(r:WiI),r.n=t.c.price∧r.lo=0∧r.hi=9∧(yV r)∧∀(s:Unit),True→t.p.tick=t.p.tick∧cnd (g.kind==1) (∃(u:Cmd),u.kind=g.kind∧u.id=IntKind.i64.wrap (t.i+1)∧u.inst=zF k.n k.lo k.hi∧u.side=IntKind.i64.wrap (xV m)∧u.price=IntKind.i64.wrap (t.p.tick*zF r.n r.lo r.hi)∧u.qty=IntKind.i64.wrap (xV p)∧u.least=g.least∧u.time=1∧sb u.label=sb g.label∧∃(v:Cmd→Prop),(IntKind.i64=IntKind.i64∧(5:Int)≠(0:Int)∧cnd (t.c.time.tmod (5:Int)==(2:Int)) (∃(w:Cmd),w.kind=u.kind∧w.id=u.id∧w.inst=u.inst∧w.side=u.side∧w.price=u.price∧w.qty=u.qty∧w.least=u.least∧w.time=2∧l5 w u v t) (rR u v t))∧∀(w:Cmd),v w→∃(x:Cmd),x.kind=w.kind∧x.id=w.id∧x.inst=w.inst∧x.side=w.side∧x.price=w.price∧x.qty=w.qty∧x.least=w.least∧x.time=w.time∧sb x.label=sb w.label∧∃(y:Cmd→Prop),(IntKind.i64=IntKind.i64∧(5:Int)≠(0:Int)∧cnd (t.c.time.tmod (5:Int)==(3:Int)) (∃(z:Cmd),z.kind=x.kind∧z.id=x.id∧z.inst=x.inst∧z.side=x.side∧z.price=x.price∧z.qty=x.qty∧z.least=x.least∧z.time=3∧l5 z x y t) (rR x y t))∧∀(z:Cmd),y z→∃(a_1:Cmd),a_1.kind=z.kind∧a_1.id=z.id∧a_1.inst=z.inst∧a_1.side=z.side∧a_1.price=z.price∧a_1.qty=z.qty∧a_1.least=z.least∧a_1.time=z.time∧sb a_1.label=sb z.label∧∃(a_2:Cmd→Prop),(IntKind.i64=IntKind.i64∧(4:Int)≠(0:Int)∧cnd (t.c.least.tmod (4:Int)==(1:Int)) (∃(a_3:WiI),a_3.n=t.c.least∧a_3.lo=0∧a_3.hi=a_1.qty∧(yV a_3)∧∀(a_4:Unit),True→∃(a_5:Cmd),a_5.kind=a_1.kind∧a_5.id=a_1.id∧a_5.inst=a_1.inst∧a_5.side=a_1.side∧a_5.price=a_1.price∧a_5.qty=a_1.qty∧a_5.least=zF a_3.n a_3.lo a_3.hi∧zHv a_5 a_1 a_2 t) (rR a_1 a_2 t))∧∀(a_3:Cmd),a_2 a_3→∃(a_4:fX),sb a_4.p.code=sb t.p.code∧iE a_4.p.months=iE t.p.months∧a_4.p.tick=t.p.tick∧a_4.p.low=t.p.low∧a_4.p.high=t.p.high∧a_4.p.wide=t.p.wide∧a_4.p.rule=t.p.rule∧a_4.p.top=t.p.top∧a_4.p.least=t.p.least∧a_4.p.part=t.p.part∧iE a_4.p.settle=iE t.p.settle∧a_4.n=a_3.inst∧(kL a_4)∧∀(a_5:Unit),True→cnd (!(a_4.p.legs a_4.n).snd.snd) (∃(a_6:Unit),(y9 t).kind=a_3.kind∧(y9 t).id=a_3.id∧(y9 t).inst=a_3.inst∧(y9 t).side=a_3.side∧(y9 t).price=IntKind.i64.wrap (a_3.price+IntKind.i64.wrap (8*t.p.tick))∧zEc t a_3) (∃(a_6:Unit),(y9 t).kind=a_3.kind∧(y9 t).id=a_3.id∧(y9 t).inst=a_3.inst∧(y9 t).side=a_3.side∧(y9 t).price=IntKind.i64.wrap (a_3.price-IntKind.i64.wrap (4*t.p.tick))∧zEc t a_3)) (cnd (g.kind==4) (∃(u:Unit),(y9 t).kind=g.kind∧(y9 t).id=g.id∧(y9 t).inst=0∧(y9 t).side=0∧(y9 t).price=IntKind.i64.wrap (IntKind.i64.wrap (t.p.tick*zF r.n r.lo r.hi)+IntKind.i64.wrap (5*t.p.tick))∧zCe t p g) (∃(u:Unit),(y9 t).kind=g.kind∧(y9 t).id=g.id∧(y9 t).inst=0∧(y9 t).side=0∧(y9 t).price=IntKind.i64.wrap (t.p.tick*zF r.n r.lo r.hi)∧zCe t p g))
set_option linter.unusedSimpArgs false
open Go Cv Go.Proofs
theorem yOl (t:TmI) (h:tameC.cnd t):yGn t:=by
 obtain⟨hc,hs,⟨r1,r2,r3,r4,r5,r6,r7,r8⟩,i0,i1⟩:t.p.check=0∧t.p.small∧t.c.raw∧0≤t.i∧t.i≤1000000:=h
 have ok:=kI hc
 have t1:=ok.t1
 have t2:=ok.t2
 have m2:=ok.m2
 have hcl:=xQ t.p
 have hcd:=aM hc
 have bk:=yP (n:=t.c.kind) (lo:=0) (hi:=8) (by omega)
 have bi:=yP (n:=t.c.id) (lo:=0) (hi:=30) (by omega)
 have bs:=yP (n:=t.c.side) (lo:=0) (hi:=1) (by omega)
 have bq:=yP (n:=t.c.qty) (lo:=0) (hi:=11) (by omega)
 have bp:=yP (n:=t.c.price) (lo:=0) (hi:=9) (by omega)
 have mb:=rN (a:=t.p.tick) (b:=zF t.c.price 0 9) (m:=1000) (n:=9) (by omega) (by omega)
 have wp:IntKind.i64.wrap (t.p.tick*zF t.c.price 0 9)=t.p.tick*zF t.c.price 0 9:=w64 (by omega)
 unfold yGn rR zJu zHv l5 qZ zEc zCe xV yV zY kL dI
 refine⟨⟨t.c.kind,0,8⟩,rfl,rfl,rfl,⟨r1,by dsimp only;omega,by dsimp only;omega,by dsimp only;omega⟩,fun _ _=>⟨⟨t.c.id,0,30⟩,rfl,rfl,rfl,⟨r2,by dsimp only;omega,by dsimp only;omega,by dsimp only;omega⟩,fun _ _=> ?_⟩⟩
 dsimp only
 rw[w64 (x:=1+zF t.c.kind 0 8) (by omega),w64 (x:=1+zF t.c.id 0 30) (by omega)]
 refine⟨⟨1+zF t.c.kind 0 8,1+zF t.c.id 0 30,0,0,0,0,0,0,[]⟩,rfl,rfl,rfl,rfl,rfl,rfl,rfl,rfl,rfl,fun c=>c=⟨wY t.c,1+zF t.c.id 0 30,0,0,0,0,0,0,[]⟩,zI (fun e=>⟨⟨wY t.c,1+zF t.c.id 0 30,0,0,0,0,0,0,[]⟩,?_,rfl,rfl,rfl,rfl,rfl,rfl,rfl,rfl,rfl,by(repeat'(first|exact trivial|exact rfl|apply And.intro))⟩) (fun e=>⟨⟨wY t.c,1+zF t.c.id 0 30,0,0,0,0,0,0,[]⟩,?_,rfl,rfl,rfl,rfl,rfl,rfl,rfl,rfl,rfl,by(repeat'(first|exact trivial|exact rfl|apply And.intro))⟩),fun c hcc=> ?_⟩
 ·dsimp only at e ⊢;rw[wY,yRe (by omega)]
 ·dsimp only at e ⊢;rw[wY,yRd (by omega)]
 subst hcc
 refine⟨t.p,rfl,rfl,rfl,rfl,rfl,rfl,rfl,rfl,rfl,rfl,rfl,hs,fun _ _=> ?_⟩
 rw[w64 (x:=(t.p.count:Int)-1) (by omega)]
 refine⟨⟨t.c.inst,0,(t.p.count:Int)-1⟩,rfl,rfl,rfl,⟨r3,by dsimp only;omega,by dsimp only;omega,by dsimp only;omega⟩,fun _ _=>⟨⟨t.c.side,0,1⟩,rfl,rfl,rfl,⟨r4,by dsimp only;omega,by dsimp only;omega,by dsimp only;omega⟩,fun _ _=>⟨⟨t.c.qty,0,11⟩,rfl,rfl,rfl,⟨r6,by dsimp only;omega,by dsimp only;omega,by dsimp only;omega⟩,fun _ _=>⟨⟨t.c.price,0,9⟩,rfl,rfl,rfl,⟨r5,by dsimp only;omega,by dsimp only;omega,by dsimp only;omega⟩,fun _ _=>⟨rfl,?_⟩⟩⟩⟩⟩
 dsimp only
 rw[wp,w64 (x:=1+zF t.c.side 0 1) (by omega),w64 (x:=1+zF t.c.qty 0 11) (by omega),w64 (x:=t.i+1) (by omega)]
 refine Cv.cnd.mk (fun k=> ?_) (fun k=> ?_)
 ·have k:wY t.c=1:=by simpa using k
  refine⟨{yW t with id:=t.i+1,time:=1},rfl,rfl,rfl,rfl,rfl,rfl,rfl,rfl,rfl,fun c=>c={yW t with id:=t.i+1,time:=if t.c.time.tmod 5=2 then 2 else 1},⟨rfl,by decide,Cv.cnd.mk (fun e=>⟨{yW t with id:=t.i+1,time:=2},rfl,rfl,rfl,rfl,rfl,rfl,rfl,rfl,rfl,?_,by(repeat'(first|exact trivial|exact rfl|apply And.intro))⟩) (fun e=>⟨{yW t with id:=t.i+1,time:=1},rfl,rfl,rfl,rfl,rfl,rfl,rfl,rfl,rfl,?_,by(repeat'(first|exact trivial|exact rfl|apply And.intro))⟩)⟩,fun c hcc=> ?_⟩
  ·have e:t.c.time.tmod 5=2:=by simpa using e
   rw[yRe e]
  ·have e:¬t.c.time.tmod 5=2:=by simpa using e
   rw[yRd e]
  subst hcc
  refine⟨{yW t with id:=t.i+1,time:=if t.c.time.tmod 5=2 then 2 else 1},rfl,rfl,rfl,rfl,rfl,rfl,rfl,rfl,rfl,fun c=>c={yW t with id:=t.i+1,time:=gI t.c},⟨rfl,by decide,Cv.cnd.mk (fun e=>⟨{yW t with id:=t.i+1,time:=3},rfl,rfl,rfl,rfl,rfl,rfl,rfl,rfl,rfl,?_,by(repeat'(first|exact trivial|exact rfl|apply And.intro))⟩) (fun e=>⟨{yW t with id:=t.i+1,time:=if t.c.time.tmod 5=2 then 2 else 1},rfl,rfl,rfl,rfl,rfl,rfl,rfl,rfl,rfl,?_,by(repeat'(first|exact trivial|exact rfl|apply And.intro))⟩)⟩,fun c hcc=> ?_⟩
  ·have e:t.c.time.tmod 5=3:=by simpa using e
   rw[gI,yRe e]
  ·have e:¬t.c.time.tmod 5=3:=by simpa using e
   rw[gI,yRd e]
  subst hcc
  have hq:(yW t).qty=1+zF t.c.qty 0 11:=rfl
  refine⟨{yW t with id:=t.i+1,time:=gI t.c},rfl,rfl,rfl,rfl,rfl,rfl,rfl,rfl,rfl,fun c=>c={yW t with id:=t.i+1,time:=gI t.c,least:=fH t.c (yW t).qty},⟨rfl,by decide,Cv.cnd.mk (fun e=>⟨⟨t.c.least,0,(yW t).qty⟩,rfl,rfl,rfl,⟨r7,by dsimp only;omega,by dsimp only;omega,by dsimp only;omega⟩,fun _ _=>⟨{yW t with id:=t.i+1,time:=gI t.c,least:=zF t.c.least 0 (yW t).qty},rfl,rfl,rfl,rfl,rfl,rfl,rfl,rfl,rfl,?_,by(repeat'(first|exact trivial|exact rfl|apply And.intro))⟩⟩) (fun e=>⟨{yW t with id:=t.i+1,time:=gI t.c},rfl,rfl,rfl,rfl,rfl,rfl,rfl,rfl,rfl,?_,by(repeat'(first|exact trivial|exact rfl|apply And.intro))⟩)⟩,fun c hcc=> ?_⟩
  ·have e:t.c.least.tmod 4=1:=by simpa using e
   rw[fH,yRe e]
  ·have e:¬t.c.least.tmod 4=1:=by simpa using e
   rw[fH,yRd e];rfl
  subst hcc
  refine⟨⟨t.p,(yW t).inst⟩,rfl,rfl,rfl,rfl,rfl,rfl,rfl,rfl,rfl,rfl,rfl,rfl,hs,fun _ _=> ?_⟩
  dsimp only
  have hp:(yW t).price=t.p.tick*zF t.c.price 0 9:=rfl
  have hk1:(yW t).kind=1:=k
  rw[w64 (x:=8*t.p.tick) (by omega),w64 (x:=4*t.p.tick) (by omega),w64 (x:=(yW t).price+8*t.p.tick) (by omega),w64 (x:=(yW t).price-4*t.p.tick) (by omega)]
  refine Cv.cnd.mk (fun e=>⟨(),?_⟩) (fun e=>⟨(),?_⟩)
  ·have e:(t.p.legs (yW t).inst).2.2=false:=by simpa using e
   have:y9 t={yW t with id:=t.i+1,time:=gI t.c,least:=fH t.c (yW t).qty,price:=(yW t).price+8*t.p.tick}:=by
    simp only[y9,hk1,if_true,e,yRv,if_false]
   rw[this];(repeat'(first|exact trivial|exact rfl|apply And.intro))
  ·have e:(t.p.legs (yW t).inst).2.2=true:=by simpa using e
   have:y9 t={yW t with id:=t.i+1,time:=gI t.c,least:=fH t.c (yW t).qty,price:=(yW t).price-4*t.p.tick}:=by
    simp only[y9,hk1,if_true,e]
   rw[this];(repeat'(first|exact trivial|exact rfl|apply And.intro))
 ·have k:¬wY t.c=1:=by simpa using k
  have k:¬(yW t).kind=1:=k
  rw[w64 (x:=5*t.p.tick) (by omega),w64 (x:=t.p.tick*zF t.c.price 0 9+5*t.p.tick) (by omega)]
  have et:y9 t={yW t with price:=if(yW t).kind=4 then(yW t).price+5*t.p.tick else(yW t).price,side:=0,inst:=0}:=by
   simp only[y9,k,if_false]
  rw[et]
  refine Cv.cnd.mk (fun e=>⟨(),?_⟩) (fun e=>⟨(),?_⟩)
  ·have e:wY t.c=4:=by simpa using e
   have e:(yW t).kind=4:=e
   simp only[yRe e];(repeat'(first|exact trivial|exact rfl|apply And.intro))
  ·have e:¬wY t.c=4:=by simpa using e
   have e:¬(yW t).kind=4:=e
   simp only[yRd e];(repeat'(first|exact trivial|exact rfl|apply And.intro))
theorem tame_ok:tameC.ok Tryz.prog 21:=okw mixed (gokc within_ok (gokc zUy (gokc z2i gok0))) 0 (fun _=>yNx) (fun _=>[]) [] Tryz.func21 yOl
open Go Cv Go.Proofs
structure ShI where
 a:Int
 b:Int
 c:Int
def add64C:Con:=con1 ShI (fun i=>[pH i.a,pH i.b,pH i.c]) (fun _=>[]) (fun i=>0≤i.a∧0≤i.b∧0≤i.c∧i.c≤1) (fun i=> .tup [pH ((i.a+i.b+i.c) % 18446744073709551616),pH ((i.a+i.b+i.c) / 18446744073709551616)]) (fun _=>[])
theorem z3v {P : Program} {f : FuncId} {fn : Func} (hf : P.funcs[f]? = some fn) (hname : (fn.name == "runtime.NumGoroutine") = false) (hb : fn.body.isNone = true) (hn : Extern.findNext fn = none) (he : Extern.find fn = some add64Entry) : add64C.ok P f := by
 intro i hc k L E w ys R hv
 obtain⟨h1,h2,h3,h4⟩:0≤i.a∧0≤i.b∧0≤i.c∧i.c≤1:=hc
 simp only[add64C,con1,VRL,VR,DR]at hv
 obtain⟨_,_,rfl,⟨rfl,_⟩,_,_,rfl,⟨rfl,_⟩,_,_,rfl,⟨rfl,_⟩,rfl⟩:=hv
 unfold Does
 rw[run_callFunc_extern hf hname hb hn he,run_add64 i.a i.b i.c h1 h2 h3 h4]
 simp only[Result.andThen]
 refine⟨_,yTa.2 rfl,(),trivial,E,Ev.le.refl _,?_,R⟩
 simp only[add64C,con1,VR,VRL,DR]
 exact⟨_,rfl,_,_,rfl,⟨rfl,rfl⟩,_,_,rfl,⟨rfl,rfl⟩,rfl⟩
theorem z2y:add64C.ok Tryz.prog 301:=by
 refine z3v (P:=Tryz.prog) (f:=301) (fn:=Tryz.f301) Tryz.func301 ?_ ?_ ?_ ?_
 ·kernel_rfl
 ·kernel_rfl
 ·kernel_rfl
 ·kernel_rfl
structure M2 where
 a:Int
 b:Int
def mul64C:Con:=con1 M2 (fun i=>[pH i.a,pH i.b]) (fun _=>[]) (fun i=>0≤i.a∧i.a≤2000000000∧0≤i.b∧i.b≤2000000000) (fun i=> .tup [pH 0,pH (i.a*i.b)]) (fun _=>[])
def div64C:Con:=con1 M2 (fun i=>[pH 0,pH i.a,pH i.b]) (fun _=>[]) (fun i=>0≤i.a∧i.a≤4000000000000000000∧1≤i.b∧i.b≤2000000000) (fun i=> .tup [pH (i.a / i.b),pH (i.a % i.b)]) (fun _=>[])
def ishareC:Con:=con1 ShI (fun i=>[zA i.a,zA i.b,zA i.c]) (fun _=>[]) (fun i=>0≤i.a∧i.a≤2000000000∧0≤i.b∧i.b≤2000000000∧1≤i.c∧i.c≤2000000000) (fun i=> .tup [zA (i.a*i.b / i.c),yM true]) (fun _=>[])
def isumC:Con:=con1 (List Int) (fun l=>[iV l]) (fun _=>[]) (fun l=>l.length≤1000∧∀x∈l,0≤x∧x≤1000000) (fun l=> .tup [zA l.sum,yM true]) (fun _=>[])
def yNd (l:List Int):List SAnn:=[{ι:=Nat,slots:=fun j=>[(4,pH (l.take j).sum),(5,zA 0),(11,zA j)],rows:=fun _=>[]}]
structure LqI where
 l:List Int
 q:Int
def yQ (l:List Int) (q:Int):Bool:=decide (l.length≤250) && decide (0≤q) && l.all (fun n=>decide (1≤n) && decide (n≤1000000)) && decide (q≤l.sum)
def rightC:Con:=con1 LqI (fun i=>[iV i.l,zA i.q]) (fun _=>[]) (fun i=>i.l.length≤1000000∧yU i.q) (fun i=>yM (yQ i.l i.q)) (fun _=>[])
def yHe (i:LqI):List SAnn:=[{ι:=Nat,slots:=fun j=>[(5,zA (i.l.take j).sum),(17,zA j)],rows:=fun _=>[]}]
def vV:List Int→Int→List Int
 |[],_=>[]
 |n::l,q=>min n q::vV l (q-min n q)
def uF (l:List Int) (q:Int):List Int:=if yQ l q=true then vV l q else[]
def fifoC:Con:=con1 LqI (fun i=>[iV i.l,zA i.q]) (fun _=>[]) (fun i=>i.l.length≤1000000∧yU i.q) (fun _=> .own 0) (fun i=>[.own 2 1 (iE (uF i.l i.q))])
def yMw (i:LqI):List SAnn:=[{ι:=Nat,slots:=fun j=>[(5,.own 0),(1,zA (i.q-((vV i.l i.q).take j).sum)),(15,zA j)],rows:=fun j=>[.own 2 1 (iE ((vV i.l i.q).take j))]}]
open Go Cv Go.Proofs
def eK (a:M2):=(IntKind.u64.wrap (IntKind.u64.wrap (nR IntKind.u64 a.a 32*zDq IntKind.u64 a.b 4294967295)+nR IntKind.u64 (IntKind.u64.wrap (zDq IntKind.u64 a.a 4294967295*zDq IntKind.u64 a.b 4294967295)) 32))
def z6v (i:M2):Prop:=
 (0:Int)≤(32:Int)∧(0:Int)≤(32:Int)∧(0:Int)≤(32:Int)∧(0:Int)≤(32:Int)∧(0:Int)≤(32:Int)∧∃(a:Unit),0=IntKind.u64.wrap (IntKind.u64.wrap (IntKind.u64.wrap (nR IntKind.u64 i.a 32*nR IntKind.u64 i.b 32)+nR IntKind.u64 (eK i) 32)+nR IntKind.u64 (IntKind.u64.wrap (zDq IntKind.u64 (eK i) 4294967295+IntKind.u64.wrap (zDq IntKind.u64 i.a 4294967295*nR IntKind.u64 i.b 32))) 32)∧i.a*i.b=IntKind.u64.wrap (i.a*i.b)∧True
def z5i (i:M2):Prop:=
 cnd (i.b==0) False (cnd (decide (i.b≤0)) False (IntKind.u64=IntKind.u64∧i.b≠0∧IntKind.u64=IntKind.u64∧i.b≠0∧∃(a:Unit),i.a / i.b=IntKind.u64.wrap (i.a.tdiv i.b)∧i.a % i.b=i.a.tmod i.b∧True))
def z0e (i:ShI):Prop:=
 cnd (decide (i.a<0)) (∃(a:Unit),i.a*i.b / i.c=0∧true=false∧True) (cnd (decide (i.b<0)) (∃(a:Unit),i.a*i.b / i.c=0∧true=false∧True) (cnd (decide (i.c<1)) (∃(a:Unit),i.a*i.b / i.c=0∧true=false∧True) (∃(a:M2),a.a=IntKind.u64.wrap i.a∧a.b=IntKind.u64.wrap i.b∧(0≤a.a∧a.a≤(2000000000:Int)∧(0:Int)≤a.b∧a.b≤2000000000)∧∀(b:Unit),True→cnd (decide (0≥IntKind.u64.wrap i.c)) (∃(c:Unit),i.a*i.b / i.c=0∧true=false∧True) (∃(c:M2),(0:Int)=(0:Int)∧c.a=a.a*a.b∧c.b=IntKind.u64.wrap i.c∧(0≤c.a∧c.a≤(4000000000000000000:Int)∧(1:Int)≤c.b∧c.b≤2000000000)∧∀(d:Unit),True→cnd (decide (c.a / c.b>9223372036854775807)) (∃(e:Unit),i.a*i.b / i.c=0∧true=false∧True) (∃(e:Unit),i.a*i.b / i.c=IntKind.i64.wrap (c.a / c.b)∧true=true∧True)))))
def yGk (l:List Int):Prop:=
 ∃(a:Nat),(List.take a l).sum=(0:Int)∧(0:Int)=0∧(↑a:Int)=0∧∃(b:Nat→Prop),∃(c:Nat→Nat),b a∧∀(d:Nat),b d→cnd (decide ((↑d:Int)<(↑(iE l).length:Int))) ((0≤(↑d:Int)∧(↑d:Int)<(↑(iE l).length:Int))∧∃(e:Int),zE (iE l) (↑d:Int).toNat 0 1=some [dI e]∧∃(f:ShI),f.a=(List.take d l).sum∧f.b=IntKind.u64.wrap e∧f.c=0∧(0≤f.a∧0≤f.b∧0≤f.c∧f.c≤1)∧∀(g:Unit),True→(0:Int)≤(63:Int)∧∃(h:Nat),(List.take h l).sum=(f.a+f.b+f.c) % (18446744073709551616:Int)∧(0:Int)=IntKind.i64.wrap (0+IntKind.i64.wrap (nR IntKind.i64 e 63+IntKind.i64.wrap ((f.a+f.b+f.c) / (18446744073709551616:Int))))∧vC h d b c) ((0:Int)≤(63:Int)∧cnd (0 !=nR IntKind.i64 (IntKind.i64.wrap (List.take d l).sum) 63) (∃(e:Unit),l.sum=0∧true=false∧True) (∃(e:Unit),l.sum=IntKind.i64.wrap (List.take d l).sum∧true=true∧True))
def z4v (i:LqI):Prop:=
 cnd (decide ((↑(iE i.l).length:Int)>250)) (∃(a:Unit),yQ i.l i.q=false∧True) (cnd (decide (i.q<0)) (∃(a:Unit),yQ i.l i.q=false∧True) (∃(a:Nat),(List.take a i.l).sum=0∧(↑a:Int)=0∧∃(b:Nat→Prop),∃(c:Nat→Nat),b a∧∀(d:Nat),b d→cnd (decide ((↑d:Int)<(↑(iE i.l).length:Int))) ((0≤(↑d:Int)∧(↑d:Int)<(↑(iE i.l).length:Int))∧∃(e:Int),zE (iE i.l) (↑d:Int).toNat 0 1=some [dI e]∧cnd (decide (e<1)) (∃(f:Unit),yQ i.l i.q=false∧True) (cnd (decide (e>1000000)) (∃(f:Unit),yQ i.l i.q=false∧True) (∃(f:Nat),(List.take f i.l).sum=IntKind.i64.wrap ((List.take d i.l).sum+e)∧vC f d b c))) (∃(e:Unit),yQ i.l i.q=decide (i.q≤(List.take d i.l).sum)∧True)))
def jI (a:LqI):Prop:=a.l.length≤(1000000:Nat)∧(-9223372036854775808:Int)≤a.q∧a.q≤9223372036854775807
def jH (a:Nat) (b:LqI):=(List.take a (vV b.l b.q))
def yHd (i:LqI):Prop:=
 ∃(a:LqI),iE a.l=iE i.l∧a.q=i.q∧(jI a)∧∀(b:Unit),True→cnd (!yQ a.l a.q) (∃(c:Unit),iE (uF i.l i.q)=[]∧True) (∃(c:Nat),i.q-(jH c i).sum=i.q∧(↑c:Int)=0∧iE (jH c i)=[]∧∃(d:Nat→Prop),∃(e:Nat→Nat),d c∧∀(f:Nat),d f→cnd (decide ((↑f:Int)<(↑(iE i.l).length:Int))) ((0≤(↑f:Int)∧(↑f:Int)<(↑(iE i.l).length:Int))∧∃(g:Int),zE (iE i.l) (↑f:Int).toNat 0 1=some [dI g]∧((iE (jH f i)).length+1)*(8:Nat)≤(70368744177664:Nat)∧∃(h:Nat),i.q-(jH h i).sum=IntKind.i64.wrap (i.q-(jH f i).sum-min g (i.q-(jH f i).sum))∧(↑h:Int)=IntKind.i64.wrap ((↑f:Int)+1)∧iE (jH h i)=iE (jH f i)++[[dI (min g (i.q-(jH f i).sum))]]∧d h∧e h<e f∧True) (∃(g:Unit),iE (uF i.l i.q)=iE (jH f i)∧True))
open Go Cv Go.Proofs
theorem zNn {x:Int} (h0:0≤x) (h1:x<4294967296):zDq .u64 x 4294967295=x:=by
 have e:zDq .u64 x 4294967295=IntKind.u64.wrap ((BitVec.ofInt 64 x &&& BitVec.ofInt 64 4294967295).toNat:Int):=rfl
 obtain⟨n,rfl⟩:=Int.eq_ofNat_of_zero_le h0
 have hn:n<4294967296:=by omega
 rw[e,BitVec.toNat_and,BitVec.ofInt_natCast,BitVec.toNat_ofNat,show(BitVec.ofInt 64 4294967295).toNat=2 ^ 32-1 by decide,Nat.and_two_pow_sub_one_eq_mod]
 rw[show n % 2 ^ 64 % 2 ^ 32=n by omega,tZ (by omega)]
theorem zFz {x:Int} (h0:0≤x) (h1:x<4294967296):nR .u64 x 32=0:=by
 have:=lT .u64 x 32 (by decide)
 rw[show((32:Nat):Int)=32 by rfl]at this
 rw[this];omega
theorem zZj {a b m n:Int} (ha:0≤a∧a≤m) (hb:0≤b∧b≤n):0≤a*b∧a*b≤m*n:=
 ⟨yXb ha.1 hb.1,Int.mul_le_mul ha.2 hb.2 hb.1 (by omega)⟩
theorem yJb (i:M2) (h:mul64C.cnd i):z6v i:=by
 obtain⟨h1,h2,h3,h4⟩:0≤i.a∧i.a≤2000000000∧0≤i.b∧i.b≤2000000000:=h
 have hm:=zZj ⟨h1,h2⟩ ⟨h3,h4⟩
 have hs:nR IntKind.u64 (i.a*i.b) 32=(i.a*i.b) / 4294967296:=by
  have:=lT .u64 (i.a*i.b) 32 (by decide)
  rw[show((32:Nat):Int)=32 by rfl]at this
  exact this
 unfold z6v eK
 refine⟨by decide,by decide,by decide,by decide,by decide,(),?_,?_,trivial⟩
 ·rw[zNn h1 (by omega),zNn h3 (by omega),zFz h1 (by omega),zFz h3 (by omega),tZ (x:=i.a*i.b) (by omega),hs]
  simp only[Int.zero_mul,Int.mul_zero,Int.zero_add,Int.add_zero]
  rw[tZ (x:=0) (by omega)]
  simp only[Int.zero_add,Int.add_zero]
  rw[tZ (x:=i.a*i.b / 4294967296) (by omega),zFz (x:=i.a*i.b / 4294967296) (by omega) (by omega),zNn (x:=i.a*i.b / 4294967296) (by omega) (by omega),tZ (x:=i.a*i.b / 4294967296) (by omega),zFz (x:=i.a*i.b / 4294967296) (by omega) (by omega)]
  rfl
 ·rw[tZ (by omega)]
theorem z5h:mul64C.ok Tryz.prog 290:=okw mixed gok0 0 (fun _=>[]) (fun _=>[]) [] Tryz.func290 yJb
theorem yIv (i:M2) (h:div64C.cnd i):z5i i:=by
 obtain⟨h1,h2,h3,h4⟩:0≤i.a∧i.a≤4000000000000000000∧1≤i.b∧i.b≤2000000000:=h
 unfold z5i
 have hd:0≤i.a / i.b∧i.a / i.b≤i.a:=⟨Int.ediv_nonneg h1 (by omega),Int.ediv_le_self _ h1⟩
 refine Cv.cnd.mk (fun c=>absurd (eq_of_beq c) (by omega)) (fun _=>zI (fun c=>by omega) (fun _=>⟨rfl,by omega,rfl,by omega,(),?_,?_,trivial⟩))
 ·rw[Int.tdiv_eq_ediv_of_nonneg h1,tZ (by omega)]
 ·rw[Int.tmod_eq_emod_of_nonneg h1]
theorem z7w:div64C.ok Tryz.prog 291:=okw mixed gok0 0 (fun _=>[]) (fun _=>[]) [] Tryz.func291 yIv
theorem yFo (i:ShI) (h:ishareC.cnd i):z0e i:=by
 obtain⟨h1,h2,h3,h4,h5,h6⟩:0≤i.a∧i.a≤2000000000∧0≤i.b∧i.b≤2000000000∧1≤i.c∧i.c≤2000000000:=h
 have hm:=zZj ⟨h1,h2⟩ ⟨h3,h4⟩
 have hd:0≤i.a*i.b / i.c∧i.a*i.b / i.c≤i.a*i.b:=⟨Int.ediv_nonneg hm.1 (by omega),Int.ediv_le_self _ hm.1⟩
 unfold z0e
 rw[tZ (x:=i.a) (by omega),tZ (x:=i.b) (by omega),tZ (x:=i.c) (by omega)]
 refine zI (fun c=>by omega) (fun _=>zI (fun c=>by omega) (fun _=>zI (fun c=>by omega) (fun _=>⟨⟨i.a,i.b⟩,rfl,rfl,⟨h1,h2,h3,h4⟩,fun _ _=>zI (fun c=>by omega) (fun _=>⟨⟨i.a*i.b,i.c⟩,rfl,rfl,rfl,⟨hm.1,by dsimp only;omega,h5,h6⟩,fun _ _=>zI (fun c=>by dsimp only at c;omega) (fun _=>⟨(),?_,rfl,trivial⟩)⟩)⟩)))
 rw[w64 (by dsimp only;omega)]
theorem zLk:ishareC.ok Tryz.prog 278:=okw mixed (gokc z5h (gokc z7w gok0)) 0 (fun _=>[]) (fun _=>[]) [] Tryz.func278 yFo
theorem wjn {j:Nat} (h:j≤1000000):((j+1:Nat):Int)=IntKind.i64.wrap ((j:Int)+1):=by rw[w64 (by omega)];rfl
theorem jE {l:List Int} {j:Nat} {x:Int} (h:l[j]? =some x):(l.take (j+1)).sum=(l.take j).sum+x:=by
 rw[ySz,h];simp
theorem kW {l:List Int} (h:∀x∈l,0≤x∧x≤1000000):∀j:Nat,0≤(l.take j).sum∧(l.take j).sum≤1000000*j
 |0=>by simp
 |j+1=>by
  have ih:=kW h j
  cases hx:l[j]? with
  |none=>
   have:l.take (j+1)=l.take j:=by
    rw[ySz,hx];simp
   rw[this];omega
  |some x=>
   have:=h x (yRp hx)
   rw[jE hx];omega
theorem yOb (l:List Int) (h:isumC.cnd l):yGk l:=by
 obtain⟨hl,hb⟩:l.length≤1000∧∀x∈l,0≤x∧x≤1000000:=h
 unfold yGk vC dI
 simp only[yY]
 refine⟨0,by(first|exact rfl|exact trivial),by(first|exact rfl|exact trivial),by(first|exact rfl|exact trivial),fun j=>j≤l.length,fun j=>l.length-j,ySr _,fun j hj=>zI (fun c=> ?_) (fun c=> ?_)⟩
 ·have hj':j<l.length:=by omega
  obtain⟨x,hx⟩:=yD (l:=l) (i:=j) hj'
  have bx:=hb x (yRp hx)
  have bs:=kW hb j
  refine⟨⟨by omega,by omega⟩,x,elI hx,⟨(l.take j).sum,x,0⟩,rfl,by rw[tZ (by omega)],rfl,⟨bs.1,bx.1,by dsimp only;omega,by dsimp only;omega⟩,fun _ _=>⟨by decide,j+1,?_,?_,wjn (by omega),hj',by dsimp only;omega,trivial⟩⟩
  ·rw[jE hx];dsimp only;omega
  ·have e:nR IntKind.i64 x 63=x / 9223372036854775808:=by
    have:=lT .i64 x 63 (by decide)
    rw[show((63:Nat):Int)=63 by rfl]at this
    exact this
   dsimp only
   rw[e,show x / 9223372036854775808=0 by omega,show((l.take j).sum+x+0) / 18446744073709551616=0 by omega]
   rfl
 ·have hj':j=l.length:=by omega
  subst hj'
  have bs:=kW hb l.length
  rw[yWa]at bs
  have e:nR IntKind.i64 l.sum 63=l.sum / 9223372036854775808:=by
   have:=lT .i64 l.sum 63 (by decide)
   rw[show((63:Nat):Int)=63 by rfl]at this
   exact this
  rw[yWa,w64 (x:=l.sum) (by omega),e,show l.sum / 9223372036854775808=0 by omega]
  exact⟨by decide,Cv.cnd.mk (fun c=>absurd c (by decide)) (fun _=>⟨(),by(first|exact rfl|exact trivial),by(first|exact rfl|exact trivial),trivial⟩)⟩
theorem yFb:isumC.ok Tryz.prog 295:=okw mixed (gokc z2y gok0) 0 (fun _=>[]) (fun l=>yNd l) [] Tryz.func295 yOb
theorem yLl (i:LqI) (h:rightC.cnd i):z4v i:=by
 obtain⟨hl,hq⟩:i.l.length≤1000000∧yU i.q:=h
 unfold z4v vC dI
 simp only[yY]
 refine zI (fun c=>⟨(),?_,trivial⟩) (fun c1=>zI (fun c=>⟨(),?_,trivial⟩) (fun c2=> ?_))
 ·rw[yQ,yRo (by omega:¬i.l.length≤250)];rfl
 ·rw[yQ,yRo (by omega:¬0≤i.q)];simp
 refine⟨0,by(first|exact rfl|exact trivial),by(first|exact rfl|exact trivial),fun j=>j≤i.l.length∧∀k<j,∀x,i.l[k]? =some x→1≤x∧x≤1000000,fun j=>i.l.length-j,⟨ySr _,fun k hk=>absurd hk (Nat.not_lt_zero k)⟩,fun j hj=>zI (fun c=> ?_) (fun c=> ?_)⟩
 ·obtain⟨hj0,hjb⟩:=hj
  have hj':j<i.l.length:=by omega
  obtain⟨x,hx⟩:=yD (l:=i.l) (i:=j) hj'
  have bad (hn:¬(1≤x∧x≤1000000)):yQ i.l i.q=false:=by
   have:(i.l.all fun n=>decide (1≤n) && decide (n≤1000000))=false:=by
    rw[List.all_eq_false]
    exact⟨x,yRp hx,by simpa using hn⟩
   rw[yQ,this];simp
  have bs:0≤(i.l.take j).sum∧(i.l.take j).sum≤1000000*j:=by
   have:=kW (l:=i.l.take j) (fun y hy=>by
    obtain⟨k,hk⟩:=yTo.1 hy
    have hkj:k<j:=by
     have:=(yRf.1 hk).1
     rw[yRz]at this;omega
    rw[List.getElem?_take_of_lt hkj]at hk
    have:=hjb k hkj y hk;omega) j
   rwa [List.take_take,Nat.min_self]at this
  refine⟨⟨by omega,by omega⟩,x,elI hx,zI (fun d=>⟨(),bad (by omega),trivial⟩) (fun d=>zI (fun e=>⟨(),bad (by omega),trivial⟩) (fun e=>⟨j+1,?_,wjn (by omega),⟨hj',fun k hk y hy=> ?_⟩,by dsimp only;omega,trivial⟩))⟩
  ·rw[jE hx,w64 (by omega)]
  ·by_cases hkj:k=j
   ·rw[hkj,hx]at hy;cases hy;omega
   ·exact hjb k (by omega) y hy
 ·obtain⟨hj0,hjb⟩:=hj
  have hj':j=i.l.length:=by omega
  subst hj'
  have:(i.l.all fun n=>decide (1≤n) && decide (n≤1000000))=true:=by
   rw[yUd]
   intro y hy
   obtain⟨k,hk⟩:=yTo.1 hy
   have:=hjb k ((yRf.1 hk).1) y hk
   simpa using this
  refine⟨(),?_,trivial⟩
  rw[yQ,this,yRu (by omega:i.l.length≤250),yRu (by omega:0≤i.q),yWa]
  rfl
theorem zBc:rightC.ok Tryz.prog 276:=okw mixed gok0 0 (fun _=>[]) (fun i=>yHe i) [] Tryz.func276 yLl
theorem kO {l:List Int} {q:Int} (h:yQ l q=true):l.length≤250∧0≤q∧(∀x∈l,1≤x∧x≤1000000)∧q≤l.sum:=by
 simp only[yQ,yRq,ySs,yUd]at h
 exact⟨h.1.1.1,h.1.1.2,h.1.2,h.2⟩
theorem zFv {l:List Int} {q:Int} (h:yQ l q=true):q≤250000000:=by
 obtain⟨h1,h2,h3,h4⟩:=kO h
 have:=kW (l:=l) (fun x hx=>by have:=h3 x hx;omega) l.length
 rw[yWa]at this
 omega
theorem pW:∀(l:List Int) (q:Int),(vV l q).length=l.length
 |[],_=>rfl
 |n::l,q=>by rw[vV,yRt,yRt,pW l]
theorem zIr:∀(l:List Int) (q:Int) (j:Nat) (n:Int),l[j]? =some n→(vV l q)[j]? =some (min n (q-((vV l q).take j).sum))
 |[],_,_,_,h=>by simp at h
 |m::l,q,0,n,h=>by simp at h;subst h;simp[vV]
 |m::l,q,j+1,n,h=>by
  rw[ySw]at h
  rw[vV,ySw,zIr l _ j n h,ySp,ySn]
  congr 2;omega
theorem zBx:∀(l:List Int) (q:Int) (j:Nat),0≤q→(∀x∈l,0≤x)→0≤q-((vV l q).take j).sum∧q-((vV l q).take j).sum≤q
 |[],q,j,h,_=>by simp[vV,h]
 |m::l,q,0,h,_=>by simp[h]
 |m::l,q,j+1,h,hb=>by
  have hm:=hb m yRj
  have:=zBx l (q-min m q) j (by omega) (fun x hx=>hb x (yRk _ hx))
  rw[vV,ySp,ySn]
  omega
theorem yMg (i:LqI) (h:fifoC.cnd i):yHd i:=by
 obtain⟨hl,hq⟩:i.l.length≤1000000∧yU i.q:=h
 unfold yHd jH jI dI
 refine⟨i,rfl,rfl,⟨hl,hq⟩,fun _ _=>Cv.cnd.mk (fun c=> ?_) (fun c=> ?_)⟩
 ·have c:yQ i.l i.q=false:=by simpa using c
  refine⟨(),?_,trivial⟩
  rw[uF,yRd (by rw[c];decide)];rfl
 have c:yQ i.l i.q=true:=by simpa using c
 obtain⟨h1,h2,h3,h4⟩:=kO c
 have hq2:=zFv c
 have h3':∀x∈i.l,0≤x:=fun x hx=>by have:=h3 x hx;omega
 simp only[yY]
 refine⟨0,by simp,rfl,rfl,fun j=>j≤i.l.length,fun j=>i.l.length-j,ySr _,fun j hj=>zI (fun d=> ?_) (fun d=> ?_)⟩
 ·have hj':j<i.l.length:=by omega
  obtain⟨x,hx⟩:=yD (l:=i.l) (i:=j) hj'
  have bx:=h3 x (yRp hx)
  have g:=zIr i.l i.q j x hx
  have r:=zBx i.l i.q j h2 h3'
  refine⟨⟨by omega,by omega⟩,x,elI hx,by rw[yRz];omega,j+1,?_,wjn (by omega),?_,hj',by dsimp only;omega,trivial⟩
  ·rw[jE g,w64 (by omega)];omega
  ·rw[ySz,g];simp[iE]
 ·have hj':j=i.l.length:=by omega
  subst hj'
  refine⟨(),?_,trivial⟩
  rw[uF,yRe c,yRw (by rw[pW];omega)]
theorem zYy:fifoC.ok Tryz.prog 251:=okw mixed (gokc zBc gok0) 0 (fun _=>[]) (fun i=>yMw i) [] Tryz.func251 yMg
open Go Cv Go.Proofs
structure Ent where
 slot:Int
 id:Int
 qty:Int
 top:Bool
 deriving DecidableEq
def yOg:Ent:=⟨0,0,0,false⟩
def zFd (e:Ent):List D:=[.v (.int .i64 e.slot),.v (.int .i64 e.id),.v (.int .i64 e.qty),.v (.bool e.top)]
@[reducible] def yPe (e:Ent):V:= .agg [zA e.slot,zA e.id,zA e.qty,yM e.top]
def Slot.ent (s:Slot):Ent:=⟨s.n,s.id,s.qty,s.top⟩
def Arena.slotAt (a:Arena) (k:Nat):Slot:=a.slots.getD k slot0
def Arena.getF (a:Arena) (n:Int):Ent×Bool:=if a.usedAt n=true then((a.slotAt n.toNat).ent,true)else(yOg,false)
def agetC:Con:=con1 ArN (fun i=>[.nm 0 0,zA i.n]) (fun i=>[jD i.a]) (fun i=>i.a.slots.length≤1000000) (fun i=> .tup [yPe (i.a.getF i.n).1,yM (i.a.getF i.n).2]) (fun i=>[jD i.a])
def zTu (sl:List Slot):Int→List Nat→Prop
 |at_,[]=>at_= -1
 |at_,k::l=>at_=k∧k<sl.length∧zTu sl (sl.getD k slot0).back l
structure ArL where
 a:Arena
 n:Int
 l:List Nat
def pG (l:List Nat) (j:Nat):Int:=match l[j]? with
 |some k=>k
 |none=> -1
def Arena.ents (a:Arena) (l:List Nat):List Ent:=l.map fun k=>(a.slotAt k).ent
structure Arena.listOk (a:Arena) (n:Int) (l:List Nat):Prop where
 len:l.length≤1000000
 ch:if 0≤n∧n<a.queues.length then zTu a.slots (a.queues.getD n.toNat cY).first l else l=[]
def alistC:Con:=con1 ArL (fun i=>[.nm 0 0,zA i.n]) (fun i=>[jD i.a]) (fun i=>i.a.listOk i.n i.l) (fun _=> .own 1) (fun i=>[jD i.a,.own 246 4 ((i.a.ents i.l).map zFd)])
def yJx (i:ArL):List SAnn:=[{ι:=Nat,slots:=fun j=>[(5,.own 0),(6,zA (pG i.l j))],rows:=fun j=>[.own 246 4 ((i.a.ents (i.l.take j)).map zFd)]}]
structure TkI where
 a:Arena
 n:Int
 qty:Int
def Arena.dropF (a:Arena) (k:Nat):Arena:=
 let s:=a.slotAt k
 let q:=a.queues.getD s.queue.toNat cY
 let sl1:=if s.ahead= -1 then a.slots else a.slots.modify s.ahead.toNat fun x=>{x with back:=s.back}
 let sl2:=if s.back= -1 then sl1 else sl1.modify s.back.toNat fun x=>{x with ahead:=s.ahead}
 ⟨sl2.set k slot0,a.queues.set s.queue.toNat ⟨if s.ahead= -1 then s.back else q.first,if s.back= -1 then s.ahead else q.last,q.total,IntKind.i64.wrap (q.count-1)⟩,IntKind.i64.wrap (a.free+1)⟩
def Arena.less (a:Arena) (k:Nat) (qty:Int):Arena:=
 {a with slots:=a.slots.modify k fun s=>{s with qty:=s.qty-qty},queues:=a.queues.modify (a.slotAt k).queue.toNat fun q=>{q with total:=IntKind.i64.wrap (q.total-qty)}}
def Arena.takeF (a:Arena) (n qty:Int):Arena×Int:=
 if a.usedAt n=false then(a,26)else if qty<1∨(a.slotAt n.toNat).qty<qty then(a,24)
 else if(a.slotAt n.toNat).qty=qty then((a.less n.toNat qty).dropF n.toNat,0)else(a.less n.toNat qty,0)
def Arena.okAt (a:Arena):Prop:=a.slots.length≤1000000∧∀(k:Nat) (s:Slot),a.slots[k]? =some s→s.used=true→(0≤s.queue∧s.queue<a.queues.length)∧s.qty≤1000000∧(s.ahead= -1∨(0≤s.ahead∧s.ahead<a.slots.length∧s.ahead≠k))∧(s.back= -1∨(0≤s.back∧s.back<a.slots.length∧s.back≠k))
def atakeC:Con:=con1 TkI (fun i=>[.nm 0 0,zA i.n,zA i.qty]) (fun i=>[jD i.a]) (fun i=>i.a.okAt) (fun i=>zA (i.a.takeF i.n i.qty).2) (fun i=>[jD (i.a.takeF i.n i.qty).1])
open Go Cv Go.Proofs
def sG (a:ArN):Prop:=∃(b:Unit),(a.a.getF a.n).fst.slot=0∧(a.a.getF a.n).fst.id=0∧(a.a.getF a.n).fst.qty=0∧(a.a.getF a.n).fst.top=false∧(a.a.getF a.n).snd=false∧kY a
def yGx (i:ArN):Prop:=
 cnd (decide (i.n<0)) (sG i) (cnd (decide (i.n≥(↑(List.map zP i.a.slots).length:Int))) (sG i) ((0≤i.n∧i.n<(↑(List.map zP i.a.slots).length:Int))∧∃(a:Bool),zE (List.map zP i.a.slots) i.n.toNat ((0:Nat)+(0:Nat)) 1=some [D.v (.bool a)]∧cnd (!a) (sG i) ((0≤i.n∧i.n<(↑(List.map zP i.a.slots).length:Int))∧∃(b:Int),∃(c:Int),∃(d:Int),∃(e:Bool),zE (List.map zP i.a.slots) i.n.toNat ((0:Nat)+(1:Nat)) 4=some [dI b,dI c,dI d,D.v (.bool e)]∧∃(f:Unit),(i.a.getF i.n).fst.slot=b∧(i.a.getF i.n).fst.id=c∧(i.a.getF i.n).fst.qty=d∧(i.a.getF i.n).fst.top=e∧(i.a.getF i.n).snd=true∧kY i)))
def eZ (a:ArL):Prop:=∃(b:Unit),a.a.free=a.a.free∧List.map zP a.a.slots=List.map zP a.a.slots∧List.map zN a.a.queues=List.map zN a.a.queues∧List.map zFd (a.a.ents a.l)=[]∧True
def z8v (i:ArL):Prop:=
 cnd (decide (i.n≥0)) (cnd (!decide (i.n<(↑(List.map zN i.a.queues).length:Int))) (eZ i) ((0≤i.n∧i.n<(↑(List.map zN i.a.queues).length:Int))∧∃(a:Int),zE (List.map zN i.a.queues) i.n.toNat ((0:Nat)+(0:Nat)) 1=some [dI a]∧∃(b:Nat),pG i.l b=a∧List.map zFd (i.a.ents (List.take b i.l))=[]∧∃(c:Nat→Prop),∃(d:Nat→Nat),c b∧∀(e:Nat),c e→cnd (pG i.l e !=(-1)) ((0≤pG i.l e∧pG i.l e<(↑(List.map zP i.a.slots).length:Int))∧∃(f:Int),∃(g:Int),∃(h:Int),∃(j:Bool),zE (List.map zP i.a.slots) (pG i.l e).toNat ((0:Nat)+(1:Nat)) 4=some [dI f,dI g,dI h,D.v (.bool j)]∧((List.map zFd (i.a.ents (List.take e i.l))).length+1)*(32:Nat)≤(70368744177664:Nat)∧(0≤pG i.l e∧pG i.l e<(↑(List.map zP i.a.slots).length:Int))∧∃(k:Int),zE (List.map zP i.a.slots) (pG i.l e).toNat ((0:Nat)+(7:Nat)) 1=some [dI k]∧∃(l:Nat),pG i.l l=k∧List.map zFd (i.a.ents (List.take l i.l))=List.map zFd (i.a.ents (List.take e i.l))++[[dI f,dI g,dI h,D.v (.bool j)]]∧c l∧d l<d e∧Sx.AObj.cells (jX (qR 0 1 3) [V.own 1,V.own 2,zA i.a.free]) (350:TypeId)=Sx.AObj.cells (jX (qR 0 1 3) [V.own 1,V.own 2,zA i.a.free]) (350:TypeId)∧AObj.own 305 8 (List.map zP i.a.slots)=AObj.own 305 8 (List.map zP i.a.slots)∧AObj.own 354 4 (List.map zN i.a.queues)=AObj.own 354 4 (List.map zN i.a.queues)) (∃(f:Unit),i.a.free=i.a.free∧List.map zP i.a.slots=List.map zP i.a.slots∧List.map zN i.a.queues=List.map zN i.a.queues∧List.map zFd (i.a.ents i.l)=List.map zFd (i.a.ents (List.take e i.l))∧True))) (eZ i)
def eG (a:TkI):Prop:=(a.a.takeF a.n a.qty).fst.free=a.a.free∧List.map zP (a.a.takeF a.n a.qty).fst.slots=List.map zP a.a.slots∧List.map zN (a.a.takeF a.n a.qty).fst.queues=List.map zN a.a.queues∧True
def m7 (a:TkI):Prop:=∃(b:Unit),(a.a.takeF a.n a.qty).snd=26∧eG a
def tU (a:TkI):Prop:=∃(b:Unit),(a.a.takeF a.n a.qty).snd=24∧eG a
def y8 (a:TkI) (b:Int):=(yC (List.map zP a.a.slots) a.n.toNat ((0:Nat)+(1:Nat)+2) [dI (IntKind.i64.wrap (b-a.qty))])
def jC (a:TkI) (b:Int) (c:Int) (d:Int):=(yC (y8 a b) c.toNat ((0:Nat)+(7:Nat)) [dI d])
def eW (a:TkI) (b:Int) (c:Int) (d:Int) (e:Int) (f:Int):=(yC (jC a b c d) e.toNat ((0:Nat)+(6:Nat)) [dI f])
def jW (a:TkI) (b:Int) (c:Int):=(yC (List.map zN a.a.queues) b.toNat ((0:Nat)+(2:Nat)) [dI (IntKind.i64.wrap (c-a.qty))])
def fB (a:TkI) (b:Int) (c:Int) (d:Int) (e:Int):=(yC (jW a b c) d.toNat ((0:Nat)+(0:Nat)) [dI e])
def a8 (a:TkI) (b:Int) (c:Int) (d:Int) (e:Int) (f:Int):=(yC (fB a b c d e) d.toNat ((0:Nat)+(1:Nat)) [dI f])
def lQ (a:TkI) (b:Int) (c:Int) (d:Int):=(yC (y8 a b) c.toNat ((0:Nat)+(6:Nat)) [dI d])
def eT (a:Int) (b:TkI) (c:Int):Prop:=0≤a∧a<(↑(y8 b c).length:Int)
def mZ (a:TkI) (b:Int) (c:Int) (d:Int) (e:Int):=(yC (jW a b c) d.toNat ((0:Nat)+(1:Nat)) [dI e])
def yAm (i:TkI):Prop:=
 cnd (decide (i.n<0)) (m7 i) (cnd (decide (i.n≥(↑(List.map zP i.a.slots).length:Int))) (m7 i) ((0≤i.n∧i.n<(↑(List.map zP i.a.slots).length:Int))∧∃(a:Bool),zE (List.map zP i.a.slots) i.n.toNat ((0:Nat)+(0:Nat)) 1=some [D.v (.bool a)]∧cnd (!a) (m7 i) ((0≤i.n∧i.n<(↑(List.map zP i.a.slots).length:Int))∧cnd (decide (i.qty<1)) (tU i) (∃(b:Int),zE (List.map zP i.a.slots) i.n.toNat ((0:Nat)+(1:Nat)+2) 1=some [dI b]∧cnd (decide (i.qty>b)) (tU i) (∃(c:Int),zE (List.map zP i.a.slots) i.n.toNat ((0:Nat)+(1:Nat)+2) 1=some [dI c]∧i.n.toNat<(List.map zP i.a.slots).length∧∃(d:Int),zE (y8 i c) i.n.toNat ((0:Nat)+(5:Nat)) 1=some [dI d]∧(0≤d∧d<(↑(List.map zN i.a.queues).length:Int))∧∃(e:Int),zE (List.map zN i.a.queues) d.toNat ((0:Nat)+(2:Nat)) 1=some [dI e]∧(0≤d∧d<(↑(List.map zN i.a.queues).length:Int))∧d.toNat<(List.map zN i.a.queues).length∧∃(f:Int),zE (y8 i c) i.n.toNat ((0:Nat)+(1:Nat)+2) 1=some [dI f]∧cnd (f==0) (∃(g:Int),zE (y8 i c) i.n.toNat ((0:Nat)+(5:Nat)) 1=some [dI g]∧(0≤g∧g<(↑(jW i d e).length:Int))∧∃(h:Int),zE (y8 i c) i.n.toNat ((0:Nat)+(6:Nat)) 1=some [dI h]∧cnd (h==(-1)) (∃(j:Int),zE (y8 i c) i.n.toNat ((0:Nat)+(7:Nat)) 1=some [dI j]∧g.toNat<(jW i d e).length∧∃(k:Int),zE (y8 i c) i.n.toNat ((0:Nat)+(7:Nat)) 1=some [dI k]∧cnd (k==(-1)) (∃(l:Int),zE (y8 i c) i.n.toNat ((0:Nat)+(6:Nat)) 1=some [dI l]∧g.toNat<(fB i d e g j).length∧∃(m:Int),zE (a8 i d e g j l) g.toNat ((0:Nat)+(3:Nat)) 1=some [dI m]∧g.toNat<(a8 i d e g j l).length∧i.n.toNat<(y8 i c).length∧∃(n:Unit),(i.a.takeF i.n i.qty).snd=0∧(i.a.takeF i.n i.qty).fst.free=IntKind.i64.wrap (i.a.free+1)∧List.map zP (i.a.takeF i.n i.qty).fst.slots=yC (y8 i c) i.n.toNat 0 [D.v (.bool false),dI 0,dI 0,dI 0,D.v (.bool false),dI 0,dI 0,dI 0]∧List.map zN (i.a.takeF i.n i.qty).fst.queues=yC (a8 i d e g j l) g.toNat ((0:Nat)+(3:Nat)) [dI (IntKind.i64.wrap (m-1))]∧True) (∃(l:Int),zE (y8 i c) i.n.toNat ((0:Nat)+(7:Nat)) 1=some [dI l]∧∃(m:Int),zE (y8 i c) i.n.toNat ((0:Nat)+(6:Nat)) 1=some [dI m]∧(eT l i c)∧l.toNat<(y8 i c).length∧∃(n:Int),zE (fB i d e g j) g.toNat ((0:Nat)+(3:Nat)) 1=some [dI n]∧g.toNat<(fB i d e g j).length∧i.n.toNat<(lQ i c l m).length∧∃(p:Unit),(i.a.takeF i.n i.qty).snd=0∧(i.a.takeF i.n i.qty).fst.free=IntKind.i64.wrap (i.a.free+1)∧List.map zP (i.a.takeF i.n i.qty).fst.slots=yC (lQ i c l m) i.n.toNat 0 [D.v (.bool false),dI 0,dI 0,dI 0,D.v (.bool false),dI 0,dI 0,dI 0]∧List.map zN (i.a.takeF i.n i.qty).fst.queues=yC (fB i d e g j) g.toNat ((0:Nat)+(3:Nat)) [dI (IntKind.i64.wrap (n-1))]∧True)) (∃(j:Int),zE (y8 i c) i.n.toNat ((0:Nat)+(6:Nat)) 1=some [dI j]∧∃(k:Int),zE (y8 i c) i.n.toNat ((0:Nat)+(7:Nat)) 1=some [dI k]∧(eT j i c)∧j.toNat<(y8 i c).length∧∃(l:Int),zE (jC i c j k) i.n.toNat ((0:Nat)+(7:Nat)) 1=some [dI l]∧cnd (l==(-1)) (∃(m:Int),zE (jC i c j k) i.n.toNat ((0:Nat)+(6:Nat)) 1=some [dI m]∧g.toNat<(jW i d e).length∧∃(n:Int),zE (mZ i d e g m) g.toNat ((0:Nat)+(3:Nat)) 1=some [dI n]∧g.toNat<(mZ i d e g m).length∧i.n.toNat<(jC i c j k).length∧∃(p:Unit),(i.a.takeF i.n i.qty).snd=0∧(i.a.takeF i.n i.qty).fst.free=IntKind.i64.wrap (i.a.free+1)∧List.map zP (i.a.takeF i.n i.qty).fst.slots=yC (jC i c j k) i.n.toNat 0 [D.v (.bool false),dI 0,dI 0,dI 0,D.v (.bool false),dI 0,dI 0,dI 0]∧List.map zN (i.a.takeF i.n i.qty).fst.queues=yC (mZ i d e g m) g.toNat ((0:Nat)+(3:Nat)) [dI (IntKind.i64.wrap (n-1))]∧True) (∃(m:Int),zE (jC i c j k) i.n.toNat ((0:Nat)+(7:Nat)) 1=some [dI m]∧∃(n:Int),zE (jC i c j k) i.n.toNat ((0:Nat)+(6:Nat)) 1=some [dI n]∧(0≤m∧m<(↑(jC i c j k).length:Int))∧m.toNat<(jC i c j k).length∧∃(p:Int),zE (jW i d e) g.toNat ((0:Nat)+(3:Nat)) 1=some [dI p]∧g.toNat<(jW i d e).length∧i.n.toNat<(eW i c j k m n).length∧∃(q:Unit),(i.a.takeF i.n i.qty).snd=0∧(i.a.takeF i.n i.qty).fst.free=IntKind.i64.wrap (i.a.free+1)∧List.map zP (i.a.takeF i.n i.qty).fst.slots=yC (eW i c j k m n) i.n.toNat 0 [D.v (.bool false),dI 0,dI 0,dI 0,D.v (.bool false),dI 0,dI 0,dI 0]∧List.map zN (i.a.takeF i.n i.qty).fst.queues=yC (jW i d e) g.toNat ((0:Nat)+(3:Nat)) [dI (IntKind.i64.wrap (p-1))]∧True))) (∃(g:Unit),(i.a.takeF i.n i.qty).snd=0∧(i.a.takeF i.n i.qty).fst.free=i.a.free∧List.map zP (i.a.takeF i.n i.qty).fst.slots=yC (List.map zP i.a.slots) i.n.toNat ((0:Nat)+(1:Nat)+2) [dI (IntKind.i64.wrap (c-i.qty))]∧List.map zN (i.a.takeF i.n i.qty).fst.queues=yC (List.map zN i.a.queues) d.toNat ((0:Nat)+(2:Nat)) [dI (IntKind.i64.wrap (e-i.qty))]∧True))))))
open Go Cv Go.Proofs
theorem zFn {a:Arena} {n:Int} (h:n<0∨(a.slots.length:Int)≤n):a.usedAt n=false:=by
 rcases h with h|h
 ·rw[Arena.usedAt,yRo (by omega),yUh]
 ·rw[Arena.usedAt,yRo (show ¬n<(a.slots.length:Int)by omega),yUh,yVy]
theorem zYv {a:Arena} {n:Int} {s:Slot} (h0:0≤n) (hs:a.slots[n.toNat]? =some s):a.usedAt n=s.used:=by
 have hl:=(yRf.1 hs).1
 rw[Arena.usedAt,yRu h0,yRu (show n<(a.slots.length:Int)by omega),zR hs];simp
theorem xH {a:Arena} {k:Nat} {s:Slot} (hs:a.slots[k]? =some s):a.slotAt k=s:=zR hs
theorem yOf (i:ArN) (h:agetC.cnd i):yGx i:=by
 have h:i.a.slots.length≤1000000:=h
 unfold yGx sG kY dI
 simp only[yRg]
 have no (e:i.a.usedAt i.n=false):i.a.getF i.n=(yOg,false):=by rw[Arena.getF,yRd (by rw[e];decide)]
 refine zI (fun c=> ?_) (fun c=>zI (fun d=> ?_) (fun d=> ?_))
 ·rw[no (zFn (.inl c))];(repeat'(first|exact rfl|exact trivial|assumption|apply And.intro|refine fun(_:Unit) (_:True)=>?_|refine Exists.intro () ?_|omega|(dsimp only;omega)))
 ·rw[no (zFn (.inr (by omega)))];(repeat'(first|exact rfl|exact trivial|assumption|apply And.intro|refine fun(_:Unit) (_:True)=>?_|refine Exists.intro () ?_|omega|(dsimp only;omega)))
 ·obtain⟨s,hs⟩:=yD (l:=i.a.slots) (i:=i.n.toNat) (by omega)
  have eu:=zYv (a:=i.a) (n:=i.n) (by omega) hs
  refine⟨⟨by omega,by omega⟩,s.used,elA hs (by simp[zP]) rfl,Cv.cnd.mk (fun u=> ?_) (fun u=> ?_)⟩
  ·rw[no (by rw[eu];simpa using u)];(repeat'(first|exact rfl|exact trivial|assumption|apply And.intro|refine fun(_:Unit) (_:True)=>?_|refine Exists.intro () ?_|omega|(dsimp only;omega)))
  ·have e:i.a.usedAt i.n=true:=by rw[eu];simpa using u
   have et:i.a.getF i.n=(s.ent,true):=by rw[Arena.getF,yRe e,xH hs]
   rw[et]
   refine⟨⟨by omega,by omega⟩,s.n,s.id,s.qty,s.top,elA hs (by simp[zP]) rfl,?_⟩
   (repeat'(first|exact rfl|exact trivial|assumption|apply And.intro|refine fun(_:Unit) (_:True)=>?_|refine Exists.intro () ?_|omega|(dsimp only;omega)))
theorem zYh:agetC.ok Tryz.prog 148:=okw mixed gok0 1 (fun _=>[]) (fun _=>[]) [0] Tryz.func148 yOf
theorem zMt:∀{sl:List Slot} {at_:Int} {l:List Nat},zTu sl at_ l→pG l 0=at_∧∀j k,l[j]? =some k→k<sl.length∧pG l (j+1)=(sl.getD k slot0).back
 |sl,at_,[],h=>⟨h.symm,fun j k hk=>by simp at hk⟩
 |sl,at_,x::l,h=>by
  obtain⟨h1,h2,h3⟩:=h
  have ih:=zMt h3
  refine⟨h1.symm,fun j k hk=> ?_⟩
  cases j with
  |zero=>
   simp at hk;subst hk
   exact⟨h2,by rw[← ih.1];rfl⟩
  |succ j=>
   rw[ySw]at hk
   obtain⟨a,b⟩:=ih.2 j k hk
   exact⟨a,by rw[← b];rfl⟩
theorem yHw (i:ArL) (h:alistC.cnd i):z8v i:=by
 obtain⟨hl,h⟩:i.l.length≤1000000∧(if 0≤i.n∧i.n<i.a.queues.length then zTu i.a.slots (i.a.queues.getD i.n.toNat cY).first i.l else i.l=[]):=⟨h.len,h.ch⟩
 unfold z8v eZ dI
 simp only[yRg]
 have out (e:¬(0≤i.n∧i.n<(i.a.queues.length:Int))):i.l=[]:=by rw[yRd e]at h;exact h
 refine zI (fun c=>Cv.cnd.mk (fun d=> ?_) (fun d=> ?_)) (fun c=> ?_)
 ·have d:¬i.n<(i.a.queues.length:Int):=by simpa using d
  rw[out (by omega)];(repeat'(first|exact rfl|exact trivial|assumption|apply And.intro|refine fun(_:Unit) (_:True)=>?_|refine Exists.intro () ?_|omega|(dsimp only;omega)))
 ·have d:i.n<(i.a.queues.length:Int):=by simpa using d
  rw[yRe ⟨by omega,d⟩]at h
  obtain⟨q,hq⟩:=yD (l:=i.a.queues) (i:=i.n.toNat) (by omega)
  rw[zR hq]at h
  obtain⟨n0,nx⟩:=zMt h
  refine⟨⟨by omega,by omega⟩,q.first,elA hq (by simp[zN]) rfl,0,n0,rfl,fun j=>j≤i.l.length,fun j=>i.l.length-j,ySr _,fun j hj=>Cv.cnd.mk (fun e=> ?_) (fun e=> ?_)⟩
  ·have e:pG i.l j≠-1:=by simpa using e
   obtain⟨k,hk⟩:∃k,i.l[j]? =some k:=by
    cases hk:i.l[j]? with
    |none=>rw[pG,hk]at e;exact absurd rfl e
    |some k=>exact⟨k,rfl⟩
   have hjl:=(yRf.1 hk).1
   obtain⟨hkl,hnx⟩:=nx j k hk
   have en:pG i.l j=k:=by rw[pG,hk]
   obtain⟨s,hs⟩:=yD (l:=i.a.slots) (i:=k) hkl
   rw[en,yRx]
   refine⟨⟨by omega,by omega⟩,s.n,s.id,s.qty,s.top,elA hs (by simp[zP]) rfl,?_,⟨by omega,by omega⟩,s.back,elA hs (by simp[zP]) rfl,j+1,by rw[hnx,zR hs],?_,hjl,by dsimp only;omega,by(repeat'(first|exact trivial|exact rfl|apply And.intro))⟩
   ·simp only[Arena.ents,yRg,yRz];omega
   ·rw[ySz,hk]
    simp only[Arena.ents,Option.toList,yRm,yRs,yUr,xH hs]
    rfl
  ·have e:pG i.l j= -1:=by simpa using e
   have hj':i.l.length≤j:=by
    apply Classical.byContradiction
    intro hn
    obtain⟨k,hk⟩:=yD (l:=i.l) (i:=j) (by omega)
    rw[pG,hk]at e
    simp only at e;omega
   rw[yRw hj']
   (repeat'(first|exact rfl|exact trivial|assumption|apply And.intro|refine fun(_:Unit) (_:True)=>?_|refine Exists.intro () ?_|omega|(dsimp only;omega)))
 ·rw[out (by omega)];(repeat'(first|exact rfl|exact trivial|assumption|apply And.intro|refine fun(_:Unit) (_:True)=>?_|refine Exists.intro () ?_|omega|(dsimp only;omega)))
theorem yBi:alistC.ok Tryz.prog 275:=okw mixed gok0 1 (fun _=>[]) (fun i=>yJx i) [0] Tryz.func275 yHw
theorem zXz {α:Type} {l:List α} {i k:Nat} {x y:α} (h:i≠k) (hk:l[k]? =some x):(l.set i y)[k]? =some x:=by
 rw[List.getElem?_set_ne h];exact hk
theorem yId (i:TkI) (h:atakeC.cnd i):yAm i:=by
 obtain⟨hl,hok⟩:i.a.okAt:=h
 unfold yAm mZ eT lQ a8 fB jW eW jC y8 tU m7 eG dI
 simp only[yRg]
 have no (e:i.a.usedAt i.n=false):i.a.takeF i.n i.qty=(i.a,26):=by rw[Arena.takeF,yRe e]
 refine zI (fun c=> ?_) (fun c=>zI (fun d=> ?_) (fun d=> ?_))
 ·rw[no (zFn (.inl c))];(repeat'(first|exact rfl|exact trivial|assumption|apply And.intro|refine fun(_:Unit) (_:True)=>?_|refine Exists.intro () ?_|omega|(dsimp only;omega)))
 ·rw[no (zFn (.inr (by omega)))];(repeat'(first|exact rfl|exact trivial|assumption|apply And.intro|refine fun(_:Unit) (_:True)=>?_|refine Exists.intro () ?_|omega|(dsimp only;omega)))
 obtain⟨k,hk⟩:∃k,k=i.n.toNat:=⟨_,rfl⟩
 rw[← hk]
 obtain⟨s,hs⟩:=yD (l:=i.a.slots) (i:=k) (by omega)
 have hs':i.a.slots[i.n.toNat]? =some s:=by rw[← hk];exact hs
 have eu:=zYv (a:=i.a) (n:=i.n) (by omega) hs'
 refine⟨⟨by omega,by omega⟩,s.used,elA hs (by simp[zP]) rfl,Cv.cnd.mk (fun u=> ?_) (fun u=> ?_)⟩
 ·rw[no (by rw[eu];simpa using u)];(repeat'(first|exact rfl|exact trivial|assumption|apply And.intro|refine fun(_:Unit) (_:True)=>?_|refine Exists.intro () ?_|omega|(dsimp only;omega)))
 have u:s.used=true:=by simpa using u
 have e:¬i.a.usedAt i.n=false:=by rw[eu,u];decide
 obtain⟨⟨q0,q1⟩,sq,sa,sb⟩:=hok k s hs u
 have esl:i.a.slotAt i.n.toNat=s:=xH hs'
 have bad (hq:i.qty<1∨s.qty<i.qty):i.a.takeF i.n i.qty=(i.a,24):=by rw[Arena.takeF,yRd e,esl,yRe hq]
 refine⟨⟨by omega,by omega⟩,zI (fun c1=>by rw[bad (.inl c1)];(repeat'(first|exact rfl|exact trivial|assumption|apply And.intro|refine fun(_:Unit) (_:True)=>?_|refine Exists.intro () ?_|omega|(dsimp only;omega)))) (fun c1=>⟨s.qty,elA hs (by simp[zP]) rfl,zI (fun c2=>by rw[bad (.inr (by omega))];(repeat'(first|exact rfl|exact trivial|assumption|apply And.intro|refine fun(_:Unit) (_:True)=>?_|refine Exists.intro () ?_|omega|(dsimp only;omega)))) (fun c2=>⟨s.qty,elA hs (by simp[zP]) rfl,by omega,?_⟩)⟩)⟩
 obtain⟨q,hq⟩:=yD (l:=i.a.queues) (i:=s.queue.toNat) (by omega)
 have hs1:(i.a.slots.set k {s with qty:=s.qty-i.qty})[k]? =some {s with qty:=s.qty-i.qty}:=vM hs
 have hq1:(i.a.queues.set s.queue.toNat {q with total:=IntKind.i64.wrap (q.total-i.qty)})[s.queue.toNat]? =some {q with total:=IntKind.i64.wrap (q.total-i.qty)}:=vM hq
 have hle:i.a.less i.n.toNat i.qty=⟨i.a.slots.set k {s with qty:=s.qty-i.qty},i.a.queues.set s.queue.toNat {q with total:=IntKind.i64.wrap (q.total-i.qty)},i.a.free⟩:=by
  rw[Arena.less,esl,fM hs',fM hq,hk]
 have hL:(i.a.slots.set k {s with qty:=s.qty-i.qty}).length=i.a.slots.length:=ySj
 have hQ:(i.a.queues.set s.queue.toNat {q with total:=IntKind.i64.wrap (q.total-i.qty)}).length=i.a.queues.length:=ySj
 have tk:i.a.takeF i.n i.qty=if s.qty=i.qty then((i.a.less i.n.toNat i.qty).dropF i.n.toNat,0)else(i.a.less i.n.toNat i.qty,0):=by rw[Arena.takeF,yRd e,esl,yRd (by omega)]
 rw[hle,← hk]at tk
 rw[w64 (x:=s.qty-i.qty) (by omega),yE hs (y:={s with qty:=s.qty-i.qty}) rfl]
 refine⟨s.queue,elA hs1 (by simp[zP]) rfl,⟨q0,q1⟩,q.total,elA hq (by simp[zN]) rfl,⟨q0,q1⟩,by omega,s.qty-i.qty,elA hs1 (by simp[zP]) rfl,?_⟩
 rw[yE hq (y:={q with total:=IntKind.i64.wrap (q.total-i.qty)}) rfl]
 simp only[yRg]
 generalize hL1:i.a.slots.set k {s with qty:=s.qty-i.qty}=L1 at*
 generalize hQ1:i.a.queues.set s.queue.toNat {q with total:=IntKind.i64.wrap (q.total-i.qty)}=Q1 at*
 refine Cv.cnd.mk (fun z=> ?_) (fun z=> ?_)
 ·have z:s.qty=i.qty:=by have:s.qty-i.qty=0:=by simpa using z
                         omega
  rw[yRe z]at tk
  have esl1:(⟨L1,Q1,i.a.free⟩:Arena).slotAt k={s with qty:=s.qty-i.qty}:=xH hs1
  have eq1:Q1.getD s.queue.toNat cY={q with total:=IntKind.i64.wrap (q.total-i.qty)}:=zR hq1
  rw[Arena.dropF,esl1]at tk
  dsimp only at tk
  rw[eq1]at tk
  dsimp only at tk
  rw[tk]
  refine⟨s.queue,elA hs1 (by simp[zP]) rfl,⟨q0,by omega⟩,s.ahead,elA hs1 (by simp[zP]) rfl,Cv.cnd.mk (fun ea=> ?_) (fun ea=> ?_)⟩
  ·have ea:s.ahead= -1:=by simpa using ea
   refine⟨s.back,elA hs1 (by simp[zP]) rfl,by omega,s.back,elA hs1 (by simp[zP]) rfl,?_⟩
   rw[yE hq1 (y:=⟨s.back,q.last,IntKind.i64.wrap (q.total-i.qty),q.count⟩) rfl]
   have hq2:(Q1.set s.queue.toNat ⟨s.back,q.last,IntKind.i64.wrap (q.total-i.qty),q.count⟩)[s.queue.toNat]? =some ⟨s.back,q.last,IntKind.i64.wrap (q.total-i.qty),q.count⟩:=vM hq1
   simp only[yRg,ySj]
   refine Cv.cnd.mk (fun eb=> ?_) (fun eb=> ?_)
   ·have eb:s.back= -1:=by simpa using eb
    refine⟨s.ahead,elA hs1 (by simp[zP]) rfl,by omega,q.count,?_,?_⟩
    ·rw[yE hq2 (y:=⟨s.back,s.ahead,IntKind.i64.wrap (q.total-i.qty),q.count⟩) rfl]
     exact elA (vM hq2) (by simp[zN]) rfl
    rw[yE hq2 (y:=⟨s.back,s.ahead,IntKind.i64.wrap (q.total-i.qty),q.count⟩) rfl,yE (vM hq2) (y:=⟨s.back,s.ahead,IntKind.i64.wrap (q.total-i.qty),IntKind.i64.wrap (q.count-1)⟩) rfl,yE hs1 (y:=slot0) rfl]
    simp only[yRg,ySj,yVd,yRe ea,yRe eb]
    refine⟨by omega,by omega,(),by(first|exact rfl|exact trivial),by(first|exact rfl|exact trivial),by(first|exact rfl|exact trivial),by(first|exact rfl|exact trivial),trivial⟩
   ·have eb:s.back≠-1:=by simpa using eb
    obtain⟨b0,b1,b2⟩:0≤s.back∧s.back<i.a.slots.length∧s.back≠k:=by omega
    obtain⟨x,hx⟩:=yD (l:=L1) (i:=s.back.toNat) (by omega)
    refine⟨s.back,elA hs1 (by simp[zP]) rfl,s.ahead,elA hs1 (by simp[zP]) rfl,⟨b0,by omega⟩,by omega,q.count,elA hq2 (by simp[zN]) rfl,?_⟩
    rw[yE hx (y:={x with ahead:=s.ahead}) rfl,yE hq2 (y:=⟨s.back,q.last,IntKind.i64.wrap (q.total-i.qty),IntKind.i64.wrap (q.count-1)⟩) rfl,yE (zXz (by omega) hs1) (y:=slot0) rfl]
    simp only[yRg,ySj,yVd,yRe ea,yRd eb,fM hx]
    refine⟨by omega,by omega,(),by(first|exact rfl|exact trivial),by(first|exact rfl|exact trivial),by(first|exact rfl|exact trivial),by(first|exact rfl|exact trivial),trivial⟩
  ·have ea:s.ahead≠-1:=by simpa using ea
   obtain⟨a0,a1,a2⟩:0≤s.ahead∧s.ahead<i.a.slots.length∧s.ahead≠k:=by omega
   obtain⟨x,hx⟩:=yD (l:=L1) (i:=s.ahead.toNat) (by omega)
   have hs2:(L1.set s.ahead.toNat {x with back:=s.back})[k]? =some {s with qty:=s.qty-i.qty}:=zXz (by omega) hs1
   refine⟨s.ahead,elA hs1 (by simp[zP]) rfl,s.back,elA hs1 (by simp[zP]) rfl,⟨a0,by omega⟩,by omega,s.back,?_,?_⟩
   ·rw[yE hx (y:={x with back:=s.back}) rfl]
    exact elA hs2 (by simp[zP]) rfl
   rw[yE hx (y:={x with back:=s.back}) rfl]
   simp only[yRg,ySj]
   refine Cv.cnd.mk (fun eb=> ?_) (fun eb=> ?_)
   ·have eb:s.back= -1:=by simpa using eb
    refine⟨s.ahead,elA hs2 (by simp[zP]) rfl,by omega,q.count,?_,?_⟩
    ·rw[yE hq1 (y:=⟨q.first,s.ahead,IntKind.i64.wrap (q.total-i.qty),q.count⟩) rfl]
     exact elA (vM hq1) (by simp[zN]) rfl
    rw[yE hq1 (y:=⟨q.first,s.ahead,IntKind.i64.wrap (q.total-i.qty),q.count⟩) rfl,yE (vM hq1) (y:=⟨q.first,s.ahead,IntKind.i64.wrap (q.total-i.qty),IntKind.i64.wrap (q.count-1)⟩) rfl,yE hs2 (y:=slot0) rfl]
    simp only[yRg,ySj,yVd,yRd ea,yRe eb,fM hx]
    refine⟨by omega,by omega,(),by(first|exact rfl|exact trivial),by(first|exact rfl|exact trivial),by(first|exact rfl|exact trivial),by(first|exact rfl|exact trivial),trivial⟩
   ·have eb:s.back≠-1:=by simpa using eb
    obtain⟨b0,b1,b2⟩:0≤s.back∧s.back<i.a.slots.length∧s.back≠k:=by omega
    obtain⟨y,hy⟩:=yD (l:=L1.set s.ahead.toNat {x with back:=s.back}) (i:=s.back.toNat) (by rw[ySj];omega)
    refine⟨s.back,elA hs2 (by simp[zP]) rfl,s.ahead,elA hs2 (by simp[zP]) rfl,⟨b0,by omega⟩,by omega,q.count,elA hq1 (by simp[zN]) rfl,?_⟩
    rw[yE hy (y:={y with ahead:=s.ahead}) rfl,yE hq1 (y:=⟨q.first,q.last,IntKind.i64.wrap (q.total-i.qty),IntKind.i64.wrap (q.count-1)⟩) rfl,yE (zXz (by omega) hs2) (y:=slot0) rfl]
    simp only[yRg,ySj,yVd,yRd ea,yRd eb,fM hx,fM hy]
    refine⟨by omega,by omega,(),by(first|exact rfl|exact trivial),by(first|exact rfl|exact trivial),by(first|exact rfl|exact trivial),by(first|exact rfl|exact trivial),trivial⟩
 ·have z:¬s.qty=i.qty:=by have:¬s.qty-i.qty=0:=by simpa using z
                          omega
  rw[yRd z]at tk
  rw[tk]
  exact⟨(),rfl,rfl,rfl,rfl,trivial⟩
theorem z8w:atakeC.ok Tryz.prog 195:=okw mixed gok0 1 (fun _=>[]) (fun _=>[]) [0] Tryz.func195 yId
open Go Cv Go.Proofs
structure PlI where
 l:List Int
 least:Int
 q:Int
def zVq (l:List Int) (least q:Int):List Int:=l.map fun k=>if least≤k*q / l.sum then k*q / l.sum else 0
def jP:List (Int×Int)→Int→List Int
 |[],_=>[]
 |(n,x)::r,q=>(x+min (n-x) q)::jP r (q-min (n-x) q)
def PlI.p0 (i:PlI):List Int:=zVq i.l i.least i.q
def PlI.p1 (i:PlI):List Int:=jP (i.l.zip i.p0) (i.q-i.p0.sum)
def kH (i:PlI):List Int:=if yQ i.l i.q=true∧1≤i.least then i.p1 else[]
def plainC:Con:=con1 PlI (fun i=>[iV i.l,zA i.least,zA i.q]) (fun _=>[]) (fun i=>i.l.length≤1000000∧yU i.q∧yU i.least) (fun _=> .own 0) (fun i=>[.own 2 1 (iE (kH i))])
def yIo (i:PlI):List SAnn:=[
 {ι:=Nat,slots:=fun j=>[(9,.own 0),(36,zA j)],rows:=fun j=>[.own 2 1 (iE (i.p0.take j++List.replicate (i.l.length-j) 0))]},
 {ι:=Nat,slots:=fun j=>[(2,zA (i.q-(i.p0.take j).sum)),(58,zA j)],rows:=fun _=>[]},
 {ι:=Nat,slots:=fun j=>[(9,.own 0),(2,zA (i.q-i.p0.sum+(i.p0.take j).sum-(i.p1.take j).sum)),(68,zA j)],rows:=fun j=>[.own 2 1 (iE (i.p1.take j++i.p0.drop j))]}]
open Go Cv Go.Proofs
def gX (a:Nat) (b:PlI):=(iE (List.take a b.p1++List.drop a b.p0))
def nS (a:Nat) (b:PlI):Prop:=0≤(↑a:Int)∧(↑a:Int)<(↑(gX a b).length:Int)
def uP (a:Nat) (b:PlI):=(List.take a b.p0++List.replicate (b.l.length-a) 0)
def uS (a:Nat) (b:PlI):=(iE (uP a b))
def cQ (a:Nat) (b:PlI):=(↑(uS a b).length:Int)
def z7r (i:PlI):Prop:=
 ∃(a:LqI),iE a.l=iE i.l∧a.q=i.q∧(jI a)∧∀(b:Unit),True→cnd (!yQ a.l a.q) (∃(c:Unit),iE (kH i)=[]∧True) (cnd (decide (i.least<1)) (∃(c:Unit),iE (kH i)=[]∧True) (∃(c:List Int),iE c=iE i.l∧(c.length≤1000∧∀(d:Int),d∈c→0≤d∧d≤1000000)∧∀(d:Unit),True→(0≤(↑(iE i.l).length:Int)∧(↑(iE i.l).length:Int)≤(↑(iE i.l).length:Int)∧(↑(iE i.l).length:Int)≤9223372036854775807∧(↑(8:Nat):Int)*(↑(iE i.l).length:Int)≤2 ^ (48:Nat))∧∃(e:Nat),(↑e:Int)=0∧iE (uP e i)=List.replicate (↑(iE i.l).length:Int).toNat [dI 0]∧∃(f:Nat→Prop),∃(g:Nat→Nat),f e∧∀(h:Nat),f h→cnd (decide ((↑h:Int)<(↑(iE i.l).length:Int))) ((0≤(↑h:Int)∧(↑h:Int)<(↑(iE i.l).length:Int))∧∃(j:Int),zE (iE i.l) (↑h:Int).toNat 0 1=some [dI j]∧∃(k:ShI),k.a=j∧k.b=i.q∧k.c=c.sum∧(0≤k.a∧k.a≤(2000000000:Int)∧(0:Int)≤k.b∧k.b≤(2000000000:Int)∧(1:Int)≤k.c∧k.c≤2000000000)∧∀(l:Unit),True→cnd (decide (k.a*k.b / k.c≥i.least)) ((0≤(↑h:Int)∧(↑h:Int)<(cQ h i))∧(↑h:Int).toNat<(uS h i).length∧∃(m:Nat),(↑m:Int)=IntKind.i64.wrap ((↑h:Int)+1)∧iE (uP m i)=yC (uS h i) (↑h:Int).toNat 0 [dI (k.a*k.b / k.c)]∧f m∧g m<g h∧True) (∃(m:Nat),(↑m:Int)=IntKind.i64.wrap ((↑h:Int)+1)∧iE (uP m i)=iE (uP h i)∧f m∧g m<g h∧True)) (∃(j:Nat),i.q-(List.take j i.p0).sum=i.q∧(↑j:Int)=0∧∃(k:Nat→Prop),∃(l:Nat→Nat),k j∧∀(m:Nat),k m→cnd (decide ((↑m:Int)<(cQ h i))) ((0≤(↑m:Int)∧(↑m:Int)<(cQ h i))∧∃(n:Int),zE (uS h i) (↑m:Int).toNat 0 1=some [dI n]∧∃(p:Nat),i.q-(List.take p i.p0).sum=IntKind.i64.wrap (i.q-(List.take m i.p0).sum-n)∧(↑p:Int)=IntKind.i64.wrap ((↑m:Int)+1)∧k p∧l p<l m∧AObj.own 2 1 (uS h i)=AObj.own 2 1 (uS h i)) (∃(n:Nat),i.q-i.p0.sum+(List.take n i.p0).sum-(List.take n i.p1).sum=i.q-(List.take m i.p0).sum∧(↑n:Int)=0∧iE (List.take n i.p1++List.drop n i.p0)=iE (uP h i)∧∃(p:Nat→Prop),∃(q:Nat→Nat),p n∧∀(r:Nat),p r→cnd (decide ((↑r:Int)<(cQ h i))) ((0≤(↑r:Int)∧(↑r:Int)<(↑(iE i.l).length:Int))∧∃(s:Int),zE (iE i.l) (↑r:Int).toNat 0 1=some [dI s]∧(nS r i)∧∃(t:Int),zE (gX r i) (↑r:Int).toNat 0 1=some [dI t]∧(nS r i)∧∃(u:Int),zE (gX r i) (↑r:Int).toNat 0 1=some [dI u]∧(nS r i)∧(↑r:Int).toNat<(gX r i).length∧∃(v:Nat),i.q-i.p0.sum+(List.take v i.p0).sum-(List.take v i.p1).sum=IntKind.i64.wrap (i.q-i.p0.sum+(List.take r i.p0).sum-(List.take r i.p1).sum-min (IntKind.i64.wrap (s-t)) (i.q-i.p0.sum+(List.take r i.p0).sum-(List.take r i.p1).sum))∧(↑v:Int)=IntKind.i64.wrap ((↑r:Int)+1)∧iE (List.take v i.p1++List.drop v i.p0)=yC (gX r i) (↑r:Int).toNat 0 [dI (IntKind.i64.wrap (u+min (IntKind.i64.wrap (s-t)) (i.q-i.p0.sum+(List.take r i.p0).sum-(List.take r i.p1).sum)))]∧p v∧q v<q r∧True) (∃(s:Unit),iE (kH i)=iE (List.take r i.p1++List.drop r i.p0)∧True)))))
open Go Cv Go.Proofs
theorem lK:∀(z:List (Int×Int)) (q:Int),(jP z q).length=z.length
 |[],_=>rfl
 |(n,x)::z,q=>by rw[jP,yRt,yRt,lK z]
theorem zHq:∀(z:List (Int×Int)) (q:Int) (j:Nat) (n x:Int),z[j]? =some (n,x)→(jP z q)[j]? =some (x+min (n-x) (q+((z.map (·.2)).take j).sum-((jP z q).take j).sum))
 |[],_,_,_,_,h=>by simp at h
 |(m,y)::z,q,0,n,x,h=>by simp at h;obtain⟨rfl,rfl⟩:=h;simp[jP]
 |(m,y)::z,q,j+1,n,x,h=>by
  rw[ySw]at h
  rw[jP,ySw,zHq z _ j n x h,ySp,ySn,yRs,ySp,ySn]
  congr 3;dsimp only;omega
theorem zEj:∀(z:List (Int×Int)) (q:Int) (j:Nat),0≤q→(∀y∈z,y.2≤y.1)→0≤q+((z.map (·.2)).take j).sum-((jP z q).take j).sum∧q+((z.map (·.2)).take j).sum-((jP z q).take j).sum≤q
 |[],q,j,h,_=>by simp[jP,h]
 |(m,y)::z,q,0,h,_=>by simp[h]
 |(m,y)::z,q,j+1,h,hb=>by
  have hm:=hb (m,y) yRj
  have:=zEj z (q-min (m-y) q) j (by dsimp only at hm;omega) (fun x hx=>hb x (yRk _ hx))
  rw[jP,ySp,ySn,yRs,ySp,ySn]
  dsimp only at hm ⊢
  omega
theorem z6c {k q S:Int} (hk:0≤k) (hq:0≤q) (hS:1≤S) (hqS:q≤S):0≤k*q / S∧k*q / S≤k:=by
 refine⟨Int.ediv_nonneg (yXb hk hq) (by omega),?_⟩
 have:k*q≤k*S:=yVq hqS hk
 exact Int.ediv_le_of_le_mul (by omega) this
theorem zKy {q S least:Int} (hq:0≤q) (hS:1≤S):∀(l:List Int),(∀x∈l,0≤x)→S*(l.map fun k=>if least≤k*q / S then k*q / S else 0).sum≤q*l.sum
 |[],_=>by simp
 |k::l,h=>by
  have ih:=zKy (least:=least) hq hS l (fun x hx=>h x (yRk _ hx))
  have hk:=h k yRj
  rw[yRs,ySn,ySn,Int.mul_add,Int.mul_add]
  have h1:S*(k*q / S)≤k*q:=by
   have:=Int.mul_ediv_add_emod (k*q) S
   have:=Int.emod_nonneg (k*q) (show S≠0 by omega)
   omega
  have h2:0≤k*q:=yXb hk hq
  have h3:S*(if least≤k*q / S then k*q / S else 0)≤q*k:=by
   rw[yVc q k]
   split
   ·exact h1
   ·simpa using h2
  omega
theorem z7d {i:PlI} {j:Nat} {n:Int} (h:i.l[j]? =some n):i.p0[j]? =some (if i.least≤n*i.q / i.l.sum then n*i.q / i.l.sum else 0):=by
 rw[PlI.p0,zVq,yTb,h];rfl
theorem zWq (i:PlI):i.p0.length=i.l.length:=by simp[PlI.p0,zVq]
theorem zZd {l:List Int} {j m:Nat} {n:Int} (hl:l.length=m) (h:l[j]? =some n):(l.take j++List.replicate (m-j) 0).set j n=l.take (j+1)++List.replicate (m-(j+1)) 0:=by
 have hj:=(yRf.1 h).1
 rw[List.set_append_right _ _ (by rw[yRz];omega),yRz,show j-min j l.length=0 by omega,show m-j=(m-(j+1))+1 by omega,yUz,yWt,ySz,h]
 simp
theorem z9x {l:List Int} {j m:Nat} (hl:l.length=m) (hj:j<m):(l.take j++List.replicate (m-j) 0)[j]? =some 0:=by
 rw[yTj (by rw[yRz];omega),yRz,show j-min j l.length=0 by omega,show m-j=(m-(j+1))+1 by omega,yUz];rfl
theorem z7s {α:Type} {l:List α} {j:Nat} {x:α} (h:l[j]? =some x):l.set j x=l:=by
 obtain⟨h1,h2⟩:=yRf.1 h
 rw[← h2];exact List.set_getElem_self h1
theorem yKt {a b:List Int} {j:Nat} {x:Int} (ha:a.length=b.length) (h:b[j]? =some x):(a.take j++b.drop j)[j]? =some x:=by
 have hj:=(yRf.1 h).1
 rw[yTj (by rw[yRz];omega),yRz,show j-min j a.length=0 by omega,yUa]
 exact h
theorem yCh {a b:List Int} {j:Nat} {y:Int} (ha:a.length=b.length) (h:a[j]? =some y):(a.take j++b.drop j).set j y=a.take (j+1)++b.drop (j+1):=by
 have hj:=(yRf.1 h).1
 rw[List.set_append_right _ _ (by rw[yRz];omega),yRz,show j-min j a.length=0 by omega,yTp (by omega),yWt,ySz,h]
 simp
theorem zNz {l:List Int} {j:Nat} {x y:Int} (h:l[j]? =some x):yC (iE l) j 0 [D.v (.int .i64 y)]=iE (l.set j y):=yE (f:=fun n:Int=>[D.v (.int .i64 n)]) h rfl
theorem zAu {i:PlI} (h:yQ i.l i.q=true) (hne:0<i.l.length):1≤i.l.sum∧i.l.sum≤250000000∧(∀(j:Nat) (n x:Int),i.l[j]? =some n→i.p0[j]? =some x→0≤x∧x≤n)∧i.p0.sum≤i.q:=by
 obtain⟨h1,h2,h3,h4⟩:=kO h
 have hb:=kW (l:=i.l) (fun x hx=>by have:=h3 x hx;omega) i.l.length
 rw[yWa]at hb
 have hS:1≤i.l.sum:=by
  obtain⟨x,hx⟩:=yD (l:=i.l) (i:=0) hne
  have:=h3 x (yRp hx)
  cases hl:i.l with
  |nil=>rw[hl]at hne;exact absurd hne (Nat.lt_irrefl 0)
  |cons a r=>
   rw[hl]at hx;simp at hx;subst hx
   have hr:=kW (l:=r) (fun y hy=>by have:=h3 y (by rw[hl];exact yRk _ hy);omega) r.length
   rw[yWa]at hr
   rw[ySn];omega
 refine⟨hS,by omega,fun j n x hn hx=> ?_,?_⟩
 ·have hn1:=h3 n (yRp hn)
  have:=z6c (k:=n) (by omega) h2 hS h4
  rw[z7d hn]at hx
  cases hx
  split<;>omega
 ·have:=zKy (least:=i.least) h2 hS i.l (fun x hx=>by have:=h3 x hx;omega)
  have e:i.l.sum*i.p0.sum≤i.l.sum*i.q:=by rw[yVc i.l.sum i.q];exact this
  exact Int.le_of_mul_le_mul_left e (by omega)
theorem yHy (i:PlI) (h:plainC.cnd i):z7r i:=by
 obtain⟨hl,hq,hle⟩:i.l.length≤1000000∧yU i.q∧yU i.least:=h
 unfold z7r cQ uS uP nS gX jI dI
 refine⟨⟨i.l,i.q⟩,rfl,rfl,⟨hl,hq⟩,fun _ _=>Cv.cnd.mk (fun c=> ?_) (fun c=>zI (fun d=> ?_) (fun d=> ?_))⟩
 ·have c:yQ i.l i.q=false:=by simpa using c
  refine⟨(),?_,trivial⟩
  rw[kH,yRd (by rw[c];simp)];rfl
 ·refine⟨(),?_,trivial⟩
  rw[kH,yRd (by omega)];rfl
 have c:yQ i.l i.q=true:=by simpa using c
 have eS:kH i=i.p1:=by rw[kH,yRe ⟨c,by omega⟩]
 obtain⟨h1,h2,h3,h4⟩:=kO c
 have hq2:=zFv c
 have hp0:=zWq i
 have hzl:(i.l.zip i.p0).length=i.l.length:=by rw[List.length_zip,hp0];simp
 have hp1:i.p1.length=i.l.length:=by rw[PlI.p1,lK,hzl]
 have hz2:(i.l.zip i.p0).map (·.2)=i.p0:=by rw[List.map_snd_zip];omega
 have h64:i.l.length≤250:=h1
 have hrl:∀j,j≤i.l.length→(List.take j i.p0++List.replicate (i.l.length-j) 0).length=i.l.length:=by
  intro j hj;rw[yRi,yRz,yUc];omega
 simp only[yY]
 refine⟨i.l,rfl,⟨by omega,fun x hx=>by have:=h3 x hx;omega⟩,fun _ _=>⟨⟨by omega,by omega,by omega,by omega⟩,0,by(first|exact rfl|exact trivial),?_,fun j=>j≤i.l.length,fun j=>i.l.length-j,ySr _,fun j hj=>zI (fun e=> ?_) (fun e=> ?_)⟩⟩
 ·simp[iE]
 ·have hj':j<i.l.length:=by omega
  obtain⟨n,hn⟩:=yD (l:=i.l) (i:=j) hj'
  have bn:=h3 n (yRp hn)
  obtain⟨f1,f2,f3,f4⟩:=zAu c (by omega)
  have g:=z7d hn
  refine⟨⟨by omega,by omega⟩,n,elI hn,⟨n,i.q,i.l.sum⟩,rfl,rfl,rfl,⟨by dsimp only;omega,by dsimp only;omega,by dsimp only;omega,by dsimp only;omega,by dsimp only;omega,by dsimp only;omega⟩,fun _ _=>zI (fun a=> ?_) (fun a=> ?_)⟩
  ·have a:n*i.q / i.l.sum≥i.least:=a
   rw[yRe (by omega)]at g
   refine⟨⟨by omega,by rw[hrl j (by omega)];omega⟩,by rw[hrl j (by omega)];omega,j+1,wjn (by omega),?_,hj',by dsimp only;omega,trivial⟩
   rw[yRx,zNz (z9x hp0 hj'),zZd hp0 g]
  ·have a:¬n*i.q / i.l.sum≥i.least:=a
   rw[yRd (by omega)]at g
   refine⟨j+1,wjn (by omega),?_,hj',by dsimp only;omega,trivial⟩
   rw[← zZd hp0 g,z7s (z9x hp0 hj')]
 have hje:j=i.l.length:=by omega
 subst hje
 have eP:List.take i.l.length i.p0++List.replicate (i.l.length-i.l.length) 0=i.p0:=by rw[yRw (by omega)];simp
 rw[eP,hp0]
 have px:∀(k:Nat) (n x:Int),i.l[k]? =some n→i.p0[k]? =some x→0≤x∧x≤n:=fun k n x hn hx=>(zAu c (by have:=(yRf.1 hn).1;omega)).2.2.1 k n x hn hx
 have pb:∀x∈i.p0,0≤x∧x≤1000000:=by
  intro x hx
  obtain⟨k,hk⟩:=yTo.1 hx
  obtain⟨n,hn⟩:=yD (l:=i.l) (i:=k) (by have:=(yRf.1 hk).1;omega)
  have:=px k n x hn hk
  have:=h3 n (yRp hn)
  omega
 have pq:i.p0.sum≤i.q:=by
  by_cases hz:0<i.l.length
  ·exact(zAu c hz).2.2.2
  ·have:i.p0=[]:=ySe (by omega)
   rw[this];simpa using h2
 refine⟨0,by simp,by(first|exact rfl|exact trivial),fun k=>k≤i.l.length,fun k=>i.l.length-k,ySr _,fun k hk=>zI (fun e=> ?_) (fun e=> ?_)⟩
 ·have hk':k<i.l.length:=by omega
  obtain⟨x,hx⟩:=yD (l:=i.p0) (i:=k) (by omega)
  have bx:=pb x (yRp hx)
  have bs:=kW pb k
  refine⟨⟨by omega,by omega⟩,x,elI hx,k+1,?_,wjn (by omega),hk',by dsimp only;omega,by(repeat'(first|exact trivial|exact rfl|apply And.intro))⟩
  rw[jE hx,w64 (by omega)];omega
 have hke:k=i.l.length:=by omega
 subst hke
 rw[yRw (l:=i.p0) (by omega)]
 refine⟨0,by simp,by(first|exact rfl|exact trivial),by simp,fun j=>j≤i.l.length,fun j=>i.l.length-j,ySr _,fun j hj=>zI (fun e=> ?_) (fun e=> ?_)⟩
 ·have hj':j<i.l.length:=by omega
  obtain⟨n,hn⟩:=yD (l:=i.l) (i:=j) hj'
  obtain⟨x,hx⟩:=yD (l:=i.p0) (i:=j) (by omega)
  have bn:=h3 n (yRp hn)
  have bx:=px j n x hn hx
  have hz:(i.l.zip i.p0)[j]? =some (n,x):=by rw[yVk];exact⟨hn,hx⟩
  have g:=zHq (i.l.zip i.p0) (i.q-i.p0.sum) j n x hz
  have r:=zEj (i.l.zip i.p0) (i.q-i.p0.sum) j (by omega) (fun y hy=>by
   obtain⟨k,hk⟩:=yTo.1 hy
   rw[yVk]at hk
   exact(px k y.1 y.2 hk.1 hk.2).2)
  rw[hz2]at g r
  have b0:=kW pb i.p0.length
  rw[yWa]at b0
  have hml:(List.take j i.p1++List.drop j i.p0).length=i.l.length:=by rw[yRi,yRz,ySb];omega
  have hma:=yKt (a:=i.p1) (b:=i.p0) (by omega) hx
  change i.p1[j]? =_ at g
  change 0≤_-(List.take j i.p1).sum∧_-(List.take j i.p1).sum≤_ at r
  change i.p1[j]? =some (x+min (n-x) (_-(List.take j i.p1).sum))at g
  rw[hml]
  refine⟨⟨by omega,by omega⟩,n,elI hn,⟨by omega,by omega⟩,x,elI hma,⟨by omega,by omega⟩,x,elI hma,⟨by omega,by omega⟩,by omega,?_⟩
  rw[w64 (x:=n-x) (by omega),w64 (x:=x+min (n-x) (i.q-i.p0.sum+(List.take j i.p0).sum-(List.take j i.p1).sum)) (by omega)]
  refine⟨j+1,?_,wjn (by omega),?_,hj',by dsimp only;omega,trivial⟩
  ·rw[jE hx,jE g,w64 (by omega)];omega
  ·rw[yRx,zNz hma,yCh (by omega) g]
 ·have hje:j=i.l.length:=by omega
  subst hje
  refine⟨(),?_,trivial⟩
  rw[eS,yRw (by omega),yUj (by omega),ySa]
theorem z7e:plainC.ok Tryz.prog 289:=okw mixed (gokc zBc (gokc yFb (gokc zLk gok0))) 0 (fun _=>[]) (fun i=>yIo i) [] Tryz.func289 yHy
open Go Cv Go.Proofs
structure RsI where
 l:List Int
 out:List Int
 least:Int
 q:Int
def RsI.idx (i:RsI) (k:Nat):List Nat:=(List.range k).filter fun n=>decide (i.out.getD n 0<i.l.getD n 0)
def RsI.left (i:RsI) (k:Nat):List Int:=(i.idx k).map fun n=>i.l.getD n 0-i.out.getD n 0
def RsI.pl (i:RsI):List Int:=kH ⟨i.left i.l.length,i.least,i.q⟩
def RsI.add (i:RsI) (k:Nat):List Int:=(((i.idx i.l.length).zip i.pl).take k).foldl (fun o y=>o.set y.1 (IntKind.i64.wrap (o.getD y.1 0+y.2))) i.out
def aP (i:RsI):List Int:=i.add i.pl.length
@[reducible] def RsI.ok (i:RsI):Prop:=i.l.length≤250∧i.out.length=i.l.length∧yU i.q∧yU i.least∧∀n,0≤i.out.getD n 0∧i.out.getD n 0≤i.l.getD n 0∧i.l.getD n 0≤1000000
def restC:Con:=con1 RsI (fun i=>[iV i.l,.own 0,zA i.least,zA i.q]) (fun i=>[.own 2 1 (iE i.out)]) RsI.ok (fun _=> .own 1) (fun i=>[.gone,.own 2 1 (iE (aP i))])
def yMx (i:RsI):List SAnn:=[
 {ι:=Nat,slots:=fun j=>[(9,.own 0),(10,.own 1),(16,zA j)],rows:=fun j=>[.own 2 1 (iE (i.left j)),.own 3 1 (iE ((i.idx j).map fun(n:Nat)=>(n:Int)))]},
 {ι:=Nat,slots:=fun k=>[(1,.own 0),(50,zA k)],rows:=fun k=>[.own 2 1 (iE (i.add k))]}]
structure zH where
 id:Int
 side:Int
 price:Int
 qty:Int
 top:Bool
 deriving DecidableEq
def j8 (o:zH):List D:=[.v (.int .i64 o.id),.v (.int .i64 o.side),.v (.int .i64 o.price),.v (.int .i64 o.qty),.v (.bool o.top)]
@[reducible] def z3e (o:zH):V:= .agg [zA o.id,zA o.side,zA o.price,zA o.qty,yM o.top]
def topFC:Con:=con1 zH (fun o=>[z3e o]) (fun _=>[]) (fun _=>True) (fun o=>yM o.top) (fun _=>[])
def topI (l:List zH):Int:=zEk (l.findIdx? fun o=>o.top)
def idxOrdC:Con:=con1 (List zH) (fun l=>[roV 5 (l.map j8),.fn 253 [] []]) (fun _=>[]) (fun l=>l.length≤1000000) (fun l=>zA (topI l)) (fun _=>[])
def yCv (l:List zH):List SAnn:=[{ι:=Nat,slots:=fun j=>[(8,zA j)],rows:=fun _=>[]}]
open Go Cv Go.Proofs
def yHc (i:RsI):Prop:=
 ∃(a:Nat),(↑a:Int)=0∧iE (i.left a)=[]∧iE (List.map (fun(n:Nat) ↦ (↑n:Int)) (i.idx a))=[]∧∃(b:Nat→Prop),∃(c:Nat→Nat),b a∧∀(d:Nat),b d→cnd (decide ((↑d:Int)<(↑(iE i.l).length:Int))) ((0≤(↑d:Int)∧(↑d:Int)<(↑(iE i.l).length:Int))∧∃(e:Int),zE (iE i.l) (↑d:Int).toNat 0 1=some [dI e]∧(0≤(↑d:Int)∧(↑d:Int)<(↑(iE i.out).length:Int))∧∃(f:Int),zE (iE i.out) (↑d:Int).toNat 0 1=some [dI f]∧cnd (decide (e>f)) ((0≤(↑d:Int)∧(↑d:Int)<(↑(iE i.l).length:Int))∧∃(g:Int),zE (iE i.l) (↑d:Int).toNat 0 1=some [dI g]∧(0≤(↑d:Int)∧(↑d:Int)<(↑(iE i.out).length:Int))∧∃(h:Int),zE (iE i.out) (↑d:Int).toNat 0 1=some [dI h]∧((iE (i.left d)).length+1)*(8:Nat)≤(70368744177664:Nat)∧((iE (List.map (fun(g:Nat) ↦ (↑g:Int)) (i.idx d))).length+1)*(8:Nat)≤(70368744177664:Nat)∧∃(j:Nat),(↑j:Int)=IntKind.i64.wrap ((↑d:Int)+1)∧iE (i.left j)=iE (i.left d)++[[dI (IntKind.i64.wrap (g-h))]]∧iE (List.map (fun(g:Nat) ↦ (↑g:Int)) (i.idx j))=iE (List.map (fun(g:Nat) ↦ (↑g:Int)) (i.idx d))++[[dI (↑d:Int)]]∧b j∧c j<c d∧AObj.own 2 1 (iE i.out)=AObj.own 2 1 (iE i.out)) (∃(g:Nat),(↑g:Int)=IntKind.i64.wrap ((↑d:Int)+1)∧iE (i.left g)=iE (i.left d)∧iE (List.map (fun(e:Nat) ↦ (↑e:Int)) (i.idx g))=iE (List.map (fun(e:Nat) ↦ (↑e:Int)) (i.idx d))∧b g∧c g<c d∧AObj.own 2 1 (iE i.out)=AObj.own 2 1 (iE i.out))) (∃(e:PlI),iE e.l=iE (i.left d)∧e.least=i.least∧e.q=i.q∧(e.l.length≤1000000∧((-9223372036854775808)≤e.q∧e.q≤9223372036854775807)∧(-9223372036854775808)≤e.least∧e.least≤9223372036854775807)∧∀(f:Unit),True→∃(g:Nat),(↑g:Int)=0∧iE (i.add g)=iE i.out∧∃(h:Nat→Prop),∃(j:Nat→Nat),h g∧∀(k:Nat),h k→cnd (decide ((↑k:Int)<(↑(iE (kH e)).length:Int))) ((0≤(↑k:Int)∧(↑k:Int)<(↑(iE (kH e)).length:Int))∧∃(l:Int),zE (iE (kH e)) (↑k:Int).toNat 0 1=some [dI l]∧(0≤(↑k:Int)∧(↑k:Int)<(↑(iE (List.map (fun(l:Nat) ↦ (↑l:Int)) (i.idx d))).length:Int))∧∃(m:Int),zE (iE (List.map (fun(l:Nat) ↦ (↑l:Int)) (i.idx d))) (↑k:Int).toNat 0 1=some [dI m]∧(0≤m∧m<(↑(iE (i.add k)).length:Int))∧∃(n:Int),zE (iE (i.add k)) m.toNat 0 1=some [dI n]∧(0≤m∧m<(↑(iE (i.add k)).length:Int))∧m.toNat<(iE (i.add k)).length∧∃(p:Nat),(↑p:Int)=IntKind.i64.wrap ((↑k:Int)+1)∧iE (i.add p)=yC (iE (i.add k)) m.toNat 0 [dI (IntKind.i64.wrap (n+l))]∧h p∧j p<j k∧AObj.own 2 1 (iE (kH e))=AObj.own 2 1 (iE (kH e))∧AObj.fro 1 (iE (i.left d))=AObj.fro 1 (iE (i.left d))∧AObj.own 3 1 (iE (List.map (fun(l:Nat) ↦ (↑l:Int)) (i.idx d)))=AObj.own 3 1 (iE (List.map (fun(l:Nat) ↦ (↑l:Int)) (i.idx d)))) (∃(l:Unit),iE (aP i)=iE (i.add k)∧True))
def yGa (o:zH):Prop:=
 ∃(a:Unit),o.top=o.top∧True
def z1n (l:List zH):Prop:=
 ∃(a:Nat),(↑a:Int)=0∧∃(b:Nat→Prop),∃(c:Nat→Nat),b a∧∀(d:Nat),b d→cnd (decide ((↑d:Int)<(↑(List.map j8 l).length:Int))) ((0≤(↑d:Int)∧(↑d:Int)<(↑(List.map j8 l).length:Int))∧∃(e:Int),∃(f:Int),∃(g:Int),∃(h:Int),∃(j:Bool),zE (List.map j8 l) (↑d:Int).toNat 0 5=some [dI e,dI f,dI g,dI h,D.v (.bool j)]∧∃(k:zH),k.id=e∧k.side=f∧k.price=g∧k.qty=h∧k.top=j∧True∧∀(m:Unit),True→cnd k.top (∃(n:Unit),topI l=(↑d:Int)∧True) (fV d b c)) (∃(e:Unit),topI l=(-1)∧True)
open Go Cv Go.Proofs
theorem yDs:topFC.ok Tryz.prog 253:=okw (V:=yGa) mixed gok0 0 (fun _=>[]) (fun _=>[]) [] Tryz.func253 fun(o:zH) _=>by
 unfold yGa
 exact⟨(),rfl,trivial⟩
theorem zVs (i:PlI):(kH i).length=i.l.length∨kH i=[]:=by
 rw[kH]
 split
 ·left;rw[PlI.p1,lK,List.length_zip,zWq];simp
 ·exact .inr rfl
theorem yLa {l:List zH} {k:Nat} {o:zH} (h:l[k]? =some o):zE (l.map j8) k 0 5=some [D.v (.int .i64 o.id),.v (.int .i64 o.side),.v (.int .i64 o.price),.v (.int .i64 o.qty),.v (.bool o.top)]:=elA h (by simp[j8]) rfl
theorem yBy (l:List zH) (h:idxOrdC.cnd l):z1n l:=by
 have h:l.length≤1000000:=h
 unfold z1n fV vC dI
 simp only[yRg]
 refine⟨0,rfl,fun j=>j≤l.length∧∀k<j,∀x,l[k]? =some x→x.top=false,fun j=>l.length-j,⟨by omega,fun k hk=>by omega⟩,?_⟩
 rintro j ⟨h3,h4⟩
 refine zI (fun hj=> ?_) (fun hj=> ?_)
 ·obtain⟨s,hs⟩:=yD (l:=l) (i:=j) (by omega)
  refine⟨⟨by omega,by omega⟩,s.id,s.side,s.price,s.qty,s.top,yLa hs,s,rfl,rfl,rfl,rfl,rfl,trivial,fun _ _=>Cv.cnd.mk (fun e=> ?_) (fun e=> ?_)⟩
  ·rw[topI,zDa hs e h4];(repeat'(first|exact rfl|exact trivial|assumption|apply And.intro|refine fun(_:Unit) (_:True)=>?_|refine Exists.intro () ?_|omega|(dsimp only;omega)))
  ·refine⟨j+1,by rw[w64 (by omega)];rfl,⟨by omega,fun k hk x hx=> ?_⟩,by(first|omega|(dsimp only;omega)),by(repeat'(first|exact trivial|exact rfl|apply And.intro))⟩
   rcases yTt k j with hk'|hk'
   ·exact h4 k hk' x hx
   ·obtain rfl:k=j:=by omega
    rw[hs]at hx;cases hx;exact e
 ·rw[topI,zDk fun k x hx=>h4 k (by have:=(yRf.1 hx).1;omega) x hx];(repeat'(first|exact rfl|exact trivial|assumption|apply And.intro|refine fun(_:Unit) (_:True)=>?_|refine Exists.intro () ?_|omega|(dsimp only;omega)))
theorem z3s:idxOrdC.ok Tryz.prog 252:=okw mixed (gokc yDs gok0) 0 (fun _=>[]) (fun l=>yCv l) [] Tryz.func252 yBy
theorem yBp (i:RsI) (j:Nat):i.idx (j+1)=i.idx j++if i.out.getD j 0<i.l.getD j 0 then[j]else[]:=by
 rw[RsI.idx,yVn,yUt]
 by_cases h:i.out.getD j 0<i.l.getD j 0
 ·rw[yRe h,yVr (by simpa using h)];rfl
 ·rw[yRd h,yVs (by simpa using h)];rfl
theorem yHl (i:RsI) {k n:Nat} (h:n∈i.idx k):n<k:=by
 have:=(yTf.1 h).1
 exact yUg.1 this
theorem zYw (i:RsI) (k:Nat):(i.idx k).length≤k:=by
 have:=yUp (fun n=>decide (i.out.getD n 0<i.l.getD n 0)) (List.range k)
 rw[List.length_range]at this
 exact this
theorem zUg:∀(z:List (Nat×Int)) (o:List Int),(z.foldl (fun o y=>o.set y.1 (IntKind.i64.wrap (o.getD y.1 0+y.2))) o).length=o.length
 |[],_=>rfl
 |y::z,o=>by rw[yUy,zUg z,ySj]
theorem yOw (i:RsI) (h:restC.cnd i):yHc i:=by
 obtain⟨hl,ho,hq,hle,hb⟩:i.ok:=h
 unfold yHc dI
 simp only[yY,yRg]
 have hil:∀j,(i.left j).length=(i.idx j).length:=fun j=>yRg _
 refine⟨0,by(first|exact rfl|exact trivial),by(first|exact rfl|exact trivial),by(first|exact rfl|exact trivial),fun j=>j≤i.l.length,fun j=>i.l.length-j,ySr _,fun j hj=>zI (fun c=> ?_) (fun c=> ?_)⟩
 ·have hj':j<i.l.length:=by omega
  obtain⟨n,hn⟩:=yD (l:=i.l) (i:=j) hj'
  obtain⟨o,hoo⟩:=yD (l:=i.out) (i:=j) (by omega)
  have bj:=hb j
  rw[zR hn,zR hoo]at bj
  have is:=yBp i j
  rw[zR hn,zR hoo]at is
  have il:=zYw i j
  refine⟨⟨by omega,by omega⟩,n,elI hn,⟨by omega,by omega⟩,o,elI hoo,zI (fun a=> ?_) (fun a=> ?_)⟩
  ·rw[yRe (by omega)]at is
   refine⟨⟨by omega,by omega⟩,n,elI hn,⟨by omega,by omega⟩,o,elI hoo,by rw[hil];omega,by omega,j+1,wjn (by omega),?_,?_,hj',by dsimp only;omega,by(repeat'(first|exact trivial|exact rfl|apply And.intro))⟩
   ·rw[w64 (by omega),RsI.left,is,yRm]
    simp[iE,RsI.left,hn,hoo]
   ·rw[is];simp[iE]
  ·rw[yRd (by omega),ySa]at is
   exact⟨j+1,wjn (by omega),by rw[RsI.left,is];rfl,by rw[is],hj',by dsimp only;omega,by(repeat'(first|exact trivial|exact rfl|apply And.intro))⟩
 have hje:j=i.l.length:=by omega
 subst hje
 have il:=zYw i i.l.length
 refine⟨⟨i.left i.l.length,i.least,i.q⟩,rfl,rfl,rfl,⟨by dsimp only;rw[hil];omega,hq,hle⟩,fun _ _=> ?_⟩
 have epl:kH ⟨i.left i.l.length,i.least,i.q⟩=i.pl:=rfl
 rw[epl]
 have hpl:i.pl.length≤(i.idx i.l.length).length:=by
  rcases zVs ⟨i.left i.l.length,i.least,i.q⟩with e|e
  ·rw[epl]at e;rw[e];dsimp only;rw[hil];exact ySk _
  ·rw[epl]at e;rw[e];exact ySr _
 have hal:∀k,(i.add k).length=i.out.length:=fun k=>zUg _ _
 refine⟨0,by(first|exact rfl|exact trivial),by(first|exact rfl|exact trivial),fun k=>k≤i.pl.length,fun k=>i.pl.length-k,ySr _,fun k hk=>zI (fun c=> ?_) (fun c=> ?_)⟩
 ·have hk':k<i.pl.length:=by omega
  obtain⟨x,hx⟩:=yD (l:=i.pl) (i:=k) hk'
  obtain⟨n,hn⟩:=yD (l:=i.idx i.l.length) (i:=k) (by omega)
  have hnl:=yHl i (yRp hn)
  obtain⟨y,hy⟩:=yD (l:=i.add k) (i:=n) (by rw[hal];omega)
  have ea:i.add (k+1)=(i.add k).set n (IntKind.i64.wrap (y+x)):=by
   have hz:((i.idx i.l.length).zip i.pl)[k]? =some (n,x):=by rw[yVk];exact⟨hn,hx⟩
   have ey:(i.add k).getD n 0=y:=zR hy
   rw[RsI.add,ySz,hz,List.foldl_append]
   show(i.add k).set n (IntKind.i64.wrap ((i.add k).getD n 0+x))=_
   rw[ey]
  have hnm:((i.idx i.l.length).map fun(n:Nat)=>(n:Int))[k]? =some (n:Int):=by rw[yTb,hn];rfl
  rw[hal]
  refine⟨⟨by omega,by omega⟩,x,elI hx,⟨by omega,by omega⟩,n,elI hnm,⟨by omega,by omega⟩,y,elI hy,⟨by omega,by omega⟩,by omega,k+1,wjn (by omega),?_,hk',by dsimp only;omega,by(repeat'(first|exact trivial|exact rfl|apply And.intro))⟩
  rw[ea,yRx,zNz hy]
 ·have hke:k=i.pl.length:=by omega
  subst hke
  exact⟨(),rfl,trivial⟩
theorem z0m:restC.ok Tryz.prog 277:=okw mixed (gokc z7e gok0) 0 (fun _=>[]) (fun i=>yMx i) [] Tryz.func277 yOw
open Go Cv Go.Proofs
structure PsI where
 l:List Int
 top:Int
 most:Int
 least:Int
 q:Int
def PsI.first (i:PsI):Int:=min (min (i.l.getD i.top.toNat 0) i.most) i.q
def PsI.rs (i:PsI):RsI:=if 0≤i.top∧i.top<i.l.length then⟨i.l,(List.replicate i.l.length 0).set i.top.toNat i.first,i.least,i.q-i.first⟩else⟨i.l,List.replicate i.l.length 0,i.least,i.q⟩
def zAp (i:PsI):List Int:=if yQ i.l i.q=true∧1≤i.least∧0≤i.most then aP i.rs else[]
def proC:Con:=con1 PsI (fun i=>[iV i.l,zA i.top,zA i.most,zA i.least,zA i.q]) (fun _=>[]) (fun i=>i.l.length≤1000000∧yU i.q∧yU i.least∧yU i.most) (fun _=> .own 0) (fun i=>[.own 2 1 (iE (zAp i))])
structure SpI where
 l:List Int
 part:Int
 least:Int
 q:Int
def SpI.rs (i:SpI):RsI:=⟨i.l,uF i.l (i.q*i.part / 100),i.least,i.q-i.q*i.part / 100⟩
def eJ (i:SpI):List Int:=if yQ i.l i.q=true∧0≤i.part∧i.part≤100∧1≤i.least then aP i.rs else[]
def splC:Con:=con1 SpI (fun i=>[iV i.l,zA i.part,zA i.least,zA i.q]) (fun _=>[]) (fun i=>i.l.length≤1000000∧yU i.q∧yU i.least∧yU i.part) (fun _=> .own 0) (fun i=>[.own 2 1 (iE (eJ i))])
open Go Cv Go.Proofs
def zAs (a:RsI):Prop:=a.l.length≤250∧a.out.length=a.l.length∧((-9223372036854775808)≤a.q∧a.q≤9223372036854775807)∧((-9223372036854775808)≤a.least∧a.least≤9223372036854775807)∧∀(b:Nat),0≤a.out.getD b 0∧a.out.getD b 0≤a.l.getD b 0∧a.l.getD b (0:Int)≤(1000000:Int)
def zHj (a:RsI) (b:PsI):Prop:=(zAs a)∧∀(c:Unit),True→∃(d:Unit),iE (zAp b)=iE (aP a)∧True
def zPt (a:PsI):Prop:=∃(b:RsI),iE b.l=iE a.l∧b.least=a.least∧b.q=a.q∧iE b.out=List.replicate (↑(iE a.l).length:Int).toNat [dI 0]∧zHj b a
def pQ (a:PsI):=(List.replicate (↑(iE a.l).length:Int).toNat [dI 0])
def zJk (a:PsI) (b:Int):=(yC (pQ a) a.top.toNat 0 [dI (min (min b a.most) a.q)])
def yPb (i:PsI):Prop:=
 ∃(a:LqI),iE a.l=iE i.l∧a.q=i.q∧(jI a)∧∀(b:Unit),True→cnd (!yQ a.l a.q) (∃(c:Unit),iE (zAp i)=[]∧True) (cnd (decide (i.least<1)) (∃(c:Unit),iE (zAp i)=[]∧True) (cnd (decide (i.most<0)) (∃(c:Unit),iE (zAp i)=[]∧True) ((0≤(↑(iE i.l).length:Int)∧(↑(iE i.l).length:Int)≤(↑(iE i.l).length:Int)∧(↑(iE i.l).length:Int)≤9223372036854775807∧(↑(8:Nat):Int)*(↑(iE i.l).length:Int)≤2 ^ (48:Nat))∧cnd (decide (i.top≥0)) (cnd (decide (i.top<(↑(iE i.l).length:Int))) ((0≤i.top∧i.top<(↑(iE i.l).length:Int))∧∃(c:Int),zE (iE i.l) i.top.toNat 0 1=some [dI c]∧(0≤i.top∧i.top<(↑(pQ i).length:Int))∧i.top.toNat<(pQ i).length∧(0≤i.top∧i.top<(↑(zJk i c).length:Int))∧∃(d:Int),zE (zJk i c) i.top.toNat 0 1=some [dI d]∧∃(e:RsI),iE e.l=iE i.l∧e.least=i.least∧e.q=IntKind.i64.wrap (i.q-d)∧iE e.out=yC (pQ i) i.top.toNat 0 [dI (min (min c i.most) i.q)]∧zHj e i) (zPt i)) (zPt i))))
def yMt (i:SpI):Prop:=
 ∃(a:LqI),iE a.l=iE i.l∧a.q=i.q∧(jI a)∧∀(b:Unit),True→cnd (!yQ a.l a.q) (∃(c:Unit),iE (eJ i)=[]∧True) (cnd (decide (i.part<0)) (∃(c:Unit),iE (eJ i)=[]∧True) (cnd (decide (i.part>100)) (∃(c:Unit),iE (eJ i)=[]∧True) (cnd (decide (i.least<1)) (∃(c:Unit),iE (eJ i)=[]∧True) (∃(c:ShI),c.a=i.q∧c.b=i.part∧c.c=100∧(0≤c.a∧c.a≤(2000000000:Int)∧(0:Int)≤c.b∧c.b≤(2000000000:Int)∧(1:Int)≤c.c∧c.c≤2000000000)∧∀(d:Unit),True→∃(e:LqI),iE e.l=iE i.l∧e.q=c.a*c.b / c.c∧(jI e)∧∀(f:Unit),True→∃(g:RsI),iE g.l=iE i.l∧g.least=i.least∧g.q=IntKind.i64.wrap (i.q-c.a*c.b / c.c)∧iE g.out=iE (uF e.l e.q)∧(zAs g)∧∀(h:Unit),True→∃(j:Unit),iE (eJ i)=iE (aP g)∧True))))
open Go Cv Go.Proofs
theorem yAd {l:List Int} {q r:Int} (h:yQ l q=true) (h0:0≤r) (h1:r≤q):yQ l r=true:=by
 obtain⟨a,b,c,d⟩:=kO h
 have e:(l.all fun n=>decide (1≤n) && decide (n≤1000000))=true:=by
  rw[yUd];intro x hx;simpa using c x hx
 rw[yQ,e,yRu a,yRu h0,yRu (show r≤l.sum by omega)];rfl
theorem getD_none {l:List Int} {n:Nat} (h:l[n]? =none):l.getD n 0=0:=by rw[yRl,h];rfl
theorem lO {l:List Int} {q:Int} (h:yQ l q=true) (n:Nat):0≤l.getD n 0∧l.getD n 0≤1000000:=by
 cases hn:l[n]? with
 |none=>rw[getD_none hn];decide
 |some x=>rw[zR hn];have:=(kO h).2.2.1 x (yRp hn);omega
theorem z4f {l:List Int} {q:Int} (h:yQ l q=true) (n:Nat):0≤(uF l q).getD n 0∧(uF l q).getD n 0≤l.getD n 0:=by
 rw[uF,yRe h]
 obtain⟨a,b,c,d⟩:=kO h
 cases hn:l[n]? with
 |none=>
  have:(vV l q)[n]? =none:=by rw[List.getElem?_eq_none_iff,pW];exact List.getElem?_eq_none_iff.1 hn
  rw[getD_none hn,getD_none this];decide
 |some x=>
  rw[zR hn,zR (zIr l q n x hn)]
  have:=zBx l q n b (fun y hy=>by have:=c y hy;omega)
  have:=c x (yRp hn)
  omega
theorem yQm (i:SpI) (h:splC.cnd i):yMt i:=by
 obtain⟨hl,hq,hle,hpa⟩:i.l.length≤1000000∧yU i.q∧yU i.least∧yU i.part:=h
 unfold yMt zAs jI
 have no (e:¬(yQ i.l i.q=true∧0≤i.part∧i.part≤100∧1≤i.least)):eJ i=[]:=by rw[eJ,yRd e]
 refine⟨⟨i.l,i.q⟩,rfl,rfl,⟨hl,hq⟩,fun _ _=>Cv.cnd.mk (fun c=> ?_) (fun c=>zI (fun d=> ?_) (fun d=>zI (fun e=> ?_) (fun e=>zI (fun f=> ?_) (fun f=> ?_))))⟩
 ·have c:yQ i.l i.q=false:=by simpa using c
  exact⟨(),by rw[no (by rw[c];simp)];rfl,trivial⟩
 ·exact⟨(),by rw[no (by omega)];rfl,trivial⟩
 ·exact⟨(),by rw[no (by omega)];rfl,trivial⟩
 ·exact⟨(),by rw[no (by omega)];rfl,trivial⟩
 have c:yQ i.l i.q=true:=by simpa using c
 obtain⟨h1,h2,h3,h4⟩:=kO c
 have hq2:=zFv c
 have m0:0≤i.q*i.part:=yXb h2 (by omega)
 have m1:i.q*i.part≤i.q*100:=yVq (by omega) h2
 have hr:=yAd (r:=i.q*i.part / 100) c (by omega) (by omega)
 have es:eJ i=aP i.rs:=by rw[eJ,yRe ⟨c,by omega,by omega,by omega⟩]
 refine⟨⟨i.q,i.part,100⟩,rfl,rfl,rfl,⟨by dsimp only;omega,by dsimp only;omega,by dsimp only;omega,by dsimp only;omega,by dsimp only;omega,by dsimp only;omega⟩,fun _ _=>⟨⟨i.l,i.q*i.part / 100⟩,rfl,rfl,⟨hl,by dsimp only;omega,by dsimp only;omega⟩,fun _ _=>⟨i.rs,rfl,rfl,?_,rfl,⟨h1,?_,?_,hle,?_⟩,fun _ _=>⟨(),by rw[es],trivial⟩⟩⟩⟩
 ·rw[w64 (by dsimp only;omega)];rfl
 ·show(uF i.l (i.q*i.part / 100)).length=i.l.length
  rw[uF,yRe hr,pW]
 ·show yU (i.q-i.q*i.part / 100)
  exact⟨by omega,by omega⟩
 ·intro n
  have a:=z4f hr n
  have b:=lO c n
  exact⟨a.1,a.2,b.2⟩
theorem yKq:splC.ok Tryz.prog 255:=okw mixed (gokc zBc (gokc zLk (gokc zYy (gokc z0m gok0)))) 0 (fun _=>[]) (fun _=>[]) [] Tryz.func255 yQm
theorem yLs (n:Nat):List.replicate n [D.v (.int .i64 0)]=iE (List.replicate n 0):=by simp[iE]
theorem zQt (n k:Nat):(List.replicate n (0:Int)).getD k 0=0:=by
 rw[yRl,List.getElem?_replicate];split<;>rfl
theorem z6h (n t k:Nat) (x:Int):((List.replicate n (0:Int)).set t x).getD k 0=x∧k=t∨((List.replicate n (0:Int)).set t x).getD k 0=0:=by
 rw[yRl,yWf]
 split
 ·rename_i e
  split
  ·exact .inl ⟨rfl,e.symm⟩
  ·exact .inr rfl
 ·right;rw[← yRl];exact zQt n k
theorem yPw (i:PsI) (h:proC.cnd i):yPb i:=by
 obtain⟨hl,hq,hle,hmo⟩:i.l.length≤1000000∧yU i.q∧yU i.least∧yU i.most:=h
 unfold yPb zPt zJk pQ zHj zAs jI dI
 have no (e:¬(yQ i.l i.q=true∧1≤i.least∧0≤i.most)):zAp i=[]:=by rw[zAp,yRd e]
 refine⟨⟨i.l,i.q⟩,rfl,rfl,⟨hl,hq⟩,fun _ _=>Cv.cnd.mk (fun c=> ?_) (fun c=>zI (fun d=> ?_) (fun d=>zI (fun e=> ?_) (fun e=> ?_)))⟩
 ·have c:yQ i.l i.q=false:=by simpa using c
  exact⟨(),by rw[no (by rw[c];simp)];rfl,trivial⟩
 ·exact⟨(),by rw[no (by omega)];rfl,trivial⟩
 ·exact⟨(),by rw[no (by omega)];rfl,trivial⟩
 have c:yQ i.l i.q=true:=by simpa using c
 obtain⟨h1,h2,h3,h4⟩:=kO c
 have hq2:=zFv c
 have es:zAp i=aP i.rs:=by rw[zAp,yRe ⟨c,by omega,by omega⟩]
 simp only[yY,yRx,yLs]
 have out (hn:¬(0≤i.top∧i.top<(i.l.length:Int))):i.rs=⟨i.l,List.replicate i.l.length 0,i.least,i.q⟩:=by rw[PsI.rs,yRd hn]
 have ok0:RsI.ok ⟨i.l,List.replicate i.l.length 0,i.least,i.q⟩:=⟨h1,by simp,hq,hle,fun n=>by
  have:=lO c n
  dsimp only
  rw[zQt];omega⟩
 refine⟨⟨by omega,by omega,by omega,by omega⟩,zI (fun a=>zI (fun b=> ?_) (fun b=> ?_)) (fun a=> ?_)⟩
 ·obtain⟨n,hn⟩:=yD (l:=i.l) (i:=i.top.toNat) (by omega)
  have hf:i.first=min (min n i.most) i.q:=by rw[PsI.first,zR hn]
  have bn:=h3 n (yRp hn)
  have hr0:(List.replicate i.l.length (0:Int))[i.top.toNat]? =some 0:=by rw[List.getElem?_replicate,yRe (by omega)]
  have ers:i.rs=⟨i.l,(List.replicate i.l.length 0).set i.top.toNat i.first,i.least,i.q-i.first⟩:=by rw[PsI.rs,yRe ⟨by omega,by omega⟩]
  refine⟨⟨by omega,by omega⟩,n,elI hn,?_⟩
  rw[zNz hr0,← hf]
  simp only[yY,ySj,yUc]
  refine⟨⟨by omega,by omega⟩,by omega,⟨by omega,by omega⟩,i.first,elI (vM hr0),?_⟩
  rw[w64 (x:=i.q-i.first) (by omega)]
  refine⟨⟨i.l,(List.replicate i.l.length 0).set i.top.toNat i.first,i.least,i.q-i.first⟩,rfl,rfl,rfl,rfl,⟨h1,by simp,⟨by dsimp only;omega,by dsimp only;omega⟩,hle,fun k=> ?_⟩,fun _ _=>⟨(),by rw[es,ers],trivial⟩⟩
  have bk:=lO c k
  dsimp only
  rcases z6h i.l.length i.top.toNat k i.first with⟨g,gk⟩|g
  ·rw[g,gk,zR hn];omega
  ·rw[g];omega
 ·refine⟨⟨i.l,List.replicate i.l.length 0,i.least,i.q⟩,rfl,rfl,rfl,rfl,ok0,fun _ _=>⟨(),by rw[es,out (by omega)],trivial⟩⟩
 ·refine⟨⟨i.l,List.replicate i.l.length 0,i.least,i.q⟩,rfl,rfl,rfl,rfl,ok0,fun _ _=>⟨(),by rw[es,out (by omega)],trivial⟩⟩
theorem yHh:proC.ok Tryz.prog 254:=okw mixed (gokc zBc (gokc z0m gok0)) 0 (fun _=>[]) (fun _=>[]) [] Tryz.func254 yPw
open Go Cv Go.Proofs
structure AlI where
 p:Prd
 l:List zH
 q:Int
def AlI.qs (i:AlI):List Int:=i.l.map (·.qty)
def qO (i:AlI):List Int:=if i.p.rule=1 then uF i.qs i.q else if i.p.rule=2 then zAp ⟨i.qs,topI i.l,i.p.top,i.p.least,i.q⟩else if i.p.rule=3 then eJ ⟨i.qs,i.p.part,i.p.least,i.q⟩else[]
def allocC:Con:=con1 AlI (fun i=>[prdV i.p,roV 5 (i.l.map j8),zA i.q]) (fun _=>[]) (fun i=>i.l.length≤1000∧yU i.q∧yU i.p.least∧yU i.p.top∧yU i.p.part) (fun _=> .own 0) (fun i=>[.own 2 1 (iE (qO i))])
def yHu (i:AlI):List SAnn:=[{ι:=Nat,slots:=fun j=>[(7,.own 0),(13,zA j)],rows:=fun j=>[.own 2 1 (iE (i.qs.take j))]}]
open Go Cv Go.Proofs
def z8l (i:AlI):Prop:=
 ∃(a:Nat),(↑a:Int)=0∧iE (List.take a i.qs)=[]∧∃(b:Nat→Prop),∃(c:Nat→Nat),b a∧∀(d:Nat),b d→cnd (decide ((↑d:Int)<(↑(List.map j8 i.l).length:Int))) ((0≤(↑d:Int)∧(↑d:Int)<(↑(List.map j8 i.l).length:Int))∧∃(e:Int),∃(f:Int),∃(g:Int),∃(h:Int),∃(j:Bool),zE (List.map j8 i.l) (↑d:Int).toNat 0 5=some [dI e,dI f,dI g,dI h,D.v (.bool j)]∧((iE (List.take d i.qs)).length+1)*(8:Nat)≤(70368744177664:Nat)∧∃(k:Nat),(↑k:Int)=IntKind.i64.wrap ((↑d:Int)+1)∧iE (List.take k i.qs)=iE (List.take d i.qs)++[[dI h]]∧b k∧c k<c d∧Sx.AObj.cells [V.d (D.v (Value.string (sb i.p.code))),V.own 0,V.d (dI i.p.tick),V.d (dI i.p.low),V.d (dI i.p.high),V.d (dI i.p.wide),V.d (dI i.p.rule),V.d (dI i.p.top),V.d (dI i.p.least),V.d (dI i.p.part),V.own ((0:Nat)+(1:Nat))] 26=Sx.AObj.cells [V.d (D.v (Value.string (sb i.p.code))),V.own 0,V.d (dI i.p.tick),V.d (dI i.p.low),V.d (dI i.p.high),V.d (dI i.p.wide),V.d (dI i.p.rule),V.d (dI i.p.top),V.d (dI i.p.least),V.d (dI i.p.part),V.own ((0:Nat)+(1:Nat))] 26∧AObj.fro 1 (iE i.p.settle)=AObj.fro 1 (iE i.p.settle)∧AObj.fro 1 (iE i.p.months)=AObj.fro 1 (iE i.p.months)) (cnd (i.p.rule==1) (∃(e:LqI),iE e.l=iE (List.take d i.qs)∧e.q=i.q∧(jI e)∧∀(f:Unit),True→∃(g:Unit),iE (qO i)=iE (uF e.l e.q)∧True) (cnd (i.p.rule==2) (∃(e:List zH),List.map j8 e=List.map j8 i.l∧e.length≤1000000∧∀(f:Unit),True→∃(g:PsI),iE g.l=iE (List.take d i.qs)∧g.top=topI e∧g.most=i.p.top∧g.least=i.p.least∧g.q=i.q∧(g.l.length≤1000000∧((-9223372036854775808)≤g.q∧g.q≤9223372036854775807)∧((-9223372036854775808)≤g.least∧g.least≤9223372036854775807)∧(-9223372036854775808)≤g.most∧g.most≤9223372036854775807)∧∀(h:Unit),True→∃(j:Unit),iE (qO i)=iE (zAp g)∧True) (cnd (i.p.rule==3) (∃(e:SpI),iE e.l=iE (List.take d i.qs)∧e.part=i.p.part∧e.least=i.p.least∧e.q=i.q∧(e.l.length≤1000000∧((-9223372036854775808)≤e.q∧e.q≤9223372036854775807)∧((-9223372036854775808)≤e.least∧e.least≤9223372036854775807)∧(-9223372036854775808)≤e.part∧e.part≤9223372036854775807)∧∀(f:Unit),True→∃(g:Unit),iE (qO i)=iE (eJ e)∧True) (∃(e:Unit),iE (qO i)=[]∧True))))
open Go Cv Go.Proofs
theorem yLv (i:AlI) (h:allocC.cnd i):z8l i:=by
 obtain⟨hl,hq,hle,hto,hpa⟩:i.l.length≤1000∧yU i.q∧yU i.p.least∧yU i.p.top∧yU i.p.part:=h
 have hql:i.qs.length=i.l.length:=by simp[AlI.qs]
 unfold z8l jI dI
 simp only[yY,yRg]
 refine⟨0,by(first|exact rfl|exact trivial),by(first|exact rfl|exact trivial),fun j=>j≤i.l.length,fun j=>i.l.length-j,ySr _,fun j hj=>zI (fun c=> ?_) (fun c=> ?_)⟩
 ·have hj':j<i.l.length:=by omega
  obtain⟨o,ho⟩:=yD (l:=i.l) (i:=j) hj'
  have hqo:i.qs[j]? =some o.qty:=by rw[AlI.qs,yTb,ho];rfl
  refine⟨⟨by omega,by omega⟩,o.id,o.side,o.price,o.qty,o.top,yLa ho,by rw[yRz];omega,j+1,wjn (by omega),?_,hj',by dsimp only;omega,by(repeat'(first|exact trivial|exact rfl|apply And.intro))⟩
  rw[ySz,hqo];simp[iE]
 have hje:j=i.l.length:=by omega
 subst hje
 rw[yRw (l:=i.qs) (by omega)]
 refine Cv.cnd.mk (fun a=> ?_) (fun a=>Cv.cnd.mk (fun b=> ?_) (fun b=>Cv.cnd.mk (fun d=> ?_) (fun d=> ?_)))
 ·have a:i.p.rule=1:=by simpa using a
  exact⟨⟨i.qs,i.q⟩,rfl,rfl,⟨by dsimp only;omega,hq⟩,fun _ _=>⟨(),by rw[qO,yRe a],trivial⟩⟩
 ·have a:¬i.p.rule=1:=by simpa using a
  have b:i.p.rule=2:=by simpa using b
  exact⟨i.l,rfl,by omega,fun _ _=>⟨⟨i.qs,topI i.l,i.p.top,i.p.least,i.q⟩,rfl,rfl,rfl,rfl,rfl,⟨by dsimp only;omega,hq,hle,hto⟩,fun _ _=>⟨(),by rw[qO,yRd a,yRe b],trivial⟩⟩⟩
 ·have a:¬i.p.rule=1:=by simpa using a
  have b:¬i.p.rule=2:=by simpa using b
  have d:i.p.rule=3:=by simpa using d
  exact⟨⟨i.qs,i.p.part,i.p.least,i.q⟩,rfl,rfl,rfl,rfl,⟨by dsimp only;omega,hq,hle,hpa⟩,fun _ _=>⟨(),by rw[qO,yRd a,yRd b,yRe d],trivial⟩⟩
 ·have a:¬i.p.rule=1:=by simpa using a
  have b:¬i.p.rule=2:=by simpa using b
  have d:¬i.p.rule=3:=by simpa using d
  exact⟨(),by rw[qO,yRd a,yRd b,yRd d];rfl,trivial⟩
theorem z6y:allocC.ok Tryz.prog 219:=okw mixed (gokc zYy (gokc z3s (gokc yHh (gokc yKq gok0)))) 0 (fun _=>[]) (fun i=>yHu i) [] Tryz.func219 yLv
open Go Cv Go.Proofs
def wL (l:List Nat) (t:Int):Int:=match l with
 |[]=>t
 |k::_=>k
def qW:List Nat→Int→Int
 |[],p=>p
 |k::l,_=>qW l k
structure zOn (s:Slot) (n k:Nat) (p t:Int):Prop where
 used:s.used=true
 no:s.n=k
 queue:s.queue=n
 ahead:s.ahead=p
 back:s.back=t
 q1:0≤s.qty
 q2:s.qty≤1000000
def seg (sl:List Slot) (n:Nat):Int→List Nat→Int→Prop
 |_,[],_=>True
 |p,k::l,t=>(∃s,sl[k]? =some s∧zOn s n k p (wL l t))∧seg sl n k l t
theorem zBu (l1 l2:List Nat) (t:Int):wL (l1++l2) t=wL l1 (wL l2 t):=by cases l1<;>rfl
theorem dR:∀(l1 l2:List Nat) (p:Int),qW (l1++l2) p=qW l2 (qW l1 p)
 |[],l2,p=>rfl
 |k::l1,l2,p=>dR l1 l2 k
theorem tE {sl:List Slot} {n:Nat}:∀{l1 l2:List Nat} {p t:Int},seg sl n p (l1++l2) t↔seg sl n p l1 (wL l2 t)∧seg sl n (qW l1 p) l2 t
 |[],l2,p,t=>by simp[seg,qW]
 |k::l1,l2,p,t=>by
  rw[ySv,seg,seg,zBu,tE,qW,and_assoc]
theorem zZf {sl:List Slot} {n k:Nat}:∀{l:List Nat} {p t:Int},seg sl n p l t→k∈l→∃s p' t',sl[k]? =some s∧zOn s n k p' t'
 |j::l,p,t,h,hk=>by
  rcases yRy.1 hk with rfl|hk
  ·obtain⟨⟨s,h1,h2⟩,_⟩:=h
   exact⟨s,_,_,h1,h2⟩
  ·exact zZf h.2 hk
theorem wB {sl sl':List Slot} {n:Nat}:∀{l:List Nat} {p t:Int},(∀k∈l,sl'[k]? =sl[k]?)→seg sl n p l t→seg sl' n p l t
 |[],p,t,_,h=>h
 |k::l,p,t,e,⟨⟨s,h1,h2⟩,h3⟩=>⟨⟨s,by rw[e k yRj];exact h1,h2⟩,wB (fun j hj=>e j (yRk _ hj)) h3⟩
theorem gU {α:Type} {l:List α} {f:α→α} {i j:Nat} (h:i≠j):(l.modify i f)[j]? =l[j]? :=by rw[List.getElem?_modify];cases l[j]? <;>simp[h]
theorem p9 {α:Type} {l:List α} {f:α→α} {i:Nat} {x:α} (h:l[i]? =some x):(l.modify i f)[i]? =some (f x):=by rw[List.getElem?_modify,h];simp
theorem wQ {α:Type} {l:List α} {x:α} {i j:Nat} (h:i≠j):(l.set i x)[j]? =l[j]? :=by rw[yWf,yRd h]
theorem gG {α:Type} {l:List α} {x:α} {i:Nat} (h:i<l.length):(l.set i x)[i]? =some x:=by rw[yWf,yRe rfl,yRe h]
theorem dK {α:Type} {Q:List α} {n m:Nat} {x y:α} (h:(Q.set n x)[m]? =some y):(m=n∧y=x)∨(m≠n∧Q[m]? =some y):=by
 by_cases e:n=m
 ·subst e
  have hn:n<Q.length:=by
   have:=(yRf.1 h).1
   simpa using this
  rw[gG hn]at h
  cases h
  exact .inl ⟨rfl,rfl⟩
 ·rw[wQ e]at h
  exact .inr ⟨fun c=>e c.symm,h⟩
theorem zRx {sl:List Slot} {n k:Nat} {l:List Nat} {p t:Int} (t':Int) (hk:k∉l) (h:seg sl n p (l++[k]) t):seg (sl.modify k fun s=>{s with back:=t'}) n p (l++[k]) t':=by
 rw[tE]at h ⊢
 obtain⟨h1,⟨s,h2,h3⟩,_⟩:=h
 refine⟨wB (fun j hj=>gU (fun e=>hk (e▸hj))) h1,⟨_,p9 h2,?_⟩,trivial⟩
 exact⟨h3.used,h3.no,h3.queue,h3.ahead,rfl,h3.q1,h3.q2⟩
theorem z2f {sl:List Slot} {n k:Nat} {l:List Nat} {p t:Int} (p':Int) (hk:k∉l) (h:seg sl n p (k::l) t):seg (sl.modify k fun s=>{s with ahead:=p'}) n p' (k::l) t:=by
 obtain⟨⟨s,h1,h2⟩,h3⟩:=h
 refine⟨⟨_,p9 h1,?_⟩,wB (fun j hj=>gU (fun e=>hk (e▸hj))) h3⟩
 exact⟨h2.used,h2.no,h2.queue,rfl,h2.back,h2.q1,h2.q2⟩
theorem jS (l:List Nat):l=[]∨∃(x:List Nat) (j:Nat),l=x++[j]∧∀p:Int,qW l p=(j:Int):=by
 rcases List.eq_nil_or_concat l with rfl|⟨x,j,rfl⟩
 ·exact .inl rfl
 ·exact .inr ⟨x,j,by simp,fun p=>by rw[List.concat_eq_append,dR];rfl⟩
theorem aE (l:List Nat):qW l (-1)= -1↔l=[]:=by
 rcases jS l with rfl|⟨x,j,rfl,e⟩
 ·simp[qW]
 ·rw[e];simp
theorem zMg (l:List Nat):wL l (-1)= -1↔l=[]:=by
 cases l with
 |nil=>simp[wL]
 |cons k l=>simp only[wL];constructor
            ·intro h;omega
            ·intro h;cases h
theorem rV {α β:Type} {g:α→β} {f:α→α} (h:∀x,g (f x)=g x):∀(l:List α) (i:Nat),(l.modify i f).map g=l.map g
 |[],i=>by simp
 |a::l,0=>by simp[h]
 |a::l,i+1=>by rw[yWd,yRs,yRs,rV h l i]
theorem zJo:∀(m:Nat) {l:List Nat},l.Nodup→(∀k∈l,k<m)→l.length≤m
 |0,[],_,_=>ySk 0
 |0,k::l,_,h=>absurd (h k yRj) (by omega)
 |m+1,l,hn,h=>by
  have:=zJo m (hn.erase m) fun k hk=>by
   have:=(hn.mem_erase_iff).1 hk
   have:=h k this.2
   omega
  by_cases hm:m∈l
  ·rw[List.length_erase_of_mem hm]at this;omega
  ·rw[List.erase_of_not_mem hm]at this;omega
theorem zYl {f g:Nat→Int} {k:Nat}:∀{l:List Nat},l.Nodup→k∈l→(∀j∈l,j≠k→g j=f j)→(l.map g).sum=(l.map f).sum+(g k-f k)
 |j::l,hn,hk,h=>by
  have hn:=yTm.1 hn
  rw[yRs,yRs,ySn,ySn]
  rcases yRy.1 hk with rfl|hk
  ·have:l.map g=l.map f:=ySh fun i hi=>h i (yRk _ hi) (fun e=>hn.1 (e▸hi))
   rw[this];omega
  ·have e:=h j yRj (fun e=>hn.1 (e▸hk))
   rw[zYl hn.2 hk (fun i hi=>h i (yRk _ hi)),e]
   omega
theorem yAv {f:Nat→Int} {m:Int}:∀{l:List Nat},(∀j∈l,0≤f j∧f j≤m)→0≤(l.map f).sum∧(l.map f).sum≤m*l.length
 |[],_=>by simp
 |j::l,h=>by
  have:=h j yRj
  have:=yAv (l:=l) fun i hi=>h i (yRk _ hi)
  rw[yRs,ySn,yRt,Int.natCast_add,Int.mul_add]
  simp only[Int.natCast_one,Int.mul_one]
  omega
def Arena.qsum (a:Arena) (l:List Nat):Int:=(l.map fun k=>(a.slotAt k).qty).sum
structure Arena.Wf0 (a:Arena) (Q:List (List Nat)):Prop where
 len:a.slots.length=250
 ql:a.queues.length=Q.length
 q:∀(n:Nat) (l:List Nat),Q[n]? =some l→a.queues[n]? =some ⟨wL l (-1),qW l (-1),a.qsum l,l.length⟩
 sg:∀(n:Nat) (l:List Nat),Q[n]? =some l→seg a.slots n (-1) l (-1)
 nd:∀(n:Nat) (l:List Nat),Q[n]? =some l→l.Nodup
 us:∀(k:Nat) (s:Slot),a.slots[k]? =some s→s.used=true→∃(n:Nat) (l:List Nat),Q[n]? =some l∧k∈l
 free:a.free=((a.slots.map (·.used)).countP (!·):Nat)
structure Arena.Wf (a:Arena) (Q:List (List Nat)):Prop extends a.Wf0 Q where
 pos:∀(n:Nat) (l:List Nat),Q[n]? =some l→∀k∈l,1≤(a.slotAt k).qty
theorem Arena.Wf0.mem {a:Arena} {Q:List (List Nat)} (h:a.Wf0 Q) {n k:Nat} {l:List Nat} (hl:Q[n]? =some l) (hk:k∈l):k<250∧(∃p t,zOn (a.slotAt k) n k p t)∧a.slots[k]? =some (a.slotAt k):=by
 obtain⟨s,p,t,h1,h2⟩:=zZf (h.sg n l hl) hk
 have e:a.slotAt k=s:=zR h1
 have hlt:=(yRf.1 h1).1
 rw[h.len]at hlt
 exact⟨hlt,⟨p,t,by rw[e];exact h2⟩,by rw[e];exact h1⟩
theorem Arena.Wf0.one {a:Arena} {Q:List (List Nat)} (h:a.Wf0 Q) {n m k:Nat} {l l':List Nat} (hl:Q[n]? =some l) (hl':Q[m]? =some l') (hk:k∈l) (hk':k∈l'):n=m:=by
 obtain⟨_,⟨_,_,h1⟩,_⟩:=h.mem hl hk
 obtain⟨_,⟨_,_,h2⟩,_⟩:=h.mem hl' hk'
 have:=h1.queue
 have:=h2.queue
 omega
theorem Arena.Wf0.short {a:Arena} {Q:List (List Nat)} (h:a.Wf0 Q) {n:Nat} {l:List Nat} (hl:Q[n]? =some l):l.length≤250:=zJo 250 (h.nd n l hl) fun k hk=>(h.mem hl hk).1
theorem cL {a a':Arena} {l:List Nat} (h:∀k∈l,(a'.slotAt k).qty=(a.slotAt k).qty):a'.qsum l=a.qsum l:=by rw[Arena.qsum,Arena.qsum,ySh h]
theorem Arena.Wf0.sum {a:Arena} {Q:List (List Nat)} (h:a.Wf0 Q) {n:Nat} {l:List Nat} (hl:Q[n]? =some l):0≤a.qsum l∧a.qsum l≤250000000:=by
 have:=yAv (f:=fun k=>(a.slotAt k).qty) (m:=1000000) (l:=l) fun j hj=>by
  obtain⟨_,⟨_,_,h1⟩,_⟩:=h.mem hl hj
  exact⟨h1.q1,h1.q2⟩
 have:=h.short hl
 rw[Arena.qsum]
 omega
theorem zMf {sl:List Slot} {n:Nat}:∀{l:List Nat} {p:Int},seg sl n p l (-1)→zTu sl (wL l (-1)) l
 |[],p,_=>rfl
 |k::l,p,⟨⟨s,h1,h2⟩,h3⟩=>by
  refine⟨rfl,(yRf.1 h1).1,?_⟩
  rw[zR h1,h2.back]
  exact zMf h3
theorem Arena.Wf0.ok {a:Arena} {Q:List (List Nat)} (h:a.Wf0 Q):a.okAt:=by
 refine⟨by rw[h.len];decide,fun k s hk hu=> ?_⟩
 obtain⟨n,l,hl,hkl⟩:=h.us k s hk hu
 have hQ:=(yRf.1 hl).1
 have hql:=h.ql
 obtain⟨l1,l2,rfl⟩:=List.append_of_mem hkl
 have hsg:=h.sg n _ hl
 have hnd:=h.nd n _ hl
 rw[tE]at hsg
 obtain⟨_,⟨s',h1,h2⟩,_⟩:=hsg
 rw[hk]at h1;cases h1
 have hq:=h2.queue
 have hd:=yTg.1 hnd
 have hd2:=yTm.1 hd.2.1
 refine⟨⟨by omega,by omega⟩,h2.q2,?_,?_⟩
 ·rw[h2.ahead]
  rcases jS l1 with rfl|⟨x,j,rfl,e⟩
  ·exact .inl rfl
  ·have hj:j∈x++[j]:=by simp
   have hjl:=(h.mem hl (ySo _ hj)).1
   rw[e,h.len]
   refine .inr ⟨by omega,by omega,fun e2=> ?_⟩
   have:j=k:=by omega
   exact hd.2.2 j hj k yRj this
 ·rw[h2.back]
  cases l2 with
  |nil=>exact .inl rfl
  |cons j x=>
   have hjl:=(h.mem hl (ySq _ (yRk _ yRj))).1
   rw[wL,h.len]
   refine .inr ⟨by omega,by omega,fun e2=> ?_⟩
   have:j=k:=by omega
   exact hd2.1 (this▸yRj)
theorem Arena.Wf0.open {a:Arena} {Q:List (List Nat)} (h:a.Wf0 Q):a.openQ.Wf0 (Q++[[]]):=by
 have g:∀{n:Nat} {l:List Nat},(Q++[[]])[n]? =some l→Q[n]? =some l∨(n=Q.length∧l=[]):=by
  intro n l hl
  rw[List.getElem?_append]at hl
  split at hl
  ·exact .inl hl
  ·rename_i hn
   have:=(yRf.1 hl).1
   simp only[yUq]at this
   have e:n-Q.length=0:=by omega
   rw[e]at hl
   cases hl
   exact .inr ⟨by omega,rfl⟩
 refine⟨h.len,by simp[Arena.openQ,h.ql],fun n l hl=> ?_,fun n l hl=> ?_,fun n l hl=> ?_,fun k s hk hu=> ?_,h.free⟩
 ·rcases g hl with hl|⟨rfl,rfl⟩
  ·show(a.queues++[cY])[n]? =_
   rw[yUe (by have:=(yRf.1 hl).1;have:=h.ql;omega)]
   exact h.q n l hl
  ·show(a.queues++[cY])[_]? =_
   rw[← h.ql,yTj (ySk _),yWi]
   rfl
 ·rcases g hl with hl|⟨rfl,rfl⟩
  ·exact h.sg n l hl
  ·trivial
 ·rcases g hl with hl|⟨rfl,rfl⟩
  ·exact h.nd n l hl
  ·exact List.nodup_nil
 ·obtain⟨n,l,hl,hkl⟩:=h.us k s hk hu
  exact⟨n,l,by rw[yUe (yRf.1 hl).1];exact hl,hkl⟩
theorem Arena.Wf.open {a:Arena} {Q:List (List Nat)} (h:a.Wf Q):a.openQ.Wf (Q++[[]]):=by
 refine⟨h.toWf0.open,fun n l hl k hk=> ?_⟩
 rw[List.getElem?_append]at hl
 split at hl
 ·exact h.pos n l hl k hk
 ·have:=(yRf.1 hl).1
  simp only[yUq]at this
  have e:n-Q.length=0:=by omega
  rw[e]at hl
  cases hl
  cases hk
theorem zIh {sl sl':List Slot} {n:Nat}:∀{l:List Nat} {p t:Int},(∀k∈l,∀s,sl[k]? =some s→∃s',sl'[k]? =some s'∧s'.used=s.used∧s'.n=s.n∧s'.queue=s.queue∧s'.ahead=s.ahead∧s'.back=s.back∧0≤s'.qty∧s'.qty≤1000000)→seg sl n p l t→seg sl' n p l t
 |[],p,t,_,h=>h
 |k::l,p,t,e,⟨⟨s,h1,h2⟩,h3⟩=>by
  obtain⟨s',q0,q1,q2,q3,q4,q5,q6,q7⟩:=e k yRj s h1
  exact⟨⟨s',q0,⟨q1.trans h2.used,q2.trans h2.no,q3.trans h2.queue,q4.trans h2.ahead,q5.trans h2.back,q6,q7⟩⟩,zIh (fun j hj=>e j (yRk _ hj)) h3⟩
theorem zQa (a:Arena) (n:Int) (t:Bool) (j:Nat):(a.topF n t).slotAt j=if a.usedAt n=true∧j=n.toNat then{a.slotAt j with top:=t}else a.slotAt j:=by
 rw[Arena.topF]
 by_cases hu:a.usedAt n=true
 ·rw[yRe hu]
  by_cases e:j=n.toNat
  ·subst e
   rw[yRe ⟨hu,rfl⟩]
   have hlt:n.toNat<a.slots.length:=by
    simp only[Arena.usedAt,yRq,ySs]at hu
    omega
   show(a.slots.modify n.toNat _).getD n.toNat slot0=_
   obtain⟨s,hs⟩:=yD hlt
   rw[zR (p9 hs),xH hs]
  ·rw[yRd (fun h=>e h.2)]
   show(a.slots.modify n.toNat _).getD j slot0=a.slots.getD j slot0
   rw[yRl,gU (fun h=>e h.symm),yRl]
 ·rw[yRd hu,yRd (fun h=>hu h.1)]
theorem Arena.Wf.top {a:Arena} {Q:List (List Nat)} (h:a.Wf Q) (n:Int) (t:Bool):(a.topF n t).Wf Q:=by
 have hq:∀j,((a.topF n t).slotAt j).qty=(a.slotAt j).qty:=by
  intro j
  rw[zQa]
  split<;>rfl
 by_cases hu:a.usedAt n=true
 ·have e:a.topF n t={a with slots:=a.slots.modify n.toNat fun s=>{s with top:=t}}:=by rw[Arena.topF,yRe hu]
  have hm:∀(k:Nat) (s:Slot),a.slots[k]? =some s→∃s',(a.topF n t).slots[k]? =some s'∧s'.used=s.used∧s'.n=s.n∧s'.queue=s.queue∧s'.ahead=s.ahead∧s'.back=s.back∧s'.qty=s.qty:=by
   intro k s hk
   rw[e]
   by_cases ek:n.toNat=k
   ·subst ek
    exact⟨_,p9 hk,rfl,rfl,rfl,rfl,rfl,rfl⟩
   ·exact⟨s,by rw[gU ek];exact hk,rfl,rfl,rfl,rfl,rfl,rfl⟩
  have hl:(a.topF n t).slots.length=250:=by rw[e];simpa using h.len
  have hmu:(a.topF n t).slots.map (·.used)=a.slots.map (·.used):=by rw[e];exact rV (g:=fun s:Slot=>s.used) (f:=fun s:Slot=>{s with top:=t}) (fun _=>rfl) _ _
  refine⟨⟨hl,by rw[e];exact h.ql,fun m l hm'=> ?_,fun m l hm'=> ?_,h.nd,fun k s hk hs=> ?_,by rw[hmu];rw[e];exact h.free⟩,fun m l hm' k hk=>by rw[hq];exact h.pos m l hm' k hk⟩
  ·rw[cL fun k _=>hq k]
   rw[e];exact h.q m l hm'
  ·refine zIh (fun k hk s hs=> ?_) (h.sg m l hm')
   obtain⟨s',q0,q1,q2,q3,q4,q5,q6⟩:=hm k s hs
   obtain⟨_,⟨_,_,h2⟩,h3⟩:=h.mem hm' hk
   rw[hs]at h3;cases h3
   exact⟨s',q0,q1,q2,q3,q4,q5,by rw[q6];exact h2.q1,by rw[q6];exact h2.q2⟩
  ·have hlt:=(yRf.1 hk).1
   rw[hl,← h.len]at hlt
   obtain⟨s0,h0⟩:=yD hlt
   obtain⟨s',q0,q1,_⟩:=hm k s0 h0
   rw[hk]at q0;cases q0
   exact h.us k s0 h0 (by rw[← q1];exact hs)
 ·have e:a.topF n t=a:=by rw[Arena.topF,yRd hu]
  rw[e];exact h
theorem zHt {sl:List Slot} {k:Nat} {s x:Slot} (hk:sl[k]? =some s):((sl.set k x).map (·.used)).countP (!·)+(if s.used=true then 0 else 1)=(sl.map (·.used)).countP (!·)+(if x.used=true then 0 else 1):=by
 have hlt:=(yRf.1 hk).1
 have e:(sl.map (·.used))[k]'(by simpa using hlt)=s.used:=by
  rw[List.getElem_map,(yRf.1 hk).2]
 rw[List.map_set,List.countP_set (by simpa using hlt),e]
 have hp:s.used=false→1≤(sl.map (·.used)).countP (!·):=by
  intro h
  apply List.countP_pos_iff.2
  exact⟨s.used,ySc (yRp hk),by rw[h];rfl⟩
 generalize (sl.map (·.used)).countP (!·)=c at hp ⊢
 cases h1:s.used<;>cases h2:x.used
 all_goals
  simp only[h1,yVw,Bool.not_true,yRv,↓reduceIte,if_true,if_false]at hp ⊢
  try have hp:=hp trivial
  omega
theorem zZs {sl:List Slot}:(sl.map (·.used)).countP (!·)≤sl.length:=by
 have:=List.countP_le_length (p:=fun b:Bool=> !b) (l:=sl.map (·.used))
 simpa using this
theorem Arena.Wf0.unused {a:Arena} {Q:List (List Nat)} (h:a.Wf0 Q) (hf:a.free≠0):∃k:Nat,qV a.slots=k∧k<250∧a.slots[k]? =some (a.slotAt k)∧(a.slotAt k).used=false∧∀(n:Nat) (l:List Nat),Q[n]? =some l→k∉l:=by
 have hx:∃s∈a.slots,s.used=false:=by
  have hp:0<(a.slots.map (·.used)).countP (!·):=by have:=h.free;omega
  obtain⟨b,hb,hb2⟩:=List.countP_pos_iff.1 hp
  obtain⟨s,hs,rfl⟩:=ySm.1 hb
  exact⟨s,hs,by simpa using hb2⟩
 obtain⟨s,hs,hu⟩:=hx
 cases hi:a.slots.findIdx? fun s=> !s.used with
 |none=>
  rw[yVj]at hi
  have:=hi s hs
  rw[hu]at this;cases this
 |some k=>
  have hi':=hi
  rw[yUf]at hi
  obtain⟨hk,hku,_⟩:=hi
  have hk1:a.slots[k]? =some a.slots[k]:=ySl hk
  have e:=xH hk1
  rw[← e]at hku
  have hku:(a.slotAt k).used=false:=by simpa using hku
  refine⟨k,by rw[qV,hi'];rfl,by rw[← h.len];exact hk,by rw[e];exact hk1,hku,fun n l hl hkl=> ?_⟩
  obtain⟨_,⟨_,_,h2⟩,_⟩:=h.mem hl hkl
  have:=h2.used
  rw[hku]at this
  cases this
theorem Arena.Wf.put {a:Arena} {Q:List (List Nat)} (h:a.Wf Q) {n:Nat} {l:List Nat} (hl:Q[n]? =some l) (hf:a.free≠0) {id qty:Int} (top:Bool) (hq:1≤qty∧qty≤1000000):
 ∃k:Nat,qV a.slots=k∧k<250∧(a.slotAt k).used=false∧(∀(m:Nat) (l:List Nat),Q[m]? =some l→k∉l)∧(a.put n id qty top).Wf (Q.set n (l++[k]))∧
  (∀j,((a.put n id qty top).slotAt j).ent=if j=k then⟨k,id,qty,top⟩else(a.slotAt j).ent)∧(a.put n id qty top).free=a.free-1:=by
 obtain⟨k,hk,hk2,hk1,hku,hkn⟩:=h.toWf0.unused hf
 have hkl:=hkn n l hl
 have hnQ:=(yRf.1 hl).1
 have hqn:=h.q n l hl
 have hnq:a.queues.getD n cY=⟨wL l (-1),qW l (-1),a.qsum l,l.length⟩:=zR hqn
 have hsum:=h.toWf0.sum hl
 have hsh:=h.toWf0.short hl
 have hlen:=h.len
 have hcl:=zZs (sl:=a.slots)
 have hfree:=h.free
 obtain⟨x,hx⟩:∃x:Slot,x=⟨true,k,id,qty,top,n,qW l (-1),-1⟩:=⟨_,rfl⟩
 have hS:(a.put n id qty top).slots=if qW l (-1)= -1 then a.slots.set k x else(a.slots.set k x).modify (qW l (-1)).toNat fun s=>{s with back:=k}:=by
  simp only[Arena.put,yRx,hnq,hk,hx]
 have hQs:(a.put n id qty top).queues=a.queues.set n ⟨wL (l++[k]) (-1),k,a.qsum l+qty,(l.length:Int)+1⟩:=by
  simp only[Arena.put,yRx,hnq,hk]
  rw[w64 (by omega),w64 (by omega)]
  congr 2
  by_cases e:l=[]
  ·subst e;rfl
  ·rw[yRd (fun c=>e ((aE l).1 c)),zBu]
   cases l with
   |nil=>exact absurd rfl e
   |cons y ys=>rfl
 have hF:(a.put n id qty top).free=a.free-1:=by
  simp only[Arena.put]
  rw[w64 (by omega)]
 have hset:(a.slots.set k x)[k]? =some x:=gG (by omega)
 have hlo:qW l (-1)= -1∨∃(y:List Nat) (j:Nat),l=y++[j]∧qW l (-1)=(j:Int):=by
  rcases jS l with e|⟨y,j,e,e2⟩
  ·exact .inl ((aE l).2 e)
  ·exact .inr ⟨y,j,e,e2 _⟩
 have hoth:∀j,j≠k→(qW l (-1)≠(j:Int))→(a.put n id qty top).slots[j]? =a.slots[j]? :=by
  intro j hj hj2
  rw[hS]
  split
  ·exact wQ (fun e=>hj e.symm)
  ·rcases hlo with e|⟨y,i,_,e⟩
   ·contradiction
   ·rw[gU (by omega),wQ (fun e=>hj e.symm)]
 have hself:(a.put n id qty top).slots[k]? =some x:=by
  rw[hS]
  split
  ·exact hset
  ·rcases hlo with e|⟨y,i,e1,e⟩
   ·contradiction
   ·have:i≠k:=by rintro rfl;exact hkl (by rw[e1];simp)
    rw[gU (by omega)];exact hset
 have hlike:∀j,j≠k→((a.put n id qty top).slotAt j).ent=(a.slotAt j).ent∧((a.put n id qty top).slotAt j).used=(a.slotAt j).used∧((a.put n id qty top).slotAt j).qty=(a.slotAt j).qty:=by
  intro j hj
  by_cases c:qW l (-1)=(j:Int)
  ·have e:(a.put n id qty top).slots=(a.slots.set k x).modify j fun s=>{s with back:=k}:=by
    rw[hS,yRd (by omega),c];rfl
   by_cases hjl:j<a.slots.length
   ·obtain⟨s,hs⟩:=yD hjl
    have h1:(a.put n id qty top).slots[j]? =some {s with back:=k}:=by rw[e];exact p9 (by rw[wQ (fun e=>hj e.symm)];exact hs)
    rw[xH h1,xH hs];exact⟨rfl,rfl,rfl⟩
   ·have h1:(a.put n id qty top).slots[j]? =none:=ySi (by rw[e];simpa using hjl)
    have h2:a.slots[j]? =none:=ySi (by omega)
    rw[Arena.slotAt,Arena.slotAt,yRl,yRl,h1,h2]
    exact⟨rfl,rfl,rfl⟩
  ·have:=hoth j hj c
   rw[Arena.slotAt,Arena.slotAt,yRl,yRl,this]
   exact⟨rfl,rfl,rfl⟩
 have hselfA:(a.put n id qty top).slotAt k=x:=xH hself
 have hent:∀j,((a.put n id qty top).slotAt j).ent=if j=k then⟨k,id,qty,top⟩else(a.slotAt j).ent:=by
  intro j
  split
  ·rename_i e;rw[e,hselfA,hx];rfl
  ·rename_i e;exact(hlike j e).1
 have gQ:∀{m:Nat} {l':List Nat},(Q.set n (l++[k]))[m]? =some l'→(m=n∧l'=l++[k])∨(m≠n∧Q[m]? =some l'):=by
  intro m l' hm
  exact dK hm
 have hsgn:seg (a.put n id qty top).slots n (-1) (l++[k]) (-1):=by
  rw[tE]
  refine⟨?_,⟨x,hself,?_⟩,trivial⟩
  ·rcases jS l with e|⟨y,j,e,e2⟩
   ·subst e;trivial
   ·have h0:=h.sg n l hl
    have hnd:=h.nd n l hl
    rw[hS,yRd (by rw[e2];omega),e2,yRx]
    rw[e]at h0 hnd hkl ⊢
    have hd:=yTg.1 hnd
    refine zRx (k:Int) (fun hj=>hd.2.2 j hj j yRj rfl) (t:= -1) ?_
    exact wB (fun i hi=>wQ (fun e=>hkl (e▸hi))) h0
  ·rw[hx]
   exact⟨rfl,rfl,rfl,rfl,rfl,by dsimp only;omega,hq.2⟩
 refine⟨k,hk,hk2,hku,hkn,⟨⟨?_,?_,?_,?_,?_,?_,?_⟩,?_⟩,hent,hF⟩
 ·rw[hS];split<;>simp[hlen]
 ·rw[hQs];simp[h.ql]
 ·intro m l' hm
  rcases gQ hm with⟨rfl,rfl⟩|⟨e,hm⟩
  ·rw[hQs,gG (by rw[h.ql];exact hnQ),dR]
   have:(a.put m id qty top).qsum (l++[k])=a.qsum l+qty:=by
    rw[Arena.qsum,yRm,List.sum_append]
    have e1:l.map (fun k=>((a.put m id qty top).slotAt k).qty)=l.map fun k=>(a.slotAt k).qty:=ySh fun j hj=>(hlike j (fun e=>hkl (e▸hj))).2.2
    rw[e1]
    simp only[yRs,yUr,ySn,List.sum_nil,hselfA]
    rw[hx,Arena.qsum];dsimp only;omega
   rw[this]
   simp[qW]
  ·rw[hQs,wQ (fun c=>e c.symm),h.q m l' hm,cL]
   intro j hj
   exact(hlike j (fun e=>hkn m l' hm (e▸hj))).2.2.symm
 ·intro m l' hm
  rcases gQ hm with⟨rfl,rfl⟩|⟨e,hm⟩
  ·exact hsgn
  ·refine wB (fun j hj=>hoth j (fun e=>hkn m l' hm (e▸hj)) fun c=> ?_) (h.sg m l' hm)
   rcases hlo with e2|⟨y,i,e1,e2⟩
   ·omega
   ·have:i=j:=by omega
    exact e (h.toWf0.one hm hl hj (by rw[e1];simp[this]))
 ·intro m l' hm
  rcases gQ hm with⟨rfl,rfl⟩|⟨e,hm⟩
  ·refine yTg.2 ⟨h.nd m l hl,by simp,?_⟩
   rintro i hi j hj rfl
   rw[yTa.1 hj]at hi
   exact hkl hi
  ·exact h.nd m l' hm
 ·intro j s hj hs
  by_cases e:j=k
  ·exact⟨n,l++[k],gG hnQ,by rw[e];simp⟩
  ·have hu:(a.slotAt j).used=true:=by rw[← (hlike j e).2.1,xH hj];exact hs
   have hjl:j<a.slots.length:=by
    have:=(yRf.1 hj).1
    rw[hS]at this
    split at this<;>simpa using this
   obtain⟨s',hs'⟩:=yD hjl
   rw[xH hs']at hu
   obtain⟨m,l',hm,hjm⟩:=h.us j s' hs' hu
   by_cases em:m=n
   ·subst em
    rw[hl]at hm;cases hm
    exact⟨m,l++[k],gG hnQ,ySo _ hjm⟩
   ·exact⟨m,l',by rw[wQ (fun c=>em c.symm)];exact hm,hjm⟩
 ·have hmu:(a.put n id qty top).slots.map (·.used)=(a.slots.set k x).map (·.used):=by
   rw[hS]
   split
   ·rfl
   ·exact rV (g:=fun s:Slot=>s.used) (f:=fun s:Slot=>{s with back:=k}) (fun _=>rfl) _ _
  have:=zHt (x:=x) hk1
  rw[hku,yRd (by decide),show x.used=true by rw[hx],yRe rfl]at this
  rw[hmu,hF,hfree]
  omega
 ·intro m l' hm j hj
  rcases gQ hm with⟨rfl,rfl⟩|⟨e,hm⟩
  ·rcases ySg.1 hj with hj|hj
   ·rw[(hlike j (fun e=>hkl (e▸hj))).2.2];exact h.pos m l hl j hj
   ·rw[yTa.1 hj,hselfA,hx];exact hq.1
  ·rw[(hlike j (fun e=>hkn m l' hm (e▸hj))).2.2];exact h.pos m l' hm j hj
open Go Cv Go.Proofs
theorem zBp (a:Arena) (k:Nat) (q:Int) (j:Nat) (hk:k<a.slots.length):(a.less k q).slotAt j=if j=k then{a.slotAt j with qty:=(a.slotAt j).qty-q}else a.slotAt j:=by
 split
 ·rename_i e
  subst e
  obtain⟨s,hs⟩:=yD hk
  rw[xH hs,xH (a:=a.less j q) (p9 hs)]
 ·rename_i e
  show(a.slots.modify k _).getD j slot0=a.slots.getD j slot0
  rw[yRl,gU (fun c=>e c.symm),yRl]
theorem Arena.Wf0.less {a:Arena} {Q:List (List Nat)} (h:a.Wf0 Q) {n k:Nat} {l:List Nat} (hl:Q[n]? =some l) (hk:k∈l) {q:Int} (hq:0≤q∧q≤(a.slotAt k).qty):(a.less k q).Wf0 Q:=by
 obtain⟨hk2,⟨p,t,hs⟩,hk1⟩:=h.mem hl hk
 have hkl:k<a.slots.length:=by rw[h.len];exact hk2
 have hqt:(a.slotAt k).queue.toNat=n:=by rw[hs.queue];exact yRx n
 have hm:∀(j:Nat) (s:Slot),a.slots[j]? =some s→∃s',(a.less k q).slots[j]? =some s'∧s'.used=s.used∧s'.n=s.n∧s'.queue=s.queue∧s'.ahead=s.ahead∧s'.back=s.back:=by
  intro j s hj
  by_cases e:k=j
  ·subst e
   exact⟨_,p9 hj,rfl,rfl,rfl,rfl,rfl⟩
  ·exact⟨s,by rw[show(a.less k q).slots=a.slots.modify k _ from rfl,gU e];exact hj,rfl,rfl,rfl,rfl,rfl⟩
 have hsl:(a.less k q).slots.length=250:=by simpa[Arena.less]using h.len
 have hqs:(a.less k q).queues=a.queues.modify n fun x=>{x with total:=IntKind.i64.wrap (x.total-q)}:=by rw[Arena.less,hqt]
 have hmu:(a.less k q).slots.map (·.used)=a.slots.map (·.used):=rV (g:=fun s:Slot=>s.used) (f:=fun s:Slot=>{s with qty:=s.qty-q}) (fun _=>rfl) _ _
 refine⟨hsl,by rw[hqs];simpa using h.ql,fun m l' hm'=> ?_,fun m l' hm'=> ?_,h.nd,fun j s hj hu=> ?_,by rw[hmu];exact h.free⟩
 ·by_cases e:n=m
  ·subst e
   rw[hl]at hm';cases hm'
   rw[hqs,p9 (h.q n l hl)]
   have hsum:=h.sum hl
   have e2:(a.less k q).qsum l=a.qsum l-q:=by
    rw[Arena.qsum,Arena.qsum,zYl (k:=k) (f:=fun k=>(a.slotAt k).qty) (h.nd n l hl) hk]
    ·rw[zBp a k q k hkl,yRe rfl];dsimp only;omega
    ·intro j _ hj
     rw[zBp a k q j hkl,yRd hj]
   have h1:=hs.q2
   rw[e2]
   dsimp only
   rw[w64 (by omega)]
  ·rw[hqs,gU e,h.q m l' hm',cL]
   intro j hj
   have:j≠k:=fun c=>e (h.one hl hm' hk (c▸hj))
   rw[zBp a k q j hkl,yRd this]
 ·refine zIh (fun j hj s hs'=> ?_) (h.sg m l' hm')
  obtain⟨s',q0,q1,q2,q3,q4,q5⟩:=hm j s hs'
  refine⟨s',q0,q1,q2,q3,q4,q5,?_⟩
  have e:=xH q0
  rw[← e,zBp a k q j hkl]
  obtain⟨_,⟨_,_,h2⟩,h3⟩:=h.mem hm' hj
  have:=h2.q1
  have:=h2.q2
  split
  ·rename_i c
   subst c
   dsimp only
   omega
  ·omega
 ·have hlt:=(yRf.1 hj).1
  rw[hsl,← h.len]at hlt
  obtain⟨s0,h0⟩:=yD hlt
  obtain⟨s',q0,q1,_⟩:=hm j s0 h0
  rw[hj]at q0;cases q0
  exact h.us j s0 h0 (by rw[← q1];exact hu)
theorem Arena.Wf0.drop {a:Arena} {Q:List (List Nat)} (h:a.Wf0 Q) {n k:Nat} {l1 l2:List Nat} (hl:Q[n]? =some (l1++k::l2)) (h0:(a.slotAt k).qty=0):
 (a.dropF k).Wf0 (Q.set n (l1++l2))∧(∀j,j≠k→((a.dropF k).slotAt j).ent=(a.slotAt j).ent∧((a.dropF k).slotAt j).used=(a.slotAt j).used∧((a.dropF k).slotAt j).qty=(a.slotAt j).qty)∧(a.dropF k).slotAt k=slot0∧(a.dropF k).free=a.free+1:=by
 have hkm:k∈l1++k::l2:=by simp
 have hnQ:=(yRf.1 hl).1
 obtain⟨hk2,_,hk1⟩:=h.mem hl hkm
 have hlen:=h.len
 have hkl:k<a.slots.length:=by omega
 have hsg:=h.sg n _ hl
 have hnd:=h.nd n _ hl
 have hd:=yTg.1 hnd
 have hd2:=yTm.1 hd.2.1
 have k1:k∉l1:=fun hk=>hd.2.2 k hk k yRj rfl
 have k2:k∉l2:=hd2.1
 rw[tE]at hsg
 obtain⟨g1,⟨s,hs1,hs⟩,g2⟩:=hsg
 have es:=xH hs1
 have eqn:(a.queues.getD s.queue.toNat cY)=⟨wL (l1++k::l2) (-1),qW (l1++k::l2) (-1),a.qsum (l1++k::l2),(l1++k::l2).length⟩:=by
  rw[hs.queue,yRx];exact zR (h.q n _ hl)
 have hfree:=h.free
 have hcl:=zZs (sl:=a.slots)
 have hsh:=h.short hl
 obtain⟨sl1,hsl1⟩:∃sl1,sl1=if qW l1 (-1)= -1 then a.slots else a.slots.modify (qW l1 (-1)).toNat fun x=>{x with back:=wL l2 (-1)}:=⟨_,rfl⟩
 obtain⟨sl2,hsl2⟩:∃sl2,sl2=if wL l2 (-1)= -1 then sl1 else sl1.modify (wL l2 (-1)).toNat fun x=>{x with ahead:=qW l1 (-1)}:=⟨_,rfl⟩
 have hS:(a.dropF k).slots=sl2.set k slot0:=by
  simp only[Arena.dropF,es,hs.ahead,hs.back]
  rw[hsl2,hsl1]
 have hQs:(a.dropF k).queues=a.queues.set n ⟨wL (l1++l2) (-1),qW (l1++l2) (-1),a.qsum (l1++l2),(l1++l2).length⟩:=by
  simp only[Arena.dropF,es,eqn,hs.ahead,hs.back]
  rw[hs.queue,yRx]
  have el:(l1++k::l2).length=(l1++l2).length+1:=by simp;omega
  have eq:a.qsum (l1++k::l2)=a.qsum (l1++l2):=by
   rw[Arena.qsum,Arena.qsum,yRm,List.sum_append,yRm,List.sum_append,yRs,ySn,h0]
   omega
  rw[el]at hsh ⊢
  rw[w64 (by omega),eq]
  congr 2
  ·cases l1 with
   |nil=>simp[qW,zBu,wL]
   |cons y ys=>
    rw[yRd (by rw[aE];simp)]
    rfl
  ·rcases jS l2 with e|⟨x,j,e,e2⟩
   ·subst e;simp[wL,dR,qW]
   ·have:l2≠[]:=by rw[e];simp
    rw[yRd (fun c=>this ((zMg l2).1 c)),dR,dR,qW,e2,e2]
  ·simp
 have hF:(a.dropF k).free=a.free+1:=by
  simp only[Arena.dropF]
  rw[w64 (by omega)]
 have hc1:qW l1 (-1)= -1∨∃(y:List Nat) (j:Nat),l1=y++[j]∧qW l1 (-1)=(j:Int):=by
  rcases jS l1 with e|⟨y,j,e,e2⟩
  ·exact .inl ((aE l1).2 e)
  ·exact .inr ⟨y,j,e,e2 _⟩
 have hc2:wL l2 (-1)= -1∨∃(y:List Nat) (j:Nat),l2=j::y∧wL l2 (-1)=(j:Int):=by
  cases l2 with
  |nil=>exact .inl rfl
  |cons j y=>exact .inr ⟨y,j,rfl,rfl⟩
 have hoth:∀j,j∉l1→j∉l2→j≠k→(a.dropF k).slots[j]? =a.slots[j]? :=by
  intro j h1 h2 h3
  rw[hS,wQ (fun e=>h3 e.symm),hsl2]
  have e1:sl1[j]? =a.slots[j]? :=by
   rw[hsl1]
   split
   ·rfl
   ·rcases hc1 with e|⟨y,i,e,e2⟩
    ·contradiction
    ·rw[gU]
     rw[e2,yRx]
     rintro rfl
     exact h1 (by rw[e];simp)
  split
  ·exact e1
  ·rcases hc2 with e|⟨y,i,e,e2⟩
   ·contradiction
   ·rw[gU,e1]
    rw[e2,yRx]
    rintro rfl
    exact h2 (by rw[e];simp)
 have hlike:∀j,j≠k→((a.dropF k).slotAt j).ent=(a.slotAt j).ent∧((a.dropF k).slotAt j).used=(a.slotAt j).used∧((a.dropF k).slotAt j).qty=(a.slotAt j).qty:=by
  intro j hj
  have m1:∀(sl:List Slot) (i:Nat) (b:Int),((sl.modify i fun x=>{x with back:=b}).getD j slot0).ent=(sl.getD j slot0).ent∧((sl.modify i fun x=>{x with back:=b}).getD j slot0).used=(sl.getD j slot0).used∧((sl.modify i fun x=>{x with back:=b}).getD j slot0).qty=(sl.getD j slot0).qty:=by
   intro sl i b
   rw[yRl,yRl,List.getElem?_modify]
   cases sl[j]? with
   |none=>exact⟨rfl,rfl,rfl⟩
   |some s=>by_cases e:i=j<;>simp[e,Slot.ent]
  have m2:∀(sl:List Slot) (i:Nat) (b:Int),((sl.modify i fun x=>{x with ahead:=b}).getD j slot0).ent=(sl.getD j slot0).ent∧((sl.modify i fun x=>{x with ahead:=b}).getD j slot0).used=(sl.getD j slot0).used∧((sl.modify i fun x=>{x with ahead:=b}).getD j slot0).qty=(sl.getD j slot0).qty:=by
   intro sl i b
   rw[yRl,yRl,List.getElem?_modify]
   cases sl[j]? with
   |none=>exact⟨rfl,rfl,rfl⟩
   |some s=>by_cases e:i=j<;>simp[e,Slot.ent]
  have e0:(a.dropF k).slotAt j=sl2.getD j slot0:=by
   rw[Arena.slotAt,hS,yRl,wQ (fun e=>hj e.symm),yRl]
  have e1:(sl1.getD j slot0).ent=(a.slotAt j).ent∧(sl1.getD j slot0).used=(a.slotAt j).used∧(sl1.getD j slot0).qty=(a.slotAt j).qty:=by
   rw[hsl1]
   split
   ·exact⟨rfl,rfl,rfl⟩
   ·exact m1 _ _ _
  have e2:(sl2.getD j slot0).ent=(sl1.getD j slot0).ent∧(sl2.getD j slot0).used=(sl1.getD j slot0).used∧(sl2.getD j slot0).qty=(sl1.getD j slot0).qty:=by
   rw[hsl2]
   split
   ·exact⟨rfl,rfl,rfl⟩
   ·exact m2 _ _ _
  rw[e0]
  exact⟨e2.1.trans e1.1,e2.2.1.trans e1.2.1,e2.2.2.trans e1.2.2⟩
 have hl1:sl1.length=250:=by rw[hsl1];split<;>simp[hlen]
 have hl2:sl2.length=250:=by rw[hsl2];split<;>simp[hl1]
 have hself:(a.dropF k).slots[k]? =some slot0:=by rw[hS];exact gG (by omega)
 have hsgn:seg (a.dropF k).slots n (-1) (l1++l2) (-1):=by
  rw[hS,tE]
  constructor
  ·--the part ahead
   refine wB (sl:=sl2) (fun j hj=>wQ (fun e=>k1 (e▸hj))) ?_
   have f1:seg sl1 n (-1) l1 (wL l2 (-1)):=by
    rcases jS l1 with e|⟨y,j,e,e2⟩
    ·subst e;trivial
    ·rw[hsl1,yRd (by rw[e2];omega),e2,yRx]
     subst e
     have hd3:=yTg.1 hd.1
     exact zRx _ (fun hj=>hd3.2.2 j hj j yRj rfl) g1
   refine wB (fun j hj=> ?_) f1
   rw[hsl2]
   split
   ·rfl
   ·rcases hc2 with e|⟨y,i,e,e2⟩
    ·contradiction
    ·refine gU ?_
     rw[e2,yRx]
     rintro rfl
     exact hd.2.2 i hj i (yRk _ (by rw[e];simp)) rfl
  ·--the part behind
   refine wB (sl:=sl2) (fun j hj=>wQ (fun e=>k2 (e▸hj))) ?_
   have f1:seg sl1 n k l2 (-1):=by
    refine wB (fun j hj=> ?_) g2
    rw[hsl1]
    split
    ·rfl
    ·rcases hc1 with e|⟨y,i,e,e2⟩
     ·contradiction
     ·refine gU ?_
      rw[e2,yRx]
      rintro rfl
      exact hd.2.2 i (by rw[e];simp) i (yRk _ hj) rfl
   rcases hc2 with e|⟨y,j,e,e2⟩
   ·rw[(zMg l2).1 e];trivial
   ·rw[hsl2,yRd (by rw[e2];omega),e2,yRx]
    rw[e]at f1 hd2 ⊢
    exact z2f _ (yTm.1 hd2.2).1 f1
 refine⟨⟨?_,?_,?_,?_,?_,?_,?_⟩,hlike,xH hself,hF⟩
 ·rw[hS,ySj];exact hl2
 ·rw[hQs];simp[h.ql]
 ·intro m l' hm
  rcases dK hm with⟨rfl,rfl⟩|⟨e,hm⟩
  ·rw[hQs,gG (by rw[h.ql];exact hnQ)]
   congr 2
   refine(cL fun j hj=>(hlike j fun e=> ?_).2.2).symm
   subst e
   rcases ySg.1 hj with hj|hj
   ·exact k1 hj
   ·exact k2 hj
  ·rw[hQs,wQ (fun c=>e c.symm),h.q m l' hm]
   congr 2
   refine(cL fun j hj=>(hlike j fun e2=> ?_).2.2).symm
   subst e2
   exact e (h.one hm hl hj hkm)
 ·intro m l' hm
  rcases dK hm with⟨rfl,rfl⟩|⟨e,hm⟩
  ·exact hsgn
  ·refine wB (fun j hj=>hoth j ?_ ?_ ?_) (h.sg m l' hm)
   ·exact fun c=>e (h.one hm hl hj (ySo _ c))
   ·exact fun c=>e (h.one hm hl hj (ySq _ (yRk _ c)))
   ·rintro rfl;exact e (h.one hm hl hj hkm)
 ·intro m l' hm
  rcases dK hm with⟨rfl,rfl⟩|⟨e,hm⟩
  ·refine yTg.2 ⟨hd.1,hd2.2,fun i hi j hj=>hd.2.2 i hi j (yRk _ hj)⟩
  ·exact h.nd m l' hm
 ·intro j s' hj hu
  have hjk:j≠k:=by
   rintro rfl
   rw[hself]at hj;cases hj;cases hu
  have hu2:(a.slotAt j).used=true:=by rw[← (hlike j hjk).2.1,xH hj];exact hu
  have hjl:j<a.slots.length:=by
   have:=(yRf.1 hj).1
   rw[hS,ySj]at this
   omega
  obtain⟨s0,hs0⟩:=yD hjl
  rw[xH hs0]at hu2
  obtain⟨m,l',hm,hjm⟩:=h.us j s0 hs0 hu2
  by_cases em:m=n
  ·subst em
   rw[hl]at hm;cases hm
   refine⟨m,_,gG hnQ,?_⟩
   rcases ySg.1 hjm with hj|hj
   ·exact ySo _ hj
   ·rcases yRy.1 hj with e|hj
    ·exact absurd e hjk
    ·exact ySq _ hj
  ·exact⟨m,l',by rw[wQ (fun c=>em c.symm)];exact hm,hjm⟩
 ·have hmu:(a.dropF k).slots.map (·.used)=(a.slots.set k slot0).map (·.used):=by
   have e1:sl2.map (·.used)=a.slots.map (·.used):=by
    have f2:sl2.map (·.used)=sl1.map (·.used):=by
     rw[hsl2]
     split
     ·rfl
     ·exact rV (g:=fun s:Slot=>s.used) (f:=fun s:Slot=>{s with ahead:=qW l1 (-1)}) (fun _=>rfl) _ _
    have f1:sl1.map (·.used)=a.slots.map (·.used):=by
     rw[hsl1]
     split
     ·rfl
     ·exact rV (g:=fun s:Slot=>s.used) (f:=fun s:Slot=>{s with back:=wL l2 (-1)}) (fun _=>rfl) _ _
    rw[f2,f1]
   rw[hS,List.map_set,e1,List.map_set]
  have:=zHt (x:=slot0) hs1
  rw[hs.used,yRe rfl,show slot0.used=false from rfl,yRd (by decide)]at this
  rw[hmu,hF,hfree]
  omega
theorem Arena.Wf.take {a:Arena} {Q:List (List Nat)} (h:a.Wf Q) {n k:Nat} {l:List Nat} (hl:Q[n]? =some l) (hk:k∈l) {q:Int} (hq:1≤q∧q≤(a.slotAt k).qty):
 (a.takeF k q).2=0∧(∀j,j≠k→((a.takeF k q).1.slotAt j).ent=(a.slotAt j).ent∧((a.takeF k q).1.slotAt j).used=(a.slotAt j).used)∧
   (if(a.slotAt k).qty=q then(a.takeF k q).1.Wf (Q.set n (l.erase k))∧(a.takeF k q).1.slotAt k=slot0∧(a.takeF k q).1.free=a.free+1
    else(a.takeF k q).1.Wf Q∧(a.takeF k q).1.slotAt k={a.slotAt k with qty:=(a.slotAt k).qty-q}∧(a.takeF k q).1.free=a.free):=by
 obtain⟨hk2,⟨p,t,hs⟩,hk1⟩:=h.toWf0.mem hl hk
 have hkl:k<a.slots.length:=by rw[h.len];exact hk2
 have hu:a.usedAt k=true:=by
  simp only[Arena.usedAt,yRq,ySs]
  refine⟨by omega,by omega,?_⟩
  rw[yRx]
  exact hs.used
 have hless:=h.toWf0.less hl hk (q:=q) (by omega)
 have hat:=zBp a k q
 rw[Arena.takeF,yRd (by rw[hu];decide),yRx,yRd (by omega)]
 by_cases e:(a.slotAt k).qty=q
 ·rw[yRe e,yRe e]
  obtain⟨l1,l2,rfl⟩:=List.append_of_mem hk
  have hnd:=h.nd n _ hl
  have hd:=yTg.1 hnd
  have k1:k∉l1:=fun hk=>hd.2.2 k hk k yRj rfl
  obtain⟨d1,d2,d3,d4⟩:=hless.drop hl (by rw[hat k hkl,yRe rfl];dsimp only;omega)
  have ee:(l1++k::l2).erase k=l1++l2:=by rw[List.erase_append_right _ k1,List.erase_cons_head]
  refine⟨rfl,fun j hj=> ?_,?_,d3,d4⟩
  ·have:=d2 j hj
   rw[hat j hkl,yRd hj]at this
   exact⟨this.1,this.2.1⟩
  ·rw[ee]
   refine⟨d1,fun m l' hm j hj=> ?_⟩
   have hj2:j≠k∧∃l'',Q[m]? =some l''∧j∈l'':=by
    have hd2:=yTm.1 hd.2.1
    rcases dK hm with⟨rfl,rfl⟩|⟨e3,hm⟩
    ·refine⟨?_,_,hl,?_⟩
     ·rintro rfl
      rcases ySg.1 hj with hj|hj
      ·exact k1 hj
      ·exact hd2.1 hj
     ·rcases ySg.1 hj with hj|hj
      ·exact ySo _ hj
      ·exact ySq _ (yRk _ hj)
    ·refine⟨?_,_,hm,hj⟩
     rintro rfl
     exact e3 (h.toWf0.one hm hl hj hk)
   obtain⟨hj3,l'',hm2,hj4⟩:=hj2
   have:=(d2 j hj3).2.2
   rw[hat j hkl,yRd hj3]at this
   dsimp only
   rw[this]
   exact h.pos m l'' hm2 j hj4
 ·rw[yRd e,yRd e]
  refine⟨rfl,fun j hj=> ?_,⟨hless,fun m l' hm j hj=> ?_⟩,?_,rfl⟩
  ·dsimp only
   rw[hat j hkl,yRd hj];exact⟨rfl,rfl⟩
  ·dsimp only
   rw[hat j hkl]
   split
   ·rename_i c
    subst c
    dsimp only
    omega
   ·exact h.pos m l' hm j hj
  ·dsimp only
   rw[hat k hkl,yRe rfl]
open Go Cv Go.Proofs
theorem xB {α β:Type} {f g:α→List β}:∀{l:List α},(∀x∈l,f x=g x)→l.flatMap f=l.flatMap g
 |[],_=>rfl
 |x::l,h=>by rw[ySt,ySt,h x yRj,xB fun y hy=>h y (yRk _ hy)]
theorem pR {α β γ:Type} {f:α→List β} {g:β→γ}:∀(l:List α),(l.flatMap f).map g=l.flatMap fun x=>(f x).map g
 |[]=>rfl
 |x::l=>by rw[ySt,ySt,yRm,pR l]
theorem zWb {α β:Type} {f:α→List β}:∀{l:List α},(∀x∈l,f x≠[])→l.length≤(l.flatMap f).length
 |[],_=>ySk 0
 |x::l,h=>by
  have:=zWb (l:=l) fun y hy=>h y (yRk _ hy)
  have:=List.length_pos_iff.2 (h x yRj)
  rw[ySt,yRi,yRt];omega
theorem zDf {α:Type} [DecidableEq α]:∀{l m:List α},l.Nodup→(∀x∈l,x∈m)→l.length≤m.length
 |[],_,_,_=>ySr _
 |x::l,m,h,hs=>by
  have hd:=yTm.1 h
  have hx:=hs x yRj
  have:=zDf (l:=l) (m:=m.erase x) hd.2 fun y hy=>by
   have hne:y≠x:=by rintro rfl;exact hd.1 hy
   exact(List.mem_erase_of_ne hne).2 (hs y (yRk _ hy))
  rw[List.length_erase_of_mem hx]at this
  have:=List.length_pos_of_mem hx
  rw[yRt];omega
theorem z3z {l:List Int} (h:l.Nodup) (hr:∀x∈l,0≤x∧x<l.length) {n:Nat} (hn:n<l.length):(n:Int)∈l:=by
 apply Classical.byContradiction
 intro hx
 have hnd:((n:Int)::l).Nodup:=yTm.2 ⟨hx,h⟩
 have:=zDf (m:=(List.range l.length).map fun k:Nat=>(k:Int)) hnd fun y hy=>by
  rw[ySm]
  rcases yRy.1 hy with rfl|hy
  ·exact⟨n,yUg.2 hn,rfl⟩
  ·have:=hr y hy
   exact⟨y.toNat,yUg.2 (by omega),by omega⟩
 simp at this
 omega
theorem zFu {α β:Type} {l:List (α×β)} (h:(l.map (·.1)).Nodup) {k:α} {x y:β} (hx:(k,x)∈l) (hy:(k,y)∈l):x=y:=by
 induction l with
 |nil=>cases hx
 |cons p l ih=>
  rw[yRs,yTm]at h
  rcases yRy.1 hx with ex|hx<;>rcases yRy.1 hy with ey|hy
  ·rw[← ex]at ey;exact(Prod.mk.inj ey).2.symm
  ·exact absurd (ySc (f:=(·.1)) hy) (by rw[← ex]at h;exact h.1)
  ·exact absurd (ySc (f:=(·.1)) hx) (by rw[← ey]at h;exact h.1)
  ·exact ih h.2 hx hy
theorem rH:∀{l:List (Int×Place)} {k:Int} {x:Place},pget l k=some x→(k,x)∈l
 |[],k,x,h=>by cases h
 |p::l,k,x,h=>by
  rw[pget,yWw]at h
  by_cases e:p.1=k
  ·rw[yRu e]at h
   simp only[yTd,Option.some.injEq]at h
   subst h;subst e
   exact yRj
  ·rw[yRo e]at h
   exact yRk _ (rH h)
theorem zCf {l:List (Int×Place)} {k:Int} (h:pget l k=none):k∉l.map (·.1):=by
 intro hk
 obtain⟨⟨k',x⟩,hx,rfl⟩:=ySm.1 hk
 rw[pget,Option.map_eq_none_iff,List.find?_eq_none]at h
 have:=h _ hx
 simp at this
theorem zRz:∀{l:List (Int×Place)} {k:Int} {x:Place},k∉l.map (·.1)→nU k x l=l++[(k,x)]
 |[],k,x,_=>rfl
 |p::l,k,x,h=>by
  rw[yRs,yRy,not_or]at h
  rw[nU,yRd h.1,zRz h.2];rfl
def xA (Q:List (List Nat)) (r:xF):List Nat:=Q.getD r.queue.toNat []
def z4u (s p:Int) (e:Ent):zH:=⟨e.id,s,p,e.qty,e.top⟩
def j9 (a:Arena) (s p:Int) (k:Nat):zH:=z4u s p (a.slotAt k).ent
def Book.rOrds (b:Book) (Q:List (List Nat)) (s:Int) (r:xF):List zH:=(xA Q r).map (j9 b.a s r.price)
def Book.sideL (b:Book) (Q:List (List Nat)) (s:Int):List zH:=(b.rungs s).flatMap (b.rOrds Q s)
def Book.flat (b:Book) (Q:List (List Nat)):List zH:=b.sideL Q 1++b.sideL Q 2
def wK (a:Arena) (s p:Int) (k:Nat):Int×Place:=((a.slotAt k).id,⟨s,p,k⟩)
def Book.plcs (b:Book) (Q:List (List Nat)) (s:Int):List (Int×Place):=(b.rungs s).flatMap fun r=>(xA Q r).map (wK b.a s r.price)
def Book.qs (b:Book):List Int:=b.buys.map (·.queue)++b.sells.map (·.queue)++b.spare
structure Book.Core (b:Book) (Q:List (List Nat)) (hole:Int):Prop where
 wf:b.a.Wf Q
 srt:∀s,s=1∨s=2→(b.rungs s).Pairwise fun r r'=>btr s r.price r'.price=true
 rng:∀q∈b.qs,0≤q∧q<Q.length
 nd:b.qs.Nodup
 ql:b.qs.length=Q.length
 ne:∀s,s=1∨s=2→∀r∈b.rungs s,r.queue≠hole→xA Q r≠[]
 sp:∀q∈b.spare,Q.getD q.toNat []=[]
 at_:b.at_.Perm (b.plcs Q 1++b.plcs Q 2)
 ids:((b.flat Q).map (·.id)).Nodup
 qb:Q.length≤250
structure Book.Tops (b:Book) (L:List zH):Prop where
 fl:∀o∈L,o.top=(b.hasF o.side && decide (o.id=b.topI o.side))
 th:∀s,s=1∨s=2→b.hasF s=true→∃o∈L,o.side=s∧o.id=b.topI s
structure Book.Rep (b:Book) (L:List zH):Prop where
 ex:∃Q,b.Core Q (-1)∧b.Tops L∧L=b.flat Q
theorem cC (b:Book) (Q:List (List Nat)) (s:Int):(b.plcs Q s).map (·.1)=(b.sideL Q s).map (·.id):=by
 rw[Book.plcs,Book.sideL,pR,pR]
 refine xB fun r _=> ?_
 rw[Book.rOrds,yTl,yTl]
 rfl
theorem Book.Core.keysP {b:Book} {Q:List (List Nat)} {h:Int} (c:b.Core Q h):(b.at_.map (·.1)).Perm ((b.flat Q).map (·.id)):=by
 have:=c.at_.map (·.1)
 rw[yRm,cC,cC,← yRm]at this
 exact this
theorem Book.Core.keys {b:Book} {Q:List (List Nat)} {h:Int} (c:b.Core Q h):(b.at_.map (·.1)).Nodup:=c.keysP.nodup_iff.2 c.ids
theorem Book.Core.len {b:Book} {Q:List (List Nat)} {h:Int} (c:b.Core Q h):b.at_.length=(b.flat Q).length:=by
 have:=c.keysP.length_eq
 simpa using this
theorem Book.Core.plc {b:Book} {Q:List (List Nat)} {h:Int} (c:b.Core Q h) {s:Int} (hs:s=1∨s=2) {r:xF} (hr:r∈b.rungs s) {k:Nat} (hk:k∈xA Q r):((b.a.slotAt k).id,(⟨s,r.price,k⟩:Place))∈b.at_:=by
 refine c.at_.mem_iff.2 ?_
 have hp:wK b.a s r.price k∈b.plcs Q s:=yTr.2 ⟨r,hr,ySc hk⟩
 rcases hs with rfl|rfl
 ·exact ySo _ hp
 ·exact ySq _ hp
theorem Book.Core.plcI {b:Book} {Q:List (List Nat)} {h:Int} (c:b.Core Q h) {id:Int} {x:Place} (hx:(id,x)∈b.at_):∃(k:Nat) (r:xF),(x.side=1∨x.side=2)∧r∈b.rungs x.side∧k∈xA Q r∧x=⟨x.side,r.price,k⟩∧(b.a.slotAt k).id=id:=by
 have:=c.at_.mem_iff.1 hx
 rcases ySg.1 this with hp|hp
 all_goals
  obtain⟨r,hr,hp⟩:=yTr.1 hp
  obtain⟨k,hk,e⟩:=ySm.1 hp
  simp only[wK,Prod.mk.injEq]at e
  obtain⟨e1,rfl⟩:=e
  exact⟨k,r,by simp,hr,hk,rfl,e1⟩
theorem zSy {Q:List (List Nat)} {r:xF} (h:0≤r.queue∧r.queue<Q.length):Q[r.queue.toNat]? =some (xA Q r):=by
 obtain⟨l,hl⟩:=yD (l:=Q) (i:=r.queue.toNat) (by omega)
 rw[xA,zR hl,hl]
theorem uA {b:Book} {s:Int} (hs:s=1∨s=2) {r:xF} (hr:r∈b.rungs s):r.queue∈b.qs:=by
 rcases hs with rfl|rfl
 ·exact ySo _ (ySo _ (ySc (f:=(·.queue)) hr))
 ·exact ySo _ (ySq _ (ySc (f:=(·.queue)) hr))
theorem Book.Core.get {b:Book} {Q:List (List Nat)} {h:Int} (c:b.Core Q h) {s:Int} (hs:s=1∨s=2) {r:xF} (hr:r∈b.rungs s):Q[r.queue.toNat]? =some (xA Q r):=zSy (c.rng _ (uA hs hr))
def clr (L:List zH) (s:Int):List zH:=L.map fun o=>if o.side=s then{o with top:=false}else o
theorem sF (s x:Int):btr s x x=false:=by
 rw[btr];split<;>exact yRo (by omega)
theorem Book.Core.flag {b:Book} {Q:List (List Nat)} {h:Int} (c:b.Core Q h) {a':Arena} (hw:a'.Wf Q) (hi:∀k,(a'.slotAt k).id=(b.a.slotAt k).id):({b with a:=a'}:Book).Core Q h:=by
 have e1:∀s,({b with a:=a'}:Book).plcs Q s=b.plcs Q s:=by
  intro s
  refine xB fun r _=>ySh fun k _=> ?_
  simp only[wK,hi]
 have e2:((({b with a:=a'}:Book).flat Q).map (·.id))=(b.flat Q).map (·.id):=by
  rw[Book.flat,Book.flat,yRm,yRm,← cC,← cC,← cC,← cC,e1,e1]
 exact⟨hw,c.srt,c.rng,c.nd,c.ql,c.ne,c.sp,by rw[e1,e1];exact c.at_,by rw[e2];exact c.ids,c.qb⟩
theorem yEa (a:Arena) (n:Int) (t:Bool) (k:Nat):((a.topF n t).slotAt k).id=(a.slotAt k).id:=by
 rw[zQa];split<;>rfl
theorem Book.Core.untop {b:Book} {Q:List (List Nat)} {h:Int} (c:b.Core Q h) (s:Int):(b.untop s).Wf Q∧∀k,((b.untop s).slotAt k).id=(b.a.slotAt k).id:=by
 rw[Book.untop]
 repeat' split
 all_goals first|exact⟨c.wf,fun _=>rfl⟩|exact⟨c.wf.top _ _,fun k=>yEa _ _ _ k⟩
theorem Book.Core.untop_flat {b:Book} {Q:List (List Nat)} {h:Int} (c:b.Core Q h) (ht:b.Tops (b.flat Q)) {s:Int} (hs:s=1∨s=2):({b with a:=b.untop s}:Book).flat Q=clr (b.flat Q) s:=by
 have hfl:∀{s':Int} (hs':s'=1∨s'=2) {r:xF} (hr:r∈b.rungs s') {k:Nat} (hk:k∈xA Q r),(b.a.slotAt k).top=(b.hasF s' && decide ((b.a.slotAt k).id=b.topI s')):=by
  intro s' hs' r hr k hk
  have hm:j9 b.a s' r.price k∈b.flat Q:=by
   have:j9 b.a s' r.price k∈b.sideL Q s':=yTr.2 ⟨r,hr,ySc hk⟩
   rcases hs' with rfl|rfl
   ·exact ySo _ this
   ·exact ySq _ this
  exact ht.fl _ hm
 have key:∀{s':Int} (hs':s'=1∨s'=2) {r:xF} (hr:r∈b.rungs s') {k:Nat} (hk:k∈xA Q r),((b.untop s).slotAt k).ent=if s'=s then{(b.a.slotAt k).ent with top:=false}else(b.a.slotAt k).ent:=by
  intro s' hs' r hr k hk
  have hplc:=c.plc hs' hr hk
  have htop:=hfl hs' hr hk
  have hno:(b.a.slotAt k).top=false→(b.a.slotAt k).ent=if s'=s then{(b.a.slotAt k).ent with top:=false}else(b.a.slotAt k).ent:=by
   intro e
   split
   ·rw[Slot.ent,e]
   ·rfl
  rw[Book.untop]
  by_cases hh:b.hasF s=true
  ·rw[yRe hh]
   cases hg:pget b.at_ (b.topI s)with
   |none=>
    dsimp only
    by_cases e:s'=s
    ·subst e
     refine hno ?_
     rw[htop,hh,yTu]
     refine yRo fun e2=> ?_
     rw[← e2]at hg
     exact zCf hg (ySc (f:=(·.1)) hplc)
    ·rw[yRd e]
   |some o=>
    dsimp only
    obtain⟨k',r',hs2,hr2,hk2,ho,hid⟩:=c.plcI (rH hg)
    by_cases es:o.side=s
    ·rw[yRe es,zQa]
     have hos:o.slot=(k':Int):=by rw[ho]
     by_cases ek:k=k'
     ·subst ek
      have hu:b.a.usedAt o.slot=true:=by
       obtain⟨_,⟨_,_,h2⟩,h3⟩:=c.wf.toWf0.mem (c.get hs' hr) hk
       have hlt:=(yRf.1 h3).1
       simp only[Arena.usedAt,yRq,ySs,hos,yRx]
       exact⟨by omega,by omega,h2.used⟩
      rw[yRe ⟨hu,by rw[hos];rfl⟩]
      have:=c.plc hs2 hr2 hk2
      have e3:=zFu c.keys hplc this
      have e4:s'=s:=by
       have:=congrArg Place.side e3
       dsimp only at this
       rw[this,es]
      rw[yRe e4];rfl
     ·rw[yRd (fun e=>ek (by have:=e.2;rw[hos]at this;simpa using this))]
      by_cases e:s'=s
      ·subst e
       refine hno ?_
       rw[htop,hh,yTu]
       refine yRo fun e2=>ek ?_
       have hp2:=c.plc hs2 hr2 hk2
       rw[hid,← e2]at hp2
       have e3:=zFu c.keys hplc hp2
       have:=congrArg Place.slot e3
       dsimp only at this
       omega
      ·rw[yRd e]
    ·rw[yRd es]
     by_cases e:s'=s
     ·subst e
      refine hno ?_
      rw[htop,hh,yTu]
      refine yRo fun e2=>es ?_
      have hp2:=rH hg
      rw[← e2]at hp2
      have e3:=zFu c.keys hplc hp2
      rw[← e3]
     ·rw[yRd e]
  ·rw[yRd hh]
   by_cases e:s'=s
   ·subst e
    refine hno ?_
    have:b.hasF s'=false:=by simpa using hh
    rw[htop,this,yUh]
   ·rw[yRd e]
 have side:∀s',s'=1∨s'=2→({b with a:=b.untop s}:Book).sideL Q s'=clr (b.sideL Q s') s:=by
  intro s' hs'
  rw[clr,Book.sideL,Book.sideL,pR]
  refine xB fun r hr=> ?_
  rw[Book.rOrds,Book.rOrds,yTl]
  refine ySh fun k hk=> ?_
  simp only[j9,Function.comp,key hs' hr hk,z4u]
  by_cases e:s'=s
  ·rw[yRe e];exact(yRe e).symm
  ·rw[yRd e];exact(yRd e).symm
 rw[Book.flat,side 1 (.inl rfl),side 2 (.inr rfl),Book.flat,clr,clr,clr,yRm]
open Go Cv Go.Proofs
def before (s p:Int) (o:zH):Bool:=decide (o.side<s)||(decide (o.side=s) && !btr s p o.price)
def uQ (L:List zH) (s p:Int):Bool:=L.all fun o=> !decide (o.side=s)||btr s p o.price
def zOg (L:List zH) (s id p q:Int):List zH:=
 let L1:=if uQ L s p=true then clr L s else L
 L1.takeWhile (before s p)++⟨id,s,p,q,uQ L s p⟩::L1.dropWhile (before s p)
theorem z6j {α:Type} {f:α→Bool}:∀{A B:List α},(∀x∈A,f x=true)→(∀x∈B,f x=false)→(A++B).takeWhile f=A∧(A++B).dropWhile f=B
 |[],[],_,_=>⟨rfl,rfl⟩
 |[],b::B,_,h=>by
  have:=h b yRj
  simp[this]
 |a::A,B,h,h2=>by
  obtain⟨i1,i2⟩:=z6j (A:=A) (B:=B) (fun x hx=>h x (yRk _ hx)) h2
  have:=h a yRj
  rw[ySv,List.takeWhile_cons,List.dropWhile_cons,this]
  simp[i1,i2]
theorem x7 {b:Book} {Q:List (List Nat)} {s:Int} {r:xF} {o:zH} (h:o∈b.rOrds Q s r):o.side=s∧o.price=r.price:=by
 obtain⟨k,_,rfl⟩:=ySm.1 h
 exact⟨rfl,rfl⟩
theorem cP {b:Book} {Q:List (List Nat)} {s:Int} {o:zH} (h:o∈b.sideL Q s):o.side=s∧∃r∈b.rungs s,o∈b.rOrds Q s r∧o.price=r.price:=by
 obtain⟨r,hr,ho⟩:=yTr.1 h
 exact⟨(x7 ho).1,r,hr,ho,(x7 ho).2⟩
structure Spl (s p:Int) (R1 R2:List xF):Prop where
 a:∀r∈R1,btr s r.price p=true
 b:∀r∈R2,btr s p r.price=true
theorem zRl {s x y:Int} (h:btr s x y=true):btr s y x=false:=by
 rw[btr]at h ⊢
 split at h
 ·rename_i e;rw[yRe e];have:=yTx h;exact yRo (by omega)
 ·rename_i e;rw[yRd e];have:=yTx h;exact yRo (by omega)
theorem zMu {s x y z:Int} (h:btr s x y=true) (h2:btr s y z=true):btr s x z=true:=by
 rw[btr]at h h2 ⊢
 split at h
 ·rename_i e;rw[yRe e]at h2 ⊢;have:=yTx h;have:=yTx h2;exact yRu (by omega)
 ·rename_i e;rw[yRd e]at h2 ⊢;have:=yTx h;have:=yTx h2;exact yRu (by omega)
theorem z1u {s x y:Int} (h:btr s x y=false) (hne:x≠y):btr s y x=true:=by
 rw[btr]at h ⊢
 split at h
 ·rename_i e;rw[yRe e];have:=yWv h;exact yRu (by omega)
 ·rename_i e;rw[yRd e];have:=yWv h;exact yRu (by omega)
theorem eR {s p:Int} {l:List xF} (hs:l.Pairwise fun r r'=>btr s r.price r'.price=true):
 (∀r∈l.take (zU s l p),btr s r.price p=true)∧
 (if qX s l p=true then ∃r,l[zU s l p]? =some r∧r.price=p∧∀r'∈l.drop (zU s l p+1),btr s p r'.price=true
  else ∀r'∈l.drop (zU s l p),btr s p r'.price=true):=by
 have e1:l.take (zU s l p)=l.takeWhile fun r=>btr s r.price p:=by
  rw[zU]
  have h:=List.take_left (l₁:=l.takeWhile fun r=>btr s r.price p) (l₂:=l.dropWhile fun r=>btr s r.price p)
  rwa [yWq]at h
 have e2:l.drop (zU s l p)=l.dropWhile fun r=>btr s r.price p:=by
  have h:=yTq (zU s l p) l
  have h2:=yWq (p:=fun r:xF=>btr s r.price p) (l:=l)
  rw[e1]at h
  exact List.append_cancel_left (h.trans h2.symm)
 refine⟨fun r hr=> ?_,?_⟩
 ·rw[e1]at hr
  exact yUd.1 List.all_takeWhile r hr
 have hd:∀r,l[zU s l p]? =some r→btr s r.price p=false:=by
  intro r hr
  have h0:(l.drop (zU s l p))[0]? =some r:=by rw[yUa];exact hr
  rw[e2]at h0
  cases hdw:l.dropWhile fun r=>btr s r.price p with
  |nil=>rw[hdw]at h0;cases h0
  |cons x y=>
   rw[hdw]at h0
   cases h0
   have:=List.head?_dropWhile_not (fun r:xF=>btr s r.price p) l
   rw[hdw]at this
   simpa using this
 have hpw:∀r r',l[zU s l p]? =some r→r'∈l.drop (zU s l p+1)→btr s r.price r'.price=true:=by
  intro r r' hr hr'
  have hlt:=(yRf.1 hr).1
  have:=List.Pairwise.sublist (List.drop_sublist (zU s l p) l) hs
  rw[yTp hlt,yWx,(yRf.1 hr).2]at this
  exact this.1 r' hr'
 split
 ·rename_i hb
  rw[qX]at hb
  cases hr:l[zU s l p]? with
  |none=>rw[hr]at hb;cases hb
  |some r=>
   rw[hr]at hb
   have hp:r.price=p:=yTx hb
   exact⟨r,rfl,hp,fun r' hr'=>by rw[← hp];exact hpw r r' hr hr'⟩
 ·rename_i hb
  intro r' hr'
  by_cases hlt:zU s l p<l.length
  ·obtain⟨r,hr⟩:=yD hlt
   rw[qX,hr]at hb
   have hp:¬r.price=p:=fun e=>hb (yRu e)
   have h1:=z1u (hd r hr) hp
   rw[yTp hlt,(yRf.1 hr).2]at hr'
   rcases yRy.1 hr' with rfl|hr'
   ·exact h1
   ·exact zMu h1 (hpw r r' hr hr')
  ·rw[yUj (by omega)]at hr'
   cases hr'
def Book.setR (b:Book) (s:Int) (l:List xF):Book:=if s=1 then{b with buys:=l}else{b with sells:=l}
theorem z0i {b:Book} {s:Int} (hs:s=1∨s=2):∃rest,b.qs.Perm ((b.rungs s).map (·.queue)++rest)∧∀l,(b.setR s l).qs.Perm (l.map (·.queue)++rest):=by
 rcases hs with rfl|rfl
 ·refine⟨b.sells.map (·.queue)++b.spare,?_,fun l=> ?_⟩
  ·rw[Book.qs,yRn];exact .refl _
  ·show(l.map (·.queue)++b.sells.map (·.queue)++b.spare).Perm _
   rw[yRn]
 ·refine⟨b.buys.map (·.queue)++b.spare,?_,fun l=> ?_⟩
  ·rw[Book.qs]
   show(b.buys.map (·.queue)++b.sells.map (·.queue)++b.spare).Perm (b.sells.map (·.queue)++(b.buys.map (·.queue)++b.spare))
   rw[← yRn];exact yTc.append_right _
  ·show(b.buys.map (·.queue)++l.map (·.queue)++b.spare).Perm (l.map (·.queue)++(b.buys.map (·.queue)++b.spare))
   rw[← yRn];exact yTc.append_right _
structure Queued (b:Book) (Q:List (List Nat)) (s p:Int) (b':Book) (n:Int) (Q':List (List Nat)) (R1 R2:List xF):Prop where
 core:b'.Core Q' n
 rungs:b'.rungs s=R1++⟨p,n⟩::R2
 spl:Spl s p R1 R2
 flat:b'.flat Q'=b.flat Q
 at_:b'.at_=b.at_
 free:b'.a.free=b.a.free
 tops:∀L,b.Tops L→b'.Tops L
 qty:∀x,b'.hasF x=b.hasF x∧b'.topI x=b.topI x
theorem z6g {α:Type} {l:List α} {x d:α} {n:Nat}:(l++[x]).getD n d=if n=l.length then x else l.getD n d:=by
 rw[yRl,yRl,List.getElem?_append]
 split
 ·rw[yRd (by omega)]
 ·rename_i h
  by_cases e:n=l.length
  ·rw[yRe e,e,yWi];rfl
  ·rw[yRd e,ySi (show([x]:List α).length≤n-l.length by simp;omega),ySi (by omega)]
theorem Book.Core.add {b:Book} {Q:List (List Nat)} (c:b.Core Q (-1)) {s p n:Int} (hs:s=1∨s=2) {R1 R2:List xF} (hr:b.rungs s=R1++R2) (spl:Spl s p R1 R2) {b':Book} {Q':List (List Nat)}
 (hrs:b'.rungs s=R1++⟨p,n⟩::R2) (hro:∀s',s'≠s→s'=1∨s'=2→b'.rungs s'=b.rungs s') (hat:b'.at_=b.at_) (hw:b'.a.Wf Q') (hsl:b'.a.slots=b.a.slots)
 (hQ:∀k,Q'.getD k []=Q.getD k []) (hn:Q.getD n.toNat []=[]) (hrng:∀q∈b'.qs,0≤q∧q<Q'.length) (hnd:b'.qs.Nodup) (hql:b'.qs.length=Q'.length) (hsp:∀q∈b'.spare,Q.getD q.toNat []=[]) (hqb:Q'.length≤250):
 b'.Core Q' n∧b'.flat Q'=b.flat Q:=by
 have hslQ:∀r,xA Q' r=xA Q r:=fun r=>hQ _
 have hsa:∀k,b'.a.slotAt k=b.a.slotAt k:=fun k=>by rw[Arena.slotAt,Arena.slotAt,hsl]
 have hn':xA Q ⟨p,n⟩=[]:=hn
 have hro':∀s' r,b'.rOrds Q' s' r=b.rOrds Q s' r:=by
  intro s' r
  rw[Book.rOrds,Book.rOrds,hslQ]
  exact ySh fun k _=>by rw[j9,j9,hsa]
 have hpo:∀s' (r:xF),(xA Q' r).map (wK b'.a s' r.price)=(xA Q r).map (wK b.a s' r.price):=by
  intro s' r
  rw[hslQ]
  exact ySh fun k _=>by rw[wK,wK,hsa]
 have hside:∀s',s'=1∨s'=2→b'.sideL Q' s'=b.sideL Q s':=by
  intro s' hs'
  rw[Book.sideL,Book.sideL]
  by_cases e:s'=s
  ·subst e
   rw[hrs,hr,ySx,ySx,ySt,xB (fun r _=>hro' s' r),xB (l:=R2) (fun r _=>hro' s' r),hro',Book.rOrds,hn',yUr,yTs]
  ·rw[hro s' e hs'];exact xB fun r _=>hro' s' r
 have hplc:∀s',s'=1∨s'=2→b'.plcs Q' s'=b.plcs Q s':=by
  intro s' hs'
  rw[Book.plcs,Book.plcs]
  by_cases e:s'=s
  ·subst e
   rw[hrs,hr,ySx,ySx,ySt,xB (fun r _=>hpo s' r),xB (l:=R2) (fun r _=>hpo s' r),hpo,hn',yUr,yTs]
  ·rw[hro s' e hs'];exact xB fun r _=>hpo s' r
 have hflat:b'.flat Q'=b.flat Q:=by rw[Book.flat,Book.flat,hside 1 (.inl rfl),hside 2 (.inr rfl)]
 refine⟨⟨hw,fun s' hs'=> ?_,hrng,hnd,hql,fun s' hs' r hr' hne=> ?_,fun q hq=>by rw[hQ];exact hsp q hq,by rw[hat,hplc 1 (.inl rfl),hplc 2 (.inr rfl)];exact c.at_,by rw[hflat];exact c.ids,hqb⟩,hflat⟩
 ·by_cases e:s'=s
  ·subst e
   have h0:=c.srt s' hs'
   rw[hr,List.pairwise_append]at h0
   rw[hrs,List.pairwise_append,yWx]
   refine⟨h0.1,⟨spl.b,h0.2.1⟩,fun x hx y hy=> ?_⟩
   rcases yRy.1 hy with rfl|hy
   ·exact spl.a x hx
   ·exact h0.2.2 x hx y hy
  ·rw[hro s' e hs'];exact c.srt s' hs'
 ·rw[hslQ]
  have hold:∀r∈b.rungs s',xA Q r≠[]:=fun r hr=>c.ne s' hs' r hr fun e=>by
   have:=c.rng _ (uA hs' hr)
   omega
  by_cases e:s'=s
  ·subst e
   rw[hrs]at hr'
   rcases ySg.1 hr' with h|h
   ·exact hold r (by rw[hr];exact ySo _ h)
   ·rcases yRy.1 h with rfl|h
    ·exact absurd rfl hne
    ·exact hold r (by rw[hr];exact ySq _ h)
  ·rw[hro s' e hs']at hr';exact hold r hr'
theorem zJb (b:Book) {s:Int} (hs:s=1∨s=2) (l:List xF):(b.setR s l).rungs s=l∧∀s',s'≠s→s'=1∨s'=2→(b.setR s l).rungs s'=b.rungs s':=by
 rcases hs with rfl|rfl
 ·exact⟨rfl,fun s' h h2=>by rcases h2 with rfl|rfl;exact absurd rfl h;rfl⟩
 ·exact⟨rfl,fun s' h h2=>by rcases h2 with rfl|rfl;rfl;exact absurd rfl h⟩
theorem z2m (b:Book) {s p:Int} (hs:s=1∨s=2):b.queueF s p=if qX s (b.rungs s) p=true then(b,((b.rungs s).getD (zU s (b.rungs s) p) ⟨0,0⟩).queue)else(({b with a:=b.newQ.2.2,spare:=b.newQ.2.1}:Book).setR s (b.ins s p),b.newQ.1):=by
 rcases hs with rfl|rfl<;>rfl
theorem Book.Core.queue {b:Book} {Q:List (List Nat)} (c:b.Core Q (-1)) (hl:(b.flat Q).length<250) {s:Int} (hs:s=1∨s=2) (p:Int):∃Q' R1 R2,Queued b Q s p (b.queueF s p).1 (b.queueF s p).2 Q' R1 R2:=by
 have hsp:=eR (p:=p) (c.srt s hs)
 rw[z2m b hs]
 by_cases hb:qX s (b.rungs s) p=true
 ·rw[yRe hb]at hsp ⊢
  obtain⟨h1,r,hr,hp,h2⟩:=hsp
  have hlt:=(yRf.1 hr).1
  have er:(⟨p,r.queue⟩:xF)=r:=by rw[← hp]
  have hsplit:b.rungs s=(b.rungs s).take (zU s (b.rungs s) p)++r::(b.rungs s).drop (zU s (b.rungs s) p+1):=by
   conv=>lhs;rw[← yTq (zU s (b.rungs s) p) (b.rungs s)]
   rw[yTp hlt,(yRf.1 hr).2]
  refine⟨Q,_,_,⟨⟨c.wf,c.srt,c.rng,c.nd,c.ql,fun s' hs' r' hr' _=>c.ne s' hs' r' hr' fun e=> ?_,c.sp,c.at_,c.ids,c.qb⟩,?_,⟨h1,h2⟩,rfl,rfl,rfl,fun _ h=>h,fun _=>⟨rfl,rfl⟩⟩⟩
  ·have:=c.rng _ (uA hs' hr');omega
  ·dsimp only
   rw[zR hr,er];exact hsplit
 ·rw[yRd hb]at hsp ⊢
  obtain⟨h1,h2⟩:=hsp
  have hr:b.rungs s=(b.rungs s).take (zU s (b.rungs s) p)++(b.rungs s).drop (zU s (b.rungs s) p):=(yTq _ _).symm
  obtain⟨g1,g2⟩:=zJb ({b with a:=b.newQ.2.2,spare:=b.newQ.2.1}:Book) hs (b.ins s p)
  have tops:∀x,((({b with a:=b.newQ.2.2,spare:=b.newQ.2.1}:Book).setR s (b.ins s p)).hasF x=b.hasF x∧(({b with a:=b.newQ.2.2,spare:=b.newQ.2.1}:Book).setR s (b.ins s p)).topI x=b.topI x):=by
   intro x;rcases hs with rfl|rfl<;>exact⟨rfl,rfl⟩
  have hat:(({b with a:=b.newQ.2.2,spare:=b.newQ.2.1}:Book).setR s (b.ins s p)).at_=b.at_:=by rcases hs with rfl|rfl<;>rfl
  have ha:(({b with a:=b.newQ.2.2,spare:=b.newQ.2.1}:Book).setR s (b.ins s p)).a=b.newQ.2.2:=by rcases hs with rfl|rfl<;>rfl
  have hspr:(({b with a:=b.newQ.2.2,spare:=b.newQ.2.1}:Book).setR s (b.ins s p)).spare=b.newQ.2.1:=by rcases hs with rfl|rfl<;>rfl
  obtain⟨rest,q1,q2⟩:=z0i (b:=({b with a:=b.newQ.2.2,spare:=b.newQ.2.1}:Book)) hs
  have q2:=q2 (b.ins s p)
  have hqs:(({b with a:=b.newQ.2.2,spare:=b.newQ.2.1}:Book).setR s (b.ins s p)).qs.Perm (b.newQ.1::({b with a:=b.newQ.2.2,spare:=b.newQ.2.1}:Book).qs):=by
   refine q2.trans (.trans ?_ (q1.symm.cons _))
   rw[← ySv]
   refine List.Perm.append_right _ ?_
   show((b.ins s p).map (·.queue)).Perm (b.newQ.1::(b.rungs s).map (·.queue))
   conv=>rhs;rw[hr]
   rw[Book.ins,yRm,yRm,yRs]
   exact yRr
  generalize hB:(({b with a:=b.newQ.2.2,spare:=b.newQ.2.1}:Book).setR s (b.ins s p))=B at*
  have fin:∀Q',B.a.Wf Q'→B.a.slots=b.a.slots→B.a.free=b.a.free→(∀k,Q'.getD k []=Q.getD k [])→Q.getD b.newQ.1.toNat []=[]→(∀q∈B.qs,0≤q∧q<Q'.length)→B.qs.Nodup→B.qs.length=Q'.length→(∀q∈B.spare,Q.getD q.toNat []=[])→Q'.length≤250→∃Q' R1 R2,Queued b Q s p B b.newQ.1 Q' R1 R2:=by
   intro Q' w1 w2 w3 w4 w5 w6 w7 w8 w9 w10
   obtain⟨u1,u2⟩:=c.add hs hr ⟨h1,h2⟩ (b':=B) (Q':=Q') (n:=b.newQ.1) (by rw[g1];rfl) g2 hat w1 w2 w4 w5 w6 w7 w8 w9 w10
   refine⟨Q',_,_,⟨u1,g1.trans rfl,⟨h1,h2⟩,u2,hat,w3,fun L h=>⟨fun o ho=> ?_,fun s' hs' hh=> ?_⟩,tops⟩⟩
   ·rw[(tops o.side).1,(tops o.side).2];exact h.fl o ho
   ·rw[(tops s').1]at hh
    rw[(tops s').2];exact h.th s' hs' hh
  by_cases he:b.spare.length=0
  ·have hnq:b.newQ=((b.a.queues.length:Int),b.spare,b.a.openQ):=by rw[Book.newQ,yRe he]
   have hql:=c.wf.ql
   have hspe:b.spare=[]:=ySe he
   have hqs':B.qs.Perm ((Q.length:Int)::b.qs):=by
    rw[hnq]at hqs
    rw[← hql];exact hqs
   refine fin (Q++[[]]) (by rw[ha,hnq];exact c.wf.open) (by rw[ha,hnq];rfl) (by rw[ha,hnq];rfl) (fun k=> ?_) ?_ (fun q hq=> ?_) ?_ ?_ (fun q hq=> ?_) ?_
   ·rw[z6g]
    split
    ·rename_i e;rw[e,yRl,ySi (ySk _)];rfl
    ·rfl
   ·rw[hnq,yRl,ySi (by dsimp only;omega)];rfl
   ·rw[yRi]
    rcases yRy.1 (hqs'.mem_iff.1 hq)with rfl|hq
    ·simp only[yUq];omega
    ·have:=c.rng q hq;simp only[yUq];omega
   ·refine hqs'.nodup_iff.2 (yTm.2 ⟨fun hm=> ?_,c.nd⟩)
    have:=c.rng _ hm;omega
   ·rw[hqs'.length_eq,yRt,yRi,c.ql];rfl
   ·rw[hspr,hnq]at hq
    rw[hspe]at hq;cases hq
   ·have h1:=zWb (l:=b.rungs 1) (f:=b.rOrds Q 1) fun r hr e=>c.ne 1 (.inl rfl) r hr (fun e2=>by have:=c.rng _ (uA (.inl rfl) hr);omega) (List.map_eq_nil_iff.1 e)
    have h2:=zWb (l:=b.rungs 2) (f:=b.rOrds Q 2) fun r hr e=>c.ne 2 (.inr rfl) r hr (fun e2=>by have:=c.rng _ (uA (.inr rfl) hr);omega) (List.map_eq_nil_iff.1 e)
    have h3:=c.ql
    rw[Book.flat,yRi,Book.sideL,Book.sideL]at hl
    rw[Book.qs,yRi,yRi,yRg,yRg,he]at h3
    rw[nE]at h1 hl
    rw[mW]at h2 hl
    rw[yRi,yUq]
    omega
  ·have hnq:b.newQ=(b.spare.getD (b.spare.length-1) 0,b.spare.take (b.spare.length-1),b.a):=by rw[Book.newQ,yRd he]
   obtain⟨sp,q,hspq⟩:∃sp q,b.spare=sp++[q]:=⟨_,_,(List.dropLast_concat_getLast (l:=b.spare) (by intro e;rw[e]at he;exact he rfl)).symm⟩
   have e1:b.newQ=(q,sp,b.a):=by
    rw[hnq,hspq]
    simp
   have hqs':B.qs.Perm b.qs:=by
    refine hqs.trans ?_
    rw[e1]
    show(q::(b.buys.map (·.queue)++b.sells.map (·.queue)++sp)).Perm (b.buys.map (·.queue)++b.sells.map (·.queue)++b.spare)
    rw[hspq,← yRn]
    exact yVf q _|>.symm
   have hq0:q∈b.spare:=by rw[hspq];simp
   refine fin Q (by rw[ha,e1];exact c.wf) (by rw[ha,e1]) (by rw[ha,e1]) (fun _=>rfl) (by rw[e1];exact c.sp q hq0) (fun q hq=>c.rng q (hqs'.mem_iff.1 hq)) (hqs'.nodup_iff.2 c.nd) (by rw[hqs'.length_eq];exact c.ql) (fun q' hq'=> ?_) c.qb
   rw[hspr,e1]at hq'
   exact c.sp q' (by rw[hspq];exact ySo _ hq')
open Go Cv Go.Proofs
theorem Book.Core.used {b:Book} {Q:List (List Nat)} (c:b.Core Q (-1)) (hl:(b.flat Q).length<250):b.a.free≠0:=by
 intro hf
 have hcn:=c.wf.free
 rw[hf]at hcn
 have hz:(b.a.slots.map (·.used)).countP (!·)=0:=by omega
 rw[List.countP_eq_zero]at hz
 have hin:∀k∈List.range 250,k∈((b.rungs 1).flatMap (xA Q)++(b.rungs 2).flatMap (xA Q)):=by
  intro k hk
  have hk:=yUg.1 hk
  obtain⟨s,hs⟩:=yD (l:=b.a.slots) (i:=k) (by rw[c.wf.len];exact hk)
  have hu:s.used=true:=by
   have:=hz s.used (ySc (yRp hs))
   simpa using this
  obtain⟨n,l,hn,hkl⟩:=c.wf.us k s hs hu
  have hnQ:=(yRf.1 hn).1
  have hm:(n:Int)∈b.qs:=z3z c.nd (fun x hx=>by rw[c.ql];exact c.rng x hx) (by rw[c.ql];exact hnQ)
  have e:∀r:xF,r.queue=(n:Int)→k∈xA Q r:=by
   intro r hr
   rw[xA,hr,yRx,zR hn];exact hkl
  rw[Book.qs]at hm
  rcases ySg.1 hm with hm|hm
  ·rcases ySg.1 hm with hm|hm
   ·obtain⟨r,hr,er⟩:=ySm.1 hm
    exact ySo _ (yTr.2 ⟨r,hr,e r er⟩)
   ·obtain⟨r,hr,er⟩:=ySm.1 hm
    exact ySq _ (yTr.2 ⟨r,hr,e r er⟩)
  ·have:=c.sp _ hm
   rw[yRx,zR hn]at this
   rw[this]at hkl;cases hkl
 have h1:=zDf List.nodup_range hin
 have e:∀s,(b.sideL Q s).length=((b.rungs s).flatMap (xA Q)).length:=by
  intro s
  rw[Book.sideL,yVv,yVv]
  congr 1
  exact ySh fun r _=>by rw[Book.rOrds,yRg]
 rw[yRi,← e,← e,List.length_range]at h1
 rw[Book.flat,yRi]at hl
 omega
theorem zPd {s p:Int} {o:zH} (h:o.side≠s) (hlt:o.side=1∨o.side=2) (hs:s=1∨s=2):before s p o=decide (s=2):=by
 rw[before,yRo h,yUh,Bool.or_false]
 rcases hs with rfl|rfl
 ·rw[yRo (by omega),yRo (by omega)]
 ·rw[yRu (by omega),yRu rfl]
theorem Queued.put {b:Book} {Q:List (List Nat)} {s p:Int} {b':Book} {n:Int} {Q':List (List Nat)} {R1 R2:List xF} (h:Queued b Q s p b' n Q' R1 R2) (hs:s=1∨s=2) {id qty:Int} (top:Bool) (hid:id∉(b.flat Q).map (·.id)) (hf:b.a.free≠0) (hq:1≤qty∧qty≤1000000):
 ∃Q3 A B,({b' with a:=(b'.a.push n id qty top).1,at_:=nU id ⟨s,p,(b'.a.push n id qty top).2.1⟩ b'.at_}:Book).Core Q3 (-1)∧b'.flat Q'=A++B∧
  ({b' with a:=(b'.a.push n id qty top).1,at_:=nU id ⟨s,p,(b'.a.push n id qty top).2.1⟩ b'.at_}:Book).flat Q3=A++⟨id,s,p,qty,top⟩::B∧(∀o∈A,before s p o=true)∧∀o∈B,before s p o=false:=by
 have c:=h.core
 have hrm:(⟨p,n⟩:xF)∈b'.rungs s:=by rw[h.rungs];simp
 have hnr:0≤n∧n<Q'.length:=c.rng n (uA hs hrm)
 obtain⟨m,rfl⟩:∃m:Nat,n=m:=⟨n.toNat,by omega⟩
 have hl:Q'[m]? =some (xA Q' ⟨p,m⟩):=zSy (r:=⟨p,m⟩) hnr
 obtain⟨k,k1,k2,k3,k4,kw,kent,kfree⟩:=c.wf.put (id:=id) hl (by rw[h.free];exact hf) top hq
 have hpush:b'.a.push m id qty top=(b'.a.put m id qty top,(k:Int),0):=by
  have:=c.wf.ql
  rw[Arena.push,yRd (by omega),yRd (by omega),yRd (by rw[h.free];exact hf),k1]
 rw[hpush]
 dsimp only
 have hmQ:=(yRf.1 hl).1
 have hqd:∀s' (r:xF),(s'=1∨s'=2)→r∈b'.rungs s'→(r.queue=m→s'=s∧r=⟨p,m⟩):=by
  intro s' r hs' hr e
  obtain⟨rest,q1,_⟩:=z0i (b:=b') hs
  have hnd:=q1.nodup_iff.1 c.nd
  rw[h.rungs,yRm,yRs]at hnd
  by_cases es:s'=s
  ·subst es
   refine⟨rfl,?_⟩
   rw[h.rungs]at hr
   have hnd2:=(yTg.1 hnd).1
   rcases ySg.1 hr with hr|hr
   ·exact absurd e ((yTg.1 hnd2).2.2 r.queue (ySc (f:=(·.queue)) hr) m yRj)
   ·rcases yRy.1 hr with rfl|hr
    ·rfl
    ·have:=(yTm.1 (yTg.1 hnd2).2.1).1
     exact absurd (e▸ySc (f:=(·.queue)) hr) this
  ·exfalso
   have hcn:=c.nd
   rw[Book.qs]at hcn
   have hcn2:=(yTg.1 (yTg.1 hcn).1).2.2
   have ha:(m:Int)∈(b'.rungs s).map (·.queue):=ySm.2 ⟨_,hrm,rfl⟩
   have hb:(m:Int)∈(b'.rungs s').map (·.queue):=ySm.2 ⟨r,hr,e⟩
   rcases hs with rfl|rfl<;>rcases hs' with rfl|rfl
   ·exact es rfl
   ·exact hcn2 _ ha _ hb rfl
   ·exact hcn2 _ hb _ ha rfl
   ·exact es rfl
 have hsl1:xA (Q'.set m (xA Q' ⟨p,m⟩++[k])) ⟨p,m⟩=xA Q' ⟨p,m⟩++[k]:=by
  show(Q'.set m _).getD (Int.toNat (m:Int)) []=_
  rw[yRx];exact zR (gG hmQ)
 have hsl2:∀q:Int,0≤q→q≠m→(Q'.set m (xA Q' ⟨p,m⟩++[k])).getD q.toNat []=Q'.getD q.toNat []:=by
  intro q h0 hne
  rw[yRl,wQ (by omega),yRl]
 generalize hQ3:Q'.set m (xA Q' ⟨p,m⟩++[k])=Q3 at*
 have hQl:Q3.length=Q'.length:=by rw[← hQ3,ySj]
 have hpid:=cC
 have hord:∀s' (r:xF),(s'=1∨s'=2)→r∈b'.rungs s'→∀j∈xA Q' r,j≠k∧(j9 (b'.a.put m id qty top) s' r.price j=j9 b'.a s' r.price j∧wK (b'.a.put m id qty top) s' r.price j=wK b'.a s' r.price j):=by
  intro s' r hs' hr j hj
  have hjk:j≠k:=by rintro rfl;exact k4 _ _ (c.get hs' hr) hj
  have:=kent j
  rw[yRd hjk]at this
  refine⟨hjk,by rw[j9,j9,this],?_⟩
  have:=congrArg Ent.id this
  rw[wK,wK]
  exact congrArg (fun i=>(i,(⟨s',r.price,j⟩:Place))) this
 have hr0:∀s' (r:xF),(s'=1∨s'=2)→r∈b'.rungs s'→r.queue≠m→xA Q3 r=xA Q' r:=by
  intro s' r hs' hr hne
  exact hsl2 _ (c.rng _ (uA hs' hr)).1 hne
 generalize hB:({b' with a:=b'.a.put m id qty top,at_:=nU id ⟨s,p,k⟩ b'.at_}:Book)=B3
 have hBr:∀s',B3.rungs s'=b'.rungs s':=by intro s';rw[← hB];rfl
 have hBa:B3.a=b'.a.put m id qty top:=by rw[← hB]
 have hBat:B3.at_=nU id ⟨s,p,k⟩ b'.at_:=by rw[← hB]
 have hBqs:B3.qs=b'.qs:=by rw[← hB];rfl
 have hBsp:B3.spare=b'.spare:=by rw[← hB]
 have hro:∀s' (r:xF),(s'=1∨s'=2)→r∈b'.rungs s'→r.queue≠m→B3.rOrds Q3 s' r=b'.rOrds Q' s' r∧(xA Q3 r).map (wK B3.a s' r.price)=(xA Q' r).map (wK b'.a s' r.price):=by
  intro s' r hs' hr hne
  rw[Book.rOrds,Book.rOrds,hr0 s' r hs' hr hne,hBa]
  exact⟨ySh fun j hj=>(hord s' r hs' hr j hj).2.1,ySh fun j hj=>(hord s' r hs' hr j hj).2.2⟩
 have hnew:j9 B3.a s p k=⟨id,s,p,qty,top⟩∧wK B3.a s p k=(id,⟨s,p,k⟩):=by
  have:=kent k
  rw[yRe rfl]at this
  rw[j9,hBa,this]
  refine⟨rfl,?_⟩
  have:=congrArg Ent.id this
  rw[wK]
  exact congrArg (fun i=>(i,(⟨s,p,k⟩:Place))) this
 have hroN:B3.rOrds Q3 s ⟨p,m⟩=b'.rOrds Q' s ⟨p,m⟩++[⟨id,s,p,qty,top⟩]∧(xA Q3 ⟨p,m⟩).map (wK B3.a s p)=(xA Q' ⟨p,m⟩).map (wK b'.a s p)++[(id,⟨s,p,k⟩)]:=by
  rw[Book.rOrds,Book.rOrds,hsl1,yRm,yRm,List.map_singleton,List.map_singleton]
  refine⟨?_,?_⟩
  ·rw[hnew.1,ySh (g:=j9 b'.a s p) fun j hj=>by rw[hBa];exact(hord s ⟨p,m⟩ hs hrm j hj).2.1]
  ·rw[hnew.2,ySh (g:=wK b'.a s p) fun j hj=>by rw[hBa];exact(hord s ⟨p,m⟩ hs hrm j hj).2.2]
 have hR1:∀r∈R1,r∈b'.rungs s∧r.queue≠m:=by
  intro r hr
  have hm:r∈b'.rungs s:=by rw[h.rungs];exact ySo _ hr
  refine⟨hm,fun e=> ?_⟩
  have e2:=(hqd s r hs hm e).2
  have:=h.spl.a r hr
  rw[e2,sF]at this;cases this
 have hR2:∀r∈R2,r∈b'.rungs s∧r.queue≠m:=by
  intro r hr
  have hm:r∈b'.rungs s:=by rw[h.rungs];exact ySq _ (yRk _ hr)
  refine⟨hm,fun e=> ?_⟩
  have e2:=(hqd s r hs hm e).2
  have:=h.spl.b r hr
  rw[e2,sF]at this;cases this
 have zC:B3.sideL Q3 s=(R1.flatMap (b'.rOrds Q' s)++b'.rOrds Q' s ⟨p,m⟩)++⟨id,s,p,qty,top⟩::R2.flatMap (b'.rOrds Q' s):=by
  rw[Book.sideL,hBr,h.rungs,ySx,ySt,hroN.1,xB (l:=R1) (fun r hr=>(hro s r hs (hR1 r hr).1 (hR1 r hr).2).1),xB (l:=R2) (fun r hr=>(hro s r hs (hR2 r hr).1 (hR2 r hr).2).1)]
  simp
 have sideO:b'.sideL Q' s=(R1.flatMap (b'.rOrds Q' s)++b'.rOrds Q' s ⟨p,m⟩)++R2.flatMap (b'.rOrds Q' s):=by
  rw[Book.sideL,h.rungs,ySx,ySt,yRn]
 have plcN:(B3.plcs Q3 s).Perm ((id,⟨s,p,k⟩)::b'.plcs Q' s):=by
  rw[Book.plcs,hBr,h.rungs,ySx,ySt,hroN.2,xB (l:=R1) (fun r hr=>(hro s r hs (hR1 r hr).1 (hR1 r hr).2).2),xB (l:=R2) (fun r hr=>(hro s r hs (hR2 r hr).1 (hR2 r hr).2).2),Book.plcs,h.rungs,ySx,ySt]
  rw[yRn,List.singleton_append,← yRn]
  refine yRr.trans ?_
  rw[yRn]
 have other:∀s',s'≠s→s'=1∨s'=2→B3.sideL Q3 s'=b'.sideL Q' s'∧B3.plcs Q3 s'=b'.plcs Q' s':=by
  intro s' hne hs'
  have hne':∀r∈b'.rungs s',r.queue≠m:=fun r hr e=>hne (hqd s' r hs' hr e).1
  rw[Book.sideL,Book.sideL,Book.plcs,Book.plcs,hBr]
  exact⟨xB fun r hr=>(hro s' r hs' hr (hne' r hr)).1,xB fun r hr=>(hro s' r hs' hr (hne' r hr)).2⟩
 have bA:∀o∈R1.flatMap (b'.rOrds Q' s)++b'.rOrds Q' s ⟨p,m⟩,before s p o=true:=by
  intro o ho
  rcases ySg.1 ho with ho|ho
  ·obtain⟨r,hr,ho⟩:=yTr.1 ho
   obtain⟨e1,e2⟩:=x7 ho
   rw[before,e1,e2,zRl (h.spl.a r hr)];simp
  ·obtain⟨e1,e2⟩:=x7 ho
   rw[before,e1,e2,sF];simp
 have bB:∀o∈R2.flatMap (b'.rOrds Q' s),before s p o=false:=by
  intro o ho
  obtain⟨r,hr,ho⟩:=yTr.1 ho
  obtain⟨e1,e2⟩:=x7 ho
  rw[before,e1,e2,h.spl.b r hr];simp
 have bO:∀s',s'≠s→s'=1∨s'=2→∀o∈b'.sideL Q' s',before s p o=decide (s=2):=by
  intro s' hne hs' o ho
  have:=(cP ho).1
  exact zPd (by omega) (by omega) hs
 have flatE:∃A B,b'.flat Q'=A++B∧B3.flat Q3=A++⟨id,s,p,qty,top⟩::B∧(∀o∈A,before s p o=true)∧∀o∈B,before s p o=false:=by
  rcases hs with rfl|rfl
  ·refine⟨_,R2.flatMap (b'.rOrds Q' 1)++b'.sideL Q' 2,?_,?_,bA,fun o ho=> ?_⟩
   ·rw[Book.flat,sideO];simp only[yRn]
   ·rw[Book.flat,zC,(other 2 (by decide) (.inr rfl)).1];simp only[yRn,ySv]
   ·rcases ySg.1 ho with ho|ho
    ·exact bB o ho
    ·exact bO 2 (by decide) (.inr rfl) o ho
  ·refine⟨b'.sideL Q' 1++(R1.flatMap (b'.rOrds Q' 2)++b'.rOrds Q' 2 ⟨p,m⟩),R2.flatMap (b'.rOrds Q' 2),?_,?_,fun o ho=> ?_,bB⟩
   ·rw[Book.flat,sideO];simp only[yRn]
   ·rw[Book.flat,zC,(other 1 (by decide) (.inl rfl)).1];simp only[yRn]
   ·rcases ySg.1 ho with ho|ho
    ·exact bO 1 (by decide) (.inl rfl) o ho
    ·exact bA o ho
 obtain⟨A,B,f1,f2,f3,f4⟩:=flatE
 refine⟨Q3,A,B,⟨by rw[hBa];exact kw,fun s' hs'=>by rw[hBr];exact c.srt s' hs',by rw[hBqs,hQl];exact c.rng,by rw[hBqs];exact c.nd,by rw[hBqs,hQl];exact c.ql,fun s' hs' r hr _=> ?_,fun q hq=> ?_,?_,?_,by rw[hQl];exact c.qb⟩,f1,f2,f3,f4⟩
 ·rw[hBr]at hr
  by_cases e:r.queue=m
  ·obtain⟨rfl,rfl⟩:=hqd s' r hs' hr e
   rw[hsl1];simp
  ·rw[hr0 s' r hs' hr e];exact c.ne s' hs' r hr e
 ·rw[hBsp]at hq
  have hqq:q∈b'.qs:=ySq _ hq
  rw[hsl2 q (c.rng q hqq).1 fun e=> ?_]
  ·exact c.sp q hq
  ·have hcn:=c.nd
   rw[Book.qs]at hcn
   refine(yTg.1 hcn).2.2 m ?_ q hq e.symm
   rcases hs with rfl|rfl
   ·exact ySo _ (ySm.2 ⟨_,hrm,rfl⟩)
   ·exact ySq _ (ySm.2 ⟨_,hrm,rfl⟩)
 ·have hnk:id∉b'.at_.map (·.1):=by
   rw[c.keysP.mem_iff,h.flat];exact hid
  rw[hBat,zRz hnk]
  refine(yVf _ _).trans ?_
  rcases hs with rfl|rfl
  ·rw[(other 2 (by decide) (.inr rfl)).2]
   exact(c.at_.cons _).trans (plcN.symm.append_right _)
  ·rw[(other 1 (by decide) (.inl rfl)).2]
   refine(c.at_.cons _).trans ?_
   refine(yRr.symm).trans (plcN.symm.append_left _)
 ·rw[f2,yRm,yRs]
  have h1:=c.ids
  rw[f1,yRm]at h1
  have h2:id∉(A++B).map (·.id):=by rw[← f1,h.flat];exact hid
  refine yRr.nodup_iff.2 (yTm.2 ⟨by rw[yRm]at h2;exact h2,h1⟩)
open Go Cv Go.Proofs
def jR (L:List zH) (id:Int):Bool:=L.any fun o=>decide (o.id=id)
def zFi (L:List zH) (s id p q:Int):List zH×Int:=if q<1∨1000000<q then(L,24)else if jR L id=true then(L,25)else if 250≤L.length then(L,13)else(zOg L s id p q,0)
theorem hasId_iff {L:List zH} {id:Int}:jR L id=true↔id∈L.map (·.id):=by
 rw[jR,List.any_eq_true,ySm]
 constructor
 ·rintro⟨o,ho,e⟩;exact⟨o,ho,yTx e⟩
 ·rintro⟨o,ho,e⟩;exact⟨o,ho,yRu e⟩
theorem aA {b:Book} {Q:List (List Nat)} {o:zH} (h:o∈b.flat Q):(o.side=1∨o.side=2)∧∃r∈b.rungs o.side,o∈b.rOrds Q o.side r∧o.price=r.price:=by
 rcases ySg.1 h with h|h
 all_goals
  obtain⟨e,r,hr,ho,hp⟩:=cP h
  rw[e]
  exact⟨by simp,r,hr,ho,hp⟩
theorem flat_mem {b:Book} {Q:List (List Nat)} {s:Int} (hs:s=1∨s=2) {o:zH} (h:o∈b.sideL Q s):o∈b.flat Q:=by
 rcases hs with rfl|rfl
 ·exact ySo _ h
 ·exact ySq _ h
theorem Book.Core.leads {b:Book} {Q:List (List Nat)} (c:b.Core Q (-1)) {s:Int} (hs:s=1∨s=2) (p:Int):b.leads s p=uQ (b.flat Q) s p:=by
 have hsrt:=c.srt s hs
 have hne:=c.ne s hs
 rw[Book.leads]
 cases hr:b.rungs s with
 |nil=>
  symm
  dsimp only
  rw[uQ,yUd]
  intro o ho
  obtain⟨_,r,hr2,_⟩:=aA ho
  by_cases e:o.side=s
  ·rw[e,hr]at hr2;cases hr2
  ·rw[yRo e];rfl
 |cons r0 l=>
  dsimp only
  rw[hr,yWx]at hsrt
  have hm:r0∈b.rungs s:=by rw[hr];exact yRj
  cases hb:btr s p r0.price with
  |true=>
   symm
   rw[uQ,yUd]
   intro o ho
   obtain⟨_,r,hr2,_,hp⟩:=aA ho
   by_cases e:o.side=s
   ·rw[e,hr]at hr2
    rw[hp]
    rcases yRy.1 hr2 with rfl|hr2
    ·rw[hb];simp
    ·rw[zMu hb (hsrt.1 r hr2)];simp
   ·rw[yRo e];rfl
  |false=>
   symm
   rw[uQ,List.all_eq_false]
   have h0:=hne r0 hm fun e=>by have:=c.rng _ (uA hs hm);omega
   cases hk:xA Q r0 with
   |nil=>exact absurd hk h0
   |cons k ks=>
    refine⟨j9 b.a s r0.price k,flat_mem hs (yTr.2 ⟨r0,hm,by rw[Book.rOrds,hk];exact yRj⟩),?_⟩
    show ¬((!decide (s=s))||btr s p r0.price)=true
    rw[hb];simp
theorem z1e {L:List zH} {s:Int} {o:zH} (h:o∈clr L s):∃o'∈L,o.id=o'.id∧o.side=o'.side∧o.price=o'.price∧o.qty=o'.qty∧o.top=(if o.side=s then false else o'.top):=by
 obtain⟨o',ho,e⟩:=ySm.1 h
 refine⟨o',ho,?_⟩
 by_cases c:o'.side=s
 ·rw[yRe c]at e
  subst e
  exact⟨rfl,rfl,rfl,rfl,(yRe c).symm⟩
 ·rw[yRd c]at e
  subst e
  exact⟨rfl,rfl,rfl,rfl,(yRd c).symm⟩
theorem yEp {L:List zH} {s:Int} {o:zH} (h:o∈L) (hs:o.side≠s):o∈clr L s:=ySm.2 ⟨o,h,yRd hs⟩
theorem zZz (L:List zH) (s:Int):(clr L s).map (·.id)=L.map (·.id):=by
 rw[clr,yTl]
 refine ySh fun o _=> ?_
 simp only[Function.comp]
 split<;>rfl
theorem zTy (b:Book) (id:Int) {s:Int} (hs:s=1∨s=2):(b.leadF id s).a=b.untop s∧(b.leadF id s).buys=b.buys∧(b.leadF id s).sells=b.sells∧(b.leadF id s).at_=b.at_∧(b.leadF id s).spare=b.spare∧∀s',s'=1∨s'=2→(b.leadF id s).hasF s'=(if s'=s then true else b.hasF s')∧(b.leadF id s).topI s'=(if s'=s then id else b.topI s'):=by
 rcases hs with rfl|rfl
 ·exact⟨rfl,rfl,rfl,rfl,rfl,fun s' h=>by rcases h with rfl|rfl<;>exact⟨rfl,rfl⟩⟩
 ·exact⟨rfl,rfl,rfl,rfl,rfl,fun s' h=>by rcases h with rfl|rfl<;>exact⟨rfl,rfl⟩⟩
theorem Book.Core.like {b b':Book} {Q:List (List Nat)} {h:Int} (c:b.Core Q h) (e1:b'.a=b.a) (e2:b'.buys=b.buys) (e3:b'.sells=b.sells) (e4:b'.at_=b.at_) (e5:b'.spare=b.spare):b'.Core Q h∧b'.flat Q=b.flat Q:=by
 have er:∀s,b'.rungs s=b.rungs s:=fun s=>by rw[Book.rungs,Book.rungs,e2,e3]
 have eo:∀s r,b'.rOrds Q s r=b.rOrds Q s r:=fun s r=>by rw[Book.rOrds,Book.rOrds,e1]
 have es:∀s,b'.sideL Q s=b.sideL Q s:=fun s=>by rw[Book.sideL,Book.sideL,er];exact xB fun r _=>eo s r
 have ep:∀s,b'.plcs Q s=b.plcs Q s:=fun s=>by rw[Book.plcs,Book.plcs,er,e1]
 have ef:b'.flat Q=b.flat Q:=by rw[Book.flat,Book.flat,es,es]
 have eq:b'.qs=b.qs:=by rw[Book.qs,Book.qs,e2,e3,e5]
 exact⟨⟨by rw[e1];exact c.wf,fun s hs=>by rw[er];exact c.srt s hs,by rw[eq];exact c.rng,by rw[eq];exact c.nd,by rw[eq];exact c.ql,fun s hs=>by rw[er];exact c.ne s hs,by rw[e5];exact c.sp,by rw[e4,ep,ep];exact c.at_,by rw[ef];exact c.ids,c.qb⟩,ef⟩
theorem Book.Rep.stand {b:Book} {L:List zH} (h:b.Rep L) {s:Int} (hs:s=1∨s=2) {id p q:Int} (hid:id∉L.map (·.id)) (hl:L.length<250) (hq:1≤q∧q≤1000000):(b.stand s id p q).Rep (zOg L s id p q):=by
 obtain⟨Q,c,ht,rfl⟩:=h
 have hld:=c.leads hs p
 have h1:(b.led id s p).Core Q (-1)∧(b.led id s p).flat Q=(if uQ (b.flat Q) s p=true then clr (b.flat Q) s else b.flat Q):=by
  rw[Book.led,hld]
  split
  ·obtain⟨e1,e2,e3,e4,e5,_⟩:=zTy b id hs
   obtain⟨u1,u2⟩:=c.untop s
   obtain⟨v1,v2⟩:=Book.Core.like (b':=b.leadF id s) (c.flag u1 u2) e1 e2 e3 e4 e5
   exact⟨v1,v2.trans (c.untop_flat ht hs)⟩
  ·exact⟨c,rfl⟩
 obtain⟨c1,f1⟩:=h1
 have hlen1:((b.led id s p).flat Q).length<250:=by
  rw[f1];split
  ·rw[clr,yRg];exact hl
  ·exact hl
 have hid1:id∉((b.led id s p).flat Q).map (·.id):=by
  rw[f1];split
  ·rw[zZz];exact hid
  ·exact hid
 obtain⟨Q',R1,R2,hqd⟩:=c1.queue hlen1 hs p
 obtain⟨Q3,A,B,k1,k2,k3,k4,k5⟩:=hqd.put hs (b.leads s p) hid1 (c1.used hlen1) hq
 have hAB:A++B=(if uQ (b.flat Q) s p=true then clr (b.flat Q) s else b.flat Q):=by rw[← k2,hqd.flat,f1]
 have hins:zOg (b.flat Q) s id p q=A++⟨id,s,p,q,b.leads s p⟩::B:=by
  rw[zOg]
  obtain⟨t1,t2⟩:=z6j k4 k5
  rw[← hAB,t1,t2,hld]
 refine⟨Q3,k1,?_,?_⟩
 ·rw[hins,hld]
  show Book.Tops {((b.led id s p).queueF s p).1 with a:=_,at_:=_} _
  have hto:∀x,({((b.led id s p).queueF s p).1 with a:=(((b.led id s p).queueF s p).1.a.push ((b.led id s p).queueF s p).2 id q (b.leads s p)).1,at_:=nU id ⟨s,p,(((b.led id s p).queueF s p).1.a.push ((b.led id s p).queueF s p).2 id q (b.leads s p)).2.1⟩ ((b.led id s p).queueF s p).1.at_}:Book).hasF x=(b.led id s p).hasF x∧({((b.led id s p).queueF s p).1 with a:=(((b.led id s p).queueF s p).1.a.push ((b.led id s p).queueF s p).2 id q (b.leads s p)).1,at_:=nU id ⟨s,p,(((b.led id s p).queueF s p).1.a.push ((b.led id s p).queueF s p).2 id q (b.leads s p)).2.1⟩ ((b.led id s p).queueF s p).1.at_}:Book).topI x=(b.led id s p).topI x:=hqd.qty
  generalize ({((b.led id s p).queueF s p).1 with a:=(((b.led id s p).queueF s p).1.a.push ((b.led id s p).queueF s p).2 id q (b.leads s p)).1,at_:=nU id ⟨s,p,(((b.led id s p).queueF s p).1.a.push ((b.led id s p).queueF s p).2 id q (b.leads s p)).2.1⟩ ((b.led id s p).queueF s p).1.at_}:Book)=B3 at*
  have mAB:∀o,o∈A++⟨id,s,p,q,uQ (b.flat Q) s p⟩::B↔o=⟨id,s,p,q,uQ (b.flat Q) s p⟩∨o∈A++B:=by
   intro o
   rw[ySg,yRy,ySg]
   constructor
   ·rintro(h|h|h)
    ·exact .inr (.inl h)
    ·exact .inl h
    ·exact .inr (.inr h)
   ·rintro(h|h|h)
    ·exact .inr (.inl h)
    ·exact .inl h
    ·exact .inr (.inr h)
  have hsd:∀o∈b.flat Q,o.side=1∨o.side=2:=fun o ho=>(aA ho).1
  by_cases hlead:uQ (b.flat Q) s p=true
  ·rw[yRe hlead]at hAB
   have hb1:b.led id s p=b.leadF id s:=by rw[Book.led,yRe (hld.trans hlead)]
   obtain⟨_,_,_,_,_,e6⟩:=zTy b id hs
   rw[hb1]at hto
   refine⟨fun o ho=> ?_,fun s' hs' hh=> ?_⟩
   ·rcases(mAB o).1 ho with rfl|ho
    ·rw[(hto s).1,(hto s).2,(e6 s hs).1,(e6 s hs).2,yRe rfl,yRe rfl,hlead];simp
    ·rw[hAB]at ho
     obtain⟨o',ho',i1,i2,_,_,i5⟩:=z1e ho
     rw[(hto _).1,(hto _).2,i5,(e6 o.side (by rw[i2];exact hsd o' ho')).1,(e6 o.side (by rw[i2];exact hsd o' ho')).2]
     by_cases e:o.side=s
     ·rw[yRe e,yRe e,yRe e,yTu]
      symm
      refine yRo fun e2=>hid ?_
      rw[← e2,i1];exact ySc ho'
     ·rw[yRd e,yRd e,yRd e,ht.fl o' ho',i1,i2]
   ·rw[(hto s').2,(e6 s' hs').2]
    by_cases e:s'=s
    ·rw[yRe e]
     exact⟨_,(mAB _).2 (.inl rfl),e.symm,rfl⟩
    ·rw[(hto s').1,(e6 s' hs').1,yRd e]at hh
     rw[yRd e]
     obtain⟨o,ho,o1,o2⟩:=ht.th s' hs' hh
     exact⟨o,(mAB _).2 (.inr (by rw[hAB];exact yEp ho (by rw[o1];exact e))),o1,o2⟩
  ·rw[yRd hlead]at hAB
   have hlf:uQ (b.flat Q) s p=false:=by simpa using hlead
   have hb1:b.led id s p=b:=by rw[Book.led,yRd (by rw[hld];exact hlead)]
   rw[hb1]at hto
   refine⟨fun o ho=> ?_,fun s' hs' hh=> ?_⟩
   ·rw[(hto _).1,(hto _).2]
    rcases(mAB o).1 ho with rfl|ho
    ·show uQ (b.flat Q) s p=(b.hasF s && decide (id=b.topI s))
     rw[hlf]
     cases hh:b.hasF s with
     |false=>rfl
     |true=>
      rw[yTu]
      symm
      refine yRo fun e2=>hid ?_
      obtain⟨o,ho,_,o2⟩:=ht.th s hs hh
      rw[e2,← o2];exact ySc ho
    ·rw[hAB]at ho;exact ht.fl o ho
   ·rw[(hto s').1]at hh
    rw[(hto s').2]
    obtain⟨o,ho,o1,o2⟩:=ht.th s' hs' hh
    exact⟨o,(mAB _).2 (.inr (by rw[hAB];exact ho)),o1,o2⟩
 ·rw[hins];exact k3.symm
theorem Book.Rep.pget {b:Book} {L:List zH} (h:b.Rep L) (id:Int):(pget b.at_ id).isSome=jR L id:=by
 obtain⟨Q,c,ht,rfl⟩:=h
 cases hg:Sx.pget b.at_ id with
 |none=>
  have:=zCf hg
  rw[c.keysP.mem_iff,← hasId_iff]at this
  symm;simpa using this
 |some x=>
  have:=ySc (f:=(·.1)) (rH hg)
  rw[c.keysP.mem_iff,← hasId_iff]at this
  symm;exact this
theorem Book.Rep.len {b:Book} {L:List zH} (h:b.Rep L):b.at_.length=L.length:=by
 obtain⟨Q,c,ht,rfl⟩:=h
 exact c.len
theorem Book.Rep.add {b:Book} {L:List zH} (h:b.Rep L) {s:Int} (hs:s=1∨s=2) (id p q:Int):(b.addF s id p q).1.Rep (zFi L s id p q).1∧(b.addF s id p q).2=(zFi L s id p q).2:=by
 rw[Book.addF,zFi,h.pget,h.len]
 repeat' split
 all_goals first|exact⟨h,rfl⟩|skip
 rename_i c1 c2 c3
 exact⟨h.stand hs (fun e=>c2 (hasId_iff.2 e)) (by omega) (by omega),rfl⟩
theorem z4h:book0.Rep []:=by
 refine⟨[],⟨⟨⟨by simp[book0,zJm],rfl,fun n l h=>by simp at h,fun n l h=>by simp at h,fun n l h=>by simp at h,fun k s hk hu=> ?_,?_⟩,fun n l h=>by simp at h⟩,fun s hs=> ?_,fun q hq=>by simp[book0,Book.qs]at hq,by simp[book0,Book.qs],rfl,fun s hs r hr=> ?_,fun q hq=>by simp[book0]at hq,?_,?_,by decide⟩,⟨fun o ho=>(by cases ho),fun s hs hh=> ?_⟩,?_⟩
 ·have:=yRp hk
  rw[yWm this]at hu;cases hu
 ·decide
 ·rcases hs with rfl|rfl<;>exact List.Pairwise.nil
 ·rcases hs with rfl|rfl<;>cases hr
 ·exact List.Perm.refl _
 ·exact List.nodup_nil
 ·rcases hs with rfl|rfl<;>cases hh
 ·rfl
open Go Cv Go.Proofs
structure BoI where
 b:Book
 s:Int
 r:xF
 l:List Nat
def BoI.ords (i:BoI):List zH:=(i.b.a.ents i.l).map fun e=>⟨e.id,i.s,i.r.price,e.qty,e.top⟩
def ordersC:Con:=con1 BoI (fun i=>[.nm 0 0,zA i.s,.agg [zA i.r.price,zA i.r.queue]]) (fun i=>[yA i.b]) (fun i=>i.b.a.listOk i.r.queue i.l) (fun _=> .own 1) (fun i=>[yA i.b,.own 56 5 (i.ords.map j8)])
def yCj (i:BoI):List SAnn:=[{ι:=Nat,slots:=fun j=>[(7,.own 0),(18,zA j)],rows:=fun j=>[.own 56 5 ((i.ords.take j).map j8)]}]
end Sx
