/- Texts of ours. No condition. -/
import Derived.Test.YtgmmlhddihaocaaGreatC4
set_option linter.all false
open List renaming map->aa,take->ab,filter->ac,drop->ae,range->af
open Sx.ff renaming ja->ag,cells->aj,own->ak
open Exists renaming intro->am
open Bool renaming true->ao,false->ap
open Go.IntKind renaming i64->aq
open And renaming intro->ar
open Int renaming tmod_eq_emod_of_nonneg->au,add_mul_emod_self_left->av,emod_eq_of_lt->aw
open Go.Value renaming string->ax,int->ay
open Option renaming some->az
namespace Sx
set_option maxRecDepth 100000
open Go Cv Go.Proofs
def jq {α:Type} {f:α->List D} {l:List α} {i g n:Nat} {x:α} {r:List D} (h:l[i]? =az x) (hn:g+n<=(f x).length) (hr:((f x).drop g).take n=r):zD (l.map f) i g n=az r:=by
 unfold zD;rw[uq,h];simp only[vw,Nat.ble_eq_true_of_le hn,cond_true,hr]
def Ry {a:dt} {n:Int} {q:cV} (h0:0<=n) (h:a.dx[n.toNat]? =az q):a.pw n=q:=by
 have:=(jl.1 h).1;rw[dt.pw,fc ⟨h0,by omega⟩,np,h];rfl
def Sk {a:dt} {n:Int} (h:¬(0<=n/\n<a.dx.length)):a.pw n=⟨0,0,0,0⟩:=by rw[dt.pw,ej h]
def XV:Im.ok Tryz.prog 203:=gw (V:=z8i) mixed fg 1 (λ_=>[]) (λ_=>[]) [0] Tryz.func203 λ(i:vp) _=>by
 unfold z8i fK lB jL dI;simp only[ia];refine zH (λc=>Cv.dp.mk (λd=> ?_) (λd=> ?_)) (λc=> ?_)
 ·have d:¬i.n<(i.a.dx.length:Int):=by simpa using d
  rw[Sk (by omega)];exact kp
 ·have d:i.n<(i.a.dx.length:Int):=by simpa using d
  obtain⟨q,hq⟩:=z7 (l:=i.a.dx) (i:=i.n.toNat) oM;rw[Ry (by omega) hq];refine⟨⟨oM,oM⟩,q.total,jq hq (by simp[zP]) rfl,?_⟩;exact kp
 ·rw[Sk (by omega)];exact kp
def pF:Io.ok Tryz.prog 204:=gw (V:=yAd) mixed fg 1 (λ_=>[]) (λ_=>[]) [0] Tryz.func204 λ(i:vp) _=>by
 unfold yAd fK YH jL dI;simp only[ia];refine zH (λc=>Cv.dp.mk (λd=> ?_) (λd=> ?_)) (λc=> ?_)
 ·have d:¬i.n<(i.a.dx.length:Int):=by simpa using d
  rw[Sk (by omega)];exact kp
 ·have d:i.n<(i.a.dx.length:Int):=by simpa using d
  obtain⟨q,hq⟩:=z7 (l:=i.a.dx) (i:=i.n.toNat) oM;rw[Ry (by omega) hq];refine⟨⟨oM,oM⟩,q.count,jq hq (by simp[zP]) rfl,?_⟩;exact kp
 ·rw[Sk (by omega)];exact kp
def lI:aa1.ok Tryz.prog 169:=gw (V:=y1n) mixed fg 0 (λ_=>[]) (λ_=>[]) [] Tryz.func169 λ(n:Int) _=>by
 unfold y1n;refine Cv.dp.mk (λc=>⟨(),?_,trivial⟩) (λc=>⟨(),?_,trivial⟩)
 all_goals simp at c
 ·simp[c]
 ·by_cases h:n=2<;>simp[c,h]
def yAe:QH.ok Tryz.prog 170:=gw (V:=y3n) mixed (dw XV (dw pF fg)) 0 (λ_=>[]) (λ_=>[]) [0] Tryz.func170 λ(i:PD) h=>by
 refine⟨⟨i.b.a,i.r.queue⟩,?_⟩;(repeat'(first|exact rfl|exact trivial|assumption|apply ar|refineλ(_:Unit) (_:True)=>?_|refine am () ?_|omega|(dsimp only;omega)));refine⟨⟨i.b.a,i.r.queue⟩,?_⟩;exact kp
def yJg:LV.ok Tryz.prog 120:=gw (V:=yWe) mixed (dw lI (dw yAe fg)) 0 (λ_=>[]) (λ_=>[]) [0] Tryz.func120 λ(b:dm) h=>by
 have h:b.oc:=h;refine⟨1,rfl,trivial,λ_ _=>Cv.dp.mk (λc=>absurd c Z8) λ_=> ?_⟩;simp only[ia];refine Cv.dp.mk (λc=> ?_) (λc=> ?_)
 ·have hl:b.ez=[]:=xu (by have:(b.ez.length:Int)=0:=(by simpa using c);omega);have e:b.iu b.ez=(⟨0,0,0⟩,ap):=by rw[hl];rfl
  rw[e];exact kp
 ·obtain⟨r,l,hl⟩:∃r l,b.ez=r::l:=by
   cases hb:b.ez with
   |nil=>rw[hb]at c;exact absurd c Z8
   |cons r l=>exact⟨r,l,rfl⟩
  have e:b.iu b.ez=(b.told r,ao):=by rw[hl];rfl
  rw[e];refine⟨⟨oM,by rw[hl,iD];omega⟩,r.dj,r.queue,jq (x:=r) (by rw[hl];rfl) (by simp[zB]) rfl,⟨b,r⟩,?_⟩;exact kp
def yGr:LU.ok Tryz.prog 120:=gw (V:=yYr) mixed (dw lI (dw yAe fg)) 0 (λ_=>[]) (λ_=>[]) [0] Tryz.func120 λ(b:dm) h=>by
 have h:b.oc:=h;refine⟨2,rfl,trivial,λ_ _=>Cv.dp.mk (λc=>absurd c Z8) λ_=> ?_⟩;simp only[ia];refine Cv.dp.mk (λc=> ?_) (λc=> ?_)
 ·have hl:b.dv=[]:=xu (by have:(b.dv.length:Int)=0:=(by simpa using c);omega);have e:b.iu b.dv=(⟨0,0,0⟩,ap):=by rw[hl];rfl
  rw[e];exact kp
 ·obtain⟨r,l,hl⟩:∃r l,b.dv=r::l:=by
   cases hb:b.dv with
   |nil=>rw[hb]at c;exact absurd c Z8
   |cons r l=>exact⟨r,l,rfl⟩
  have e:b.iu b.dv=(b.told r,ao):=by rw[hl];rfl
  rw[e];refine⟨⟨oM,by rw[hl,iD];omega⟩,r.dj,r.queue,jq (x:=r) (by rw[hl];rfl) (by simp[zB]) rfl,⟨b,r⟩,?_⟩;exact kp
def RZ:Rt.ok Tryz.prog 120:=λi=>match i with
 |⟨ap,b⟩=>yJg b
 |⟨ao,b⟩=>yGr b
def zOf {α:Type} (f:α->α) (x:α) (b:List α):∀a:List α,(a++x::b).modify a.length f=a++f x::b
 |[]=>rfl
 |y::a=>by
  show y::(a++x::b).modify a.length f=_;rw[zOf f x b a];rfl
def zTq {eg:List (List D)} {a b:List (List D)} {x y ds:List D} {j f:Nat} (h:eg=a++x::b) (hl:a.length=j) (hy:x.take f++(ds++x.drop (f+ds.length))=y):zV eg j f ds=a++y::b:=by
 rw[zV,h,<- hl,zOf,hy]
def qZ {s:gl} {j:Nat} {x y:jr} {f:Nat} {ds:List D} (hj:j<s.dz.length) (hy:(z6 x).take f++(ds++(z6 x).drop (f+ds.length))=z6 y):
 zV (aa z6 (xV s j x)) j f ds=aa z6 (xV s j y):=by
 rw[zTq (a:=(s.fa.take j).map z6) (b:=(List.replicate (s.dz.length-j-1) j').map z6) (by rw[xV,jk,jo]) (by
  rw[ia,oe,gl.fa,ia];omega) hy,xV,jk,jo]
def zRx {s:gl} {j:Nat} {x:jr} (hj:j<s.dz.length):(xV s j x).length=s.dz.length:=by
 rw[xV,im,iD,oe,gl.fa,ia,Gw];omega
def zLp {s:gl} {j:Nat} (hj:j<s.dz.length):xV s j j'=x7 s j:=by
 rw[xV,x7];obtain⟨m,hm⟩:∃m,s.dz.length-j=m+1:=⟨s.dz.length-j-1,oM⟩
 rw[hm,KE];rfl
def zLy {s:gl} {j:Nat} {b:dm} (hb:s.dz[j]? =az b):xV s j b.top=x7 s (j+1):=by
 have hj:=(jl.1 hb).1;rw[xV,x7,sm,show s.fa[j]? =az b.top by rw[gl.fa,uq,hb];rfl];simp only[D0,jd,tv,yh];rw[show s.dz.length-j-1=s.dz.length-(j+1)by omega]
def dC {α:Type} {l:List α} {j:Nat} {x:α} (h:l[j]? =az x):l.set j x=l:=by
 obtain⟨hj,rfl⟩:=jl.1 h;exact List.set_getElem_self hj
def y4z (s:gl) (h:Jo.dp s):yTw s:=by
 obtain⟨h1,h2⟩:s.oc:=h;unfold yTw WC SC fF uX qX vN fP aG aM Xf S2 S9 dP aC Te cF dX zY aI uS dI;have p48:(2:Int) ^ (48:Nat)=281474976710656:=by decide
 refine⟨⟨oM,oM,oM,by rw[p48];omega⟩,0,rfl,?_,λj=>j<=s.dz.length,λj=>s.dz.length-j,oM,λj hj=>zH (λgr=> ?_) (λgr=> ?_)⟩
 ·rw[x7,jk,List.map_replicate];rfl
 ·have oh:j<s.dz.length:=by omega
  obtain⟨b,hb⟩:=z7 oh;have hc:=h2 b (lr hb);simp only[ow];have ha:∀x,(aa z6 (xV s j x)).length=s.dz.length:=λx=>by rw[ia,zRx oh]
  have w1:aq.wrap (0+1)=1:=by decide
  have w2:(0+1) % ((2:Int) ^ aq.bits).natAbs=1:=by decide
  refine⟨⟨oM,oM⟩,oM,(j,j'),by rw[zLp oh],λx=>x=(j,j'.EW (b.iu b.ez)),⟨⟨Z8,Z8⟩,1,rfl,b,hb,⟨ap,b⟩,rfl,rfl,hc,λ_ _=>⟨b,rfl,kp,oM,?_⟩⟩,?_⟩
  ·refine Cv.dp.mk (λc=> ?_) (λc=> ?_)
   ·have c:(b.iu b.ez).2=ao:=c;have e1:=qZ (s:=s) oh (x:=j') (y:={j' with fm:=ao}) (f:=0+0+0*1) (ds:=[D.v (.bool ao)]) rfl;have e2:=qZ (s:=s) oh (x:={j' with fm:=ao}) (y:={j' with fm:=ao,p1:=(b.iu b.ez).1.dj}) (f:=0+2+0*1) (ds:=[D.v (.int .i64 (b.iu b.ez).1.dj)]) rfl;have e3:=qZ (s:=s) oh (x:={j' with fm:=ao,p1:=(b.iu b.ez).1.dj}) (y:={j' with fm:=ao,p1:=(b.iu b.ez).1.dj,q1:=(b.iu b.ez).1.dq}) (f:=0+4+0*1) (ds:=[D.v (.int .i64 (b.iu b.ez).1.dq)]) rfl;dsimp only;simp only[show b.side ap=b.ez from rfl,e1,e2,e3,ha]
    (repeat'(first|exact rfl|exact trivial|assumption|apply ar|refineλ(_:Unit) (_:True)=>?_|refine am () ?_|omega|(dsimp only;omega)))
    refine⟨(j,{j' with fm:=ao,p1:=(b.iu b.ez).1.dj,q1:=(b.iu b.ez).1.dq}),rfl,?_,?_⟩
    ·rw[jr.EW,fc c]
    ·(repeat'(first|exact rfl|exact trivial|assumption|apply ar|refineλ(_:Unit) (_:True)=>?_|refine am () ?_|omega|(dsimp only;omega)))
     rw[dC hb]
   ·have c:(b.iu b.ez).2=ap:=c;refine⟨(j,j'),rfl,?_,?_⟩
    ·rw[jr.EW,ej (by rw[c];simp)]
    ·(repeat'(first|exact rfl|exact trivial|assumption|apply ar|refineλ(_:Unit) (_:True)=>?_|refine am () ?_|omega|(dsimp only;omega)))
     rw[dC hb]
  ·rintro _ rfl;rw[w1];generalize hx:j'.EW (b.iu b.ez)=x;have OS:b.top=x.Ak (b.iu b.dv):=by rw[dm.top,hx]
   refine⟨(j,x),rfl,λy=>y=(j,b.top),⟨⟨Z8,Z8⟩,2,rfl,b,hb,⟨ao,b⟩,rfl,rfl,hc,λ_ _=>⟨b,rfl,kp,oM,?_⟩⟩,?_⟩
   ·refine Cv.dp.mk (λc=> ?_) (λc=> ?_)
    ·have c:(b.iu b.dv).2=ao:=c;have e1:=qZ (s:=s) oh (x:=x) (y:={x with fp:=ao}) (f:=0+0+1*1) (ds:=[D.v (.bool ao)]) rfl;have e2:=qZ (s:=s) oh (x:={x with fp:=ao}) (y:={x with fp:=ao,p2:=(b.iu b.dv).1.dj}) (f:=0+2+1*1) (ds:=[D.v (.int .i64 (b.iu b.dv).1.dj)]) rfl;have e3:=qZ (s:=s) oh (x:={x with fp:=ao,p2:=(b.iu b.dv).1.dj}) (y:={x with fp:=ao,p2:=(b.iu b.dv).1.dj,q2:=(b.iu b.dv).1.dq}) (f:=0+4+1*1) (ds:=[D.v (.int .i64 (b.iu b.dv).1.dq)]) rfl;dsimp only;simp only[w2,show b.side ao=b.dv from rfl,e1,e2,e3,ha]
     (repeat'(first|exact rfl|exact trivial|assumption|apply ar|refineλ(_:Unit) (_:True)=>?_|refine am () ?_|omega|(dsimp only;omega)))
     refine⟨(j,{x with fp:=ao,p2:=(b.iu b.dv).1.dj,q2:=(b.iu b.dv).1.dq}),rfl,?_,?_⟩
     ·rw[OS,jr.Ak,fc c]
     ·(repeat'(first|exact rfl|exact trivial|assumption|apply ar|refineλ(_:Unit) (_:True)=>?_|refine am () ?_|omega|(dsimp only;omega)))
      rw[dC hb]
    ·have c:(b.iu b.dv).2=ap:=c;refine⟨(j,x),rfl,?_,?_⟩
     ·rw[OS,jr.Ak,ej (by rw[c];simp)]
     ·(repeat'(first|exact rfl|exact trivial|assumption|apply ar|refineλ(_:Unit) (_:True)=>?_|refine am () ?_|omega|(dsimp only;omega)))
      rw[dC hb]
   ·rintro _ rfl;refine⟨j+1,by rw[ir (by omega)];rfl,?_⟩;refine⟨by dsimp only;rw[zLy hb],?_⟩;exact kp
 ·have hj:j<=s.dz.length:=hj;obtain rfl:j=s.dz.length:=by omega
  have e:x7 s s.dz.length=s.fa:=by
   rw[x7,II,List.replicate_zero,oL,og (by rw[gl.fa,ia];omega)]
  rw[e];exact kp
def yQi:Jo.ok Tryz.prog 59:=gw mixed (dw RZ fg) 0 (λs=>yTn s) (λs=>yUa s) [0] Tryz.func59 y4z
def Wp:LP.ok Tryz.prog 65:=gw (V:=yZo) mixed (dw yRj (dw yLz fg)) 0 (λ_=>[]) (λs=>yYt s) [0] Tryz.func65 λ(s:gl) h=>by
 obtain⟨h1,h2⟩:s.small:=h;refine⟨yR s.wh,?_⟩;(repeat'(first|exact rfl|exact trivial|assumption|apply ar|refineλ(_:Unit) (_:True)=>?_|refine am () ?_|omega|(dsimp only;omega)));refine⟨0,?_⟩;(repeat'(first|exact rfl|exact trivial|assumption|apply ar|refineλ(_:Unit) (_:True)=>?_|refine am () ?_|omega|(dsimp only;omega)));refine⟨λj=>j<=s.dz.length,λj=>s.dz.length-j,oM,λj hj=>zH (λgr=> ?_) (λgr=> ?_)⟩
 ·obtain⟨b,hb⟩:=z7 (l:=s.dz) (i:=j) oM;have hs:=h2 b (lr hb);simp only[ow];refine⟨⟨oM,oM⟩,oM,b,hb,b,rfl,hs,λ_ _=>⟨b,rfl,kp,oM,trivial,trivial,s.dz.take j,rfl,?_,j+1,?_⟩⟩
  ·rw[oe];omega
  ·rw[ir (by omega),sm,hb]
   (repeat'(first|exact rfl|exact trivial|assumption|apply ar|refineλ(_:Unit) (_:True)=>?_|refine am () ?_|omega|(dsimp only;omega)))
   rw[dC hb]
 ·have hj:j<=s.dz.length:=hj;obtain rfl:j=s.dz.length:=by omega
  rw[og (km _)];exact kp
structure B4 where
 inst:Int
 side:Int
 deriving DecidableEq
structure Quote where
 dj:Int
 dq:Int
 a:B4
 b:B4
 deriving DecidableEq
def zJ (q:Quote):List D:=[.v (.int .i64 q.dj),.v (.int .i64 q.dq),.v (.int .i64 q.a.inst),.v (.int .i64 q.a.side),.v (.int .i64 q.b.inst),.v (.int .i64 q.b.side)]
@[reducible] def Rz (q:Quote):V:= .agg [zA q.dj,zA q.dq,zA q.a.inst,zA q.a.side,zA q.b.inst,zA q.b.side]
def yXc:Quote:=⟨0,0,⟨0,0⟩,⟨0,0⟩⟩
structure DA where
 side:Int
 x:Int
 y:Int
def jy (side x y:Int):Bool:=if side=1 then decide (y<x)else decide (x<y)
def Ic:fy:=fj Int (λn=>[zA n]) (λ_=>[]) (λn=>n=1\/n=2) (λn=>zA (3-n)) (λ_=>[])
def F9:fy:=fj DA (λi=>[zA i.side,zA i.x,zA i.y]) (λ_=>[]) (λ_=>True) (λi=>yL (jy i.side i.x i.y)) (λ_=>[])
def jr.has (t:jr) (s:Int):Bool:=if s=1 then t.fm else t.fp
def jr.dj (t:jr) (s:Int):Int:=if s=1 then t.p1 else t.p2
def jr.dq (t:jr) (s:Int):Int:=if s=1 then t.q1 else t.q2
def yb (fa:List jr) (a b:B4) (less:Bool):List Quote:=
 let x:=fa.getD a.inst.toNat j'
 let y:=fa.getD b.inst.toNat j'
 let r:=if less then gM (y.dj b.side) (x.dj a.side)else gI (x.dj a.side) (y.dj b.side)
 if x.has a.side && y.has b.side && r.2 then[⟨r.1,min (x.dq a.side) (y.dq b.side),a,b⟩]else[]
structure vm where
 fa:List jr
 out:List Quote
 a:Int
 b:Int
 less:Bool
@[reducible] def vU (l:List jr):Prop:=l.length<=1000000/\∀t∈l,gq t.p1/\gq t.p2
def AK (x:List jr×List Quote):Nat->ff
 |0=> .cells [.own 1,.own 2] 279
 |1=> .ja 6 (x.1.map z6)
 |2=> .own 128 6 (x.2.map zJ)
 |_=> .gone
@[reducible] def UT (fa:List jr) (out:List Quote):List ff:=[AK (fa,out) 0,AK (fa,out) 1,AK (fa,out) 2]
@[reducible] def MkP (fa:List jr) (out:List Quote):List ff:=[.cells [.own 1,.own 3] 279,AK (fa,out) 1,.gone,AK (fa,out) 2]
def Uk (sa sb:Int):fy:=fj vm (λi=>[.nm 0 0,.agg [zA i.a,zA sa],.agg [zA i.b,zA sb],yL i.less]) (λi=>UT i.fa i.out)
 (λi=>0<=i.a/\i.a<i.fa.length/\0<=i.b/\i.b<i.fa.length/\vU i.fa/\i.out.length<=1000) (λ_=>c9) (λi=>MkP i.fa (i.out++yb i.fa ⟨i.a,sa⟩ ⟨i.b,sb⟩ i.less))
def P3:fy:=Uk 1 1
def P2:fy:=Uk 1 2
def P1:fy:=Uk 2 1
def P0:fy:=Uk 2 2
def yOg (n:Int):Prop:=
 ∃(o:Unit),3-n=aq.wrap (3-n)/\True
def yFs (i:DA):Prop:=
 dp (i.side==1) (∃(o:Unit),jy i.side i.x i.y=decide (i.x>i.y)/\True) (∃(o:Unit),jy i.side i.x i.y=decide (i.x<i.y)/\True)
def Tm (a:vm):=(a.out++yb a.fa (B4.mk a.a 1) (B4.mk a.b 1) a.less)
def pJ (a:vm):Prop:=∃(b:Unit),ag 6 (aa z6 a.fa)=AK (a.fa,a.out) 1/\aa zJ (Tm a)=aa zJ a.out/\True
def jG (a:I2):Prop:=((-9223372036854775808)<=a.x/\a.x<=9223372036854775807)/\(-9223372036854775808)<=a.y/\a.y<=9223372036854775807
def qW (a:vm):=(↑(aa z6 a.fa).length:Int)
def qD (a:vm):Prop:=(0<=a.b/\a.b<(qW a))/\di a.b.toNat
def jK (a:vm):Prop:=(0<=a.a/\a.a<(qW a))/\di a.a.toNat
def jH (a:vm):=((aa zJ a.out).length+1)
def Wa (a:vm) (b:Bool) (c:Bool) (d:Int) (e:Int) (f:Int) (g:Int):Prop:=True/\(qD a)/\a.b=a.b/\True/\True/\(jK a)/\a.a=a.a/\True/\True/\(qD a)/\a.b=a.b/\True/\True/\(jK a)/\a.a=a.a/\True/\True/\(qD a)/\a.b=a.b/\True/\dp (!b) (pJ a) (dp (!c) (pJ a) (∃(h:I2),h.x=d/\h.y=e/\(jG h)/\∀(j:Unit),True->dp a.less (∃(k:I2),k.x=e/\k.y=d/\(jG k)/\∀(l:Unit),True->dp (gM k.x k.y).snd (True/\(jH a)*(48:Nat)<=(140737488355328:Nat)/\∃(m:Unit),ag 6 (aa z6 a.fa)=AK (a.fa,a.out) 1/\aa zJ (Tm a)=aa zJ a.out++[[dI ((gM k.x k.y).fst),dI (min f g),dI a.a,dI 1,dI a.b,dI 1]]/\True) (pJ a)) (dp (gI h.x h.y).snd (True/\(jH a)*(48:Nat)<=(140737488355328:Nat)/\∃(k:Unit),ag 6 (aa z6 a.fa)=AK (a.fa,a.out) 1/\aa zJ (Tm a)=aa zJ a.out++[[dI ((gI h.x h.y).fst),dI (min f g),dI a.a,dI 1,dI a.b,dI 1]]/\True) (pJ a))))
def yTy (i:vm):Prop:=
 (0<=i.a/\i.a<(qW i))/\∃(a:Bool),∃(b:Bool),∃(c:Int),∃(d:Int),∃(e:Int),∃(f:Int),zD (aa z6 i.fa) i.a.toNat 0 6=az [D.v (.bool a),D.v (.bool b),dI c,dI d,dI e,dI f]/\(0<=i.b/\i.b<(qW i))/\∃(g:Bool),∃(h:Bool),∃(j:Int),∃(k:Int),∃(l:Int),∃(m:Int),zD (aa z6 i.fa) i.b.toNat 0 6=az [D.v (.bool g),D.v (.bool h),dI j,dI k,dI l,dI m]/\(Wa i a g c j e l)/\Wa i a g c j e l
def Tn (a:vm):=(a.out++yb a.fa (B4.mk a.a 1) (B4.mk a.b 2) a.less)
def pH (a:vm):Prop:=∃(b:Unit),ag 6 (aa z6 a.fa)=AK (a.fa,a.out) 1/\aa zJ (Tn a)=aa zJ a.out/\True
def We (a:vm) (b:Bool) (c:Bool) (d:Int) (e:Int) (f:Int) (g:Int):Prop:=True/\(qD a)/\a.b=a.b/\True/\True/\(jK a)/\a.a=a.a/\True/\True/\(qD a)/\a.b=a.b/\True/\True/\(jK a)/\a.a=a.a/\True/\True/\(qD a)/\a.b=a.b/\True/\dp (!b) (pH a) (dp (!c) (pH a) (∃(h:I2),h.x=d/\h.y=e/\(jG h)/\∀(j:Unit),True->dp a.less (∃(k:I2),k.x=e/\k.y=d/\(jG k)/\∀(l:Unit),True->dp (gM k.x k.y).snd (True/\(jH a)*(48:Nat)<=(140737488355328:Nat)/\∃(m:Unit),ag 6 (aa z6 a.fa)=AK (a.fa,a.out) 1/\aa zJ (Tn a)=aa zJ a.out++[[dI ((gM k.x k.y).fst),dI (min f g),dI a.a,dI 1,dI a.b,dI 2]]/\True) (pH a)) (dp (gI h.x h.y).snd (True/\(jH a)*(48:Nat)<=(140737488355328:Nat)/\∃(k:Unit),ag 6 (aa z6 a.fa)=AK (a.fa,a.out) 1/\aa zJ (Tn a)=aa zJ a.out++[[dI ((gI h.x h.y).fst),dI (min f g),dI a.a,dI 1,dI a.b,dI 2]]/\True) (pH a))))
def yTj (i:vm):Prop:=
 (0<=i.a/\i.a<(qW i))/\∃(a:Bool),∃(b:Bool),∃(c:Int),∃(d:Int),∃(e:Int),∃(f:Int),zD (aa z6 i.fa) i.a.toNat 0 6=az [D.v (.bool a),D.v (.bool b),dI c,dI d,dI e,dI f]/\(0<=i.b/\i.b<(qW i))/\∃(g:Bool),∃(h:Bool),∃(j:Int),∃(k:Int),∃(l:Int),∃(m:Int),zD (aa z6 i.fa) i.b.toNat 0 6=az [D.v (.bool g),D.v (.bool h),dI j,dI k,dI l,dI m]/\(We i a h c k e m)/\We i a h c k e m
def S3 (a:vm):=(a.out++yb a.fa (B4.mk a.a 2) (B4.mk a.b 1) a.less)
def rD (a:vm):Prop:=∃(b:Unit),ag 6 (aa z6 a.fa)=AK (a.fa,a.out) 1/\aa zJ (S3 a)=aa zJ a.out/\True
def VQ (a:vm) (b:Bool) (c:Bool) (d:Int) (e:Int) (f:Int) (g:Int):Prop:=True/\(qD a)/\a.b=a.b/\True/\True/\(jK a)/\a.a=a.a/\True/\True/\(qD a)/\a.b=a.b/\True/\True/\(jK a)/\a.a=a.a/\True/\True/\(qD a)/\a.b=a.b/\True/\dp (!b) (rD a) (dp (!c) (rD a) (∃(h:I2),h.x=d/\h.y=e/\(jG h)/\∀(j:Unit),True->dp a.less (∃(k:I2),k.x=e/\k.y=d/\(jG k)/\∀(l:Unit),True->dp (gM k.x k.y).snd (True/\(jH a)*(48:Nat)<=(140737488355328:Nat)/\∃(m:Unit),ag 6 (aa z6 a.fa)=AK (a.fa,a.out) 1/\aa zJ (S3 a)=aa zJ a.out++[[dI ((gM k.x k.y).fst),dI (min f g),dI a.a,dI 2,dI a.b,dI 1]]/\True) (rD a)) (dp (gI h.x h.y).snd (True/\(jH a)*(48:Nat)<=(140737488355328:Nat)/\∃(k:Unit),ag 6 (aa z6 a.fa)=AK (a.fa,a.out) 1/\aa zJ (S3 a)=aa zJ a.out++[[dI ((gI h.x h.y).fst),dI (min f g),dI a.a,dI 2,dI a.b,dI 1]]/\True) (rD a))))
def yTm (i:vm):Prop:=
 (0<=i.a/\i.a<(qW i))/\∃(a:Bool),∃(b:Bool),∃(c:Int),∃(d:Int),∃(e:Int),∃(f:Int),zD (aa z6 i.fa) i.a.toNat 0 6=az [D.v (.bool a),D.v (.bool b),dI c,dI d,dI e,dI f]/\(0<=i.b/\i.b<(qW i))/\∃(g:Bool),∃(h:Bool),∃(j:Int),∃(k:Int),∃(l:Int),∃(m:Int),zD (aa z6 i.fa) i.b.toNat 0 6=az [D.v (.bool g),D.v (.bool h),dI j,dI k,dI l,dI m]/\(VQ i b g d j f l)/\VQ i b g d j f l
def Tk (a:vm):=(a.out++yb a.fa (B4.mk a.a 2) (B4.mk a.b 2) a.less)
def pK (a:vm):Prop:=∃(b:Unit),ag 6 (aa z6 a.fa)=AK (a.fa,a.out) 1/\aa zJ (Tk a)=aa zJ a.out/\True
def VV (a:vm) (b:Bool) (c:Bool) (d:Int) (e:Int) (f:Int) (g:Int):Prop:=True/\(qD a)/\a.b=a.b/\True/\True/\(jK a)/\a.a=a.a/\True/\True/\(qD a)/\a.b=a.b/\True/\True/\(jK a)/\a.a=a.a/\True/\True/\(qD a)/\a.b=a.b/\True/\dp (!b) (pK a) (dp (!c) (pK a) (∃(h:I2),h.x=d/\h.y=e/\(jG h)/\∀(j:Unit),True->dp a.less (∃(k:I2),k.x=e/\k.y=d/\(jG k)/\∀(l:Unit),True->dp (gM k.x k.y).snd (True/\(jH a)*(48:Nat)<=(140737488355328:Nat)/\∃(m:Unit),ag 6 (aa z6 a.fa)=AK (a.fa,a.out) 1/\aa zJ (Tk a)=aa zJ a.out++[[dI ((gM k.x k.y).fst),dI (min f g),dI a.a,dI 2,dI a.b,dI 2]]/\True) (pK a)) (dp (gI h.x h.y).snd (True/\(jH a)*(48:Nat)<=(140737488355328:Nat)/\∃(k:Unit),ag 6 (aa z6 a.fa)=AK (a.fa,a.out) 1/\aa zJ (Tk a)=aa zJ a.out++[[dI ((gI h.x h.y).fst),dI (min f g),dI a.a,dI 2,dI a.b,dI 2]]/\True) (pK a))))
def yTg (i:vm):Prop:=
 (0<=i.a/\i.a<(qW i))/\∃(a:Bool),∃(b:Bool),∃(c:Int),∃(d:Int),∃(e:Int),∃(f:Int),zD (aa z6 i.fa) i.a.toNat 0 6=az [D.v (.bool a),D.v (.bool b),dI c,dI d,dI e,dI f]/\(0<=i.b/\i.b<(qW i))/\∃(g:Bool),∃(h:Bool),∃(j:Int),∃(k:Int),∃(l:Int),∃(m:Int),zD (aa z6 i.fa) i.b.toNat 0 6=az [D.v (.bool g),D.v (.bool h),dI j,dI k,dI l,dI m]/\(VV i b h d k f m)/\VV i b h d k f m
def zUg:Ic.ok Tryz.prog 171:=gw (V:=yOg) mixed fg 0 (λ_=>[]) (λ_=>[]) [] Tryz.func171 λ(n:Int) h=>by
 have h:n=1\/n=2:=h;refine⟨(),?_,trivial⟩;rw[ir (by omega)]
def z4p:F9.ok Tryz.prog 121:=gw (V:=yFs) mixed fg 0 (λ_=>[]) (λ_=>[]) [] Tryz.func121 λ(i:DA) _=>by
 refine Cv.dp.mk (λe=>⟨(),?_,trivial⟩) (λe=>⟨(),?_,trivial⟩)
 ·have e:i.side=1:=by simpa using e
  simp[jy,e]
 ·have e:i.side≠1:=by simpa using e
  simp[jy,e]
def TN (a b:Int):(if b<a then b else a)=min a b:=by split<;>omega
def y3p (i:vm) (h:P3.dp i):yTy i:=by
 obtain⟨a0,a1,b0,b1,⟨ht,hp⟩,ho⟩:0<=i.a/\i.a<i.fa.length/\0<=i.b/\i.b<i.fa.length/\vU i.fa/\i.out.length<=1000:=h;obtain⟨x,hx⟩:=z7 (l:=i.fa) (i:=i.a.toNat) oM;obtain⟨y,hy⟩:=z7 (l:=i.fa) (i:=i.b.toNat) oM;obtain⟨⟨px1,px2⟩,px3,px4⟩:=hp x (lr hx);obtain⟨⟨py1,py2⟩,py3,py4⟩:=hp y (lr hy);have e0:yb i.fa ⟨i.a,1⟩ ⟨i.b,1⟩ i.less=if x.fm && y.fm && (if i.less then gM y.p1 x.p1 else gI x.p1 y.p1).2 then[⟨(if i.less then gM y.p1 x.p1 else gI x.p1 y.p1).1,min x.q1 y.q1,⟨i.a,1⟩,⟨i.b,1⟩⟩]else[]:=by
  simp only[yb,np,hx,hy,zf];rfl
 unfold yTy Wa jH jK qD qW jG pJ Tm dI;simp only[ia];refine⟨⟨oM,oM⟩,x.fm,x.fp,x.p1,x.p2,x.q1,x.q2,jq hx (by simp[z6]) rfl,⟨oM,oM⟩,y.fm,y.fp,y.p1,y.p2,y.q1,y.q2,jq hy (by simp[z6]) rfl,?_⟩;rw[e0]
 (repeat'(first|exact rfl|exact trivial|assumption|apply ar|refineλ(_:Unit) (_:True)=>?_|refine am () ?_|omega|(dsimp only;omega)))
 all_goals
  refine Cv.dp.mk (λc1=> ?_) (λc1=>Cv.dp.mk (λc2=> ?_) (λc2=> ?_))
  ·have c1:x.fm=ap:=by simpa using c1
   simp only[c1,Cu,oD,if_false,oL];exact kp
  ·have c2:y.fm=ap:=by simpa using c2
   simp only[c2,IJ,Cu,oD,if_false,oL];exact kp
  ·have c1:x.fm=ao:=by simpa using c1
   have c2:y.fm=ao:=by simpa using c2
   simp only[c1,c2,zw,TN];refine⟨⟨x.p1,y.p1⟩,?_⟩
   (repeat'(first|exact rfl|exact trivial|assumption|apply ar|refineλ(_:Unit) (_:True)=>?_|refine am () ?_|omega|(dsimp only;omega)))
   refine Cv.dp.mk (λc3=> ?_) (λc3=> ?_)
   ·have c3:i.less=ao:=c3;simp only[c3,if_true];refine⟨⟨y.p1,x.p1⟩,?_⟩
    (repeat'(first|exact rfl|exact trivial|assumption|apply ar|refineλ(_:Unit) (_:True)=>?_|refine am () ?_|omega|(dsimp only;omega)))
    refine Cv.dp.mk (λc4=> ?_) (λc4=> ?_)
    ·have c4:(gM y.p1 x.p1).2=ao:=c4;simp only[c4,if_true,jk];exact kp
    ·have c4:(gM y.p1 x.p1).2=ap:=c4;simp only[c4,oD,if_false,oL];exact kp
   ·have c3:i.less=ap:=c3;simp only[c3,oD,if_false];refine Cv.dp.mk (λc4=> ?_) (λc4=> ?_)
    ·have c4:(gI x.p1 y.p1).2=ao:=c4;simp only[c4,if_true,jk];exact kp
    ·have c4:(gI x.p1 y.p1).2=ap:=c4;simp only[c4,oD,if_false,oL];exact kp
def yQg:P3.ok Tryz.prog 172:=gw mixed (dw RC (dw Rw fg)) 0 (λ_=>[]) (λ_=>[]) [] Tryz.func172 y3p
def y2h (i:vm) (h:P2.dp i):yTj i:=by
 obtain⟨a0,a1,b0,b1,⟨ht,hp⟩,ho⟩:0<=i.a/\i.a<i.fa.length/\0<=i.b/\i.b<i.fa.length/\vU i.fa/\i.out.length<=1000:=h;obtain⟨x,hx⟩:=z7 (l:=i.fa) (i:=i.a.toNat) oM;obtain⟨y,hy⟩:=z7 (l:=i.fa) (i:=i.b.toNat) oM;obtain⟨⟨px1,px2⟩,px3,px4⟩:=hp x (lr hx);obtain⟨⟨py1,py2⟩,py3,py4⟩:=hp y (lr hy);have e0:yb i.fa ⟨i.a,1⟩ ⟨i.b,2⟩ i.less=if x.fm && y.fp && (if i.less then gM y.p2 x.p1 else gI x.p1 y.p2).2 then[⟨(if i.less then gM y.p2 x.p1 else gI x.p1 y.p2).1,min x.q1 y.q2,⟨i.a,1⟩,⟨i.b,2⟩⟩]else[]:=by
  simp only[yb,np,hx,hy,zf];rfl
 unfold yTj We pH Tn jH jK qD jG qW dI;simp only[ia];refine⟨⟨oM,oM⟩,x.fm,x.fp,x.p1,x.p2,x.q1,x.q2,jq hx (by simp[z6]) rfl,⟨oM,oM⟩,y.fm,y.fp,y.p1,y.p2,y.q1,y.q2,jq hy (by simp[z6]) rfl,?_⟩;rw[e0]
 (repeat'(first|exact rfl|exact trivial|assumption|apply ar|refineλ(_:Unit) (_:True)=>?_|refine am () ?_|omega|(dsimp only;omega)))
 all_goals
  refine Cv.dp.mk (λc1=> ?_) (λc1=>Cv.dp.mk (λc2=> ?_) (λc2=> ?_))
  ·have c1:x.fm=ap:=by simpa using c1
   simp only[c1,Cu,oD,if_false,oL];exact kp
  ·have c2:y.fp=ap:=by simpa using c2
   simp only[c2,IJ,Cu,oD,if_false,oL];exact kp
  ·have c1:x.fm=ao:=by simpa using c1
   have c2:y.fp=ao:=by simpa using c2
   simp only[c1,c2,zw,TN];refine⟨⟨x.p1,y.p2⟩,?_⟩
   (repeat'(first|exact rfl|exact trivial|assumption|apply ar|refineλ(_:Unit) (_:True)=>?_|refine am () ?_|omega|(dsimp only;omega)))
   refine Cv.dp.mk (λc3=> ?_) (λc3=> ?_)
   ·have c3:i.less=ao:=c3;simp only[c3,if_true];refine⟨⟨y.p2,x.p1⟩,?_⟩
    (repeat'(first|exact rfl|exact trivial|assumption|apply ar|refineλ(_:Unit) (_:True)=>?_|refine am () ?_|omega|(dsimp only;omega)))
    refine Cv.dp.mk (λc4=> ?_) (λc4=> ?_)
    ·have c4:(gM y.p2 x.p1).2=ao:=c4;simp only[c4,if_true,jk];exact kp
    ·have c4:(gM y.p2 x.p1).2=ap:=c4;simp only[c4,oD,if_false,oL];exact kp
   ·have c3:i.less=ap:=c3;simp only[c3,oD,if_false];refine Cv.dp.mk (λc4=> ?_) (λc4=> ?_)
    ·have c4:(gI x.p1 y.p2).2=ao:=c4;simp only[c4,if_true,jk];exact kp
    ·have c4:(gI x.p1 y.p2).2=ap:=c4;simp only[c4,oD,if_false,oL];exact kp
def yQx:P2.ok Tryz.prog 172:=gw mixed (dw RC (dw Rw fg)) 0 (λ_=>[]) (λ_=>[]) [] Tryz.func172 y2h
def y3k (i:vm) (h:P1.dp i):yTm i:=by
 obtain⟨a0,a1,b0,b1,⟨ht,hp⟩,ho⟩:0<=i.a/\i.a<i.fa.length/\0<=i.b/\i.b<i.fa.length/\vU i.fa/\i.out.length<=1000:=h;obtain⟨x,hx⟩:=z7 (l:=i.fa) (i:=i.a.toNat) oM;obtain⟨y,hy⟩:=z7 (l:=i.fa) (i:=i.b.toNat) oM;obtain⟨⟨px1,px2⟩,px3,px4⟩:=hp x (lr hx);obtain⟨⟨py1,py2⟩,py3,py4⟩:=hp y (lr hy);have e0:yb i.fa ⟨i.a,2⟩ ⟨i.b,1⟩ i.less=if x.fp && y.fm && (if i.less then gM y.p1 x.p2 else gI x.p2 y.p1).2 then[⟨(if i.less then gM y.p1 x.p2 else gI x.p2 y.p1).1,min x.q2 y.q1,⟨i.a,2⟩,⟨i.b,1⟩⟩]else[]:=by
  simp only[yb,np,hx,hy,zf];rfl
 unfold yTm VQ rD S3 jH jK qD jG qW dI;simp only[ia];refine⟨⟨oM,oM⟩,x.fm,x.fp,x.p1,x.p2,x.q1,x.q2,jq hx (by simp[z6]) rfl,⟨oM,oM⟩,y.fm,y.fp,y.p1,y.p2,y.q1,y.q2,jq hy (by simp[z6]) rfl,?_⟩;rw[e0]
 (repeat'(first|exact rfl|exact trivial|assumption|apply ar|refineλ(_:Unit) (_:True)=>?_|refine am () ?_|omega|(dsimp only;omega)))
 all_goals
  refine Cv.dp.mk (λc1=> ?_) (λc1=>Cv.dp.mk (λc2=> ?_) (λc2=> ?_))
  ·have c1:x.fp=ap:=by simpa using c1
   simp only[c1,Cu,oD,if_false,oL];exact kp
  ·have c2:y.fm=ap:=by simpa using c2
   simp only[c2,IJ,Cu,oD,if_false,oL];exact kp
  ·have c1:x.fp=ao:=by simpa using c1
   have c2:y.fm=ao:=by simpa using c2
   simp only[c1,c2,zw,TN];refine⟨⟨x.p2,y.p1⟩,?_⟩
   (repeat'(first|exact rfl|exact trivial|assumption|apply ar|refineλ(_:Unit) (_:True)=>?_|refine am () ?_|omega|(dsimp only;omega)))
   refine Cv.dp.mk (λc3=> ?_) (λc3=> ?_)
   ·have c3:i.less=ao:=c3;simp only[c3,if_true];refine⟨⟨y.p1,x.p2⟩,?_⟩
    (repeat'(first|exact rfl|exact trivial|assumption|apply ar|refineλ(_:Unit) (_:True)=>?_|refine am () ?_|omega|(dsimp only;omega)))
    refine Cv.dp.mk (λc4=> ?_) (λc4=> ?_)
    ·have c4:(gM y.p1 x.p2).2=ao:=c4;simp only[c4,if_true,jk];exact kp
    ·have c4:(gM y.p1 x.p2).2=ap:=c4;simp only[c4,oD,if_false,oL];exact kp
   ·have c3:i.less=ap:=c3;simp only[c3,oD,if_false];refine Cv.dp.mk (λc4=> ?_) (λc4=> ?_)
    ·have c4:(gI x.p2 y.p1).2=ao:=c4;simp only[c4,if_true,jk];exact kp
    ·have c4:(gI x.p2 y.p1).2=ap:=c4;simp only[c4,oD,if_false,oL];exact kp
def yPi:P1.ok Tryz.prog 172:=gw mixed (dw RC (dw Rw fg)) 0 (λ_=>[]) (λ_=>[]) [] Tryz.func172 y3k
def y3h (i:vm) (h:P0.dp i):yTg i:=by
 obtain⟨a0,a1,b0,b1,⟨ht,hp⟩,ho⟩:0<=i.a/\i.a<i.fa.length/\0<=i.b/\i.b<i.fa.length/\vU i.fa/\i.out.length<=1000:=h;obtain⟨x,hx⟩:=z7 (l:=i.fa) (i:=i.a.toNat) oM;obtain⟨y,hy⟩:=z7 (l:=i.fa) (i:=i.b.toNat) oM;obtain⟨⟨px1,px2⟩,px3,px4⟩:=hp x (lr hx);obtain⟨⟨py1,py2⟩,py3,py4⟩:=hp y (lr hy);have e0:yb i.fa ⟨i.a,2⟩ ⟨i.b,2⟩ i.less=if x.fp && y.fp && (if i.less then gM y.p2 x.p2 else gI x.p2 y.p2).2 then[⟨(if i.less then gM y.p2 x.p2 else gI x.p2 y.p2).1,min x.q2 y.q2,⟨i.a,2⟩,⟨i.b,2⟩⟩]else[]:=by
  simp only[yb,np,hx,hy,zf];rfl
 unfold yTg VV pK Tk jH jK qD jG qW dI;simp only[ia];refine⟨⟨oM,oM⟩,x.fm,x.fp,x.p1,x.p2,x.q1,x.q2,jq hx (by simp[z6]) rfl,⟨oM,oM⟩,y.fm,y.fp,y.p1,y.p2,y.q1,y.q2,jq hy (by simp[z6]) rfl,?_⟩;rw[e0]
 (repeat'(first|exact rfl|exact trivial|assumption|apply ar|refineλ(_:Unit) (_:True)=>?_|refine am () ?_|omega|(dsimp only;omega)))
 all_goals
  refine Cv.dp.mk (λc1=> ?_) (λc1=>Cv.dp.mk (λc2=> ?_) (λc2=> ?_))
  ·have c1:x.fp=ap:=by simpa using c1
   simp only[c1,Cu,oD,if_false,oL];exact kp
  ·have c2:y.fp=ap:=by simpa using c2
   simp only[c2,IJ,Cu,oD,if_false,oL];exact kp
  ·have c1:x.fp=ao:=by simpa using c1
   have c2:y.fp=ao:=by simpa using c2
   simp only[c1,c2,zw,TN];refine⟨⟨x.p2,y.p2⟩,?_⟩
   (repeat'(first|exact rfl|exact trivial|assumption|apply ar|refineλ(_:Unit) (_:True)=>?_|refine am () ?_|omega|(dsimp only;omega)))
   refine Cv.dp.mk (λc3=> ?_) (λc3=> ?_)
   ·have c3:i.less=ao:=c3;simp only[c3,if_true];refine⟨⟨y.p2,x.p2⟩,?_⟩
    (repeat'(first|exact rfl|exact trivial|assumption|apply ar|refineλ(_:Unit) (_:True)=>?_|refine am () ?_|omega|(dsimp only;omega)))
    refine Cv.dp.mk (λc4=> ?_) (λc4=> ?_)
    ·have c4:(gM y.p2 x.p2).2=ao:=c4;simp only[c4,if_true,jk];exact kp
    ·have c4:(gM y.p2 x.p2).2=ap:=c4;simp only[c4,oD,if_false,oL];exact kp
   ·have c3:i.less=ap:=c3;simp only[c3,oD,if_false];refine Cv.dp.mk (λc4=> ?_) (λc4=> ?_)
    ·have c4:(gI x.p2 y.p2).2=ao:=c4;simp only[c4,if_true,jk];exact kp
    ·have c4:(gI x.p2 y.p2).2=ap:=c4;simp only[c4,oD,if_false,oL];exact kp
def yRb:P0.ok Tryz.prog 172:=gw mixed (dw RC (dw Rw fg)) 0 (λ_=>[]) (λ_=>[]) [] Tryz.func172 y3h
structure GU where
 i:vm
 sa:Bool
 sb:Bool
def LD:fy:=fj GU (λj=>[.nm 0 0,.agg [zA j.i.a,zA (zC j.sa)],.agg [zA j.i.b,zA (zC j.sb)],yL j.i.less]) (λj=>UT j.i.fa j.i.out)
 (λj=>0<=j.i.a/\j.i.a<j.i.fa.length/\0<=j.i.b/\j.i.b<j.i.fa.length/\vU j.i.fa/\j.i.out.length<=1000) (λ_=>c9) (λj=>MkP j.i.fa (j.i.out++yb j.i.fa ⟨j.i.a,zC j.sa⟩ ⟨j.i.b,zC j.sb⟩ j.i.less))
def zZv:LD.ok Tryz.prog 172:=λj=>match j with
 |⟨i,ap,ap⟩=>yQg i
 |⟨i,ap,ao⟩=>yQx i
 |⟨i,ao,ap⟩=>yPi i
 |⟨i,ao,ao⟩=>yRb i
structure cJ where
 p:fb
 fa:List jr
 inst:Int
def jE (i:cJ) (s:Int) (k:Nat):List Quote:=(af k).flatMap λ(k:Nat)=>yb i.fa ⟨(i.p.spread i.inst (i.inst+1+k)).1,s⟩ ⟨i.inst+1+k,s⟩ ap
def wD (i:cJ) (s:Int) (k:Nat):List Quote:=(af k).flatMap λ(k:Nat)=>yb i.fa ⟨(i.p.spread k i.inst).1,3-s⟩ ⟨k,s⟩ ao
def yS (i:cJ) (s:Int):List Quote:=yb i.fa ⟨(i.p.ga i.inst).2.1,3-s⟩ ⟨(i.p.ga i.inst).1,s⟩ ao
def bP (i:cJ) (s:Int) (q:Quote):Quote:={q with a:=⟨(i.p.ga i.inst).1,s⟩,b:=⟨(i.p.ga i.inst).2.1,3-s⟩}
def kM (i:cJ) (s:Int):List Quote:=
 if i.p.count=0\/(i.fa.length:Int)≠i.p.count\/i.inst<0\/(i.p.count:Int)<=i.inst then[]
 else if(i.p.ga i.inst).2.2 then(yS i s).map (bP i s)
 else jE i s (i.p.dk.length-(i.inst.toNat+1))++wD i s i.inst.toNat
def yTd (s:Int):fy:=fj cJ (λi=>[nu i.p,oy 6 (i.fa.map z6),zA i.inst,zA s]) (λ_=>[]) (λi=>i.p.small/\vU i.fa) (λ_=> .own 0) (λi=>[.own 128 6 ((kM i s).map zJ)])
def J2:fy:=yTd 1
def J1:fy:=yTd 2
def y5a (i:cJ) (s:Int):List gj:=[
 {ι:=Nat,du:=λk=>[(10,.nm 0 0),(77,zA k)],rows:=λk=>(af 3).map (AK (i.fa,((yS i s).take k).map (bP i s)++(yS i s).drop k))},
 {ι:=Nat,du:=λk=>[(10,.nm 0 0),(17,zA (i.inst+1+k))],rows:=λk=>UT i.fa (jE i s k)},
 {ι:=Nat,du:=λk=>[(10,.nm 0 0),(120,zA k)],rows:=λk=>UT i.fa (jE i s (i.p.dk.length-(i.inst.toNat+1))++wD i s k)}]
structure AP where
 i:cJ
 s:Bool
def aa2:fy:=fj AP (λj=>[nu j.i.p,oy 6 (j.i.fa.map z6),zA j.i.inst,zA (zC j.s)]) (λ_=>[]) (λj=>j.i.p.small/\vU j.i.fa) (λ_=> .own 0) (λj=>[.own 128 6 ((kM j.i (zC j.s)).map zJ)])
def xY (i:cJ) (s:Int):List Quote:=(kM i s).filter λq=>decide (i.p.dj i.inst q.dj=0)
def C4:fy:=fj AP (λj=>[nu j.i.p,oy 6 (j.i.fa.map z6),zA j.i.inst,zA (zC j.s)]) (λ_=>[]) (λj=>j.i.p.small/\vU j.i.fa) (λ_=> .own 0) (λj=>[.own 128 6 ((xY j.i (zC j.s)).map zJ)])
def ySf (j:AP):List gj:=[{ι:=Nat,du:=λk=>[(9,.own 0),(18,zA k)],rows:=λk=>[.own 128 6 ((((kM j.i (zC j.s)).take k).filter λq=>decide (j.i.p.dj j.i.inst q.dj=0)).map zJ)]}]
structure zm where
 l:List Quote
 s:Int
def zU (l:List Quote) (s:Int):Quote×Bool:=match l with
 |[]=>(yXc,ap)
 |q::r=>(r.foldl (λb q=>if jy s q.dj b.dj then q else b) q,ao)
def FW:fy:=fj zm (λi=>[oy 6 (i.l.map zJ),zA i.s]) (λ_=>[]) (λi=>(i.s=1\/i.s=2)/\i.l.length<=1000000) (λi=> .iW [Rz (zU i.l i.s).1,yL (zU i.l i.s).2]) (λ_=>[])
def yZw (i:zm):List gj:=[{ι:=Nat,du:=λk=>[(6,.nm 0 0),(26,zA k)],rows:=λk=>[.cells (Rz (zU (i.l.take (max k 1)) i.s).1).cl 128]}]
def rP (a:cJ):Prop:=ag 6 (aa z6 a.fa)=ag 6 (aa z6 a.fa)/\di (aj [V.d (D.v (ax (sb a.p.code))),V.own 0,V.d (dI a.p.tick),V.d (dI a.p.low),V.d (dI a.p.high),V.d (dI a.p.wide),V.d (dI a.p.dr),V.d (dI a.p.top),V.d (dI a.p.least),V.d (dI a.p.part),V.own 1] 25)/\di (ag 1 (iE a.p.settle))/\di (ag 1 (iE a.p.dk))
def SK (a:Nat->Prop) (b:Nat) (c:Nat->Nat) (d:Nat) (e:cJ):Prop:=a b/\c b<c d/\di (ag 6 (aa z6 e.fa))/\rP e
def Ss (a:Nat->Prop) (b:Nat) (c:Nat->Nat) (d:Nat) (e:cJ):Prop:=a b/\c b<c d/\rP e
def fE (a:jr):Prop:=((-9223372036854775808)<=a.p1/\a.p1<=9223372036854775807)/\(-9223372036854775808)<=a.p2/\a.p2<=9223372036854775807
def fH (a:GU):Prop:=0<=a.i.a/\a.i.a<(↑a.i.fa.length:Int)/\0<=a.i.b/\a.i.b<(↑a.i.fa.length:Int)/\(a.i.fa.length<=1000000/\∀(b:jr),b∈a.i.fa->fE b)/\a.i.out.length<=1000
def uZ (a:GU):=(a.i.out++yb a.i.fa (B4.mk a.i.a (zC a.sa)) (B4.mk a.i.b (zC a.sb)) a.i.less)
def Tl (a:Nat) (b:GU):=(decide ((↑a:Int)<(↑(aa zJ (uZ b)).length:Int)))
def qC (a:eM):Prop:=a.p.code.length<=1099511627776/\a.p.dk.length<=1099511627776/\a.p.settle.length<=1099511627776
def jI (a:bI):Prop:=a.p.code.length<=1099511627776/\a.p.dk.length<=1099511627776/\a.p.settle.length<=1099511627776
def rB (a:cJ) (b:Nat):=(aa (bP a 1) (ab b (yS a 1))++ae b (yS a 1))
def S8 (a:cJ) (b:Nat):=(aa zJ (rB a b))
def pO (a:cJ) (b:Nat):=(jE a 1 (a.p.dk.length-(a.inst.toNat+1))++wD a 1 b)
def vL (a:bI):=((a.p.ga a.n).snd.fst)
def yUn (i:cJ):Prop:=
 ∃(a:fb),sb a.code=sb i.p.code/\iE a.dk=iE i.p.dk/\a.tick=i.p.tick/\a.low=i.p.low/\a.high=i.p.high/\a.wide=i.p.wide/\a.dr=i.p.dr/\a.top=i.p.top/\a.least=i.p.least/\a.part=i.p.part/\iE a.settle=iE i.p.settle/\(zW a)/\∀(b:Unit),True->dp ((↑a.count:Int)==0) (∃(c:Unit),aa zJ (kM i 1)=[]/\True) (dp ((↑(aa z6 i.fa).length:Int) !=(↑a.count:Int)) (∃(c:Unit),aa zJ (kM i 1)=[]/\True) (dp (decide (i.inst<0)) (∃(c:Unit),aa zJ (kM i 1)=[]/\True) (dp (decide (i.inst>=(↑a.count:Int))) (∃(c:Unit),aa zJ (kM i 1)=[]/\True) (∃(c:bI),sb c.p.code=sb i.p.code/\iE c.p.dk=iE i.p.dk/\c.p.tick=i.p.tick/\c.p.low=i.p.low/\c.p.high=i.p.high/\c.p.wide=i.p.wide/\c.p.dr=i.p.dr/\c.p.top=i.p.top/\c.p.least=i.p.least/\c.p.part=i.p.part/\iE c.p.settle=iE i.p.settle/\c.n=i.inst/\(jI c)/\∀(d:Unit),True->dp (c.p.ga c.n).snd.snd (∃(e:Int),e=1/\(e=1\/e=2)/\∀(f:Unit),True->∃(g:GU),g.i.a=(c.p.ga c.n).snd.fst/\zC g.sa=3-e/\g.i.b=(c.p.ga c.n).fst/\zC g.sb=1/\g.i.less=ao/\ag 6 (aa z6 g.i.fa)=ag 6 (aa z6 i.fa)/\aa zJ g.i.out=[]/\(fH g)/\∀(h:Unit),True->∃(j:Nat),(↑j:Int)=0/\ag 6 (aa z6 i.fa)=ag 6 (aa z6 g.i.fa)/\aa zJ (rB i j)=aa zJ (uZ g)/\∃(k:Nat->Prop),∃(l:Nat->Nat),k j/\∀(m:Nat),k m->dp (Tl m g) ((0<=(↑m:Int)/\(↑m:Int)<(↑(S8 i m).length:Int))/\(↑m:Int).toNat<(S8 i m).length/\∃(n:Nat),(↑n:Int)=aq.wrap ((↑m:Int)+1)/\di (ag 6 (aa z6 i.fa))/\aa zJ (rB i n)=zV (S8 i m) (↑m:Int).toNat 2 [dI ((c.p.ga c.n).fst),dI 1,dI (vL c),dI (3-e)]/\k n/\l n<l m/\di (ag 6 (aa z6 g.i.fa))/\di (aj [V.d (dI (vL c)),V.d (dI (3-e))] 125)/\di (aj [V.d (dI ((c.p.ga c.n).fst)),V.d (dI 1)] 125)/\rP i) (∃(n:Unit),aa zJ (kM i 1)=aa zJ (rB i m)/\True)) (∃(e:Nat),i.inst+1+(↑e:Int)=aq.wrap (i.inst+1)/\di (ag 6 (aa z6 i.fa))/\aa zJ (jE i 1 e)=[]/\∃(f:Nat->Prop),∃(g:Nat->Nat),f e/\∀(h:Nat),f h->dp (decide (i.inst+1+(↑h:Int)<(↑(iE i.p.dk).length:Int))) (∃(j:eM),sb j.p.code=sb i.p.code/\iE j.p.dk=iE i.p.dk/\j.p.tick=i.p.tick/\j.p.low=i.p.low/\j.p.high=i.p.high/\j.p.wide=i.p.wide/\j.p.dr=i.p.dr/\j.p.top=i.p.top/\j.p.least=i.p.least/\j.p.part=i.p.part/\iE j.p.settle=iE i.p.settle/\j.a=i.inst/\j.b=i.inst+1+(↑h:Int)/\(qC j)/\∀(k:Unit),True->∃(l:GU),l.i.a=(j.p.spread j.a j.b).fst/\zC l.sa=1/\l.i.b=i.inst+1+(↑h:Int)/\zC l.sb=1/\l.i.less=ap/\ag 6 (aa z6 l.i.fa)=ag 6 (aa z6 i.fa)/\aa zJ l.i.out=aa zJ (jE i 1 h)/\(fH l)/\∀(m:Unit),True->∃(n:Nat),i.inst+1+(↑n:Int)=aq.wrap (i.inst+1+(↑h:Int)+1)/\ag 6 (aa z6 i.fa)=ag 6 (aa z6 l.i.fa)/\aa zJ (jE i 1 n)=aa zJ (uZ l)/\Ss f n g h i) (∃(j:Nat),(↑j:Int)=0/\di (ag 6 (aa z6 i.fa))/\aa zJ (pO i j)=aa zJ (jE i 1 h)/\∃(k:Nat->Prop),∃(l:Nat->Nat),k j/\∀(m:Nat),k m->dp (decide ((↑m:Int)<i.inst)) (∃(n:eM),sb n.p.code=sb i.p.code/\iE n.p.dk=iE i.p.dk/\n.p.tick=i.p.tick/\n.p.low=i.p.low/\n.p.high=i.p.high/\n.p.wide=i.p.wide/\n.p.dr=i.p.dr/\n.p.top=i.p.top/\n.p.least=i.p.least/\n.p.part=i.p.part/\iE n.p.settle=iE i.p.settle/\n.a=(↑m:Int)/\n.b=i.inst/\(qC n)/\∀(p:Unit),True->∃(q:Int),q=1/\(q=1\/q=2)/\∀(r:Unit),True->∃(s:GU),s.i.a=(n.p.spread n.a n.b).fst/\zC s.sa=3-q/\s.i.b=(↑m:Int)/\zC s.sb=1/\s.i.less=ao/\ag 6 (aa z6 s.i.fa)=ag 6 (aa z6 i.fa)/\aa zJ s.i.out=aa zJ (pO i m)/\(fH s)/\∀(t:Unit),True->∃(u:Nat),(↑u:Int)=aq.wrap ((↑m:Int)+1)/\ag 6 (aa z6 i.fa)=ag 6 (aa z6 s.i.fa)/\aa zJ (pO i u)=aa zJ (uZ s)/\SK k u l m i) (∃(n:Unit),aa zJ (kM i 1)=aa zJ (pO i m)/\True)))))))
def rE (a:cJ) (b:Nat):=(aa (bP a 2) (ab b (yS a 2))++ae b (yS a 2))
def Tc (a:cJ) (b:Nat):=(aa zJ (rE a b))
def pL (a:cJ) (b:Nat):=(jE a 2 (a.p.dk.length-(a.inst.toNat+1))++wD a 2 b)
def yUf (i:cJ):Prop:=
 ∃(a:fb),sb a.code=sb i.p.code/\iE a.dk=iE i.p.dk/\a.tick=i.p.tick/\a.low=i.p.low/\a.high=i.p.high/\a.wide=i.p.wide/\a.dr=i.p.dr/\a.top=i.p.top/\a.least=i.p.least/\a.part=i.p.part/\iE a.settle=iE i.p.settle/\(zW a)/\∀(b:Unit),True->dp ((↑a.count:Int)==0) (∃(c:Unit),aa zJ (kM i 2)=[]/\True) (dp ((↑(aa z6 i.fa).length:Int) !=(↑a.count:Int)) (∃(c:Unit),aa zJ (kM i 2)=[]/\True) (dp (decide (i.inst<0)) (∃(c:Unit),aa zJ (kM i 2)=[]/\True) (dp (decide (i.inst>=(↑a.count:Int))) (∃(c:Unit),aa zJ (kM i 2)=[]/\True) (∃(c:bI),sb c.p.code=sb i.p.code/\iE c.p.dk=iE i.p.dk/\c.p.tick=i.p.tick/\c.p.low=i.p.low/\c.p.high=i.p.high/\c.p.wide=i.p.wide/\c.p.dr=i.p.dr/\c.p.top=i.p.top/\c.p.least=i.p.least/\c.p.part=i.p.part/\iE c.p.settle=iE i.p.settle/\c.n=i.inst/\(jI c)/\∀(d:Unit),True->dp (c.p.ga c.n).snd.snd (∃(e:Int),e=2/\(e=1\/e=2)/\∀(f:Unit),True->∃(g:GU),g.i.a=(c.p.ga c.n).snd.fst/\zC g.sa=3-e/\g.i.b=(c.p.ga c.n).fst/\zC g.sb=2/\g.i.less=ao/\ag 6 (aa z6 g.i.fa)=ag 6 (aa z6 i.fa)/\aa zJ g.i.out=[]/\(fH g)/\∀(h:Unit),True->∃(j:Nat),(↑j:Int)=0/\ag 6 (aa z6 i.fa)=ag 6 (aa z6 g.i.fa)/\aa zJ (rE i j)=aa zJ (uZ g)/\∃(k:Nat->Prop),∃(l:Nat->Nat),k j/\∀(m:Nat),k m->dp (Tl m g) ((0<=(↑m:Int)/\(↑m:Int)<(↑(Tc i m).length:Int))/\(↑m:Int).toNat<(Tc i m).length/\∃(n:Nat),(↑n:Int)=aq.wrap ((↑m:Int)+1)/\di (ag 6 (aa z6 i.fa))/\aa zJ (rE i n)=zV (Tc i m) (↑m:Int).toNat 2 [dI ((c.p.ga c.n).fst),dI 2,dI (vL c),dI (3-e)]/\k n/\l n<l m/\di (ag 6 (aa z6 g.i.fa))/\di (aj [V.d (dI (vL c)),V.d (dI (3-e))] 125)/\di (aj [V.d (dI ((c.p.ga c.n).fst)),V.d (dI 2)] 125)/\rP i) (∃(n:Unit),aa zJ (kM i 2)=aa zJ (rE i m)/\True)) (∃(e:Nat),i.inst+1+(↑e:Int)=aq.wrap (i.inst+1)/\di (ag 6 (aa z6 i.fa))/\aa zJ (jE i 2 e)=[]/\∃(f:Nat->Prop),∃(g:Nat->Nat),f e/\∀(h:Nat),f h->dp (decide (i.inst+1+(↑h:Int)<(↑(iE i.p.dk).length:Int))) (∃(j:eM),sb j.p.code=sb i.p.code/\iE j.p.dk=iE i.p.dk/\j.p.tick=i.p.tick/\j.p.low=i.p.low/\j.p.high=i.p.high/\j.p.wide=i.p.wide/\j.p.dr=i.p.dr/\j.p.top=i.p.top/\j.p.least=i.p.least/\j.p.part=i.p.part/\iE j.p.settle=iE i.p.settle/\j.a=i.inst/\j.b=i.inst+1+(↑h:Int)/\(qC j)/\∀(k:Unit),True->∃(l:GU),l.i.a=(j.p.spread j.a j.b).fst/\zC l.sa=2/\l.i.b=i.inst+1+(↑h:Int)/\zC l.sb=2/\l.i.less=ap/\ag 6 (aa z6 l.i.fa)=ag 6 (aa z6 i.fa)/\aa zJ l.i.out=aa zJ (jE i 2 h)/\(fH l)/\∀(m:Unit),True->∃(n:Nat),i.inst+1+(↑n:Int)=aq.wrap (i.inst+1+(↑h:Int)+1)/\ag 6 (aa z6 i.fa)=ag 6 (aa z6 l.i.fa)/\aa zJ (jE i 2 n)=aa zJ (uZ l)/\Ss f n g h i) (∃(j:Nat),(↑j:Int)=0/\di (ag 6 (aa z6 i.fa))/\aa zJ (pL i j)=aa zJ (jE i 2 h)/\∃(k:Nat->Prop),∃(l:Nat->Nat),k j/\∀(m:Nat),k m->dp (decide ((↑m:Int)<i.inst)) (∃(n:eM),sb n.p.code=sb i.p.code/\iE n.p.dk=iE i.p.dk/\n.p.tick=i.p.tick/\n.p.low=i.p.low/\n.p.high=i.p.high/\n.p.wide=i.p.wide/\n.p.dr=i.p.dr/\n.p.top=i.p.top/\n.p.least=i.p.least/\n.p.part=i.p.part/\iE n.p.settle=iE i.p.settle/\n.a=(↑m:Int)/\n.b=i.inst/\(qC n)/\∀(p:Unit),True->∃(q:Int),q=2/\(q=1\/q=2)/\∀(r:Unit),True->∃(s:GU),s.i.a=(n.p.spread n.a n.b).fst/\zC s.sa=3-q/\s.i.b=(↑m:Int)/\zC s.sb=2/\s.i.less=ao/\ag 6 (aa z6 s.i.fa)=ag 6 (aa z6 i.fa)/\aa zJ s.i.out=aa zJ (pL i m)/\(fH s)/\∀(t:Unit),True->∃(u:Nat),(↑u:Int)=aq.wrap ((↑m:Int)+1)/\ag 6 (aa z6 i.fa)=ag 6 (aa z6 s.i.fa)/\aa zJ (pL i u)=aa zJ (uZ s)/\SK k u l m i) (∃(n:Unit),aa zJ (kM i 2)=aa zJ (pL i m)/\True)))))))
def jZ (a:AP):=(aa zJ (kM a.i (zC a.s)))
def YA (a:Nat->Prop) (b:Nat) (c:Nat->Nat) (d:Nat) (e:AP) (f:AP):Prop:=a b/\c b<c d/\di (ak 128 6 (jZ e))/\di (aj [V.d (D.v (ax (sb f.i.p.code))),V.own 0,V.d (dI f.i.p.tick),V.d (dI f.i.p.low),V.d (dI f.i.p.high),V.d (dI f.i.p.wide),V.d (dI f.i.p.dr),V.d (dI f.i.p.top),V.d (dI f.i.p.least),V.d (dI f.i.p.part),V.own 1] 25)/\di (ag 1 (iE f.i.p.settle))/\di (ag 1 (iE f.i.p.dk))
def kL (a:AP):Prop:=(a.i.p.code.length<=1099511627776/\a.i.p.dk.length<=1099511627776/\a.i.p.settle.length<=1099511627776)/\a.i.fa.length<=1000000/\∀(b:jr),b∈a.i.fa->fE b
def fV (a:AP):=(↑(jZ a).length:Int)
def z8k (j:AP):Prop:=
 ∃(a:AP),sb a.i.p.code=sb j.i.p.code/\iE a.i.p.dk=iE j.i.p.dk/\a.i.p.tick=j.i.p.tick/\a.i.p.low=j.i.p.low/\a.i.p.high=j.i.p.high/\a.i.p.wide=j.i.p.wide/\a.i.p.dr=j.i.p.dr/\a.i.p.top=j.i.p.top/\a.i.p.least=j.i.p.least/\a.i.p.part=j.i.p.part/\iE a.i.p.settle=iE j.i.p.settle/\aa z6 a.i.fa=aa z6 j.i.fa/\a.i.inst=j.i.inst/\zC a.s=zC j.s/\(kL a)/\∀(b:Unit),True->∃(c:Nat),(↑c:Int)=0/\aa zJ (ac (λ(q:Sx.Quote) ↦ decide (j.i.p.dj j.i.inst q.dj=0)) (ab c (kM j.i (zC j.s))))=[]/\∃(d:Nat->Prop),∃(e:Nat->Nat),d c/\∀(f:Nat),d f->dp (decide ((↑f:Int)<(fV a))) ((0<=(↑f:Int)/\(↑f:Int)<(fV a))/\∃(g:Int),∃(h:Int),∃(k:Int),∃(l:Int),∃(m:Int),∃(n:Int),zD (jZ a) (↑f:Int).toNat 0 6=az [dI g,dI h,dI k,dI l,dI m,dI n]/\∃(p:eM),sb p.p.code=sb j.i.p.code/\iE p.p.dk=iE j.i.p.dk/\p.p.tick=j.i.p.tick/\p.p.low=j.i.p.low/\p.p.high=j.i.p.high/\p.p.wide=j.i.p.wide/\p.p.dr=j.i.p.dr/\p.p.top=j.i.p.top/\p.p.least=j.i.p.least/\p.p.part=j.i.p.part/\iE p.p.settle=iE j.i.p.settle/\p.a=j.i.inst/\p.b=g/\(qC p)/\∀(q:Unit),True->dp (p.p.dj p.a p.b==0) (((aa zJ (ac (λ(q:Sx.Quote) ↦ decide (j.i.p.dj j.i.inst q.dj=0)) (ab f (kM j.i (zC j.s))))).length+1)*(48:Nat)<=(140737488355328:Nat)/\∃(r:Nat),(↑r:Int)=aq.wrap ((↑f:Int)+1)/\aa zJ (ac (λ(q:Sx.Quote) ↦ decide (j.i.p.dj j.i.inst q.dj=0)) (ab r (kM j.i (zC j.s))))=aa zJ (ac (λ(q:Sx.Quote) ↦ decide (j.i.p.dj j.i.inst q.dj=0)) (ab f (kM j.i (zC j.s))))++[[dI g,dI h,dI k,dI l,dI m,dI n]]/\YA d r e f a j) (∃(r:Nat),(↑r:Int)=aq.wrap ((↑f:Int)+1)/\aa zJ (ac (λ(q:Sx.Quote) ↦ decide (j.i.p.dj j.i.inst q.dj=0)) (ab r (kM j.i (zC j.s))))=aa zJ (ac (λ(q:Sx.Quote) ↦ decide (j.i.p.dj j.i.inst q.dj=0)) (ab f (kM j.i (zC j.s))))/\YA d r e f a j)) (∃(g:Unit),aa zJ (xY j.i (zC j.s))=aa zJ (ac (λ(q:Sx.Quote) ↦ decide (j.i.p.dj j.i.inst q.dj=0)) (ab f (kM j.i (zC j.s))))/\True)
def Yn (a:Nat->Prop) (b:Nat) (c:Nat->Nat) (d:Nat):Prop:=a b/\c b<c d/\di (aj (Sx.V.agg [V.d (dI 0),V.d (dI 0),V.d (dI 0),V.d (dI 0),V.d (dI 0),V.d (dI 0)]).cl 128)
def yE (a:Nat) (b:zm):=(zU (ab (max a 1) b.l) b.s)
def uK (a:zm):=(↑(aa zJ a.l).length:Int)
def W7 (a:zm):Prop:=((0:Int)<=(0:Int)/\0<(uK a))/\∃(b:Int),∃(c:Int),∃(d:Int),∃(e:Int),∃(f:Int),∃(g:Int),zD (aa zJ a.l) (Int.toNat 0) 0 6=az [dI b,dI c,dI d,dI e,dI f,dI g]/\∃(h:Nat),(↑h:Int)=0/\(yE h a).fst.dj=b/\(yE h a).fst.dq=c/\(yE h a).fst.a.inst=d/\(yE h a).fst.a.side=e/\(yE h a).fst.b.inst=f/\(yE h a).fst.b.side=g/\∃(j:Nat->Prop),∃(k:Nat->Nat),j h/\∀(l:Nat),j l->dp (decide ((↑l:Int)<(uK a))) ((0<=(↑l:Int)/\(↑l:Int)<(uK a))/\∃(m:Int),∃(n:Int),∃(p:Int),∃(q:Int),∃(r:Int),∃(s:Int),zD (aa zJ a.l) (↑l:Int).toNat 0 6=az [dI m,dI n,dI p,dI q,dI r,dI s]/\∃(t:DA),t.side=a.s/\t.x=m/\t.y=(yE l a).fst.dj/\True/\∀(u:Unit),True->dp (jy t.side t.x t.y) (∃(v:Nat),(↑v:Int)=aq.wrap ((↑l:Int)+1)/\(yE v a).fst.dj=m/\(yE v a).fst.dq=n/\(yE v a).fst.a.inst=p/\(yE v a).fst.a.side=q/\(yE v a).fst.b.inst=r/\(yE v a).fst.b.side=s/\Yn j v k l) (∃(v:Nat),(↑v:Int)=aq.wrap ((↑l:Int)+1)/\(yE v a).fst.dj=(yE l a).fst.dj/\(yE v a).fst.dq=(yE l a).fst.dq/\(yE v a).fst.a.inst=(yE l a).fst.a.inst/\(yE v a).fst.a.side=(yE l a).fst.a.side/\(yE v a).fst.b.inst=(yE l a).fst.b.inst/\(yE v a).fst.b.side=(yE l a).fst.b.side/\Yn j v k l)) (∃(m:Unit),(zU a.l a.s).fst.dj=(yE l a).fst.dj/\(zU a.l a.s).fst.dq=(yE l a).fst.dq/\(zU a.l a.s).fst.a.inst=(yE l a).fst.a.inst/\(zU a.l a.s).fst.a.side=(yE l a).fst.a.side/\(zU a.l a.s).fst.b.inst=(yE l a).fst.b.inst/\(zU a.l a.s).fst.b.side=(yE l a).fst.b.side/\(zU a.l a.s).snd=ao/\True)
def Yj (a:zm):Prop:=∃(b:Unit),(zU a.l a.s).fst.dj=0/\(zU a.l a.s).fst.dq=0/\(zU a.l a.s).fst.a.inst=0/\(zU a.l a.s).fst.a.side=0/\(zU a.l a.s).fst.b.inst=0/\(zU a.l a.s).fst.b.side=0/\(zU a.l a.s).snd=ap/\True
def yIm (i:zm):Prop:=
 dp ((uK i)==0) (Yj i) (dp (i.s !=1) (dp (i.s !=2) (Yj i) (W7 i)) (W7 i))
def z6l {l:List Quote} {q:Quote} (s:Int) (h:l[0]? =az q):(zU (l.take (max 0 1)) s).1=q:=by
 cases l with
 |nil=>simp at h
 |cons a l=>simp at h;subst h;rfl
def z6v {l:List Quote} {j:Nat} {q:Quote} (s:Int) (h:l[j]? =az q):
 (zU (l.take (max (j+1) 1)) s).1=if jy s q.dj (zU (l.take (max j 1)) s).1.dj then q else(zU (l.take (max j 1)) s).1:=by
 cases l with
 |nil=>simp at h
 |cons a l=>
  cases j with
  |zero=>simp at h;subst h;simp[zU]
  |succ m=>
   simp only[AS]at h;rw[show max (m+1+1) 1=(m+1)+1 by omega,show max (m+1) 1=m+1 by omega,vg,vg,sm,h];simp only[zU,D0,IP];rfl
def yDb {l:List Quote} (s:Int) (h:l≠[]):(zU l s).2=ao:=by
 cases l with
 |nil=>exact absurd rfl h
 |cons a l=>rfl
def yYs (i:zm) (h:FW.dp i):yIm i:=by
 obtain⟨hs,hl⟩:(i.s=1\/i.s=2)/\i.l.length<=1000000:=h;unfold yIm Yj W7 uK yE Yn dI;simp only[ia];refine Cv.dp.mk (λc=> ?_) (λc=> ?_)
 ·have e:i.l=[]:=xu (by have:(i.l.length:Int)=0:=(by simpa using c);omega);rw[e];exact kp
 have h0:0<i.l.length:=by
  rcases Nat.eq_zero_or_pos i.l.length with h|h
  ·rw[h]at c;exact absurd c Z8
  ·exact h
 have je:i.l≠[]:=by intro e;rw[e]at h0;simp at h0
 have two:=yDb i.s je;obtain⟨q,hq⟩:=z7 h0;have b0:=z6l i.s hq;have fin:(zU (i.l.take (max i.l.length 1)) i.s).1=(zU i.l i.s).1:=by
  rw[og (by omega)]
 have step:∀j:Nat,j<i.l.length->∀x:Quote,i.l[j]? =az x->(jy i.s x.dj (zU (i.l.take (max j 1)) i.s).1.dj=ao->(zU (i.l.take (max (j+1) 1)) i.s).1=x)/\(jy i.s x.dj (zU (i.l.take (max j 1)) i.s).1.dj=ap->(zU (i.l.take (max (j+1) 1)) i.s).1=(zU (i.l.take (max j 1)) i.s).1):=λj hj x hx=>by
  have:=z6v i.s hx;constructor
  ·intro e;rw[this,fc e]
  ·intro e;rw[this,ej (by rw[e];simp)]
 refine Cv.dp.mk (λc1=>Cv.dp.mk (λc2=> ?_) (λc2=> ?_)) (λc1=> ?_)
 ·exfalso;have c1:i.s≠1:=by simpa using c1
  have c2:i.s≠2:=by simpa using c2
  omega
 all_goals
  refine⟨⟨oM,oM⟩,q.dj,q.dq,q.a.inst,q.a.side,q.b.inst,q.b.side,jq hq (by simp[zJ]) rfl,0,?_⟩;rw[b0]
  (repeat'(first|exact rfl|exact trivial|assumption|apply ar|refineλ(_:Unit) (_:True)=>?_|refine am () ?_|omega|(dsimp only;omega)))
  refine⟨λj=>j<=i.l.length,λj=>i.l.length-j,oM,λj hj=>zH (λgr=> ?_) (λgr=> ?_)⟩
  ·have oh:j<i.l.length:=by omega
   obtain⟨x,hx⟩:=z7 oh;obtain⟨st,sf⟩:=step j oh x hx;refine⟨⟨oM,oM⟩,x.dj,x.dq,x.a.inst,x.a.side,x.b.inst,x.b.side,jq hx (by simp[zJ]) rfl,⟨i.s,x.dj,_⟩,rfl,rfl,rfl,trivial,λ_ _=>Cv.dp.mk (λe=>⟨j+1,by rw[ir (by omega)];rfl,?_⟩) (λe=>⟨j+1,by rw[ir (by omega)];rfl,?_⟩)⟩
   ·rw[st e];exact kp
   ·rw[sf e];exact kp
  ·have hj:j<=i.l.length:=hj;obtain rfl:j=i.l.length:=by omega
   rw[fin,two];exact kp
def z0y:FW.ok Tryz.prog 61:=gw mixed (dw z4p fg) 0 (λ_=>[]) (λi=>yZw i) [] Tryz.func61 yYs
def NV (fa:List jr) (a b:B4) (less:Bool):(yb fa a b less).length<=1:=by
 unfold yb;dsimp only;split<;>split<;>simp
def Vt {α:Type} {f:Nat->List α} (h:∀k,(f k).length<=1):∀n,((af n).flatMap f).length<=n
 |0=>by simp
 |n+1=>by
  rw[IL,yi,im];have:=Vt h n;have:=h n;simp only[vx,KA,oL];omega
def Yl (i:cJ) (s:Int) (k:Nat):(jE i s k).length<=k:=Vt (λ_=>NV _ _ _ _) k
def eE (i:cJ) (s:Int) (k:Nat):(wD i s k).length<=k:=Vt (λ_=>NV _ _ _ _) k
def Sy (i:cJ) (s:Int):(kM i s).length<=100:=by
 unfold kM;split
 ·simp
 ·rename_i h;have hc:=xR i.p;have m6:=(qR (lY (p:=i.p) oM)).m6;split
  ·rw[ia];have:=NV i.fa ⟨(i.p.ga i.inst).2.1,3-s⟩ ⟨(i.p.ga i.inst).1,s⟩ ao;have e:(yS i s).length<=1:=this;omega
  ·rw[im];have h1:=Yl i s (i.p.dk.length-(i.inst.toNat+1));have h2:=eE i s i.inst.toNat;omega
def yOm (j:AP) (h:C4.dp j):z8k j:=by
 unfold z8k YA fV jZ kL fE qC dI;obtain⟨hp,ht,hr⟩:j.i.p.small/\vU j.i.fa:=h;obtain⟨h1,h2,h3⟩:=hp;have hl:=Sy j.i (zC j.s);refine⟨j,?_⟩;simp only[ia]
 (repeat'(first|exact rfl|exact trivial|assumption|apply ar|refineλ(_:Unit) (_:True)=>?_|refine am () ?_|omega|(dsimp only;omega)))
 refine⟨0,rfl,rfl,λk=>k<=(kM j.i (zC j.s)).length,λk=>(kM j.i (zC j.s)).length-k,oM,λk hk=>zH (λgr=> ?_) (λgr=> ?_)⟩
 ·have qx:k<(kM j.i (zC j.s)).length:=by omega
  obtain⟨q,hq⟩:=z7 qx;have hf:(ac (λq=>decide (j.i.p.dj j.i.inst q.dj=0)) (ab k (kM j.i (zC j.s)))).length<=100:=by
   have:=Hg (λq:Quote=>decide (j.i.p.dj j.i.inst q.dj=0)) (ab k (kM j.i (zC j.s)));rw[oe]at this;omega
  refine⟨⟨oM,oM⟩,q.dj,q.dq,q.a.inst,q.a.side,q.b.inst,q.b.side,jq hq (by simp[zJ]) rfl,⟨j.i.p,j.i.inst,q.dj⟩,?_⟩
  (repeat'(first|exact rfl|exact trivial|assumption|apply ar|refineλ(_:Unit) (_:True)=>?_|refine am () ?_|omega|(dsimp only;omega)))
  refine Cv.dp.mk (λc=>⟨oM,k+1,by rw[ir (by omega)];rfl,?_⟩) (λc=>⟨k+1,by rw[ir (by omega)];rfl,?_⟩)
  ·have c:j.i.p.dj j.i.inst q.dj=0:=by simpa using c
   rw[sm,hq,D0,IS,OG (by simpa using c),jk];exact kp
  ·have c:¬j.i.p.dj j.i.inst q.dj=0:=by simpa using c
   rw[sm,hq,D0,IS,OF (by simpa using c),List.filter_nil,oL];exact kp
 ·have hk:k<=(kM j.i (zC j.s)).length:=hk;obtain rfl:k=(kM j.i (zC j.s)).length:=by omega
  rw[og (km _)];exact kp
def yEl:∀n≤6,∀a<n,∀b<n,a<b->0<=(yK n a:Int)+b-a-1/\(yK n a:Int)+b-a-1<((n+n*(n-1) / 2:Nat):Int):=by decide
def aO {p:fb} (hc:p.check=0) {a b:Nat} (Eb:a<b) (hb:b<p.dk.length):0<=(p.spread a b).1/\(p.spread a b).1<p.count:=by
 have m6:=(qR hc).m6;have:=yEl p.dk.length m6 a oM b hb Eb;rw[fb.spread,ej (by omega),fb.count,fc hc];simpa using this
def ySy:∀n≤6,∀k<n+n*(n-1) / 2,n<=k->(kQ n k n 0).2.2=ao/\0<=(kQ n k n 0).1/\(kQ n k n 0).1<n/\0<=(kQ n k n 0).2.1/\(kQ n k n 0).2.1<n:=by decide
def fD {p:fb} (hc:p.check=0) {k:Nat} (hk:k<p.count):((p.ga k).2.2=ao/\0<=(p.ga k).1/\(p.ga k).1<p.dk.length/\0<=(p.ga k).2.1/\(p.ga k).2.1<p.dk.length)\/((p.ga k).2.2=ap/\k<p.dk.length):=by
 have m6:=(qR hc).m6;have qx:=hk;rw[fb.count,fc hc]at qx;by_cases h:k<p.dk.length
 ·right;rw[fb.ga,ej (by omega),fc (by omega)];exact⟨rfl,h⟩
 ·left;rw[fb.ga,ej (by omega),ej (by omega)];exact ySy p.dk.length m6 k qx oM
def Sv {p:fb} (hc:p.check=0):p.dk.length<=p.count:=by
 rw[fb.count,fc hc];omega
def z3g {i:cJ} {s:Int} {k:Nat} (hk:k<(yS i s).length):aa zJ (aa (bP i s) (ab (k+1) (yS i s))++ae (k+1) (yS i s))=
 zV (aa zJ (aa (bP i s) (ab k (yS i s))++ae k (yS i s))) k (0+2) [D.v (.int .i64 (i.p.ga i.inst).1),D.v (.int .i64 s),D.v (.int .i64 (i.p.ga i.inst).2.1),D.v (.int .i64 (3-s))]:=by
 obtain⟨q,hq⟩:=z7 hk;rw[zTq (a:=aa zJ (aa (bP i s) (ab k (yS i s)))) (b:=aa zJ (ae (k+1) (yS i s))) (x:=zJ q) (y:=zJ (bP i s q)) (by
  rw[jk,Dq hk,(jl.1 hq).2,jo]) (by simp;omega) rfl]
 rw[sm,hq,D0,jk,jk,jk,jo,Ct,jo,Ct,jd];rfl
def y4y (i:cJ) (h:J2.dp i):yUn i:=by
 unfold yUn zW Ss SK rP vL pO S8 rB jI qC Tl uZ fH fE dI;obtain⟨⟨h1,h2,h3⟩,ht,hr⟩:i.p.small/\vU i.fa:=h;have ta:vU i.fa:=⟨ht,hr⟩
 refine⟨i.p,?_⟩;simp only[ia,y4]
 (repeat'(first|exact rfl|exact trivial|assumption|apply ar|refineλ(_:Unit) (_:True)=>?_|refine am () ?_|omega|(dsimp only;omega)))
 have bad (hb:i.p.count=0\/(i.fa.length:Int)≠i.p.count\/i.inst<0\/(i.p.count:Int)<=i.inst):∃(o:Unit),aa zJ (kM i 1)=[]/\True:=⟨(),by rw[kM,fc hb];rfl,trivial⟩
 refine Cv.dp.mk (λc1=>bad (.inl (by have c1:(i.p.count:Int)=0:=(by simpa using c1);omega))) λc1=>Cv.dp.mk (λc2=>bad (.inr (.inl (by simpa using c2)))) λc2=>zH (λc3=>bad oM) λc3=>zH (λc4=>bad oM) λc4=>⟨⟨i.p,i.inst⟩,?_⟩
 have c1:i.p.count≠0:=by
  have c1:¬(i.p.count:Int)=0:=(by simpa using c1)
  omega
 have c2:(i.fa.length:Int)=i.p.count:=by simpa using c2
 have c4:i.inst<(i.p.count:Int):=by
  have c4:¬i.inst>=(i.p.count:Int):=c4;omega
 have hc:=lY c1;have hm:=Sv hc;have e0:kM i 1=if(i.p.ga i.inst).2.2 then(yS i 1).map (bP i 1)else jE i 1 (i.p.dk.length-(i.inst.toNat+1))++wD i 1 i.inst.toNat:=by
  rw[kM,ej (by omega)]
 obtain⟨k,hk⟩:∃k:Nat,i.inst=k:=⟨i.inst.toNat,oM⟩
 have hl:=fD hc (k:=k) oM;rw[<- hk]at hl
 (repeat'(first|exact rfl|exact trivial|assumption|apply ar|refineλ(_:Unit) (_:True)=>?_|refine am () ?_|omega|(dsimp only;omega)))
 refine Cv.dp.mk (λc5=> ?_) (λc5=> ?_)
 ·have c5:(i.p.ga i.inst).2.2=ao:=c5;rw[e0,fc c5];rcases hl with⟨_,l1,l2,l3,l4⟩|⟨l1,_⟩
  ·have yd:(yS i 1).length<=1:=NV _ _ _ _;refine⟨1,rfl,oM,λ_ _=>⟨⟨⟨i.fa,[],(i.p.ga i.inst).2.1,(i.p.ga i.inst).1,ao⟩,ao,ap⟩,ma ⟨rfl,⟨l3,Z9,l1,Z9,ta,by simp⟩,λ_ _=>⟨0,rfl,rfl,rfl,λj=>j<=(yS i 1).length,λj=>(yS i 1).length-j,oM,?_⟩⟩⟩⟩;intro j hj;have hj:j<=(yS i 1).length:=hj;have hL:(aa (bP i 1) (ab j (yS i 1))++ae j (yS i 1)).length=(yS i 1).length:=by simp;omega
   refine zH (λgr=> ?_) (λgr=> ?_)
   ·have gr:(j:Int)<((yS i 1).length:Int):=gr;refine⟨⟨oM,by rw[hL];omega⟩,by rw[hL];omega,j+1,by rw[ir (by omega)];rfl,kp,?_,?_⟩
    ·exact z3g (i:=i) (s:=1) oM
    ·exact kp
   ·have gr:¬(j:Int)<((yS i 1).length:Int):=gr;obtain rfl:j=(yS i 1).length:=by omega
    rw[og (km _),List.drop_length,oL];exact kp
  ·rw[c5]at l1;cases l1
 ·have c5:(i.p.ga i.inst).2.2=ap:=c5;rw[e0,ej (by rw[c5];simp)];rcases hl with⟨l1,_⟩|⟨_,l2⟩
  ·rw[c5]at l1;cases l1
  have m6:=(qR hc).m6;have e1:i.inst.toNat=k:=by omega
  rw[e1];refine⟨0,by rw[ir (by omega)];omega,kp,rfl,λj=>j<=i.p.dk.length-(k+1),λj=>i.p.dk.length-(k+1)-j,oM,?_⟩;intro j hj;have hj:j<=i.p.dk.length-(k+1):=hj;have hq:=Yl i 1 j;refine zH (λgr=> ?_) (λgr=> ?_)
  ·obtain⟨b1,b2⟩:=aO hc (a:=k) (b:=k+1+j) oM oM;have eb:((k+1+j:Nat):Int)=i.inst+1+j:=by omega
   rw[eb,<- hk]at b1 b2;refine⟨⟨i.p,i.inst,i.inst+1+j⟩,?_⟩
   (repeat'(first|exact rfl|exact trivial|assumption|apply ar|refineλ(_:Unit) (_:True)=>?_|refine am () ?_|omega|(dsimp only;omega)))
   refine⟨⟨⟨i.fa,jE i 1 j,(i.p.spread i.inst (i.inst+1+j)).1,i.inst+1+j,ap⟩,ap,ap⟩,nr ⟨rfl,kp,rfl,⟨b1,Z9,Z9,Z9,ta,Z9⟩,λ_ _=>⟨j+1,by rw[ir (by omega)];omega,kp,?_,?_⟩⟩⟩
   ·rw[jE,IL,yi];simp only[vx,KA,oL];rfl
   ·exact kp
  ·obtain rfl:j=i.p.dk.length-(k+1):=by omega
   refine⟨0,rfl,kp,by rw[wD];simp,λj=>j<=k,λj=>k-j,oM,?_⟩;intro j hj;have hj:j<=k:=hj;have qk:=eE i 1 j;refine zH (λxb=> ?_) (λxb=> ?_)
   ·obtain⟨b1,b2⟩:=aO hc (a:=j) (b:=k) oM oM;rw[<- hk]at b1 b2;refine⟨⟨i.p,j,i.inst⟩,?_⟩
    (repeat'(first|exact rfl|exact trivial|assumption|apply ar|refineλ(_:Unit) (_:True)=>?_|refine am () ?_|omega|(dsimp only;omega)))
    refine⟨1,rfl,oM,λ_ _=>⟨⟨⟨i.fa,jE i 1 (i.p.dk.length-(k+1))++wD i 1 j,(i.p.spread j i.inst).1,j,ao⟩,ao,ap⟩,nr ⟨rfl,kp,rfl,⟨b1,Z9,Z9,Z9,ta,by dsimp only;rw[im];omega⟩,λ_ _=>⟨j+1,by rw[ir (by omega)];omega,kp,?_,?_⟩⟩⟩⟩
    ·rw[wD,IL,yi];simp only[vx,KA,oL,jd];rfl
    ·exact kp
   ·obtain rfl:j=k:=by omega
    exact kp
def ySx:J2.ok Tryz.prog 122:=gw mixed (dw aH (dw Ms (dw zTe (dw zUg (dw zZv fg))))) 0 (λ_=>[]) (λi=>y5a i 1) [] Tryz.func122 y4y
def y4k (i:cJ) (h:J1.dp i):yUf i:=by
 unfold yUf zW pL Tc rE Ss SK rP vL jI qC Tl uZ fH fE dI;obtain⟨⟨h1,h2,h3⟩,ht,hr⟩:i.p.small/\vU i.fa:=h;have ta:vU i.fa:=⟨ht,hr⟩
 refine⟨i.p,?_⟩;simp only[ia,y4]
 (repeat'(first|exact rfl|exact trivial|assumption|apply ar|refineλ(_:Unit) (_:True)=>?_|refine am () ?_|omega|(dsimp only;omega)))
 have bad (hb:i.p.count=0\/(i.fa.length:Int)≠i.p.count\/i.inst<0\/(i.p.count:Int)<=i.inst):∃(o:Unit),aa zJ (kM i 2)=[]/\True:=⟨(),by rw[kM,fc hb];rfl,trivial⟩
 refine Cv.dp.mk (λc1=>bad (.inl (by have c1:(i.p.count:Int)=0:=(by simpa using c1);omega))) λc1=>Cv.dp.mk (λc2=>bad (.inr (.inl (by simpa using c2)))) λc2=>zH (λc3=>bad oM) λc3=>zH (λc4=>bad oM) λc4=>⟨⟨i.p,i.inst⟩,?_⟩
 have c1:i.p.count≠0:=by
  have c1:¬(i.p.count:Int)=0:=(by simpa using c1)
  omega
 have c2:(i.fa.length:Int)=i.p.count:=by simpa using c2
 have c4:i.inst<(i.p.count:Int):=by
  have c4:¬i.inst>=(i.p.count:Int):=c4;omega
 have hc:=lY c1;have hm:=Sv hc;have e0:kM i 2=if(i.p.ga i.inst).2.2 then(yS i 2).map (bP i 2)else jE i 2 (i.p.dk.length-(i.inst.toNat+1))++wD i 2 i.inst.toNat:=by
  rw[kM,ej (by omega)]
 obtain⟨k,hk⟩:∃k:Nat,i.inst=k:=⟨i.inst.toNat,oM⟩
 have hl:=fD hc (k:=k) oM;rw[<- hk]at hl
 (repeat'(first|exact rfl|exact trivial|assumption|apply ar|refineλ(_:Unit) (_:True)=>?_|refine am () ?_|omega|(dsimp only;omega)))
 refine Cv.dp.mk (λc5=> ?_) (λc5=> ?_)
 ·have c5:(i.p.ga i.inst).2.2=ao:=c5;rw[e0,fc c5];rcases hl with⟨_,l1,l2,l3,l4⟩|⟨l1,_⟩
  ·have yd:(yS i 2).length<=1:=NV _ _ _ _;refine⟨2,rfl,oM,λ_ _=>⟨⟨⟨i.fa,[],(i.p.ga i.inst).2.1,(i.p.ga i.inst).1,ao⟩,ap,ao⟩,ma ⟨rfl,⟨l3,Z9,l1,Z9,ta,by simp⟩,λ_ _=>⟨0,rfl,rfl,rfl,λj=>j<=(yS i 2).length,λj=>(yS i 2).length-j,oM,?_⟩⟩⟩⟩;intro j hj;have hj:j<=(yS i 2).length:=hj;have hL:(aa (bP i 2) (ab j (yS i 2))++ae j (yS i 2)).length=(yS i 2).length:=by simp;omega
   refine zH (λgr=> ?_) (λgr=> ?_)
   ·have gr:(j:Int)<((yS i 2).length:Int):=gr;refine⟨⟨oM,by rw[hL];omega⟩,by rw[hL];omega,j+1,by rw[ir (by omega)];rfl,kp,?_,?_⟩
    ·exact z3g (i:=i) (s:=2) oM
    ·exact kp
   ·have gr:¬(j:Int)<((yS i 2).length:Int):=gr;obtain rfl:j=(yS i 2).length:=by omega
    rw[og (km _),List.drop_length,oL];exact kp
  ·rw[c5]at l1;cases l1
 ·have c5:(i.p.ga i.inst).2.2=ap:=c5;rw[e0,ej (by rw[c5];simp)];rcases hl with⟨l1,_⟩|⟨_,l2⟩
  ·rw[c5]at l1;cases l1
  have m6:=(qR hc).m6;have e1:i.inst.toNat=k:=by omega
  rw[e1];refine⟨0,by rw[ir (by omega)];omega,kp,rfl,λj=>j<=i.p.dk.length-(k+1),λj=>i.p.dk.length-(k+1)-j,oM,?_⟩;intro j hj;have hj:j<=i.p.dk.length-(k+1):=hj;have hq:=Yl i 2 j;refine zH (λgr=> ?_) (λgr=> ?_)
  ·obtain⟨b1,b2⟩:=aO hc (a:=k) (b:=k+1+j) oM oM;have eb:((k+1+j:Nat):Int)=i.inst+1+j:=by omega
   rw[eb,<- hk]at b1 b2;refine⟨⟨i.p,i.inst,i.inst+1+j⟩,?_⟩
   (repeat'(first|exact rfl|exact trivial|assumption|apply ar|refineλ(_:Unit) (_:True)=>?_|refine am () ?_|omega|(dsimp only;omega)))
   refine⟨⟨⟨i.fa,jE i 2 j,(i.p.spread i.inst (i.inst+1+j)).1,i.inst+1+j,ap⟩,ao,ao⟩,nr ⟨rfl,kp,rfl,⟨b1,Z9,Z9,Z9,ta,Z9⟩,λ_ _=>⟨j+1,by rw[ir (by omega)];omega,kp,?_,?_⟩⟩⟩
   ·rw[jE,IL,yi];simp only[vx,KA,oL];rfl
   ·exact kp
  ·obtain rfl:j=i.p.dk.length-(k+1):=by omega
   refine⟨0,rfl,kp,by rw[wD];simp,λj=>j<=k,λj=>k-j,oM,?_⟩;intro j hj;have hj:j<=k:=hj;have qk:=eE i 2 j;refine zH (λxb=> ?_) (λxb=> ?_)
   ·obtain⟨b1,b2⟩:=aO hc (a:=j) (b:=k) oM oM;rw[<- hk]at b1 b2;refine⟨⟨i.p,j,i.inst⟩,?_⟩
    (repeat'(first|exact rfl|exact trivial|assumption|apply ar|refineλ(_:Unit) (_:True)=>?_|refine am () ?_|omega|(dsimp only;omega)))
    refine⟨2,rfl,oM,λ_ _=>⟨⟨⟨i.fa,jE i 2 (i.p.dk.length-(k+1))++wD i 2 j,(i.p.spread j i.inst).1,j,ao⟩,ap,ao⟩,nr ⟨rfl,kp,rfl,⟨b1,Z9,Z9,Z9,ta,by dsimp only;rw[im];omega⟩,λ_ _=>⟨j+1,by rw[ir (by omega)];omega,kp,?_,?_⟩⟩⟩⟩
    ·rw[wD,IL,yi];simp only[vx,KA,oL,jd];rfl
    ·exact kp
   ·obtain rfl:j=k:=by omega
    exact kp
def ySi:J1.ok Tryz.prog 122:=gw mixed (dw aH (dw Ms (dw zTe (dw zUg (dw zZv fg))))) 0 (λ_=>[]) (λi=>y5a i 2) [] Tryz.func122 y4k
def yJh:aa2.ok Tryz.prog 122:=λj=>match j with
 |⟨i,ap⟩=>ySx i
 |⟨i,ao⟩=>ySi i
def zTl:C4.ok Tryz.prog 62:=gw mixed (dw yJh (dw lL fg)) 0 (λ_=>[]) (λj=>ySf j) [] Tryz.func62 yOm
def zLa (i:cJ) (s:Int):(xY i s).length<=100:=xw (Hg _ _) (Sy i s)
structure ic where
 p:fb
 s:gl
 used:List Int
def zX (l:List Int):List (Value×List D):=l.map λx=>(.int .i64 x,[.v (.bool ao)])
def yW (m:ic):Nat->ff
 |0=> .cells [sV m.p.code,.own 3,zA m.p.tick,zA m.p.low,zA m.p.high,zA m.p.wide,zA m.p.dr,zA m.p.top,zA m.p.least,zA m.p.part,.own 4,.nm 1 0,.mp 2] 137
 |1=>zE m.s
 |2=> .map (zX m.used)
 |3=> .ja 1 (iE m.p.dk)
 |4=> .ja 1 (iE m.p.settle)
 |_=> .gone
def jR (m:ic):ff:= .qq ic 5 yW m
def JA:fy where
 ι:=fb
 pat:=λp=>[nu p]
 pre:=λ_=>[]
 dp:=λp=>p.small
 alts:=λp=>[{o:=Unit,res:=λ_=> .iW [.nm 0 0,zA 0],post:=λ_=>[jR ⟨p,bL p,[]⟩],rel:=λ_=>p.check=0},{o:=Unit,res:=λ_=> .iW [.d (.v (.pointer none)),zA p.check],post:=λ_=>[],rel:=λ_=>p.check≠0}]
def W8 (a:fb) (b:fb):Prop:=True/\(0+(iE a.settle).length)*(8:Nat)<=(140737488355328:Nat)/\((∃(c:Unit),di ((0:Int))/\di (sb a.code)/\di a.tick/\di a.low/\di a.high/\di a.wide/\di a.dr/\di a.top/\di a.least/\di a.part/\zE (bL a)=zE (bL b)/\zX []=[]/\iE a.dk=[]++iE a.dk/\iE a.settle=[]++iE a.settle/\a.check=0)\/(∃(c:Unit),False))
def Xm (a:fb) (b:fb):Prop:=True/\True/\(0+(iE a.dk).length)*(8:Nat)<=(140737488355328:Nat)/\W8 a b
def Tj (a:fb):Prop:=(0:Int)=(0:Int)/\di (sb a.code)/\di a.tick/\di a.low/\di a.high/\di a.wide/\di a.dr/\di a.top/\di a.least/\di a.part/\False
def WU (a:fb):Prop:=True/\(0+(iE a.settle).length)*(8:Nat)<=(140737488355328:Nat)/\((∃(b:Unit),Tj a)\/(∃(b:Unit),False))
def XQ (a:fb):Prop:=True/\True/\(0+(iE a.dk).length)*(8:Nat)<=(140737488355328:Nat)/\WU a
def yUi (p:fb):Prop:=
 ∃(a:fb),sb a.code=sb p.code/\iE a.dk=iE p.dk/\a.tick=p.tick/\a.low=p.low/\a.high=p.high/\a.wide=p.wide/\a.dr=p.dr/\a.top=p.top/\a.least=p.least/\a.part=p.part/\iE a.settle=iE p.settle/\(zW a)/\(∀(b:Unit),a.check=0->(True/\True/\((0+(iE p.dk).length)*(8:Nat)<=(140737488355328:Nat)/\True/\W8 p a)/\Xm p a)/\True/\True/\Xm p a)/\∀(b:Unit),a.check≠0->dp (a.check !=0) ((∃(c:Unit),False)\/(∃(c:Unit),True/\p.check=a.check/\(p.check=0->False))) ((True/\True/\((0+(iE p.dk).length)*(8:Nat)<=(140737488355328:Nat)/\True/\WU p)/\XQ p)/\True/\True/\XQ p)
def y5w (p:fb) (h:JA.dp p):yUi p:=by
 unfold yUi XQ WU Tj Xm W8 zW;obtain⟨h1,h2,h3⟩:p.small:=h;refine⟨p,?_⟩;simp only[y4]
 (repeat'(first|exact rfl|exact trivial|assumption|apply ar|refineλ(_:Unit) (_:True)=>?_|refine am () ?_|omega|(dsimp only;omega)))
 ·intro _ c
  (repeat'(first|exact rfl|exact trivial|assumption|apply ar|refineλ(_:Unit) (_:True)=>?_|refine am () ?_|omega|(dsimp only;omega)))
  all_goals(refine .inl ⟨(),?_⟩;(repeat'(first|exact rfl|exact trivial|assumption|apply ar|refineλ(_:Unit) (_:True)=>?_|refine am () ?_|omega|(dsimp only;omega))))
 ·intro _ c;refine Cv.dp.mk (λe=> .inr ⟨(),trivial,kp,c⟩) (λe=>absurd (by simpa using e) c)
def ySt:JA.ok Tryz.prog 127:=gw mixed (dw yOi fg) 0 (λ_=>[]) (λ_=>[]) [] Tryz.func127 y5w
def Df:fy:=fj (List Int) (λl=>[iV l]) (λ_=>[]) (λl=>l.length<=1000000) (λl=>iV l) (λ_=>[])
structure qn where
 n:Int
 lo:Int
 hi:Int
def zG (n lo hi:Int):Int:=lo+n % (hi-lo+1)
def CW:fy:=fj qn (λi=>[zA i.n,zA i.lo,zA i.hi]) (λ_=>[]) (λi=>gq i.n/\-1000000<=i.lo/\i.lo<=i.hi/\i.hi<=1000000) (λi=>zA (zG i.n i.lo i.hi)) (λ_=>[])
def dL (dr:Int):fb:=⟨[67,76],[320,321,323],5,0,1000,200,dr,4,2,40,[500,505,490]⟩
def Lq:fy:=fj Int (λn=>[zA n]) (λ_=>[]) (λ_=>True) (λn=>nu (dL n)) (λ_=>[])
def yRz (l:List Int):Prop:=
 ∀(b:Bool),(b=ao->iE l=[])->dp b (∃(o:Unit),iE l=[]/\True) ((0+(iE l).length)*(8:Nat)<=(140737488355328:Nat)/\∃(o:Unit),iE l=[]++iE l/\True)
def yDx (l:List Int):Prop:=
 ∀(b:Bool),(b=ao->iE l=[])->dp b (∃(o:Unit),iE l=[]/\True) ((0+(iE l).length)*(8:Nat)<=(140737488355328:Nat)/\∃(o:Unit),iE l=[]++iE l/\True)
def nO (a:qn):=(aq.wrap (aq.wrap (a.hi-a.lo)+1))
def z8q (i:qn):Prop:=
 aq=aq/\aq.wrap (aq.wrap (i.hi-i.lo)+1)≠0/\dp (decide (i.n.tmod (nO i)<0)) (∃(a:Unit),zG i.n i.lo i.hi=aq.wrap (i.lo+aq.wrap (aq.wrap (aq.wrap (i.n.tmod (nO i)+i.hi)-i.lo)+1))/\True) (∃(a:Unit),zG i.n i.lo i.hi=aq.wrap (i.lo+i.n.tmod (nO i))/\True)
def yHn (n:Int):Prop:=
 ∃(a:Unit),sb [(67:UInt8),(76:UInt8)]=ByteArray.mk #[(67:UInt8),(76:UInt8)]/\iE [(320:Int),(321:Int),(323:Int)]=[[dI 320],[dI 321],[dI 323]]/\di ((5:Int))/\di ((0:Int))/\di ((1000:Int))/\di ((200:Int))/\n=n/\di ((4:Int))/\di ((2:Int))/\di ((40:Int))/\iE [(500:Int),(505:Int),(490:Int)]=[[dI 500],[dI 505],[dI 490]]/\True
def zUr:Df.ok Tryz.prog 45:=gw (V:=yRz) mixed fg 0 (λ_=>[]) (λ_=>[]) [] Tryz.func45 λ(l:List Int) h=>by
 have h:l.length<=1000000:=h;exactλb hb=>Cv.dp.mk (λe=>⟨(),hb e,trivial⟩) (λ_=>⟨by rw[nw,y4];omega,(),rfl,trivial⟩)
def zLc:Df.ok Tryz.prog 46:=gw (V:=yDx) mixed fg 0 (λ_=>[]) (λ_=>[]) [] Tryz.func46 λ(l:List Int) h=>by
 have h:l.length<=1000000:=h;exactλb hb=>Cv.dp.mk (λe=>⟨(),hb e,trivial⟩) (λ_=>⟨by rw[nw,y4];omega,(),rfl,trivial⟩)
def yGg:Lq.ok Tryz.prog 67:=gw (V:=yHn) mixed fg 0 (λ_=>[]) (λ_=>[]) [] Tryz.func67 λ(n:Int) _=>by
 unfold yHn dI;exact kp
def yQn (i:qn) (h:CW.dp i):z8q i:=by
 obtain⟨⟨a1,a2⟩,a3,a4,a5⟩:gq i.n/\-1000000<=i.lo/\i.lo<=i.hi/\i.hi<=1000000:=h;unfold z8q nO;rw[ir (x:=i.hi-i.lo) (by omega),ir (x:=i.hi-i.lo+1) (by omega)];obtain⟨d,hd⟩:∃d:Int,i.hi-i.lo+1=d:=⟨_,rfl⟩
 rw[hd];have h1:i.n.tmod d=if 0<=i.n then i.n % d else-((-i.n) % d):=by
  split
  ·rename_i h;rw[au h]
  ·rename_i h;have:i.n= -(-i.n):=by omega
   conv=>lhs;rw[this]
   rw[Int.neg_tmod,au (by omega)]
 have pz:=MK i.n (show d≠0 by omega);have mr:=Ox i.n (show 0<d by omega);have CG:=MK (-i.n) (show d≠0 by omega);have UK:=Ox (-i.n) (show 0<d by omega);have key:i.n.tmod d<0->i.n % d=i.n.tmod d+d:=λLd=>by
  have:=aw (a:=i.n.tmod d+d) (b:=d) (by rw[h1]at Ld ⊢;split at Ld<;>split<;>omega) oM;rw[<- this,Int.add_emod_right];have e:=Int.tmod_add_mul_tdiv i.n d
  conv=>lhs;rw[<- e]
  rw[av]
 have aao:¬i.n.tmod d<0->i.n % d=i.n.tmod d:=λLd=>by
  have gr:i.n.tmod d<d:=by rw[h1];split<;>omega
  have:=aw (a:=i.n.tmod d) (b:=d) oM gr;rw[<- this];have e:=Int.tmod_add_mul_tdiv i.n d
  conv=>lhs;rw[<- e]
  rw[av]
 refine⟨rfl,oM,zH (λc=>⟨(),?_,trivial⟩) (λc=>⟨(),?_,trivial⟩)⟩
 ·have k:=key c;rw[zG,hd,k];rw[ir (x:=i.n.tmod d+i.hi) (by omega),ir (x:=i.n.tmod d+i.hi-i.lo) (by omega),ir (x:=i.n.tmod d+i.hi-i.lo+1) (by omega),ir (by omega)];omega
 ·have k:=aao c;rw[zG,hd,k,ir (by omega)]
def Xp:CW.ok Tryz.prog 33:=gw mixed fg 0 (λ_=>[]) (λ_=>[]) [] Tryz.func33 yQn
def BQ (l:List (Int×Int)) (k:Int):Option Int:=(l.find? λx=>decide (x.1=k)).map (·.2)
def yJc (l:List (Int×Int)) (k:Int):∀p∈yR l,lj (ay aq k) p.1=ao:=by
 intro p hp;obtain⟨x,_,rfl⟩:=pk.1 hp;rfl
def pA (k:Int):∀l:List (Int×Int),kO (ay aq k) (yR l)=(BQ l k).map λv=>[D.v (.int .i64 v)]
 |[]=>rfl
 |(a,v)::l=>by
  have ih:=pA k l;show(bif (vy .i64 .i64 && decide (k=a))then _ else kO _ (yR l))=_;by_cases h:k=a
  ·subst h;simp[BQ,vy]
  ·have h':¬a=k:=λe=>h e.symm
   rw[show(vy .i64 .i64 && decide (k=a))=ap by simp[h],cond_false,ih];simp[BQ,MJ,h']
structure fk where
 kind:Int
 id:Int
 inst:Int
 side:Int
 dj:Int
 dq:Int
 left:Int
 oS:Int
 deriving DecidableEq
@[reducible] def y6i (r:fk):V:= .agg [zA r.kind,zA r.id,zA r.inst,zA r.side,zA r.dj,zA r.dq,zA r.left,zA r.oS]
def xP (r:fk):List D:=[.v (.int .i64 r.kind),.v (.int .i64 r.id),.v (.int .i64 r.inst),.v (.int .i64 r.side),.v (.int .i64 r.dj),.v (.int .i64 r.dq),.v (.int .i64 r.left),.v (.int .i64 r.oS)]
def IB (k v:Int):List (Int×Int)->List (Int×Int)
 |[]=>[(k,v)]
 |(a,b)::l=>if k=a then(a,v)::l else(a,b)::IB k v l
def Kw (k:Int):List (Int×Int)->List (Int×Int)
 |[]=>[]
 |(a,b)::l=>if k=a then l else(a,b)::Kw k l
def bj (t:Nat):gj:={ι:=Bool,du:=λb=>[(t,yL b)],rows:=λ_=>[]}
def ij (t:Nat):gj:={ι:=Int,du:=λn=>[(t,zA n)],rows:=λ_=>[]}
end Sx
