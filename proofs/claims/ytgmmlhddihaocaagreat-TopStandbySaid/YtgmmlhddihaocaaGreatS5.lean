/- Texts of ours. No condition. -/
import Derived.Test.YtgmmlhddihaocaaGreatS4
set_option linter.all false
open List renaming map->aa,take->ab,filter->ac,drop->ae,range->af
open Sx.fi renaming jc->ag,cells->aj,own->ak
open Exists renaming intro->am
open Bool renaming true->ao,false->ap
open Go.IntKind renaming i64->aq
open And renaming intro->ar
open Int renaming tmod_eq_emod_of_nonneg->au,add_mul_emod_self_left->av,emod_eq_of_lt->aw
open Go.Value renaming string->ax,int->ay
open Option renaming some->az
namespace Sx
set_option maxRecDepth 100000
open Go Cv Go.Proofs
def ju {α:Type} {f:α->List D} {l:List α} {i g n:Nat} {x:α} {r:List D} (h:l[i]? =az x) (hn:g+n<=(f x).length) (hr:((f x).drop g).take n=r):zD (l.map f) i g n=az r:=by
 unfold zD;rw[vc,h];simp only[we,Nat.ble_eq_true_of_le hn,cond_true,hr]
def Sw {a:du} {n:Int} {q:bL} (h0:0<=n) (h:a.dz[n.toNat]? =az q):a.qc n=q:=by
 have:=(jv.1 h).1;rw[du.qc,fh ⟨h0,by omega⟩,nk,h];rfl
def SC {a:du} {n:Int} (h:¬(0<=n/\n<a.dz.length)):a.qc n=⟨0,0,0,0⟩:=by rw[du.qc,fb h]
def Yy:ID.ok Tryz.prog 203:=ib (V:=yBh) mixed fj 1 (λ_=>[]) (λ_=>[]) [0] Tryz.func203 λ(i:vy) _=>by
 unfold yBh fM Zn jR dI;simp only[im];refine zH (λc=>Cv.dq.mk (λd=> ?_) (λd=> ?_)) (λc=> ?_)
 ·have d:¬i.n<(i.a.dz.length:Int):=by simpa using d
  rw[SC (by omega)];exact kp
 ·have d:i.n<(i.a.dz.length:Int):=by simpa using d
  obtain⟨q,hq⟩:=z6 (l:=i.a.dz) (i:=i.n.toNat) oM;rw[Sw (by omega) hq];refine⟨⟨oM,oM⟩,q.total,ju hq (by simp[zP]) rfl,?_⟩;exact kp
 ·rw[SC (by omega)];exact kp
def rO:IE.ok Tryz.prog 204:=ib (V:=yAr) mixed fj 1 (λ_=>[]) (λ_=>[]) [0] Tryz.func204 λ(i:vy) _=>by
 unfold yAr fM l5 jR dI;simp only[im];refine zH (λc=>Cv.dq.mk (λd=> ?_) (λd=> ?_)) (λc=> ?_)
 ·have d:¬i.n<(i.a.dz.length:Int):=by simpa using d
  rw[SC (by omega)];exact kp
 ·have d:i.n<(i.a.dz.length:Int):=by simpa using d
  obtain⟨q,hq⟩:=z6 (l:=i.a.dz) (i:=i.n.toNat) oM;rw[Sw (by omega) hq];refine⟨⟨oM,oM⟩,q.count,ju hq (by simp[zP]) rfl,?_⟩;exact kp
 ·rw[SC (by omega)];exact kp
def IN:aa7.ok Tryz.prog 169:=ib (V:=y4u) mixed fj 0 (λ_=>[]) (λ_=>[]) [] Tryz.func169 λ(n:Int) _=>by
 unfold y4u;refine Cv.dq.mk (λc=>⟨(),?_,trivial⟩) (λc=>⟨(),?_,trivial⟩)
 all_goals simp at c
 ·simp[c]
 ·by_cases h:n=2<;>simp[c,h]
def yBt:Rl.ok Tryz.prog 170:=ib (V:=y2k) mixed (dx Yy (dx rO fj)) 0 (λ_=>[]) (λ_=>[]) [0] Tryz.func170 λ(i:P4) h=>by
 refine⟨⟨i.b.a,i.r.queue⟩,?_⟩;(repeat'(first|exact rfl|exact trivial|assumption|apply ar|refineλ(_:Unit) (_:True)=>?_|refine am () ?_|omega|(dsimp only;omega)));refine⟨⟨i.b.a,i.r.queue⟩,?_⟩;exact kp
def yNd:Ma.ok Tryz.prog 120:=ib (V:=y1z) mixed (dx IN (dx yBt fj)) 0 (λ_=>[]) (λ_=>[]) [0] Tryz.func120 λ(b:dp) h=>by
 have h:b.ou:=h;refine⟨1,rfl,trivial,λ_ _=>Cv.dq.mk (λc=>absurd c Z8) λ_=> ?_⟩;simp only[im];refine Cv.dq.mk (λc=> ?_) (λc=> ?_)
 ·have hl:b.fc=[]:=yh (by have:(b.fc.length:Int)=0:=(by simpa using c);omega);have e:b.iy b.fc=(⟨0,0,0⟩,ap):=by rw[hl];rfl
  rw[e];exact kp
 ·obtain⟨r,l,hl⟩:∃r l,b.fc=r::l:=by
   cases hb:b.fc with
   |nil=>rw[hb]at c;exact absurd c Z8
   |cons r l=>exact⟨r,l,rfl⟩
  have e:b.iy b.fc=(b.told r,ao):=by rw[hl];rfl
  rw[e];refine⟨⟨oM,by rw[hl,iJ];omega⟩,r.dk,r.queue,ju (x:=r) (by rw[hl];rfl) (by simp[zB]) rfl,⟨b,r⟩,?_⟩;exact kp
def yNf:L9.ok Tryz.prog 120:=ib (V:=yWn) mixed (dx IN (dx yBt fj)) 0 (λ_=>[]) (λ_=>[]) [0] Tryz.func120 λ(b:dp) h=>by
 have h:b.ou:=h;refine⟨2,rfl,trivial,λ_ _=>Cv.dq.mk (λc=>absurd c Z8) λ_=> ?_⟩;simp only[im];refine Cv.dq.mk (λc=> ?_) (λc=> ?_)
 ·have hl:b.dw=[]:=yh (by have:(b.dw.length:Int)=0:=(by simpa using c);omega);have e:b.iy b.dw=(⟨0,0,0⟩,ap):=by rw[hl];rfl
  rw[e];exact kp
 ·obtain⟨r,l,hl⟩:∃r l,b.dw=r::l:=by
   cases hb:b.dw with
   |nil=>rw[hb]at c;exact absurd c Z8
   |cons r l=>exact⟨r,l,rfl⟩
  have e:b.iy b.dw=(b.told r,ao):=by rw[hl];rfl
  rw[e];refine⟨⟨oM,by rw[hl,iJ];omega⟩,r.dk,r.queue,ju (x:=r) (by rw[hl];rfl) (by simp[zB]) rfl,⟨b,r⟩,?_⟩;exact kp
def SW:Sc.ok Tryz.prog 120:=λi=>match i with
 |⟨ap,b⟩=>yNd b
 |⟨ao,b⟩=>yNf b
def zOj {α:Type} (f:α->α) (x:α) (b:List α):∀a:List α,(a++x::b).modify a.length f=a++f x::b
 |[]=>rfl
 |y::a=>by
  show y::(a++x::b).modify a.length f=_;rw[zOj f x b a];rfl
def zUw {ez:List (List D)} {a b:List (List D)} {x y ds:List D} {j f:Nat} (h:ez=a++x::b) (hl:a.length=j) (hy:x.take f++(ds++x.drop (f+ds.length))=y):zV ez j f ds=a++y::b:=by
 rw[zV,h,<- hl,zOj,hy]
def kB {s:gq} {j:Nat} {x y:jy} {f:Nat} {ds:List D} (hj:j<s.ej.length) (hy:(z7 x).take f++(ds++(z7 x).drop (f+ds.length))=z7 y):
 zV (aa z7 (xZ s j x)) j f ds=aa z7 (xZ s j y):=by
 rw[zUw (a:=(s.fg.take j).map z7) (b:=(List.replicate (s.ej.length-j-1) kq).map z7) (by rw[xZ,jr,jx]) (by
  rw[im,om,gq.fg,im];omega) hy,xZ,jr,jx]
def zNy {s:gq} {j:Nat} {x:jy} (hj:j<s.ej.length):(xZ s j x).length=s.ej.length:=by
 rw[xZ,iv,iJ,om,gq.fg,im,GH];omega
def zMg {s:gq} {j:Nat} (hj:j<s.ej.length):xZ s j kq=qC s j:=by
 rw[xZ,qC];obtain⟨m,hm⟩:∃m,s.ej.length-j=m+1:=⟨s.ej.length-j-1,oM⟩
 rw[hm,KU];rfl
def zMa {s:gq} {j:Nat} {b:dp} (hb:s.ej[j]? =az b):xZ s j b.top=qC s (j+1):=by
 have hj:=(jv.1 hb).1;rw[xZ,qC,tb,show s.fg[j]? =az b.top by rw[gq.fg,vc,hb];rfl];simp only[Eb,jh,uc,xj];rw[show s.ej.length-j-1=s.ej.length-(j+1)by omega]
def dM {α:Type} {l:List α} {j:Nat} {x:α} (h:l[j]? =az x):l.set j x=l:=by
 obtain⟨hj,rfl⟩:=jv.1 h;exact List.set_getElem_self hj
def y5s (s:gq) (h:JC.dq s):yVc s:=by
 obtain⟨h1,h2⟩:s.ou:=h;unfold yVc WG Tt fG uT qV vM fV aO aI X8 TB TZ dV aP TY cP dX zY aU u0 dI;have p48:(2:Int) ^ (48:Nat)=281474976710656:=by decide
 refine⟨⟨oM,oM,oM,by rw[p48];omega⟩,0,rfl,?_,λj=>j<=s.ej.length,λj=>s.ej.length-j,oM,λj hj=>zH (λgv=> ?_) (λgv=> ?_)⟩
 ·rw[qC,jr,List.map_replicate];rfl
 ·have ov:j<s.ej.length:=by omega
  obtain⟨b,hb⟩:=z6 ov;have hc:=h2 b (lq hb);simp only[oF];have ha:∀x,(aa z7 (xZ s j x)).length=s.ej.length:=λx=>by rw[im,zNy ov]
  have w1:aq.wrap (0+1)=1:=by decide
  have w2:(0+1) % ((2:Int) ^ aq.bits).natAbs=1:=by decide
  refine⟨⟨oM,oM⟩,oM,(j,kq),by rw[zMg ov],λx=>x=(j,kq.Fc (b.iy b.fc)),⟨⟨Z8,Z8⟩,1,rfl,b,hb,⟨ap,b⟩,rfl,rfl,hc,λ_ _=>⟨b,rfl,kp,oM,?_⟩⟩,?_⟩
  ·refine Cv.dq.mk (λc=> ?_) (λc=> ?_)
   ·have c:(b.iy b.fc).2=ao:=c;have e1:=kB (s:=s) ov (x:=kq) (y:={kq with fv:=ao}) (f:=0+0+0*1) (ds:=[D.v (.bool ao)]) rfl;have e2:=kB (s:=s) ov (x:={kq with fv:=ao}) (y:={kq with fv:=ao,p1:=(b.iy b.fc).1.dk}) (f:=0+2+0*1) (ds:=[D.v (.int .i64 (b.iy b.fc).1.dk)]) rfl;have e3:=kB (s:=s) ov (x:={kq with fv:=ao,p1:=(b.iy b.fc).1.dk}) (y:={kq with fv:=ao,p1:=(b.iy b.fc).1.dk,q1:=(b.iy b.fc).1.dr}) (f:=0+4+0*1) (ds:=[D.v (.int .i64 (b.iy b.fc).1.dr)]) rfl;dsimp only;simp only[show b.side ap=b.fc from rfl,e1,e2,e3,ha]
    (repeat'(first|exact rfl|exact trivial|assumption|apply ar|refineλ(_:Unit) (_:True)=>?_|refine am () ?_|omega|(dsimp only;omega)))
    refine⟨(j,{kq with fv:=ao,p1:=(b.iy b.fc).1.dk,q1:=(b.iy b.fc).1.dr}),rfl,?_,?_⟩
    ·rw[jy.Fc,fh c]
    ·(repeat'(first|exact rfl|exact trivial|assumption|apply ar|refineλ(_:Unit) (_:True)=>?_|refine am () ?_|omega|(dsimp only;omega)))
     rw[dM hb]
   ·have c:(b.iy b.fc).2=ap:=c;refine⟨(j,kq),rfl,?_,?_⟩
    ·rw[jy.Fc,fb (by rw[c];simp)]
    ·(repeat'(first|exact rfl|exact trivial|assumption|apply ar|refineλ(_:Unit) (_:True)=>?_|refine am () ?_|omega|(dsimp only;omega)))
     rw[dM hb]
  ·rintro _ rfl;rw[w1];generalize hx:kq.Fc (b.iy b.fc)=x;have Pf:b.top=x.At (b.iy b.dw):=by rw[dp.top,hx]
   refine⟨(j,x),rfl,λy=>y=(j,b.top),⟨⟨Z8,Z8⟩,2,rfl,b,hb,⟨ao,b⟩,rfl,rfl,hc,λ_ _=>⟨b,rfl,kp,oM,?_⟩⟩,?_⟩
   ·refine Cv.dq.mk (λc=> ?_) (λc=> ?_)
    ·have c:(b.iy b.dw).2=ao:=c;have e1:=kB (s:=s) ov (x:=x) (y:={x with fw:=ao}) (f:=0+0+1*1) (ds:=[D.v (.bool ao)]) rfl;have e2:=kB (s:=s) ov (x:={x with fw:=ao}) (y:={x with fw:=ao,p2:=(b.iy b.dw).1.dk}) (f:=0+2+1*1) (ds:=[D.v (.int .i64 (b.iy b.dw).1.dk)]) rfl;have e3:=kB (s:=s) ov (x:={x with fw:=ao,p2:=(b.iy b.dw).1.dk}) (y:={x with fw:=ao,p2:=(b.iy b.dw).1.dk,q2:=(b.iy b.dw).1.dr}) (f:=0+4+1*1) (ds:=[D.v (.int .i64 (b.iy b.dw).1.dr)]) rfl;dsimp only;simp only[w2,show b.side ao=b.dw from rfl,e1,e2,e3,ha]
     (repeat'(first|exact rfl|exact trivial|assumption|apply ar|refineλ(_:Unit) (_:True)=>?_|refine am () ?_|omega|(dsimp only;omega)))
     refine⟨(j,{x with fw:=ao,p2:=(b.iy b.dw).1.dk,q2:=(b.iy b.dw).1.dr}),rfl,?_,?_⟩
     ·rw[Pf,jy.At,fh c]
     ·(repeat'(first|exact rfl|exact trivial|assumption|apply ar|refineλ(_:Unit) (_:True)=>?_|refine am () ?_|omega|(dsimp only;omega)))
      rw[dM hb]
    ·have c:(b.iy b.dw).2=ap:=c;refine⟨(j,x),rfl,?_,?_⟩
     ·rw[Pf,jy.At,fb (by rw[c];simp)]
     ·(repeat'(first|exact rfl|exact trivial|assumption|apply ar|refineλ(_:Unit) (_:True)=>?_|refine am () ?_|omega|(dsimp only;omega)))
      rw[dM hb]
   ·rintro _ rfl;refine⟨j+1,by rw[iA (by omega)];rfl,?_⟩;refine⟨by dsimp only;rw[zMa hb],?_⟩;exact kp
 ·have hj:j<=s.ej.length:=hj;obtain rfl:j=s.ej.length:=by omega
  have e:qC s s.ej.length=s.fg:=by
   rw[qC,I0,List.replicate_zero,oU,oh (by rw[gq.fg,im];omega)]
  rw[e];exact kp
def ySs:JC.ok Tryz.prog 59:=ib mixed (dx SW fj) 0 (λs=>yVd s) (λs=>yUo s) [0] Tryz.func59 y5s
def Wp:L5.ok Tryz.prog 65:=ib (V:=y0w) mixed (dx ySk (dx yIm fj)) 0 (λ_=>[]) (λs=>yXn s) [0] Tryz.func65 λ(s:gq) h=>by
 obtain⟨h1,h2⟩:s.small:=h;refine⟨yS s.wh,?_⟩;(repeat'(first|exact rfl|exact trivial|assumption|apply ar|refineλ(_:Unit) (_:True)=>?_|refine am () ?_|omega|(dsimp only;omega)));refine⟨0,?_⟩;(repeat'(first|exact rfl|exact trivial|assumption|apply ar|refineλ(_:Unit) (_:True)=>?_|refine am () ?_|omega|(dsimp only;omega)));refine⟨λj=>j<=s.ej.length,λj=>s.ej.length-j,oM,λj hj=>zH (λgv=> ?_) (λgv=> ?_)⟩
 ·obtain⟨b,hb⟩:=z6 (l:=s.ej) (i:=j) oM;have hs:=h2 b (lq hb);simp only[oF];refine⟨⟨oM,oM⟩,oM,b,hb,b,rfl,hs,λ_ _=>⟨b,rfl,kp,oM,trivial,trivial,s.ej.take j,rfl,?_,j+1,?_⟩⟩
  ·rw[om];omega
  ·rw[iA (by omega),tb,hb]
   (repeat'(first|exact rfl|exact trivial|assumption|apply ar|refineλ(_:Unit) (_:True)=>?_|refine am () ?_|omega|(dsimp only;omega)))
   rw[dM hb]
 ·have hj:j<=s.ej.length:=hj;obtain rfl:j=s.ej.length:=by omega
  rw[oh (lk _)];exact kp
structure Ch where
 inst:Int
 side:Int
 deriving DecidableEq
structure Quote where
 dk:Int
 dr:Int
 a:Ch
 b:Ch
 deriving DecidableEq
def zJ (q:Quote):List D:=[.v (.int .i64 q.dk),.v (.int .i64 q.dr),.v (.int .i64 q.a.inst),.v (.int .i64 q.a.side),.v (.int .i64 q.b.inst),.v (.int .i64 q.b.side)]
@[reducible] def Si (q:Quote):V:= .agg [zA q.dk,zA q.dr,zA q.a.inst,zA q.a.side,zA q.b.inst,zA q.b.side]
def y0s:Quote:=⟨0,0,⟨0,0⟩,⟨0,0⟩⟩
structure DM where
 side:Int
 x:Int
 y:Int
def ki (side x y:Int):Bool:=if side=1 then decide (y<x)else decide (x<y)
def Iv:gi:=fp Int (λn=>[zA n]) (λ_=>[]) (λn=>n=1\/n=2) (λn=>zA (3-n)) (λ_=>[])
def Gj:gi:=fp DM (λi=>[zA i.side,zA i.x,zA i.y]) (λ_=>[]) (λ_=>True) (λi=>yN (ki i.side i.x i.y)) (λ_=>[])
def jy.has (t:jy) (s:Int):Bool:=if s=1 then t.fv else t.fw
def jy.dk (t:jy) (s:Int):Int:=if s=1 then t.p1 else t.p2
def jy.dr (t:jy) (s:Int):Int:=if s=1 then t.q1 else t.q2
def yl (fg:List jy) (a b:Ch) (less:Bool):List Quote:=
 let x:=fg.getD a.inst.toNat kq
 let y:=fg.getD b.inst.toNat kq
 let r:=if less then gP (y.dk b.side) (x.dk a.side)else gO (x.dk a.side) (y.dk b.side)
 if x.has a.side && y.has b.side && r.2 then[⟨r.1,min (x.dr a.side) (y.dr b.side),a,b⟩]else[]
structure vu where
 fg:List jy
 out:List Quote
 a:Int
 b:Int
 less:Bool
@[reducible] def vV (l:List jy):Prop:=l.length<=1000000/\∀t∈l,gx t.p1/\gx t.p2
def AT (x:List jy×List Quote):Nat->fi
 |0=> .cells [.own 1,.own 2] 279
 |1=> .jc 6 (x.1.map z7)
 |2=> .own 128 6 (x.2.map zJ)
 |_=> .gone
@[reducible] def Vv (fg:List jy) (out:List Quote):List fi:=[AT (fg,out) 0,AT (fg,out) 1,AT (fg,out) 2]
@[reducible] def MkP (fg:List jy) (out:List Quote):List fi:=[.cells [.own 1,.own 3] 279,AT (fg,out) 1,.gone,AT (fg,out) 2]
def UX (sa sb:Int):gi:=fp vu (λi=>[.nm 0 0,.agg [zA i.a,zA sa],.agg [zA i.b,zA sb],yN i.less]) (λi=>Vv i.fg i.out)
 (λi=>0<=i.a/\i.a<i.fg.length/\0<=i.b/\i.b<i.fg.length/\vV i.fg/\i.out.length<=1000) (λ_=>bN) (λi=>MkP i.fg (i.out++yl i.fg ⟨i.a,sa⟩ ⟨i.b,sb⟩ i.less))
def Qn:gi:=UX 1 1
def Qm:gi:=UX 1 2
def Ql:gi:=UX 2 1
def Qk:gi:=UX 2 2
def yTf (n:Int):Prop:=
 ∃(o:Unit),3-n=aq.wrap (3-n)/\True
def yNb (i:DM):Prop:=
 dq (i.side==1) (∃(o:Unit),ki i.side i.x i.y=decide (i.x>i.y)/\True) (∃(o:Unit),ki i.side i.x i.y=decide (i.x<i.y)/\True)
def TP (a:vu):=(a.out++yl a.fg (Ch.mk a.a 1) (Ch.mk a.b 1) a.less)
def rG (a:vu):Prop:=∃(b:Unit),ag 6 (aa z7 a.fg)=AT (a.fg,a.out) 1/\aa zJ (TP a)=aa zJ a.out/\True
def jO (a:I2):Prop:=((-9223372036854775808)<=a.x/\a.x<=9223372036854775807)/\(-9223372036854775808)<=a.y/\a.y<=9223372036854775807
def qW (a:vu):=(↑(aa z7 a.fg).length:Int)
def qE (a:vu):Prop:=(0<=a.b/\a.b<(qW a))/\dj a.b.toNat
def jM (a:vu):Prop:=(0<=a.a/\a.a<(qW a))/\dj a.a.toNat
def jP (a:vu):=((aa zJ a.out).length+1)
def WI (a:vu) (b:Bool) (c:Bool) (d:Int) (e:Int) (f:Int) (g:Int):Prop:=True/\(qE a)/\a.b=a.b/\True/\True/\(jM a)/\a.a=a.a/\True/\True/\(qE a)/\a.b=a.b/\True/\True/\(jM a)/\a.a=a.a/\True/\True/\(qE a)/\a.b=a.b/\True/\dq (!b) (rG a) (dq (!c) (rG a) (∃(h:I2),h.x=d/\h.y=e/\(jO h)/\∀(j:Unit),True->dq a.less (∃(k:I2),k.x=e/\k.y=d/\(jO k)/\∀(l:Unit),True->dq (gP k.x k.y).snd (True/\(jP a)*(48:Nat)<=(140737488355328:Nat)/\∃(m:Unit),ag 6 (aa z7 a.fg)=AT (a.fg,a.out) 1/\aa zJ (TP a)=aa zJ a.out++[[dI ((gP k.x k.y).fst),dI (min f g),dI a.a,dI 1,dI a.b,dI 1]]/\True) (rG a)) (dq (gO h.x h.y).snd (True/\(jP a)*(48:Nat)<=(140737488355328:Nat)/\∃(k:Unit),ag 6 (aa z7 a.fg)=AT (a.fg,a.out) 1/\aa zJ (TP a)=aa zJ a.out++[[dI ((gO h.x h.y).fst),dI (min f g),dI a.a,dI 1,dI a.b,dI 1]]/\True) (rG a))))
def yVu (i:vu):Prop:=
 (0<=i.a/\i.a<(qW i))/\∃(a:Bool),∃(b:Bool),∃(c:Int),∃(d:Int),∃(e:Int),∃(f:Int),zD (aa z7 i.fg) i.a.toNat 0 6=az [D.v (.bool a),D.v (.bool b),dI c,dI d,dI e,dI f]/\(0<=i.b/\i.b<(qW i))/\∃(g:Bool),∃(h:Bool),∃(j:Int),∃(k:Int),∃(l:Int),∃(m:Int),zD (aa z7 i.fg) i.b.toNat 0 6=az [D.v (.bool g),D.v (.bool h),dI j,dI k,dI l,dI m]/\(WI i a g c j e l)/\WI i a g c j e l
def TL (a:vu):=(a.out++yl a.fg (Ch.mk a.a 1) (Ch.mk a.b 2) a.less)
def rL (a:vu):Prop:=∃(b:Unit),ag 6 (aa z7 a.fg)=AT (a.fg,a.out) 1/\aa zJ (TL a)=aa zJ a.out/\True
def Xo (a:vu) (b:Bool) (c:Bool) (d:Int) (e:Int) (f:Int) (g:Int):Prop:=True/\(qE a)/\a.b=a.b/\True/\True/\(jM a)/\a.a=a.a/\True/\True/\(qE a)/\a.b=a.b/\True/\True/\(jM a)/\a.a=a.a/\True/\True/\(qE a)/\a.b=a.b/\True/\dq (!b) (rL a) (dq (!c) (rL a) (∃(h:I2),h.x=d/\h.y=e/\(jO h)/\∀(j:Unit),True->dq a.less (∃(k:I2),k.x=e/\k.y=d/\(jO k)/\∀(l:Unit),True->dq (gP k.x k.y).snd (True/\(jP a)*(48:Nat)<=(140737488355328:Nat)/\∃(m:Unit),ag 6 (aa z7 a.fg)=AT (a.fg,a.out) 1/\aa zJ (TL a)=aa zJ a.out++[[dI ((gP k.x k.y).fst),dI (min f g),dI a.a,dI 1,dI a.b,dI 2]]/\True) (rL a)) (dq (gO h.x h.y).snd (True/\(jP a)*(48:Nat)<=(140737488355328:Nat)/\∃(k:Unit),ag 6 (aa z7 a.fg)=AT (a.fg,a.out) 1/\aa zJ (TL a)=aa zJ a.out++[[dI ((gO h.x h.y).fst),dI (min f g),dI a.a,dI 1,dI a.b,dI 2]]/\True) (rL a))))
def yUp (i:vu):Prop:=
 (0<=i.a/\i.a<(qW i))/\∃(a:Bool),∃(b:Bool),∃(c:Int),∃(d:Int),∃(e:Int),∃(f:Int),zD (aa z7 i.fg) i.a.toNat 0 6=az [D.v (.bool a),D.v (.bool b),dI c,dI d,dI e,dI f]/\(0<=i.b/\i.b<(qW i))/\∃(g:Bool),∃(h:Bool),∃(j:Int),∃(k:Int),∃(l:Int),∃(m:Int),zD (aa z7 i.fg) i.b.toNat 0 6=az [D.v (.bool g),D.v (.bool h),dI j,dI k,dI l,dI m]/\(Xo i a h c k e m)/\Xo i a h c k e m
def TA (a:vu):=(a.out++yl a.fg (Ch.mk a.a 2) (Ch.mk a.b 1) a.less)
def rW (a:vu):Prop:=∃(b:Unit),ag 6 (aa z7 a.fg)=AT (a.fg,a.out) 1/\aa zJ (TA a)=aa zJ a.out/\True
def Wu (a:vu) (b:Bool) (c:Bool) (d:Int) (e:Int) (f:Int) (g:Int):Prop:=True/\(qE a)/\a.b=a.b/\True/\True/\(jM a)/\a.a=a.a/\True/\True/\(qE a)/\a.b=a.b/\True/\True/\(jM a)/\a.a=a.a/\True/\True/\(qE a)/\a.b=a.b/\True/\dq (!b) (rW a) (dq (!c) (rW a) (∃(h:I2),h.x=d/\h.y=e/\(jO h)/\∀(j:Unit),True->dq a.less (∃(k:I2),k.x=e/\k.y=d/\(jO k)/\∀(l:Unit),True->dq (gP k.x k.y).snd (True/\(jP a)*(48:Nat)<=(140737488355328:Nat)/\∃(m:Unit),ag 6 (aa z7 a.fg)=AT (a.fg,a.out) 1/\aa zJ (TA a)=aa zJ a.out++[[dI ((gP k.x k.y).fst),dI (min f g),dI a.a,dI 2,dI a.b,dI 1]]/\True) (rW a)) (dq (gO h.x h.y).snd (True/\(jP a)*(48:Nat)<=(140737488355328:Nat)/\∃(k:Unit),ag 6 (aa z7 a.fg)=AT (a.fg,a.out) 1/\aa zJ (TA a)=aa zJ a.out++[[dI ((gO h.x h.y).fst),dI (min f g),dI a.a,dI 2,dI a.b,dI 1]]/\True) (rW a))))
def yTx (i:vu):Prop:=
 (0<=i.a/\i.a<(qW i))/\∃(a:Bool),∃(b:Bool),∃(c:Int),∃(d:Int),∃(e:Int),∃(f:Int),zD (aa z7 i.fg) i.a.toNat 0 6=az [D.v (.bool a),D.v (.bool b),dI c,dI d,dI e,dI f]/\(0<=i.b/\i.b<(qW i))/\∃(g:Bool),∃(h:Bool),∃(j:Int),∃(k:Int),∃(l:Int),∃(m:Int),zD (aa z7 i.fg) i.b.toNat 0 6=az [D.v (.bool g),D.v (.bool h),dI j,dI k,dI l,dI m]/\(Wu i b g d j f l)/\Wu i b g d j f l
def Ty (a:vu):=(a.out++yl a.fg (Ch.mk a.a 2) (Ch.mk a.b 2) a.less)
def rT (a:vu):Prop:=∃(b:Unit),ag 6 (aa z7 a.fg)=AT (a.fg,a.out) 1/\aa zJ (Ty a)=aa zJ a.out/\True
def WY (a:vu) (b:Bool) (c:Bool) (d:Int) (e:Int) (f:Int) (g:Int):Prop:=True/\(qE a)/\a.b=a.b/\True/\True/\(jM a)/\a.a=a.a/\True/\True/\(qE a)/\a.b=a.b/\True/\True/\(jM a)/\a.a=a.a/\True/\True/\(qE a)/\a.b=a.b/\True/\dq (!b) (rT a) (dq (!c) (rT a) (∃(h:I2),h.x=d/\h.y=e/\(jO h)/\∀(j:Unit),True->dq a.less (∃(k:I2),k.x=e/\k.y=d/\(jO k)/\∀(l:Unit),True->dq (gP k.x k.y).snd (True/\(jP a)*(48:Nat)<=(140737488355328:Nat)/\∃(m:Unit),ag 6 (aa z7 a.fg)=AT (a.fg,a.out) 1/\aa zJ (Ty a)=aa zJ a.out++[[dI ((gP k.x k.y).fst),dI (min f g),dI a.a,dI 2,dI a.b,dI 2]]/\True) (rT a)) (dq (gO h.x h.y).snd (True/\(jP a)*(48:Nat)<=(140737488355328:Nat)/\∃(k:Unit),ag 6 (aa z7 a.fg)=AT (a.fg,a.out) 1/\aa zJ (Ty a)=aa zJ a.out++[[dI ((gO h.x h.y).fst),dI (min f g),dI a.a,dI 2,dI a.b,dI 2]]/\True) (rT a))))
def yUg (i:vu):Prop:=
 (0<=i.a/\i.a<(qW i))/\∃(a:Bool),∃(b:Bool),∃(c:Int),∃(d:Int),∃(e:Int),∃(f:Int),zD (aa z7 i.fg) i.a.toNat 0 6=az [D.v (.bool a),D.v (.bool b),dI c,dI d,dI e,dI f]/\(0<=i.b/\i.b<(qW i))/\∃(g:Bool),∃(h:Bool),∃(j:Int),∃(k:Int),∃(l:Int),∃(m:Int),zD (aa z7 i.fg) i.b.toNat 0 6=az [D.v (.bool g),D.v (.bool h),dI j,dI k,dI l,dI m]/\(WY i b h d k f m)/\WY i b h d k f m
def zUh:Iv.ok Tryz.prog 171:=ib (V:=yTf) mixed fj 0 (λ_=>[]) (λ_=>[]) [] Tryz.func171 λ(n:Int) h=>by
 have h:n=1\/n=2:=h;refine⟨(),?_,trivial⟩;rw[iA (by omega)]
def z7n:Gj.ok Tryz.prog 121:=ib (V:=yNb) mixed fj 0 (λ_=>[]) (λ_=>[]) [] Tryz.func121 λ(i:DM) _=>by
 refine Cv.dq.mk (λe=>⟨(),?_,trivial⟩) (λe=>⟨(),?_,trivial⟩)
 ·have e:i.side=1:=by simpa using e
  simp[ki,e]
 ·have e:i.side≠1:=by simpa using e
  simp[ki,e]
def Uj (a b:Int):(if b<a then b else a)=min a b:=by split<;>omega
def y3m (i:vu) (h:Qn.dq i):yVu i:=by
 obtain⟨a0,a1,b0,b1,⟨ht,hp⟩,ho⟩:0<=i.a/\i.a<i.fg.length/\0<=i.b/\i.b<i.fg.length/\vV i.fg/\i.out.length<=1000:=h;obtain⟨x,hx⟩:=z6 (l:=i.fg) (i:=i.a.toNat) oM;obtain⟨y,hy⟩:=z6 (l:=i.fg) (i:=i.b.toNat) oM;obtain⟨⟨px1,px2⟩,px3,px4⟩:=hp x (lq hx);obtain⟨⟨py1,py2⟩,py3,py4⟩:=hp y (lq hy);have e0:yl i.fg ⟨i.a,1⟩ ⟨i.b,1⟩ i.less=if x.fv && y.fv && (if i.less then gP y.p1 x.p1 else gO x.p1 y.p1).2 then[⟨(if i.less then gP y.p1 x.p1 else gO x.p1 y.p1).1,min x.q1 y.q1,⟨i.a,1⟩,⟨i.b,1⟩⟩]else[]:=by
  simp only[yl,nk,hx,hy,zm];rfl
 unfold yVu WI jP jM qE qW jO rG TP dI;simp only[im];refine⟨⟨oM,oM⟩,x.fv,x.fw,x.p1,x.p2,x.q1,x.q2,ju hx (by simp[z7]) rfl,⟨oM,oM⟩,y.fv,y.fw,y.p1,y.p2,y.q1,y.q2,ju hy (by simp[z7]) rfl,?_⟩;rw[e0]
 (repeat'(first|exact rfl|exact trivial|assumption|apply ar|refineλ(_:Unit) (_:True)=>?_|refine am () ?_|omega|(dsimp only;omega)))
 all_goals
  refine Cv.dq.mk (λc1=> ?_) (λc1=>Cv.dq.mk (λc2=> ?_) (λc2=> ?_))
  ·have c1:x.fv=ap:=by simpa using c1
   simp only[c1,CI,oK,if_false,oU];exact kp
  ·have c2:y.fv=ap:=by simpa using c2
   simp only[c2,I1,CI,oK,if_false,oU];exact kp
  ·have c1:x.fv=ao:=by simpa using c1
   have c2:y.fv=ao:=by simpa using c2
   simp only[c1,c2,Ae,Uj];refine⟨⟨x.p1,y.p1⟩,?_⟩
   (repeat'(first|exact rfl|exact trivial|assumption|apply ar|refineλ(_:Unit) (_:True)=>?_|refine am () ?_|omega|(dsimp only;omega)))
   refine Cv.dq.mk (λc3=> ?_) (λc3=> ?_)
   ·have c3:i.less=ao:=c3;simp only[c3,if_true];refine⟨⟨y.p1,x.p1⟩,?_⟩
    (repeat'(first|exact rfl|exact trivial|assumption|apply ar|refineλ(_:Unit) (_:True)=>?_|refine am () ?_|omega|(dsimp only;omega)))
    refine Cv.dq.mk (λc4=> ?_) (λc4=> ?_)
    ·have c4:(gP y.p1 x.p1).2=ao:=c4;simp only[c4,if_true,jr];exact kp
    ·have c4:(gP y.p1 x.p1).2=ap:=c4;simp only[c4,oK,if_false,oU];exact kp
   ·have c3:i.less=ap:=c3;simp only[c3,oK,if_false];refine Cv.dq.mk (λc4=> ?_) (λc4=> ?_)
    ·have c4:(gO x.p1 y.p1).2=ao:=c4;simp only[c4,if_true,jr];exact kp
    ·have c4:(gO x.p1 y.p1).2=ap:=c4;simp only[c4,oK,if_false,oU];exact kp
def yRi:Qn.ok Tryz.prog 172:=ib mixed (dx Ss (dx Sp fj)) 0 (λ_=>[]) (λ_=>[]) [] Tryz.func172 y3m
def y4z (i:vu) (h:Qm.dq i):yUp i:=by
 obtain⟨a0,a1,b0,b1,⟨ht,hp⟩,ho⟩:0<=i.a/\i.a<i.fg.length/\0<=i.b/\i.b<i.fg.length/\vV i.fg/\i.out.length<=1000:=h;obtain⟨x,hx⟩:=z6 (l:=i.fg) (i:=i.a.toNat) oM;obtain⟨y,hy⟩:=z6 (l:=i.fg) (i:=i.b.toNat) oM;obtain⟨⟨px1,px2⟩,px3,px4⟩:=hp x (lq hx);obtain⟨⟨py1,py2⟩,py3,py4⟩:=hp y (lq hy);have e0:yl i.fg ⟨i.a,1⟩ ⟨i.b,2⟩ i.less=if x.fv && y.fw && (if i.less then gP y.p2 x.p1 else gO x.p1 y.p2).2 then[⟨(if i.less then gP y.p2 x.p1 else gO x.p1 y.p2).1,min x.q1 y.q2,⟨i.a,1⟩,⟨i.b,2⟩⟩]else[]:=by
  simp only[yl,nk,hx,hy,zm];rfl
 unfold yUp Xo rL TL jP jM qE jO qW dI;simp only[im];refine⟨⟨oM,oM⟩,x.fv,x.fw,x.p1,x.p2,x.q1,x.q2,ju hx (by simp[z7]) rfl,⟨oM,oM⟩,y.fv,y.fw,y.p1,y.p2,y.q1,y.q2,ju hy (by simp[z7]) rfl,?_⟩;rw[e0]
 (repeat'(first|exact rfl|exact trivial|assumption|apply ar|refineλ(_:Unit) (_:True)=>?_|refine am () ?_|omega|(dsimp only;omega)))
 all_goals
  refine Cv.dq.mk (λc1=> ?_) (λc1=>Cv.dq.mk (λc2=> ?_) (λc2=> ?_))
  ·have c1:x.fv=ap:=by simpa using c1
   simp only[c1,CI,oK,if_false,oU];exact kp
  ·have c2:y.fw=ap:=by simpa using c2
   simp only[c2,I1,CI,oK,if_false,oU];exact kp
  ·have c1:x.fv=ao:=by simpa using c1
   have c2:y.fw=ao:=by simpa using c2
   simp only[c1,c2,Ae,Uj];refine⟨⟨x.p1,y.p2⟩,?_⟩
   (repeat'(first|exact rfl|exact trivial|assumption|apply ar|refineλ(_:Unit) (_:True)=>?_|refine am () ?_|omega|(dsimp only;omega)))
   refine Cv.dq.mk (λc3=> ?_) (λc3=> ?_)
   ·have c3:i.less=ao:=c3;simp only[c3,if_true];refine⟨⟨y.p2,x.p1⟩,?_⟩
    (repeat'(first|exact rfl|exact trivial|assumption|apply ar|refineλ(_:Unit) (_:True)=>?_|refine am () ?_|omega|(dsimp only;omega)))
    refine Cv.dq.mk (λc4=> ?_) (λc4=> ?_)
    ·have c4:(gP y.p2 x.p1).2=ao:=c4;simp only[c4,if_true,jr];exact kp
    ·have c4:(gP y.p2 x.p1).2=ap:=c4;simp only[c4,oK,if_false,oU];exact kp
   ·have c3:i.less=ap:=c3;simp only[c3,oK,if_false];refine Cv.dq.mk (λc4=> ?_) (λc4=> ?_)
    ·have c4:(gO x.p1 y.p2).2=ao:=c4;simp only[c4,if_true,jr];exact kp
    ·have c4:(gO x.p1 y.p2).2=ap:=c4;simp only[c4,oK,if_false,oU];exact kp
def yTj:Qm.ok Tryz.prog 172:=ib mixed (dx Ss (dx Sp fj)) 0 (λ_=>[]) (λ_=>[]) [] Tryz.func172 y4z
def y2l (i:vu) (h:Ql.dq i):yTx i:=by
 obtain⟨a0,a1,b0,b1,⟨ht,hp⟩,ho⟩:0<=i.a/\i.a<i.fg.length/\0<=i.b/\i.b<i.fg.length/\vV i.fg/\i.out.length<=1000:=h;obtain⟨x,hx⟩:=z6 (l:=i.fg) (i:=i.a.toNat) oM;obtain⟨y,hy⟩:=z6 (l:=i.fg) (i:=i.b.toNat) oM;obtain⟨⟨px1,px2⟩,px3,px4⟩:=hp x (lq hx);obtain⟨⟨py1,py2⟩,py3,py4⟩:=hp y (lq hy);have e0:yl i.fg ⟨i.a,2⟩ ⟨i.b,1⟩ i.less=if x.fw && y.fv && (if i.less then gP y.p1 x.p2 else gO x.p2 y.p1).2 then[⟨(if i.less then gP y.p1 x.p2 else gO x.p2 y.p1).1,min x.q2 y.q1,⟨i.a,2⟩,⟨i.b,1⟩⟩]else[]:=by
  simp only[yl,nk,hx,hy,zm];rfl
 unfold yTx Wu rW TA jP jM qE jO qW dI;simp only[im];refine⟨⟨oM,oM⟩,x.fv,x.fw,x.p1,x.p2,x.q1,x.q2,ju hx (by simp[z7]) rfl,⟨oM,oM⟩,y.fv,y.fw,y.p1,y.p2,y.q1,y.q2,ju hy (by simp[z7]) rfl,?_⟩;rw[e0]
 (repeat'(first|exact rfl|exact trivial|assumption|apply ar|refineλ(_:Unit) (_:True)=>?_|refine am () ?_|omega|(dsimp only;omega)))
 all_goals
  refine Cv.dq.mk (λc1=> ?_) (λc1=>Cv.dq.mk (λc2=> ?_) (λc2=> ?_))
  ·have c1:x.fw=ap:=by simpa using c1
   simp only[c1,CI,oK,if_false,oU];exact kp
  ·have c2:y.fv=ap:=by simpa using c2
   simp only[c2,I1,CI,oK,if_false,oU];exact kp
  ·have c1:x.fw=ao:=by simpa using c1
   have c2:y.fv=ao:=by simpa using c2
   simp only[c1,c2,Ae,Uj];refine⟨⟨x.p2,y.p1⟩,?_⟩
   (repeat'(first|exact rfl|exact trivial|assumption|apply ar|refineλ(_:Unit) (_:True)=>?_|refine am () ?_|omega|(dsimp only;omega)))
   refine Cv.dq.mk (λc3=> ?_) (λc3=> ?_)
   ·have c3:i.less=ao:=c3;simp only[c3,if_true];refine⟨⟨y.p1,x.p2⟩,?_⟩
    (repeat'(first|exact rfl|exact trivial|assumption|apply ar|refineλ(_:Unit) (_:True)=>?_|refine am () ?_|omega|(dsimp only;omega)))
    refine Cv.dq.mk (λc4=> ?_) (λc4=> ?_)
    ·have c4:(gP y.p1 x.p2).2=ao:=c4;simp only[c4,if_true,jr];exact kp
    ·have c4:(gP y.p1 x.p2).2=ap:=c4;simp only[c4,oK,if_false,oU];exact kp
   ·have c3:i.less=ap:=c3;simp only[c3,oK,if_false];refine Cv.dq.mk (λc4=> ?_) (λc4=> ?_)
    ·have c4:(gO x.p2 y.p1).2=ao:=c4;simp only[c4,if_true,jr];exact kp
    ·have c4:(gO x.p2 y.p1).2=ap:=c4;simp only[c4,oK,if_false,oU];exact kp
def yPx:Ql.ok Tryz.prog 172:=ib mixed (dx Ss (dx Sp fj)) 0 (λ_=>[]) (λ_=>[]) [] Tryz.func172 y2l
def y3o (i:vu) (h:Qk.dq i):yUg i:=by
 obtain⟨a0,a1,b0,b1,⟨ht,hp⟩,ho⟩:0<=i.a/\i.a<i.fg.length/\0<=i.b/\i.b<i.fg.length/\vV i.fg/\i.out.length<=1000:=h;obtain⟨x,hx⟩:=z6 (l:=i.fg) (i:=i.a.toNat) oM;obtain⟨y,hy⟩:=z6 (l:=i.fg) (i:=i.b.toNat) oM;obtain⟨⟨px1,px2⟩,px3,px4⟩:=hp x (lq hx);obtain⟨⟨py1,py2⟩,py3,py4⟩:=hp y (lq hy);have e0:yl i.fg ⟨i.a,2⟩ ⟨i.b,2⟩ i.less=if x.fw && y.fw && (if i.less then gP y.p2 x.p2 else gO x.p2 y.p2).2 then[⟨(if i.less then gP y.p2 x.p2 else gO x.p2 y.p2).1,min x.q2 y.q2,⟨i.a,2⟩,⟨i.b,2⟩⟩]else[]:=by
  simp only[yl,nk,hx,hy,zm];rfl
 unfold yUg WY rT Ty jP jM qE jO qW dI;simp only[im];refine⟨⟨oM,oM⟩,x.fv,x.fw,x.p1,x.p2,x.q1,x.q2,ju hx (by simp[z7]) rfl,⟨oM,oM⟩,y.fv,y.fw,y.p1,y.p2,y.q1,y.q2,ju hy (by simp[z7]) rfl,?_⟩;rw[e0]
 (repeat'(first|exact rfl|exact trivial|assumption|apply ar|refineλ(_:Unit) (_:True)=>?_|refine am () ?_|omega|(dsimp only;omega)))
 all_goals
  refine Cv.dq.mk (λc1=> ?_) (λc1=>Cv.dq.mk (λc2=> ?_) (λc2=> ?_))
  ·have c1:x.fw=ap:=by simpa using c1
   simp only[c1,CI,oK,if_false,oU];exact kp
  ·have c2:y.fw=ap:=by simpa using c2
   simp only[c2,I1,CI,oK,if_false,oU];exact kp
  ·have c1:x.fw=ao:=by simpa using c1
   have c2:y.fw=ao:=by simpa using c2
   simp only[c1,c2,Ae,Uj];refine⟨⟨x.p2,y.p2⟩,?_⟩
   (repeat'(first|exact rfl|exact trivial|assumption|apply ar|refineλ(_:Unit) (_:True)=>?_|refine am () ?_|omega|(dsimp only;omega)))
   refine Cv.dq.mk (λc3=> ?_) (λc3=> ?_)
   ·have c3:i.less=ao:=c3;simp only[c3,if_true];refine⟨⟨y.p2,x.p2⟩,?_⟩
    (repeat'(first|exact rfl|exact trivial|assumption|apply ar|refineλ(_:Unit) (_:True)=>?_|refine am () ?_|omega|(dsimp only;omega)))
    refine Cv.dq.mk (λc4=> ?_) (λc4=> ?_)
    ·have c4:(gP y.p2 x.p2).2=ao:=c4;simp only[c4,if_true,jr];exact kp
    ·have c4:(gP y.p2 x.p2).2=ap:=c4;simp only[c4,oK,if_false,oU];exact kp
   ·have c3:i.less=ap:=c3;simp only[c3,oK,if_false];refine Cv.dq.mk (λc4=> ?_) (λc4=> ?_)
    ·have c4:(gO x.p2 y.p2).2=ao:=c4;simp only[c4,if_true,jr];exact kp
    ·have c4:(gO x.p2 y.p2).2=ap:=c4;simp only[c4,oK,if_false,oU];exact kp
def yQg:Qk.ok Tryz.prog 172:=ib mixed (dx Ss (dx Sp fj)) 0 (λ_=>[]) (λ_=>[]) [] Tryz.func172 y3o
structure G7 where
 i:vu
 sa:Bool
 sb:Bool
def LU:gi:=fp G7 (λj=>[.nm 0 0,.agg [zA j.i.a,zA (zC j.sa)],.agg [zA j.i.b,zA (zC j.sb)],yN j.i.less]) (λj=>Vv j.i.fg j.i.out)
 (λj=>0<=j.i.a/\j.i.a<j.i.fg.length/\0<=j.i.b/\j.i.b<j.i.fg.length/\vV j.i.fg/\j.i.out.length<=1000) (λ_=>bN) (λj=>MkP j.i.fg (j.i.out++yl j.i.fg ⟨j.i.a,zC j.sa⟩ ⟨j.i.b,zC j.sb⟩ j.i.less))
def z0v:LU.ok Tryz.prog 172:=λj=>match j with
 |⟨i,ap,ap⟩=>yRi i
 |⟨i,ap,ao⟩=>yTj i
 |⟨i,ao,ap⟩=>yPx i
 |⟨i,ao,ao⟩=>yQg i
structure dY where
 p:ff
 fg:List jy
 inst:Int
def jK (i:dY) (s:Int) (k:Nat):List Quote:=(af k).flatMap λ(k:Nat)=>yl i.fg ⟨(i.p.spread i.inst (i.inst+1+k)).1,s⟩ ⟨i.inst+1+k,s⟩ ap
def wO (i:dY) (s:Int) (k:Nat):List Quote:=(af k).flatMap λ(k:Nat)=>yl i.fg ⟨(i.p.spread k i.inst).1,3-s⟩ ⟨k,s⟩ ao
def yT (i:dY) (s:Int):List Quote:=yl i.fg ⟨(i.p.gj i.inst).2.1,3-s⟩ ⟨(i.p.gj i.inst).1,s⟩ ao
def bX (i:dY) (s:Int) (q:Quote):Quote:={q with a:=⟨(i.p.gj i.inst).1,s⟩,b:=⟨(i.p.gj i.inst).2.1,3-s⟩}
def kQ (i:dY) (s:Int):List Quote:=
 if i.p.count=0\/(i.fg.length:Int)≠i.p.count\/i.inst<0\/(i.p.count:Int)<=i.inst then[]
 else if(i.p.gj i.inst).2.2 then(yT i s).map (bX i s)
 else jK i s (i.p.dm.length-(i.inst.toNat+1))++wO i s i.inst.toNat
def yUh (s:Int):gi:=fp dY (λi=>[oe i.p,oD 6 (i.fg.map z7),zA i.inst,zA s]) (λ_=>[]) (λi=>i.p.small/\vV i.fg) (λ_=> .own 0) (λi=>[.own 128 6 ((kQ i s).map zJ)])
def Kf:gi:=yUh 1
def Ke:gi:=yUh 2
def y6d (i:dY) (s:Int):List gp:=[
 {ι:=Nat,dv:=λk=>[(10,.nm 0 0),(77,zA k)],rows:=λk=>(af 3).map (AT (i.fg,((yT i s).take k).map (bX i s)++(yT i s).drop k))},
 {ι:=Nat,dv:=λk=>[(10,.nm 0 0),(17,zA (i.inst+1+k))],rows:=λk=>Vv i.fg (jK i s k)},
 {ι:=Nat,dv:=λk=>[(10,.nm 0 0),(120,zA k)],rows:=λk=>Vv i.fg (jK i s (i.p.dm.length-(i.inst.toNat+1))++wO i s k)}]
structure AY where
 i:dY
 s:Bool
def aa8:gi:=fp AY (λj=>[oe j.i.p,oD 6 (j.i.fg.map z7),zA j.i.inst,zA (zC j.s)]) (λ_=>[]) (λj=>j.i.p.small/\vV j.i.fg) (λ_=> .own 0) (λj=>[.own 128 6 ((kQ j.i (zC j.s)).map zJ)])
def x5 (i:dY) (s:Int):List Quote:=(kQ i s).filter λq=>decide (i.p.dk i.inst q.dk=0)
def Dg:gi:=fp AY (λj=>[oe j.i.p,oD 6 (j.i.fg.map z7),zA j.i.inst,zA (zC j.s)]) (λ_=>[]) (λj=>j.i.p.small/\vV j.i.fg) (λ_=> .own 0) (λj=>[.own 128 6 ((x5 j.i (zC j.s)).map zJ)])
def yOu (j:AY):List gp:=[{ι:=Nat,dv:=λk=>[(9,.own 0),(18,zA k)],rows:=λk=>[.own 128 6 ((((kQ j.i (zC j.s)).take k).filter λq=>decide (j.i.p.dk j.i.inst q.dk=0)).map zJ)]}]
structure zw where
 l:List Quote
 s:Int
def zU (l:List Quote) (s:Int):Quote×Bool:=match l with
 |[]=>(y0s,ap)
 |q::r=>(r.foldl (λb q=>if ki s q.dk b.dk then q else b) q,ao)
def F6:gi:=fp zw (λi=>[oD 6 (i.l.map zJ),zA i.s]) (λ_=>[]) (λi=>(i.s=1\/i.s=2)/\i.l.length<=1000000) (λi=> .ja [Si (zU i.l i.s).1,yN (zU i.l i.s).2]) (λ_=>[])
def yXv (i:zw):List gp:=[{ι:=Nat,dv:=λk=>[(6,.nm 0 0),(26,zA k)],rows:=λk=>[.cells (Si (zU (i.l.take (max k 1)) i.s).1).cl 128]}]
def pX (a:dY):Prop:=ag 6 (aa z7 a.fg)=ag 6 (aa z7 a.fg)/\dj (aj [V.d (D.v (ax (sb a.p.code))),V.own 0,V.d (dI a.p.tick),V.d (dI a.p.low),V.d (dI a.p.high),V.d (dI a.p.wide),V.d (dI a.p.dt),V.d (dI a.p.top),V.d (dI a.p.least),V.d (dI a.p.part),V.own 1] 25)/\dj (ag 1 (iE a.p.settle))/\dj (ag 1 (iE a.p.dm))
def Tl (a:Nat->Prop) (b:Nat) (c:Nat->Nat) (d:Nat) (e:dY):Prop:=a b/\c b<c d/\dj (ag 6 (aa z7 e.fg))/\pX e
def S5 (a:Nat->Prop) (b:Nat) (c:Nat->Nat) (d:Nat) (e:dY):Prop:=a b/\c b<c d/\pX e
def fE (a:jy):Prop:=((-9223372036854775808)<=a.p1/\a.p1<=9223372036854775807)/\(-9223372036854775808)<=a.p2/\a.p2<=9223372036854775807
def fB (a:G7):Prop:=0<=a.i.a/\a.i.a<(↑a.i.fg.length:Int)/\0<=a.i.b/\a.i.b<(↑a.i.fg.length:Int)/\(a.i.fg.length<=1000000/\∀(b:jy),b∈a.i.fg->fE b)/\a.i.out.length<=1000
def u6 (a:G7):=(a.i.out++yl a.i.fg (Ch.mk a.i.a (zC a.sa)) (Ch.mk a.i.b (zC a.sb)) a.i.less)
def TW (a:Nat) (b:G7):=(decide ((↑a:Int)<(↑(aa zJ (u6 b)).length:Int)))
def qF (a:lB):Prop:=a.p.code.length<=1099511627776/\a.p.dm.length<=1099511627776/\a.p.settle.length<=1099511627776
def jQ (a:bG):Prop:=a.p.code.length<=1099511627776/\a.p.dm.length<=1099511627776/\a.p.settle.length<=1099511627776
def pW (a:dY) (b:Nat):=(aa (bX a 1) (ab b (yT a 1))++ae b (yT a 1))
def TO (a:dY) (b:Nat):=(aa zJ (pW a b))
def pM (a:dY) (b:Nat):=(jK a 1 (a.p.dm.length-(a.inst.toNat+1))++wO a 1 b)
def vR (a:bG):=((a.p.gj a.n).snd.fst)
def yUr (i:dY):Prop:=
 ∃(a:ff),sb a.code=sb i.p.code/\iE a.dm=iE i.p.dm/\a.tick=i.p.tick/\a.low=i.p.low/\a.high=i.p.high/\a.wide=i.p.wide/\a.dt=i.p.dt/\a.top=i.p.top/\a.least=i.p.least/\a.part=i.p.part/\iE a.settle=iE i.p.settle/\(zW a)/\∀(b:Unit),True->dq ((↑a.count:Int)==0) (∃(c:Unit),aa zJ (kQ i 1)=[]/\True) (dq ((↑(aa z7 i.fg).length:Int) !=(↑a.count:Int)) (∃(c:Unit),aa zJ (kQ i 1)=[]/\True) (dq (decide (i.inst<0)) (∃(c:Unit),aa zJ (kQ i 1)=[]/\True) (dq (decide (i.inst>=(↑a.count:Int))) (∃(c:Unit),aa zJ (kQ i 1)=[]/\True) (∃(c:bG),sb c.p.code=sb i.p.code/\iE c.p.dm=iE i.p.dm/\c.p.tick=i.p.tick/\c.p.low=i.p.low/\c.p.high=i.p.high/\c.p.wide=i.p.wide/\c.p.dt=i.p.dt/\c.p.top=i.p.top/\c.p.least=i.p.least/\c.p.part=i.p.part/\iE c.p.settle=iE i.p.settle/\c.n=i.inst/\(jQ c)/\∀(d:Unit),True->dq (c.p.gj c.n).snd.snd (∃(e:Int),e=1/\(e=1\/e=2)/\∀(f:Unit),True->∃(g:G7),g.i.a=(c.p.gj c.n).snd.fst/\zC g.sa=3-e/\g.i.b=(c.p.gj c.n).fst/\zC g.sb=1/\g.i.less=ao/\ag 6 (aa z7 g.i.fg)=ag 6 (aa z7 i.fg)/\aa zJ g.i.out=[]/\(fB g)/\∀(h:Unit),True->∃(j:Nat),(↑j:Int)=0/\ag 6 (aa z7 i.fg)=ag 6 (aa z7 g.i.fg)/\aa zJ (pW i j)=aa zJ (u6 g)/\∃(k:Nat->Prop),∃(l:Nat->Nat),k j/\∀(m:Nat),k m->dq (TW m g) ((0<=(↑m:Int)/\(↑m:Int)<(↑(TO i m).length:Int))/\(↑m:Int).toNat<(TO i m).length/\∃(n:Nat),(↑n:Int)=aq.wrap ((↑m:Int)+1)/\dj (ag 6 (aa z7 i.fg))/\aa zJ (pW i n)=zV (TO i m) (↑m:Int).toNat 2 [dI ((c.p.gj c.n).fst),dI 1,dI (vR c),dI (3-e)]/\k n/\l n<l m/\dj (ag 6 (aa z7 g.i.fg))/\dj (aj [V.d (dI (vR c)),V.d (dI (3-e))] 125)/\dj (aj [V.d (dI ((c.p.gj c.n).fst)),V.d (dI 1)] 125)/\pX i) (∃(n:Unit),aa zJ (kQ i 1)=aa zJ (pW i m)/\True)) (∃(e:Nat),i.inst+1+(↑e:Int)=aq.wrap (i.inst+1)/\dj (ag 6 (aa z7 i.fg))/\aa zJ (jK i 1 e)=[]/\∃(f:Nat->Prop),∃(g:Nat->Nat),f e/\∀(h:Nat),f h->dq (decide (i.inst+1+(↑h:Int)<(↑(iE i.p.dm).length:Int))) (∃(j:lB),sb j.p.code=sb i.p.code/\iE j.p.dm=iE i.p.dm/\j.p.tick=i.p.tick/\j.p.low=i.p.low/\j.p.high=i.p.high/\j.p.wide=i.p.wide/\j.p.dt=i.p.dt/\j.p.top=i.p.top/\j.p.least=i.p.least/\j.p.part=i.p.part/\iE j.p.settle=iE i.p.settle/\j.a=i.inst/\j.b=i.inst+1+(↑h:Int)/\(qF j)/\∀(k:Unit),True->∃(l:G7),l.i.a=(j.p.spread j.a j.b).fst/\zC l.sa=1/\l.i.b=i.inst+1+(↑h:Int)/\zC l.sb=1/\l.i.less=ap/\ag 6 (aa z7 l.i.fg)=ag 6 (aa z7 i.fg)/\aa zJ l.i.out=aa zJ (jK i 1 h)/\(fB l)/\∀(m:Unit),True->∃(n:Nat),i.inst+1+(↑n:Int)=aq.wrap (i.inst+1+(↑h:Int)+1)/\ag 6 (aa z7 i.fg)=ag 6 (aa z7 l.i.fg)/\aa zJ (jK i 1 n)=aa zJ (u6 l)/\S5 f n g h i) (∃(j:Nat),(↑j:Int)=0/\dj (ag 6 (aa z7 i.fg))/\aa zJ (pM i j)=aa zJ (jK i 1 h)/\∃(k:Nat->Prop),∃(l:Nat->Nat),k j/\∀(m:Nat),k m->dq (decide ((↑m:Int)<i.inst)) (∃(n:lB),sb n.p.code=sb i.p.code/\iE n.p.dm=iE i.p.dm/\n.p.tick=i.p.tick/\n.p.low=i.p.low/\n.p.high=i.p.high/\n.p.wide=i.p.wide/\n.p.dt=i.p.dt/\n.p.top=i.p.top/\n.p.least=i.p.least/\n.p.part=i.p.part/\iE n.p.settle=iE i.p.settle/\n.a=(↑m:Int)/\n.b=i.inst/\(qF n)/\∀(p:Unit),True->∃(q:Int),q=1/\(q=1\/q=2)/\∀(r:Unit),True->∃(s:G7),s.i.a=(n.p.spread n.a n.b).fst/\zC s.sa=3-q/\s.i.b=(↑m:Int)/\zC s.sb=1/\s.i.less=ao/\ag 6 (aa z7 s.i.fg)=ag 6 (aa z7 i.fg)/\aa zJ s.i.out=aa zJ (pM i m)/\(fB s)/\∀(t:Unit),True->∃(u:Nat),(↑u:Int)=aq.wrap ((↑m:Int)+1)/\ag 6 (aa z7 i.fg)=ag 6 (aa z7 s.i.fg)/\aa zJ (pM i u)=aa zJ (u6 s)/\Tl k u l m i) (∃(n:Unit),aa zJ (kQ i 1)=aa zJ (pM i m)/\True)))))))
def rZ (a:dY) (b:Nat):=(aa (bX a 2) (ab b (yT a 2))++ae b (yT a 2))
def TK (a:dY) (b:Nat):=(aa zJ (rZ a b))
def rS (a:dY) (b:Nat):=(jK a 2 (a.p.dm.length-(a.inst.toNat+1))++wO a 2 b)
def yVh (i:dY):Prop:=
 ∃(a:ff),sb a.code=sb i.p.code/\iE a.dm=iE i.p.dm/\a.tick=i.p.tick/\a.low=i.p.low/\a.high=i.p.high/\a.wide=i.p.wide/\a.dt=i.p.dt/\a.top=i.p.top/\a.least=i.p.least/\a.part=i.p.part/\iE a.settle=iE i.p.settle/\(zW a)/\∀(b:Unit),True->dq ((↑a.count:Int)==0) (∃(c:Unit),aa zJ (kQ i 2)=[]/\True) (dq ((↑(aa z7 i.fg).length:Int) !=(↑a.count:Int)) (∃(c:Unit),aa zJ (kQ i 2)=[]/\True) (dq (decide (i.inst<0)) (∃(c:Unit),aa zJ (kQ i 2)=[]/\True) (dq (decide (i.inst>=(↑a.count:Int))) (∃(c:Unit),aa zJ (kQ i 2)=[]/\True) (∃(c:bG),sb c.p.code=sb i.p.code/\iE c.p.dm=iE i.p.dm/\c.p.tick=i.p.tick/\c.p.low=i.p.low/\c.p.high=i.p.high/\c.p.wide=i.p.wide/\c.p.dt=i.p.dt/\c.p.top=i.p.top/\c.p.least=i.p.least/\c.p.part=i.p.part/\iE c.p.settle=iE i.p.settle/\c.n=i.inst/\(jQ c)/\∀(d:Unit),True->dq (c.p.gj c.n).snd.snd (∃(e:Int),e=2/\(e=1\/e=2)/\∀(f:Unit),True->∃(g:G7),g.i.a=(c.p.gj c.n).snd.fst/\zC g.sa=3-e/\g.i.b=(c.p.gj c.n).fst/\zC g.sb=2/\g.i.less=ao/\ag 6 (aa z7 g.i.fg)=ag 6 (aa z7 i.fg)/\aa zJ g.i.out=[]/\(fB g)/\∀(h:Unit),True->∃(j:Nat),(↑j:Int)=0/\ag 6 (aa z7 i.fg)=ag 6 (aa z7 g.i.fg)/\aa zJ (rZ i j)=aa zJ (u6 g)/\∃(k:Nat->Prop),∃(l:Nat->Nat),k j/\∀(m:Nat),k m->dq (TW m g) ((0<=(↑m:Int)/\(↑m:Int)<(↑(TK i m).length:Int))/\(↑m:Int).toNat<(TK i m).length/\∃(n:Nat),(↑n:Int)=aq.wrap ((↑m:Int)+1)/\dj (ag 6 (aa z7 i.fg))/\aa zJ (rZ i n)=zV (TK i m) (↑m:Int).toNat 2 [dI ((c.p.gj c.n).fst),dI 2,dI (vR c),dI (3-e)]/\k n/\l n<l m/\dj (ag 6 (aa z7 g.i.fg))/\dj (aj [V.d (dI (vR c)),V.d (dI (3-e))] 125)/\dj (aj [V.d (dI ((c.p.gj c.n).fst)),V.d (dI 2)] 125)/\pX i) (∃(n:Unit),aa zJ (kQ i 2)=aa zJ (rZ i m)/\True)) (∃(e:Nat),i.inst+1+(↑e:Int)=aq.wrap (i.inst+1)/\dj (ag 6 (aa z7 i.fg))/\aa zJ (jK i 2 e)=[]/\∃(f:Nat->Prop),∃(g:Nat->Nat),f e/\∀(h:Nat),f h->dq (decide (i.inst+1+(↑h:Int)<(↑(iE i.p.dm).length:Int))) (∃(j:lB),sb j.p.code=sb i.p.code/\iE j.p.dm=iE i.p.dm/\j.p.tick=i.p.tick/\j.p.low=i.p.low/\j.p.high=i.p.high/\j.p.wide=i.p.wide/\j.p.dt=i.p.dt/\j.p.top=i.p.top/\j.p.least=i.p.least/\j.p.part=i.p.part/\iE j.p.settle=iE i.p.settle/\j.a=i.inst/\j.b=i.inst+1+(↑h:Int)/\(qF j)/\∀(k:Unit),True->∃(l:G7),l.i.a=(j.p.spread j.a j.b).fst/\zC l.sa=2/\l.i.b=i.inst+1+(↑h:Int)/\zC l.sb=2/\l.i.less=ap/\ag 6 (aa z7 l.i.fg)=ag 6 (aa z7 i.fg)/\aa zJ l.i.out=aa zJ (jK i 2 h)/\(fB l)/\∀(m:Unit),True->∃(n:Nat),i.inst+1+(↑n:Int)=aq.wrap (i.inst+1+(↑h:Int)+1)/\ag 6 (aa z7 i.fg)=ag 6 (aa z7 l.i.fg)/\aa zJ (jK i 2 n)=aa zJ (u6 l)/\S5 f n g h i) (∃(j:Nat),(↑j:Int)=0/\dj (ag 6 (aa z7 i.fg))/\aa zJ (rS i j)=aa zJ (jK i 2 h)/\∃(k:Nat->Prop),∃(l:Nat->Nat),k j/\∀(m:Nat),k m->dq (decide ((↑m:Int)<i.inst)) (∃(n:lB),sb n.p.code=sb i.p.code/\iE n.p.dm=iE i.p.dm/\n.p.tick=i.p.tick/\n.p.low=i.p.low/\n.p.high=i.p.high/\n.p.wide=i.p.wide/\n.p.dt=i.p.dt/\n.p.top=i.p.top/\n.p.least=i.p.least/\n.p.part=i.p.part/\iE n.p.settle=iE i.p.settle/\n.a=(↑m:Int)/\n.b=i.inst/\(qF n)/\∀(p:Unit),True->∃(q:Int),q=2/\(q=1\/q=2)/\∀(r:Unit),True->∃(s:G7),s.i.a=(n.p.spread n.a n.b).fst/\zC s.sa=3-q/\s.i.b=(↑m:Int)/\zC s.sb=2/\s.i.less=ao/\ag 6 (aa z7 s.i.fg)=ag 6 (aa z7 i.fg)/\aa zJ s.i.out=aa zJ (rS i m)/\(fB s)/\∀(t:Unit),True->∃(u:Nat),(↑u:Int)=aq.wrap ((↑m:Int)+1)/\ag 6 (aa z7 i.fg)=ag 6 (aa z7 s.i.fg)/\aa zJ (rS i u)=aa zJ (u6 s)/\Tl k u l m i) (∃(n:Unit),aa zJ (kQ i 2)=aa zJ (rS i m)/\True)))))))
def jZ (a:AY):=(aa zJ (kQ a.i (zC a.s)))
def YG (a:Nat->Prop) (b:Nat) (c:Nat->Nat) (d:Nat) (e:AY) (f:AY):Prop:=a b/\c b<c d/\dj (ak 128 6 (jZ e))/\dj (aj [V.d (D.v (ax (sb f.i.p.code))),V.own 0,V.d (dI f.i.p.tick),V.d (dI f.i.p.low),V.d (dI f.i.p.high),V.d (dI f.i.p.wide),V.d (dI f.i.p.dt),V.d (dI f.i.p.top),V.d (dI f.i.p.least),V.d (dI f.i.p.part),V.own 1] 25)/\dj (ag 1 (iE f.i.p.settle))/\dj (ag 1 (iE f.i.p.dm))
def kO (a:AY):Prop:=(a.i.p.code.length<=1099511627776/\a.i.p.dm.length<=1099511627776/\a.i.p.settle.length<=1099511627776)/\a.i.fg.length<=1000000/\∀(b:jy),b∈a.i.fg->fE b
def fH (a:AY):=(↑(jZ a).length:Int)
def yCs (j:AY):Prop:=
 ∃(a:AY),sb a.i.p.code=sb j.i.p.code/\iE a.i.p.dm=iE j.i.p.dm/\a.i.p.tick=j.i.p.tick/\a.i.p.low=j.i.p.low/\a.i.p.high=j.i.p.high/\a.i.p.wide=j.i.p.wide/\a.i.p.dt=j.i.p.dt/\a.i.p.top=j.i.p.top/\a.i.p.least=j.i.p.least/\a.i.p.part=j.i.p.part/\iE a.i.p.settle=iE j.i.p.settle/\aa z7 a.i.fg=aa z7 j.i.fg/\a.i.inst=j.i.inst/\zC a.s=zC j.s/\(kO a)/\∀(b:Unit),True->∃(c:Nat),(↑c:Int)=0/\aa zJ (ac (λ(q:Sx.Quote) ↦ decide (j.i.p.dk j.i.inst q.dk=0)) (ab c (kQ j.i (zC j.s))))=[]/\∃(d:Nat->Prop),∃(e:Nat->Nat),d c/\∀(f:Nat),d f->dq (decide ((↑f:Int)<(fH a))) ((0<=(↑f:Int)/\(↑f:Int)<(fH a))/\∃(g:Int),∃(h:Int),∃(k:Int),∃(l:Int),∃(m:Int),∃(n:Int),zD (jZ a) (↑f:Int).toNat 0 6=az [dI g,dI h,dI k,dI l,dI m,dI n]/\∃(p:lB),sb p.p.code=sb j.i.p.code/\iE p.p.dm=iE j.i.p.dm/\p.p.tick=j.i.p.tick/\p.p.low=j.i.p.low/\p.p.high=j.i.p.high/\p.p.wide=j.i.p.wide/\p.p.dt=j.i.p.dt/\p.p.top=j.i.p.top/\p.p.least=j.i.p.least/\p.p.part=j.i.p.part/\iE p.p.settle=iE j.i.p.settle/\p.a=j.i.inst/\p.b=g/\(qF p)/\∀(q:Unit),True->dq (p.p.dk p.a p.b==0) (((aa zJ (ac (λ(q:Sx.Quote) ↦ decide (j.i.p.dk j.i.inst q.dk=0)) (ab f (kQ j.i (zC j.s))))).length+1)*(48:Nat)<=(140737488355328:Nat)/\∃(r:Nat),(↑r:Int)=aq.wrap ((↑f:Int)+1)/\aa zJ (ac (λ(q:Sx.Quote) ↦ decide (j.i.p.dk j.i.inst q.dk=0)) (ab r (kQ j.i (zC j.s))))=aa zJ (ac (λ(q:Sx.Quote) ↦ decide (j.i.p.dk j.i.inst q.dk=0)) (ab f (kQ j.i (zC j.s))))++[[dI g,dI h,dI k,dI l,dI m,dI n]]/\YG d r e f a j) (∃(r:Nat),(↑r:Int)=aq.wrap ((↑f:Int)+1)/\aa zJ (ac (λ(q:Sx.Quote) ↦ decide (j.i.p.dk j.i.inst q.dk=0)) (ab r (kQ j.i (zC j.s))))=aa zJ (ac (λ(q:Sx.Quote) ↦ decide (j.i.p.dk j.i.inst q.dk=0)) (ab f (kQ j.i (zC j.s))))/\YG d r e f a j)) (∃(g:Unit),aa zJ (x5 j.i (zC j.s))=aa zJ (ac (λ(q:Sx.Quote) ↦ decide (j.i.p.dk j.i.inst q.dk=0)) (ab f (kQ j.i (zC j.s))))/\True)
def YH (a:Nat->Prop) (b:Nat) (c:Nat->Nat) (d:Nat):Prop:=a b/\c b<c d/\dj (aj (Sx.V.agg [V.d (dI 0),V.d (dI 0),V.d (dI 0),V.d (dI 0),V.d (dI 0),V.d (dI 0)]).cl 128)
def yD (a:Nat) (b:zw):=(zU (ab (max a 1) b.l) b.s)
def uE (a:zw):=(↑(aa zJ a.l).length:Int)
def XB (a:zw):Prop:=((0:Int)<=(0:Int)/\0<(uE a))/\∃(b:Int),∃(c:Int),∃(d:Int),∃(e:Int),∃(f:Int),∃(g:Int),zD (aa zJ a.l) (Int.toNat 0) 0 6=az [dI b,dI c,dI d,dI e,dI f,dI g]/\∃(h:Nat),(↑h:Int)=0/\(yD h a).fst.dk=b/\(yD h a).fst.dr=c/\(yD h a).fst.a.inst=d/\(yD h a).fst.a.side=e/\(yD h a).fst.b.inst=f/\(yD h a).fst.b.side=g/\∃(j:Nat->Prop),∃(k:Nat->Nat),j h/\∀(l:Nat),j l->dq (decide ((↑l:Int)<(uE a))) ((0<=(↑l:Int)/\(↑l:Int)<(uE a))/\∃(m:Int),∃(n:Int),∃(p:Int),∃(q:Int),∃(r:Int),∃(s:Int),zD (aa zJ a.l) (↑l:Int).toNat 0 6=az [dI m,dI n,dI p,dI q,dI r,dI s]/\∃(t:DM),t.side=a.s/\t.x=m/\t.y=(yD l a).fst.dk/\True/\∀(u:Unit),True->dq (ki t.side t.x t.y) (∃(v:Nat),(↑v:Int)=aq.wrap ((↑l:Int)+1)/\(yD v a).fst.dk=m/\(yD v a).fst.dr=n/\(yD v a).fst.a.inst=p/\(yD v a).fst.a.side=q/\(yD v a).fst.b.inst=r/\(yD v a).fst.b.side=s/\YH j v k l) (∃(v:Nat),(↑v:Int)=aq.wrap ((↑l:Int)+1)/\(yD v a).fst.dk=(yD l a).fst.dk/\(yD v a).fst.dr=(yD l a).fst.dr/\(yD v a).fst.a.inst=(yD l a).fst.a.inst/\(yD v a).fst.a.side=(yD l a).fst.a.side/\(yD v a).fst.b.inst=(yD l a).fst.b.inst/\(yD v a).fst.b.side=(yD l a).fst.b.side/\YH j v k l)) (∃(m:Unit),(zU a.l a.s).fst.dk=(yD l a).fst.dk/\(zU a.l a.s).fst.dr=(yD l a).fst.dr/\(zU a.l a.s).fst.a.inst=(yD l a).fst.a.inst/\(zU a.l a.s).fst.a.side=(yD l a).fst.a.side/\(zU a.l a.s).fst.b.inst=(yD l a).fst.b.inst/\(zU a.l a.s).fst.b.side=(yD l a).fst.b.side/\(zU a.l a.s).snd=ao/\True)
def Y0 (a:zw):Prop:=∃(b:Unit),(zU a.l a.s).fst.dk=0/\(zU a.l a.s).fst.dr=0/\(zU a.l a.s).fst.a.inst=0/\(zU a.l a.s).fst.a.side=0/\(zU a.l a.s).fst.b.inst=0/\(zU a.l a.s).fst.b.side=0/\(zU a.l a.s).snd=ap/\True
def yMu (i:zw):Prop:=
 dq ((uE i)==0) (Y0 i) (dq (i.s !=1) (dq (i.s !=2) (Y0 i) (XB i)) (XB i))
def z3z {l:List Quote} {q:Quote} (s:Int) (h:l[0]? =az q):(zU (l.take (max 0 1)) s).1=q:=by
 cases l with
 |nil=>simp at h
 |cons a l=>simp at h;subst h;rfl
def z4m {l:List Quote} {j:Nat} {q:Quote} (s:Int) (h:l[j]? =az q):
 (zU (l.take (max (j+1) 1)) s).1=if ki s q.dk (zU (l.take (max j 1)) s).1.dk then q else(zU (l.take (max j 1)) s).1:=by
 cases l with
 |nil=>simp at h
 |cons a l=>
  cases j with
  |zero=>simp at h;subst h;simp[zU]
  |succ m=>
   simp only[A1]at h;rw[show max (m+1+1) 1=(m+1)+1 by omega,show max (m+1) 1=m+1 by omega,vo,vo,tb,h];simp only[zU,Eb,I7];rfl
def yDw {l:List Quote} (s:Int) (h:l≠[]):(zU l s).2=ao:=by
 cases l with
 |nil=>exact absurd rfl h
 |cons a l=>rfl
def yWz (i:zw) (h:F6.dq i):yMu i:=by
 obtain⟨hs,hl⟩:(i.s=1\/i.s=2)/\i.l.length<=1000000:=h;unfold yMu XB uE yD YH Y0 dI;simp only[im];refine Cv.dq.mk (λc=> ?_) (λc=> ?_)
 ·have e:i.l=[]:=yh (by have:(i.l.length:Int)=0:=(by simpa using c);omega);rw[e];exact kp
 have h0:0<i.l.length:=by
  rcases Nat.eq_zero_or_pos i.l.length with h|h
  ·rw[h]at c;exact absurd c Z8
  ·exact h
 have ji:i.l≠[]:=by intro e;rw[e]at h0;simp at h0
 have two:=yDw i.s ji;obtain⟨q,hq⟩:=z6 h0;have b0:=z3z i.s hq;have fin:(zU (i.l.take (max i.l.length 1)) i.s).1=(zU i.l i.s).1:=by
  rw[oh (by omega)]
 have step:∀j:Nat,j<i.l.length->∀x:Quote,i.l[j]? =az x->(ki i.s x.dk (zU (i.l.take (max j 1)) i.s).1.dk=ao->(zU (i.l.take (max (j+1) 1)) i.s).1=x)/\(ki i.s x.dk (zU (i.l.take (max j 1)) i.s).1.dk=ap->(zU (i.l.take (max (j+1) 1)) i.s).1=(zU (i.l.take (max j 1)) i.s).1):=λj hj x hx=>by
  have:=z4m i.s hx;constructor
  ·intro e;rw[this,fh e]
  ·intro e;rw[this,fb (by rw[e];simp)]
 refine Cv.dq.mk (λc1=>Cv.dq.mk (λc2=> ?_) (λc2=> ?_)) (λc1=> ?_)
 ·exfalso;have c1:i.s≠1:=by simpa using c1
  have c2:i.s≠2:=by simpa using c2
  omega
 all_goals
  refine⟨⟨oM,oM⟩,q.dk,q.dr,q.a.inst,q.a.side,q.b.inst,q.b.side,ju hq (by simp[zJ]) rfl,0,?_⟩;rw[b0]
  (repeat'(first|exact rfl|exact trivial|assumption|apply ar|refineλ(_:Unit) (_:True)=>?_|refine am () ?_|omega|(dsimp only;omega)))
  refine⟨λj=>j<=i.l.length,λj=>i.l.length-j,oM,λj hj=>zH (λgv=> ?_) (λgv=> ?_)⟩
  ·have ov:j<i.l.length:=by omega
   obtain⟨x,hx⟩:=z6 ov;obtain⟨st,sf⟩:=step j ov x hx;refine⟨⟨oM,oM⟩,x.dk,x.dr,x.a.inst,x.a.side,x.b.inst,x.b.side,ju hx (by simp[zJ]) rfl,⟨i.s,x.dk,_⟩,rfl,rfl,rfl,trivial,λ_ _=>Cv.dq.mk (λe=>⟨j+1,by rw[iA (by omega)];rfl,?_⟩) (λe=>⟨j+1,by rw[iA (by omega)];rfl,?_⟩)⟩
   ·rw[st e];exact kp
   ·rw[sf e];exact kp
  ·have hj:j<=i.l.length:=hj;obtain rfl:j=i.l.length:=by omega
   rw[fin,two];exact kp
def z3f:F6.ok Tryz.prog 61:=ib mixed (dx z7n fj) 0 (λ_=>[]) (λi=>yXv i) [] Tryz.func61 yWz
def Od (fg:List jy) (a b:Ch) (less:Bool):(yl fg a b less).length<=1:=by
 unfold yl;dsimp only;split<;>split<;>simp
def VG {α:Type} {f:Nat->List α} (h:∀k,(f k).length<=1):∀n,((af n).flatMap f).length<=n
 |0=>by simp
 |n+1=>by
  rw[I5,yq,iv];have:=VG h n;have:=h n;simp only[wg,KP,oU];omega
def Y5 (i:dY) (s:Int) (k:Nat):(jK i s k).length<=k:=VG (λ_=>Od _ _ _ _) k
def tF (i:dY) (s:Int) (k:Nat):(wO i s k).length<=k:=VG (λ_=>Od _ _ _ _) k
def Tj (i:dY) (s:Int):(kQ i s).length<=100:=by
 unfold kQ;split
 ·simp
 ·rename_i h;have hc:=xS i.p;have m6:=(qS (l9 (p:=i.p) oM)).m6;split
  ·rw[im];have:=Od i.fg ⟨(i.p.gj i.inst).2.1,3-s⟩ ⟨(i.p.gj i.inst).1,s⟩ ao;have e:(yT i s).length<=1:=this;omega
  ·rw[iv];have h1:=Y5 i s (i.p.dm.length-(i.inst.toNat+1));have h2:=tF i s i.inst.toNat;omega
def yTi (j:AY) (h:Dg.dq j):yCs j:=by
 unfold yCs YG fH jZ kO fE qF dI;obtain⟨hp,ht,hr⟩:j.i.p.small/\vV j.i.fg:=h;obtain⟨h1,h2,h3⟩:=hp;have hl:=Tj j.i (zC j.s);refine⟨j,?_⟩;simp only[im]
 (repeat'(first|exact rfl|exact trivial|assumption|apply ar|refineλ(_:Unit) (_:True)=>?_|refine am () ?_|omega|(dsimp only;omega)))
 refine⟨0,rfl,rfl,λk=>k<=(kQ j.i (zC j.s)).length,λk=>(kQ j.i (zC j.s)).length-k,oM,λk hk=>zH (λgv=> ?_) (λgv=> ?_)⟩
 ·have rh:k<(kQ j.i (zC j.s)).length:=by omega
  obtain⟨q,hq⟩:=z6 rh;have hf:(ac (λq=>decide (j.i.p.dk j.i.inst q.dk=0)) (ab k (kQ j.i (zC j.s)))).length<=100:=by
   have:=GG (λq:Quote=>decide (j.i.p.dk j.i.inst q.dk=0)) (ab k (kQ j.i (zC j.s)));rw[om]at this;omega
  refine⟨⟨oM,oM⟩,q.dk,q.dr,q.a.inst,q.a.side,q.b.inst,q.b.side,ju hq (by simp[zJ]) rfl,⟨j.i.p,j.i.inst,q.dk⟩,?_⟩
  (repeat'(first|exact rfl|exact trivial|assumption|apply ar|refineλ(_:Unit) (_:True)=>?_|refine am () ?_|omega|(dsimp only;omega)))
  refine Cv.dq.mk (λc=>⟨oM,k+1,by rw[iA (by omega)];rfl,?_⟩) (λc=>⟨k+1,by rw[iA (by omega)];rfl,?_⟩)
  ·have c:j.i.p.dk j.i.inst q.dk=0:=by simpa using c
   rw[tb,hq,Eb,Hy,OW (by simpa using c),jr];exact kp
  ·have c:¬j.i.p.dk j.i.inst q.dk=0:=by simpa using c
   rw[tb,hq,Eb,Hy,OV (by simpa using c),List.filter_nil,oU];exact kp
 ·have hk:k<=(kQ j.i (zC j.s)).length:=hk;obtain rfl:k=(kQ j.i (zC j.s)).length:=by omega
  rw[oh (lk _)];exact kp
def yDj:∀n≤6,∀a<n,∀b<n,a<b->0<=(yL n a:Int)+b-a-1/\(yL n a:Int)+b-a-1<((n+n*(n-1) / 2:Nat):Int):=by decide
def aT {p:ff} (hc:p.check=0) {a b:Nat} (Eo:a<b) (hb:b<p.dm.length):0<=(p.spread a b).1/\(p.spread a b).1<p.count:=by
 have m6:=(qS hc).m6;have:=yDj p.dm.length m6 a oM b hb Eo;rw[ff.spread,fb (by omega),ff.count,fh hc];simpa using this
def ySq:∀n≤6,∀k<n+n*(n-1) / 2,n<=k->(jE n k n 0).2.2=ao/\0<=(jE n k n 0).1/\(jE n k n 0).1<n/\0<=(jE n k n 0).2.1/\(jE n k n 0).2.1<n:=by decide
def fC {p:ff} (hc:p.check=0) {k:Nat} (hk:k<p.count):((p.gj k).2.2=ao/\0<=(p.gj k).1/\(p.gj k).1<p.dm.length/\0<=(p.gj k).2.1/\(p.gj k).2.1<p.dm.length)\/((p.gj k).2.2=ap/\k<p.dm.length):=by
 have m6:=(qS hc).m6;have rh:=hk;rw[ff.count,fh hc]at rh;by_cases h:k<p.dm.length
 ·right;rw[ff.gj,fb (by omega),fh (by omega)];exact⟨rfl,h⟩
 ·left;rw[ff.gj,fb (by omega),fb (by omega)];exact ySq p.dm.length m6 k rh oM
def Ti {p:ff} (hc:p.check=0):p.dm.length<=p.count:=by
 rw[ff.count,fh hc];omega
def z2l {i:dY} {s:Int} {k:Nat} (hk:k<(yT i s).length):aa zJ (aa (bX i s) (ab (k+1) (yT i s))++ae (k+1) (yT i s))=
 zV (aa zJ (aa (bX i s) (ab k (yT i s))++ae k (yT i s))) k (0+2) [D.v (.int .i64 (i.p.gj i.inst).1),D.v (.int .i64 s),D.v (.int .i64 (i.p.gj i.inst).2.1),D.v (.int .i64 (3-s))]:=by
 obtain⟨q,hq⟩:=z6 hk;rw[zUw (a:=aa zJ (aa (bX i s) (ab k (yT i s)))) (b:=aa zJ (ae (k+1) (yT i s))) (x:=zJ q) (y:=zJ (bX i s q)) (by
  rw[jr,DC hk,(jv.1 hq).2,jx]) (by simp;omega) rfl]
 rw[tb,hq,Eb,jr,jr,jr,jx,CG,jx,CG,jh];rfl
def y6a (i:dY) (h:Kf.dq i):yUr i:=by
 unfold yUr zW S5 Tl pX vR pM TO pW jQ qF TW u6 fB fE dI;obtain⟨⟨h1,h2,h3⟩,ht,hr⟩:i.p.small/\vV i.fg:=h;have tp:vV i.fg:=⟨ht,hr⟩
 refine⟨i.p,?_⟩;simp only[im,y4]
 (repeat'(first|exact rfl|exact trivial|assumption|apply ar|refineλ(_:Unit) (_:True)=>?_|refine am () ?_|omega|(dsimp only;omega)))
 have bad (hb:i.p.count=0\/(i.fg.length:Int)≠i.p.count\/i.inst<0\/(i.p.count:Int)<=i.inst):∃(o:Unit),aa zJ (kQ i 1)=[]/\True:=⟨(),by rw[kQ,fh hb];rfl,trivial⟩
 refine Cv.dq.mk (λc1=>bad (.inl (by have c1:(i.p.count:Int)=0:=(by simpa using c1);omega))) λc1=>Cv.dq.mk (λc2=>bad (.inr (.inl (by simpa using c2)))) λc2=>zH (λc3=>bad oM) λc3=>zH (λc4=>bad oM) λc4=>⟨⟨i.p,i.inst⟩,?_⟩
 have c1:i.p.count≠0:=by
  have c1:¬(i.p.count:Int)=0:=(by simpa using c1)
  omega
 have c2:(i.fg.length:Int)=i.p.count:=by simpa using c2
 have c4:i.inst<(i.p.count:Int):=by
  have c4:¬i.inst>=(i.p.count:Int):=c4;omega
 have hc:=l9 c1;have hm:=Ti hc;have e0:kQ i 1=if(i.p.gj i.inst).2.2 then(yT i 1).map (bX i 1)else jK i 1 (i.p.dm.length-(i.inst.toNat+1))++wO i 1 i.inst.toNat:=by
  rw[kQ,fb (by omega)]
 obtain⟨k,hk⟩:∃k:Nat,i.inst=k:=⟨i.inst.toNat,oM⟩
 have hl:=fC hc (k:=k) oM;rw[<- hk]at hl
 (repeat'(first|exact rfl|exact trivial|assumption|apply ar|refineλ(_:Unit) (_:True)=>?_|refine am () ?_|omega|(dsimp only;omega)))
 refine Cv.dq.mk (λc5=> ?_) (λc5=> ?_)
 ·have c5:(i.p.gj i.inst).2.2=ao:=c5;rw[e0,fh c5];rcases hl with⟨_,l1,l2,l3,l4⟩|⟨l1,_⟩
  ·have ym:(yT i 1).length<=1:=Od _ _ _ _;refine⟨1,rfl,oM,λ_ _=>⟨⟨⟨i.fg,[],(i.p.gj i.inst).2.1,(i.p.gj i.inst).1,ao⟩,ao,ap⟩,mh ⟨rfl,⟨l3,Z9,l1,Z9,tp,by simp⟩,λ_ _=>⟨0,rfl,rfl,rfl,λj=>j<=(yT i 1).length,λj=>(yT i 1).length-j,oM,?_⟩⟩⟩⟩;intro j hj;have hj:j<=(yT i 1).length:=hj;have hL:(aa (bX i 1) (ab j (yT i 1))++ae j (yT i 1)).length=(yT i 1).length:=by simp;omega
   refine zH (λgv=> ?_) (λgv=> ?_)
   ·have gv:(j:Int)<((yT i 1).length:Int):=gv;refine⟨⟨oM,by rw[hL];omega⟩,by rw[hL];omega,j+1,by rw[iA (by omega)];rfl,kp,?_,?_⟩
    ·exact z2l (i:=i) (s:=1) oM
    ·exact kp
   ·have gv:¬(j:Int)<((yT i 1).length:Int):=gv;obtain rfl:j=(yT i 1).length:=by omega
    rw[oh (lk _),List.drop_length,oU];exact kp
  ·rw[c5]at l1;cases l1
 ·have c5:(i.p.gj i.inst).2.2=ap:=c5;rw[e0,fb (by rw[c5];simp)];rcases hl with⟨l1,_⟩|⟨_,l2⟩
  ·rw[c5]at l1;cases l1
  have m6:=(qS hc).m6;have e1:i.inst.toNat=k:=by omega
  rw[e1];refine⟨0,by rw[iA (by omega)];omega,kp,rfl,λj=>j<=i.p.dm.length-(k+1),λj=>i.p.dm.length-(k+1)-j,oM,?_⟩;intro j hj;have hj:j<=i.p.dm.length-(k+1):=hj;have hq:=Y5 i 1 j;refine zH (λgv=> ?_) (λgv=> ?_)
  ·obtain⟨b1,b2⟩:=aT hc (a:=k) (b:=k+1+j) oM oM;have eb:((k+1+j:Nat):Int)=i.inst+1+j:=by omega
   rw[eb,<- hk]at b1 b2;refine⟨⟨i.p,i.inst,i.inst+1+j⟩,?_⟩
   (repeat'(first|exact rfl|exact trivial|assumption|apply ar|refineλ(_:Unit) (_:True)=>?_|refine am () ?_|omega|(dsimp only;omega)))
   refine⟨⟨⟨i.fg,jK i 1 j,(i.p.spread i.inst (i.inst+1+j)).1,i.inst+1+j,ap⟩,ap,ap⟩,nn ⟨rfl,kp,rfl,⟨b1,Z9,Z9,Z9,tp,Z9⟩,λ_ _=>⟨j+1,by rw[iA (by omega)];omega,kp,?_,?_⟩⟩⟩
   ·rw[jK,I5,yq];simp only[wg,KP,oU];rfl
   ·exact kp
  ·obtain rfl:j=i.p.dm.length-(k+1):=by omega
   refine⟨0,rfl,kp,by rw[wO];simp,λj=>j<=k,λj=>k-j,oM,?_⟩;intro j hj;have hj:j<=k:=hj;have rl:=tF i 1 j;refine zH (λxu=> ?_) (λxu=> ?_)
   ·obtain⟨b1,b2⟩:=aT hc (a:=j) (b:=k) oM oM;rw[<- hk]at b1 b2;refine⟨⟨i.p,j,i.inst⟩,?_⟩
    (repeat'(first|exact rfl|exact trivial|assumption|apply ar|refineλ(_:Unit) (_:True)=>?_|refine am () ?_|omega|(dsimp only;omega)))
    refine⟨1,rfl,oM,λ_ _=>⟨⟨⟨i.fg,jK i 1 (i.p.dm.length-(k+1))++wO i 1 j,(i.p.spread j i.inst).1,j,ao⟩,ao,ap⟩,nn ⟨rfl,kp,rfl,⟨b1,Z9,Z9,Z9,tp,by dsimp only;rw[iv];omega⟩,λ_ _=>⟨j+1,by rw[iA (by omega)];omega,kp,?_,?_⟩⟩⟩⟩
    ·rw[wO,I5,yq];simp only[wg,KP,oU,jh];rfl
    ·exact kp
   ·obtain rfl:j=k:=by omega
    exact kp
def yTn:Kf.ok Tryz.prog 122:=ib mixed (dx aQ (dx MG (dx zVp (dx zUh (dx z0v fj))))) 0 (λ_=>[]) (λi=>y6d i 1) [] Tryz.func122 y6a
def y2u (i:dY) (h:Ke.dq i):yVh i:=by
 unfold yVh zW rS TK rZ S5 Tl pX vR jQ qF TW u6 fB fE dI;obtain⟨⟨h1,h2,h3⟩,ht,hr⟩:i.p.small/\vV i.fg:=h;have tp:vV i.fg:=⟨ht,hr⟩
 refine⟨i.p,?_⟩;simp only[im,y4]
 (repeat'(first|exact rfl|exact trivial|assumption|apply ar|refineλ(_:Unit) (_:True)=>?_|refine am () ?_|omega|(dsimp only;omega)))
 have bad (hb:i.p.count=0\/(i.fg.length:Int)≠i.p.count\/i.inst<0\/(i.p.count:Int)<=i.inst):∃(o:Unit),aa zJ (kQ i 2)=[]/\True:=⟨(),by rw[kQ,fh hb];rfl,trivial⟩
 refine Cv.dq.mk (λc1=>bad (.inl (by have c1:(i.p.count:Int)=0:=(by simpa using c1);omega))) λc1=>Cv.dq.mk (λc2=>bad (.inr (.inl (by simpa using c2)))) λc2=>zH (λc3=>bad oM) λc3=>zH (λc4=>bad oM) λc4=>⟨⟨i.p,i.inst⟩,?_⟩
 have c1:i.p.count≠0:=by
  have c1:¬(i.p.count:Int)=0:=(by simpa using c1)
  omega
 have c2:(i.fg.length:Int)=i.p.count:=by simpa using c2
 have c4:i.inst<(i.p.count:Int):=by
  have c4:¬i.inst>=(i.p.count:Int):=c4;omega
 have hc:=l9 c1;have hm:=Ti hc;have e0:kQ i 2=if(i.p.gj i.inst).2.2 then(yT i 2).map (bX i 2)else jK i 2 (i.p.dm.length-(i.inst.toNat+1))++wO i 2 i.inst.toNat:=by
  rw[kQ,fb (by omega)]
 obtain⟨k,hk⟩:∃k:Nat,i.inst=k:=⟨i.inst.toNat,oM⟩
 have hl:=fC hc (k:=k) oM;rw[<- hk]at hl
 (repeat'(first|exact rfl|exact trivial|assumption|apply ar|refineλ(_:Unit) (_:True)=>?_|refine am () ?_|omega|(dsimp only;omega)))
 refine Cv.dq.mk (λc5=> ?_) (λc5=> ?_)
 ·have c5:(i.p.gj i.inst).2.2=ao:=c5;rw[e0,fh c5];rcases hl with⟨_,l1,l2,l3,l4⟩|⟨l1,_⟩
  ·have ym:(yT i 2).length<=1:=Od _ _ _ _;refine⟨2,rfl,oM,λ_ _=>⟨⟨⟨i.fg,[],(i.p.gj i.inst).2.1,(i.p.gj i.inst).1,ao⟩,ap,ao⟩,mh ⟨rfl,⟨l3,Z9,l1,Z9,tp,by simp⟩,λ_ _=>⟨0,rfl,rfl,rfl,λj=>j<=(yT i 2).length,λj=>(yT i 2).length-j,oM,?_⟩⟩⟩⟩;intro j hj;have hj:j<=(yT i 2).length:=hj;have hL:(aa (bX i 2) (ab j (yT i 2))++ae j (yT i 2)).length=(yT i 2).length:=by simp;omega
   refine zH (λgv=> ?_) (λgv=> ?_)
   ·have gv:(j:Int)<((yT i 2).length:Int):=gv;refine⟨⟨oM,by rw[hL];omega⟩,by rw[hL];omega,j+1,by rw[iA (by omega)];rfl,kp,?_,?_⟩
    ·exact z2l (i:=i) (s:=2) oM
    ·exact kp
   ·have gv:¬(j:Int)<((yT i 2).length:Int):=gv;obtain rfl:j=(yT i 2).length:=by omega
    rw[oh (lk _),List.drop_length,oU];exact kp
  ·rw[c5]at l1;cases l1
 ·have c5:(i.p.gj i.inst).2.2=ap:=c5;rw[e0,fb (by rw[c5];simp)];rcases hl with⟨l1,_⟩|⟨_,l2⟩
  ·rw[c5]at l1;cases l1
  have m6:=(qS hc).m6;have e1:i.inst.toNat=k:=by omega
  rw[e1];refine⟨0,by rw[iA (by omega)];omega,kp,rfl,λj=>j<=i.p.dm.length-(k+1),λj=>i.p.dm.length-(k+1)-j,oM,?_⟩;intro j hj;have hj:j<=i.p.dm.length-(k+1):=hj;have hq:=Y5 i 2 j;refine zH (λgv=> ?_) (λgv=> ?_)
  ·obtain⟨b1,b2⟩:=aT hc (a:=k) (b:=k+1+j) oM oM;have eb:((k+1+j:Nat):Int)=i.inst+1+j:=by omega
   rw[eb,<- hk]at b1 b2;refine⟨⟨i.p,i.inst,i.inst+1+j⟩,?_⟩
   (repeat'(first|exact rfl|exact trivial|assumption|apply ar|refineλ(_:Unit) (_:True)=>?_|refine am () ?_|omega|(dsimp only;omega)))
   refine⟨⟨⟨i.fg,jK i 2 j,(i.p.spread i.inst (i.inst+1+j)).1,i.inst+1+j,ap⟩,ao,ao⟩,nn ⟨rfl,kp,rfl,⟨b1,Z9,Z9,Z9,tp,Z9⟩,λ_ _=>⟨j+1,by rw[iA (by omega)];omega,kp,?_,?_⟩⟩⟩
   ·rw[jK,I5,yq];simp only[wg,KP,oU];rfl
   ·exact kp
  ·obtain rfl:j=i.p.dm.length-(k+1):=by omega
   refine⟨0,rfl,kp,by rw[wO];simp,λj=>j<=k,λj=>k-j,oM,?_⟩;intro j hj;have hj:j<=k:=hj;have rl:=tF i 2 j;refine zH (λxu=> ?_) (λxu=> ?_)
   ·obtain⟨b1,b2⟩:=aT hc (a:=j) (b:=k) oM oM;rw[<- hk]at b1 b2;refine⟨⟨i.p,j,i.inst⟩,?_⟩
    (repeat'(first|exact rfl|exact trivial|assumption|apply ar|refineλ(_:Unit) (_:True)=>?_|refine am () ?_|omega|(dsimp only;omega)))
    refine⟨2,rfl,oM,λ_ _=>⟨⟨⟨i.fg,jK i 2 (i.p.dm.length-(k+1))++wO i 2 j,(i.p.spread j i.inst).1,j,ao⟩,ap,ao⟩,nn ⟨rfl,kp,rfl,⟨b1,Z9,Z9,Z9,tp,by dsimp only;rw[iv];omega⟩,λ_ _=>⟨j+1,by rw[iA (by omega)];omega,kp,?_,?_⟩⟩⟩⟩
    ·rw[wO,I5,yq];simp only[wg,KP,oU,jh];rfl
    ·exact kp
   ·obtain rfl:j=k:=by omega
    exact kp
def yRv:Ke.ok Tryz.prog 122:=ib mixed (dx aQ (dx MG (dx zVp (dx zUh (dx z0v fj))))) 0 (λ_=>[]) (λi=>y6d i 2) [] Tryz.func122 y2u
def yMk:aa8.ok Tryz.prog 122:=λj=>match j with
 |⟨i,ap⟩=>yTn i
 |⟨i,ao⟩=>yRv i
def zVc:Dg.ok Tryz.prog 62:=ib mixed (dx yMk (dx lN fj)) 0 (λ_=>[]) (λj=>yOu j) [] Tryz.func62 yTi
def zLt (i:dY) (s:Int):(x5 i s).length<=100:=xi (GG _ _) (Tj i s)
structure iq where
 p:ff
 s:gq
 used:List Int
def zX (l:List Int):List (Value×List D):=l.map λx=>(.int .i64 x,[.v (.bool ao)])
def yY (m:iq):Nat->fi
 |0=> .cells [sV m.p.code,.own 3,zA m.p.tick,zA m.p.low,zA m.p.high,zA m.p.wide,zA m.p.dt,zA m.p.top,zA m.p.least,zA m.p.part,.own 4,.nm 1 0,.mp 2] 137
 |1=>zE m.s
 |2=> .map (zX m.used)
 |3=> .jc 1 (iE m.p.dm)
 |4=> .jc 1 (iE m.p.settle)
 |_=> .gone
def jX (m:iq):fi:= .qw iq 5 yY m
def JO:gi where
 ι:=ff
 pat:=λp=>[oe p]
 pre:=λ_=>[]
 dq:=λp=>p.small
 alts:=λp=>[{o:=Unit,res:=λ_=> .ja [.nm 0 0,zA 0],post:=λ_=>[jX ⟨p,bR p,[]⟩],rel:=λ_=>p.check=0},{o:=Unit,res:=λ_=> .ja [.d (.v (.pointer none)),zA p.check],post:=λ_=>[],rel:=λ_=>p.check≠0}]
def X' (a:ff) (b:ff):Prop:=True/\(0+(iE a.settle).length)*(8:Nat)<=(140737488355328:Nat)/\((∃(c:Unit),dj ((0:Int))/\dj (sb a.code)/\dj a.tick/\dj a.low/\dj a.high/\dj a.wide/\dj a.dt/\dj a.top/\dj a.least/\dj a.part/\zE (bR a)=zE (bR b)/\zX []=[]/\iE a.dm=[]++iE a.dm/\iE a.settle=[]++iE a.settle/\a.check=0)\/(∃(c:Unit),False))
def X4 (a:ff) (b:ff):Prop:=True/\True/\(0+(iE a.dm).length)*(8:Nat)<=(140737488355328:Nat)/\X' a b
def TD (a:ff):Prop:=(0:Int)=(0:Int)/\dj (sb a.code)/\dj a.tick/\dj a.low/\dj a.high/\dj a.wide/\dj a.dt/\dj a.top/\dj a.least/\dj a.part/\False
def Ye (a:ff):Prop:=True/\(0+(iE a.settle).length)*(8:Nat)<=(140737488355328:Nat)/\((∃(b:Unit),TD a)\/(∃(b:Unit),False))
def Xt (a:ff):Prop:=True/\True/\(0+(iE a.dm).length)*(8:Nat)<=(140737488355328:Nat)/\Ye a
def yTt (p:ff):Prop:=
 ∃(a:ff),sb a.code=sb p.code/\iE a.dm=iE p.dm/\a.tick=p.tick/\a.low=p.low/\a.high=p.high/\a.wide=p.wide/\a.dt=p.dt/\a.top=p.top/\a.least=p.least/\a.part=p.part/\iE a.settle=iE p.settle/\(zW a)/\(∀(b:Unit),a.check=0->(True/\True/\((0+(iE p.dm).length)*(8:Nat)<=(140737488355328:Nat)/\True/\X' p a)/\X4 p a)/\True/\True/\X4 p a)/\∀(b:Unit),a.check≠0->dq (a.check !=0) ((∃(c:Unit),False)\/(∃(c:Unit),True/\p.check=a.check/\(p.check=0->False))) ((True/\True/\((0+(iE p.dm).length)*(8:Nat)<=(140737488355328:Nat)/\True/\Ye p)/\Xt p)/\True/\True/\Xt p)
def y3y (p:ff) (h:JO.dq p):yTt p:=by
 unfold yTt Xt Ye TD X4 X' zW;obtain⟨h1,h2,h3⟩:p.small:=h;refine⟨p,?_⟩;simp only[y4]
 (repeat'(first|exact rfl|exact trivial|assumption|apply ar|refineλ(_:Unit) (_:True)=>?_|refine am () ?_|omega|(dsimp only;omega)))
 ·intro _ c
  (repeat'(first|exact rfl|exact trivial|assumption|apply ar|refineλ(_:Unit) (_:True)=>?_|refine am () ?_|omega|(dsimp only;omega)))
  all_goals(refine .inl ⟨(),?_⟩;(repeat'(first|exact rfl|exact trivial|assumption|apply ar|refineλ(_:Unit) (_:True)=>?_|refine am () ?_|omega|(dsimp only;omega))))
 ·intro _ c;refine Cv.dq.mk (λe=> .inr ⟨(),trivial,kp,c⟩) (λe=>absurd (by simpa using e) c)
def yOn:JO.ok Tryz.prog 127:=ib mixed (dx ySb fj) 0 (λ_=>[]) (λ_=>[]) [] Tryz.func127 y3y
def Dv:gi:=fp (List Int) (λl=>[iV l]) (λ_=>[]) (λl=>l.length<=1000000) (λl=>iV l) (λ_=>[])
structure qu where
 n:Int
 lo:Int
 hi:Int
def zG (n lo hi:Int):Int:=lo+n % (hi-lo+1)
def C9:gi:=fp qu (λi=>[zA i.n,zA i.lo,zA i.hi]) (λ_=>[]) (λi=>gx i.n/\-1000000<=i.lo/\i.lo<=i.hi/\i.hi<=1000000) (λi=>zA (zG i.n i.lo i.hi)) (λ_=>[])
def dP (dt:Int):ff:=⟨[67,76],[320,321,323],5,0,1000,200,dt,4,2,40,[500,505,490]⟩
def LF:gi:=fp Int (λn=>[zA n]) (λ_=>[]) (λ_=>True) (λn=>oe (dP n)) (λ_=>[])
def yQn (l:List Int):Prop:=
 ∀(b:Bool),(b=ao->iE l=[])->dq b (∃(o:Unit),iE l=[]/\True) ((0+(iE l).length)*(8:Nat)<=(140737488355328:Nat)/\∃(o:Unit),iE l=[]++iE l/\True)
def yFi (l:List Int):Prop:=
 ∀(b:Bool),(b=ao->iE l=[])->dq b (∃(o:Unit),iE l=[]/\True) ((0+(iE l).length)*(8:Nat)<=(140737488355328:Nat)/\∃(o:Unit),iE l=[]++iE l/\True)
def nM (a:qu):=(aq.wrap (aq.wrap (a.hi-a.lo)+1))
def yAe (i:qu):Prop:=
 aq=aq/\aq.wrap (aq.wrap (i.hi-i.lo)+1)≠0/\dq (decide (i.n.tmod (nM i)<0)) (∃(a:Unit),zG i.n i.lo i.hi=aq.wrap (i.lo+aq.wrap (aq.wrap (aq.wrap (i.n.tmod (nM i)+i.hi)-i.lo)+1))/\True) (∃(a:Unit),zG i.n i.lo i.hi=aq.wrap (i.lo+i.n.tmod (nM i))/\True)
def yGq (n:Int):Prop:=
 ∃(a:Unit),sb [(67:UInt8),(76:UInt8)]=ByteArray.mk #[(67:UInt8),(76:UInt8)]/\iE [(320:Int),(321:Int),(323:Int)]=[[dI 320],[dI 321],[dI 323]]/\dj ((5:Int))/\dj ((0:Int))/\dj ((1000:Int))/\dj ((200:Int))/\n=n/\dj ((4:Int))/\dj ((2:Int))/\dj ((40:Int))/\iE [(500:Int),(505:Int),(490:Int)]=[[dI 500],[dI 505],[dI 490]]/\True
def zUt:Dv.ok Tryz.prog 45:=ib (V:=yQn) mixed fj 0 (λ_=>[]) (λ_=>[]) [] Tryz.func45 λ(l:List Int) h=>by
 have h:l.length<=1000000:=h;exactλb hb=>Cv.dq.mk (λe=>⟨(),hb e,trivial⟩) (λ_=>⟨by rw[oa,y4];omega,(),rfl,trivial⟩)
def zMd:Dv.ok Tryz.prog 46:=ib (V:=yFi) mixed fj 0 (λ_=>[]) (λ_=>[]) [] Tryz.func46 λ(l:List Int) h=>by
 have h:l.length<=1000000:=h;exactλb hb=>Cv.dq.mk (λe=>⟨(),hb e,trivial⟩) (λ_=>⟨by rw[oa,y4];omega,(),rfl,trivial⟩)
def yLf:LF.ok Tryz.prog 67:=ib (V:=yGq) mixed fj 0 (λ_=>[]) (λ_=>[]) [] Tryz.func67 λ(n:Int) _=>by
 unfold yGq dI;exact kp
def yQf (i:qu) (h:C9.dq i):yAe i:=by
 obtain⟨⟨a1,a2⟩,a3,a4,a5⟩:gx i.n/\-1000000<=i.lo/\i.lo<=i.hi/\i.hi<=1000000:=h;unfold yAe nM;rw[iA (x:=i.hi-i.lo) (by omega),iA (x:=i.hi-i.lo+1) (by omega)];obtain⟨d,hd⟩:∃d:Int,i.hi-i.lo+1=d:=⟨_,rfl⟩
 rw[hd];have h1:i.n.tmod d=if 0<=i.n then i.n % d else-((-i.n) % d):=by
  split
  ·rename_i h;rw[au h]
  ·rename_i h;have:i.n= -(-i.n):=by omega
   conv=>lhs;rw[this]
   rw[Int.neg_tmod,au (by omega)]
 have qe:=MY i.n (show d≠0 by omega);have nh:=ON i.n (show 0<d by omega);have CR:=MY (-i.n) (show d≠0 by omega);have Vm:=ON (-i.n) (show 0<d by omega);have key:i.n.tmod d<0->i.n % d=i.n.tmod d+d:=λLr=>by
  have:=aw (a:=i.n.tmod d+d) (b:=d) (by rw[h1]at Lr ⊢;split at Lr<;>split<;>omega) oM;rw[<- this,Int.add_emod_right];have e:=Int.tmod_add_mul_tdiv i.n d
  conv=>lhs;rw[<- e]
  rw[av]
 have aap:¬i.n.tmod d<0->i.n % d=i.n.tmod d:=λLr=>by
  have gv:i.n.tmod d<d:=by rw[h1];split<;>omega
  have:=aw (a:=i.n.tmod d) (b:=d) oM gv;rw[<- this];have e:=Int.tmod_add_mul_tdiv i.n d
  conv=>lhs;rw[<- e]
  rw[av]
 refine⟨rfl,oM,zH (λc=>⟨(),?_,trivial⟩) (λc=>⟨(),?_,trivial⟩)⟩
 ·have k:=key c;rw[zG,hd,k];rw[iA (x:=i.n.tmod d+i.hi) (by omega),iA (x:=i.n.tmod d+i.hi-i.lo) (by omega),iA (x:=i.n.tmod d+i.hi-i.lo+1) (by omega),iA (by omega)];omega
 ·have k:=aap c;rw[zG,hd,k,iA (by omega)]
def X0:C9.ok Tryz.prog 33:=ib mixed fj 0 (λ_=>[]) (λ_=>[]) [] Tryz.func33 yQf
def BY (l:List (Int×Int)) (k:Int):Option Int:=(l.find? λx=>decide (x.1=k)).map (·.2)
def yOc (l:List (Int×Int)) (k:Int):∀p∈yS l,ma (ay aq k) p.1=ao:=by
 intro p hp;obtain⟨x,_,rfl⟩:=pj.1 hp;rfl
def rD (k:Int):∀l:List (Int×Int),kR (ay aq k) (yS l)=(BY l k).map λv=>[D.v (.int .i64 v)]
 |[]=>rfl
 |(a,v)::l=>by
  have ih:=rD k l;show(bif (wj .i64 .i64 && decide (k=a))then _ else kR _ (yS l))=_;by_cases h:k=a
  ·subst h;simp[BY,wj]
  ·have h':¬a=k:=λe=>h e.symm
   rw[show(wj .i64 .i64 && decide (k=a))=ap by simp[h],cond_false,ih];simp[BY,MX,h']
structure fq where
 kind:Int
 id:Int
 inst:Int
 side:Int
 dk:Int
 dr:Int
 left:Int
 oY:Int
 deriving DecidableEq
@[reducible] def y8b (r:fq):V:= .agg [zA r.kind,zA r.id,zA r.inst,zA r.side,zA r.dk,zA r.dr,zA r.left,zA r.oY]
def xP (r:fq):List D:=[.v (.int .i64 r.kind),.v (.int .i64 r.id),.v (.int .i64 r.inst),.v (.int .i64 r.side),.v (.int .i64 r.dk),.v (.int .i64 r.dr),.v (.int .i64 r.left),.v (.int .i64 r.oY)]
def IT (k v:Int):List (Int×Int)->List (Int×Int)
 |[]=>[(k,v)]
 |(a,b)::l=>if k=a then(a,v)::l else(a,b)::IT k v l
def KH (k:Int):List (Int×Int)->List (Int×Int)
 |[]=>[]
 |(a,b)::l=>if k=a then l else(a,b)::KH k l
def bj (t:Nat):gp:={ι:=Bool,dv:=λb=>[(t,yN b)],rows:=λ_=>[]}
def ij (t:Nat):gp:={ι:=Int,dv:=λn=>[(t,zA n)],rows:=λ_=>[]}
end Sx
