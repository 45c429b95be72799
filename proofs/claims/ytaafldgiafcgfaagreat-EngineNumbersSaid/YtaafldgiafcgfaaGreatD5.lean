/- Texts of ours. No condition. -/
import Derived.Test.YtaafldgiafcgfaaGreatD4
set_option linter.all false
open List renaming map->aa,take->ab,filter->ac,drop->ae,range->af
open Sx.AObj renaming fro->ag,cells->aj,own->ak
open Exists renaming intro->am
open Bool renaming true->ao,false->ap
open And renaming intro->aq
open Go.IntKind renaming i64->ar
open Go.Value renaming string->au,int->av
open Option renaming some->aw
namespace Sx
set_option maxRecDepth 100000
open Go Cv Go.Proofs
def elA {α:Type} {f:α->List D} {l:List α} {i g n:Nat} {x:α} {r:List D} (h:l[i]? =aw x) (hn:g+n<=(f x).length) (hr:((f x).drop g).take n=r):zE (l.map f) i g n=aw r:=by
 unfold zE;rw[y2n,h];simp only[y3b,Nat.ble_eq_true_of_le hn,cond_true,hr]
def zSa {a:Arena} {n:Int} {q:dO} (h0:0<=n) (h:a.queues[n.toNat]? =aw q):a.qAt n=q:=by
 have:=(y1c.1 h).1;rw[Arena.qAt,y1a ⟨h0,by omega⟩,y1h,h];rfl
def zJi {a:Arena} {n:Int} (h:¬(0<=n/\n<a.queues.length)):a.qAt n=⟨0,0,0,0⟩:=by rw[Arena.qAt,y0y h]
def zFb:atotalC.ok Tryz.prog 175:=okw (V:=z4g) mixed gok0 1 (λ_=>[]) (λ_=>[]) [0] Tryz.func175 λ(i:ArN) _=>by
 unfold z4g uY tJ kM dI;simp only[y0z];refine zH (λc=>Cv.cnd.mk (λd=> ?_) (λd=> ?_)) (λc=> ?_)
 ·have d:¬i.n<(i.a.queues.length:Int):=by simpa using d
  rw[zJi (by omega)];exact kp
 ·have d:i.n<(i.a.queues.length:Int):=by simpa using d
  obtain⟨q,hq⟩:=yE (l:=i.a.queues) (i:=i.n.toNat) oM;rw[zSa (by omega) hq];refine⟨⟨oM,oM⟩,q.total,elA hq (by simp[zN]) rfl,?_⟩;exact kp
 ·rw[zJi (by omega)];exact kp
def m9:acountC.ok Tryz.prog 176:=okw (V:=z5y) mixed gok0 1 (λ_=>[]) (λ_=>[]) [0] Tryz.func176 λ(i:ArN) _=>by
 unfold z5y uY sK kM dI;simp only[y0z];refine zH (λc=>Cv.cnd.mk (λd=> ?_) (λd=> ?_)) (λc=> ?_)
 ·have d:¬i.n<(i.a.queues.length:Int):=by simpa using d
  rw[zJi (by omega)];exact kp
 ·have d:i.n<(i.a.queues.length:Int):=by simpa using d
  obtain⟨q,hq⟩:=yE (l:=i.a.queues) (i:=i.n.toNat) oM;rw[zSa (by omega) hq];refine⟨⟨oM,oM⟩,q.count,elA hq (by simp[zN]) rfl,?_⟩;exact kp
 ·rw[zJi (by omega)];exact kp
def tF:bisC.ok Tryz.prog 154:=okw (V:=yVp) mixed gok0 0 (λ_=>[]) (λ_=>[]) [] Tryz.func154 λ(n:Int) _=>by
 unfold yVp;refine Cv.cnd.mk (λc=>⟨(),?_,trivial⟩) (λc=>⟨(),?_,trivial⟩)
 all_goals simp at c
 ·simp[c]
 ·by_cases h:n=2<;>simp[c,h]
def z3f:toldC.ok Tryz.prog 155:=okw (V:=yWo) mixed (gokc zFb (gokc m9 gok0)) 0 (λ_=>[]) (λ_=>[]) [0] Tryz.func155 λ(i:BkR) h=>by
 refine⟨⟨i.b.a,i.r.queue⟩,?_⟩;(repeat'(first|exact rfl|exact trivial|assumption|apply aq|refineλ(_:Unit) (_:True)=>?_|refine am () ?_|omega|(dsimp only;omega)));refine⟨⟨i.b.a,i.r.queue⟩,?_⟩;exact kp
def yGv:best1C.ok Tryz.prog 126:=okw (V:=yTj) mixed (gokc tF (gokc z3f gok0)) 0 (λ_=>[]) (λ_=>[]) [0] Tryz.func126 λ(b:Book) h=>by
 have h:b.cntOk:=h;refine⟨1,rfl,trivial,λ_ _=>Cv.cnd.mk (λc=>absurd c Z8) λ_=> ?_⟩;simp only[y0z];refine Cv.cnd.mk (λc=> ?_) (λc=> ?_)
 ·have hl:b.buys=[]:=y1z (by have:(b.buys.length:Int)=0:=(by simpa using c);omega);have e:b.best b.buys=(⟨0,0,0⟩,ap):=by rw[hl];rfl
  rw[e];exact kp
 ·obtain⟨r,l,hl⟩:∃r l,b.buys=r::l:=by
   cases hb:b.buys with
   |nil=>rw[hb]at c;exact absurd c Z8
   |cons r l=>exact⟨r,l,rfl⟩
  have e:b.best b.buys=(b.told r,ao):=by rw[hl];rfl
  rw[e];refine⟨⟨oM,by rw[hl,y1d];omega⟩,r.price,r.queue,elA (x:=r) (by rw[hl];rfl) (by simp[zB]) rfl,⟨b,r⟩,?_⟩;exact kp
def yGm:best2C.ok Tryz.prog 126:=okw (V:=yQu) mixed (gokc tF (gokc z3f gok0)) 0 (λ_=>[]) (λ_=>[]) [0] Tryz.func126 λ(b:Book) h=>by
 have h:b.cntOk:=h;refine⟨2,rfl,trivial,λ_ _=>Cv.cnd.mk (λc=>absurd c Z8) λ_=> ?_⟩;simp only[y0z];refine Cv.cnd.mk (λc=> ?_) (λc=> ?_)
 ·have hl:b.sells=[]:=y1z (by have:(b.sells.length:Int)=0:=(by simpa using c);omega);have e:b.best b.sells=(⟨0,0,0⟩,ap):=by rw[hl];rfl
  rw[e];exact kp
 ·obtain⟨r,l,hl⟩:∃r l,b.sells=r::l:=by
   cases hb:b.sells with
   |nil=>rw[hb]at c;exact absurd c Z8
   |cons r l=>exact⟨r,l,rfl⟩
  have e:b.best b.sells=(b.told r,ao):=by rw[hl];rfl
  rw[e];refine⟨⟨oM,by rw[hl,y1d];omega⟩,r.price,r.queue,elA (x:=r) (by rw[hl];rfl) (by simp[zB]) rfl,⟨b,r⟩,?_⟩;exact kp
def zJj:bestC.ok Tryz.prog 126:=λi=>match i with
 |⟨ap,b⟩=>yGv b
 |⟨ao,b⟩=>yGm b
def zKx {α:Type} (f:α->α) (x:α) (b:List α):∀a:List α,(a++x::b).modify a.length f=a++f x::b
 |[]=>rfl
 |y::a=>by
  show y::(a++x::b).modify a.length f=_;rw[zKx f x b a];rfl
def zOm {els:List (List D)} {a b:List (List D)} {x y ds:List D} {j f:Nat} (h:els=a++x::b) (hl:a.length=j) (hy:x.take f++(ds++x.drop (f+ds.length))=y):zW els j f ds=a++y::b:=by
 rw[zW,h,<- hl,zKx,hy]
def qD {s:MSt} {j:Nat} {x y:Top} {f:Nat} {ds:List D} (hj:j<s.books.length) (hy:(zZ x).take f++(ds++(zZ x).drop (f+ds.length))=zZ y):
 zW (aa zZ (xK s j x)) j f ds=aa zZ (xK s j y):=by
 rw[zOm (a:=(s.tops.take j).map zZ) (b:=(List.replicate (s.books.length-j-1) top0).map zZ) (by rw[xK,y1i,y1m]) (by
  rw[y0z,y1q,MSt.tops,y0z];omega) hy,xK,y1i,y1m]
def zMh {s:MSt} {j:Nat} {x:Top} (hj:j<s.books.length):(xK s j x).length=s.books.length:=by
 rw[xK,y0x,y1d,y1q,MSt.tops,y0z,y3v];omega
def zHx {s:MSt} {j:Nat} (hj:j<s.books.length):xK s j top0=xQ s j:=by
 rw[xK,xQ];obtain⟨m,hm⟩:∃m,s.books.length-j=m+1:=⟨s.books.length-j-1,oM⟩
 rw[hm,y5e];rfl
def zIc {s:MSt} {j:Nat} {b:Book} (hb:s.books[j]? =aw b):xK s j b.top=xQ s (j+1):=by
 have hj:=(y1c.1 hb).1;rw[xK,xQ,y2e,show s.tops[j]? =aw b.top by rw[MSt.tops,y2n,hb];rfl];simp only[y3z,y1e,y2p,y3k];rw[show s.books.length-j-1=s.books.length-(j+1)by omega]
def gV {α:Type} {l:List α} {j:Nat} {x:α} (h:l[j]? =aw x):l.set j x=l:=by
 obtain⟨hj,rfl⟩:=y1c.1 h;exact List.set_getElem_self hj
def yVm (s:MSt) (h:topsC.cnd s):yNs s:=by
 obtain⟨h1,h2⟩:s.cntOk:=h;unfold yNs zJx zDl hJ vJ Vtopst340 qA wG gA cS cX zEy lO eB fC c8 lQ fN fG zX cP vT dI;have p48:(2:Int) ^ (48:Nat)=281474976710656:=by decide
 refine⟨⟨oM,oM,oM,by rw[p48];omega⟩,0,rfl,?_,λj=>j<=s.books.length,λj=>s.books.length-j,oM,λj hj=>zH (λhlt=> ?_) (λhlt=> ?_)⟩
 ·rw[xQ,y1i,List.map_replicate];rfl
 ·have hj':j<s.books.length:=by omega
  obtain⟨b,hb⟩:=yE hj';have hc:=h2 b (y1j hb);simp only[y1o];have ha:∀x,(aa zZ (xK s j x)).length=s.books.length:=λx=>by rw[y0z,zMh hj']
  have w1:ar.wrap (0+1)=1:=by decide
  have w2:(0+1) % ((2:Int) ^ ar.bits).natAbs=1:=by decide
  refine⟨⟨oM,oM⟩,oM,(j,top0),by rw[zHx hj'],λx=>x=(j,top0.buy (b.best b.buys)),⟨⟨Z8,Z8⟩,1,rfl,b,hb,⟨ap,b⟩,rfl,rfl,hc,λ_ _=>⟨b,rfl,kp,oM,?_⟩⟩,?_⟩
  ·refine Cv.cnd.mk (λc=> ?_) (λc=> ?_)
   ·have c:(b.best b.buys).2=ao:=c;have e1:=qD (s:=s) hj' (x:=top0) (y:={top0 with has1:=ao}) (f:=0+0+0*1) (ds:=[D.v (.bool ao)]) rfl;have e2:=qD (s:=s) hj' (x:={top0 with has1:=ao}) (y:={top0 with has1:=ao,p1:=(b.best b.buys).1.price}) (f:=0+2+0*1) (ds:=[D.v (.int .i64 (b.best b.buys).1.price)]) rfl;have e3:=qD (s:=s) hj' (x:={top0 with has1:=ao,p1:=(b.best b.buys).1.price}) (y:={top0 with has1:=ao,p1:=(b.best b.buys).1.price,q1:=(b.best b.buys).1.qty}) (f:=0+4+0*1) (ds:=[D.v (.int .i64 (b.best b.buys).1.qty)]) rfl;dsimp only;simp only[show b.side ap=b.buys from rfl,e1,e2,e3,ha]
    (repeat'(first|exact rfl|exact trivial|assumption|apply aq|refineλ(_:Unit) (_:True)=>?_|refine am () ?_|omega|(dsimp only;omega)))
    refine⟨(j,{top0 with has1:=ao,p1:=(b.best b.buys).1.price,q1:=(b.best b.buys).1.qty}),rfl,?_,?_⟩
    ·rw[Top.buy,y1a c]
    ·(repeat'(first|exact rfl|exact trivial|assumption|apply aq|refineλ(_:Unit) (_:True)=>?_|refine am () ?_|omega|(dsimp only;omega)))
     rw[gV hb]
   ·have c:(b.best b.buys).2=ap:=c;refine⟨(j,top0),rfl,?_,?_⟩
    ·rw[Top.buy,y0y (by rw[c];simp)]
    ·(repeat'(first|exact rfl|exact trivial|assumption|apply aq|refineλ(_:Unit) (_:True)=>?_|refine am () ?_|omega|(dsimp only;omega)))
     rw[gV hb]
  ·rintro _ rfl;rw[w1];generalize hx:top0.buy (b.best b.buys)=x;have hx2:b.top=x.sell (b.best b.sells):=by rw[Book.top,hx]
   refine⟨(j,x),rfl,λy=>y=(j,b.top),⟨⟨Z8,Z8⟩,2,rfl,b,hb,⟨ao,b⟩,rfl,rfl,hc,λ_ _=>⟨b,rfl,kp,oM,?_⟩⟩,?_⟩
   ·refine Cv.cnd.mk (λc=> ?_) (λc=> ?_)
    ·have c:(b.best b.sells).2=ao:=c;have e1:=qD (s:=s) hj' (x:=x) (y:={x with has2:=ao}) (f:=0+0+1*1) (ds:=[D.v (.bool ao)]) rfl;have e2:=qD (s:=s) hj' (x:={x with has2:=ao}) (y:={x with has2:=ao,p2:=(b.best b.sells).1.price}) (f:=0+2+1*1) (ds:=[D.v (.int .i64 (b.best b.sells).1.price)]) rfl;have e3:=qD (s:=s) hj' (x:={x with has2:=ao,p2:=(b.best b.sells).1.price}) (y:={x with has2:=ao,p2:=(b.best b.sells).1.price,q2:=(b.best b.sells).1.qty}) (f:=0+4+1*1) (ds:=[D.v (.int .i64 (b.best b.sells).1.qty)]) rfl;dsimp only;simp only[w2,show b.side ao=b.sells from rfl,e1,e2,e3,ha]
     (repeat'(first|exact rfl|exact trivial|assumption|apply aq|refineλ(_:Unit) (_:True)=>?_|refine am () ?_|omega|(dsimp only;omega)))
     refine⟨(j,{x with has2:=ao,p2:=(b.best b.sells).1.price,q2:=(b.best b.sells).1.qty}),rfl,?_,?_⟩
     ·rw[hx2,Top.sell,y1a c]
     ·(repeat'(first|exact rfl|exact trivial|assumption|apply aq|refineλ(_:Unit) (_:True)=>?_|refine am () ?_|omega|(dsimp only;omega)))
      rw[gV hb]
    ·have c:(b.best b.sells).2=ap:=c;refine⟨(j,x),rfl,?_,?_⟩
     ·rw[hx2,Top.sell,y0y (by rw[c];simp)]
     ·(repeat'(first|exact rfl|exact trivial|assumption|apply aq|refineλ(_:Unit) (_:True)=>?_|refine am () ?_|omega|(dsimp only;omega)))
      rw[gV hb]
   ·rintro _ rfl;refine⟨j+1,by rw[w64 (by omega)];rfl,?_⟩;refine⟨by dsimp only;rw[zIc hb],?_⟩;exact kp
 ·have hj:j<=s.books.length:=hj;obtain rfl:j=s.books.length:=by omega
  have e:xQ s s.books.length=s.tops:=by
   rw[xQ,y6g,List.replicate_zero,y1t,y1k (by rw[MSt.tops,y0z];omega)]
  rw[e];exact kp
def yHs:topsC.ok Tryz.prog 76:=okw mixed (gokc zJj gok0) 0 (λs=>yMr s) (λs=>yNf s) [0] Tryz.func76 yVm
def zKb:copySC.ok Tryz.prog 82:=okw (V:=ySd) mixed (gokc yKr (gokc yAc gok0)) 0 (λ_=>[]) (λs=>yQh s) [0] Tryz.func82 λ(s:MSt) h=>by
 obtain⟨h1,h2⟩:s.small:=h;refine⟨yM s.wh,?_⟩;(repeat'(first|exact rfl|exact trivial|assumption|apply aq|refineλ(_:Unit) (_:True)=>?_|refine am () ?_|omega|(dsimp only;omega)));refine⟨0,?_⟩;(repeat'(first|exact rfl|exact trivial|assumption|apply aq|refineλ(_:Unit) (_:True)=>?_|refine am () ?_|omega|(dsimp only;omega)));refine⟨λj=>j<=s.books.length,λj=>s.books.length-j,oM,λj hj=>zH (λhlt=> ?_) (λhlt=> ?_)⟩
 ·obtain⟨b,hb⟩:=yE (l:=s.books) (i:=j) oM;have hs:=h2 b (y1j hb);simp only[y1o];refine⟨⟨oM,oM⟩,oM,b,hb,b,rfl,hs,λ_ _=>⟨b,rfl,kp,oM,trivial,trivial,s.books.take j,rfl,?_,j+1,?_⟩⟩
  ·rw[y1q];omega
  ·rw[w64 (by omega),y2e,hb]
   (repeat'(first|exact rfl|exact trivial|assumption|apply aq|refineλ(_:Unit) (_:True)=>?_|refine am () ?_|omega|(dsimp only;omega)))
   rw[gV hb]
 ·have hj:j<=s.books.length:=hj;obtain rfl:j=s.books.length:=by omega
  rw[y1k (y1u _)];exact kp
structure Leg where
 inst:Int
 side:Int
 deriving DecidableEq
structure Quote where
 price:Int
 qty:Int
 a:Leg
 b:Leg
 deriving DecidableEq
def zI (q:Quote):List D:=[.v (.int .i64 q.price),.v (.int .i64 q.qty),.v (.int .i64 q.a.inst),.v (.int .i64 q.a.side),.v (.int .i64 q.b.inst),.v (.int .i64 q.b.side)]
@[reducible] def zTr (q:Quote):V:= .agg [zA q.price,zA q.qty,zA q.a.inst,zA q.a.side,zA q.b.inst,zA q.b.side]
def yPq:Quote:=⟨0,0,⟨0,0⟩,⟨0,0⟩⟩
structure I3' where
 side:Int
 x:Int
 y:Int
def btr (side x y:Int):Bool:=if side=1 then decide (y<x)else decide (x<y)
def iotherC:Con:=zR Int (λn=>[zA n]) (λ_=>[]) (λn=>n=1\/n=2) (λn=>zA (3-n)) (λ_=>[])
def ibetterC:Con:=zR I3' (λi=>[zA i.side,zA i.x,zA i.y]) (λ_=>[]) (λ_=>True) (λi=>yT (btr i.side i.x i.y)) (λ_=>[])
def Top.has (t:Top) (s:Int):Bool:=if s=1 then t.has1 else t.has2
def Top.price (t:Top) (s:Int):Int:=if s=1 then t.p1 else t.p2
def Top.qty (t:Top) (s:Int):Int:=if s=1 then t.q1 else t.q2
def mkq (tops:List Top) (a b:Leg) (less:Bool):List Quote:=
 let x:=tops.getD a.inst.toNat top0
 let y:=tops.getD b.inst.toNat top0
 let r:=if less then uH (y.price b.side) (x.price a.side)else uB (x.price a.side) (y.price b.side)
 if x.has a.side && y.has b.side && r.2 then[⟨r.1,min (x.qty a.side) (y.qty b.side),a,b⟩]else[]
structure MkI where
 tops:List Top
 out:List Quote
 a:Int
 b:Int
 less:Bool
@[reducible] def wJ (l:List Top):Prop:=l.length<=1000000/\∀t∈l,y9 t.p1/\y9 t.p2
def MkU (x:List Top×List Quote):Nat->AObj
 |0=> .cells [.own 1,.own 2] 258
 |1=> .fro 6 (x.1.map zZ)
 |2=> .own 172 6 (x.2.map zI)
 |_=> .gone
@[reducible] def MkR (tops:List Top) (out:List Quote):List AObj:=[MkU (tops,out) 0,MkU (tops,out) 1,MkU (tops,out) 2]
@[reducible] def MkP (tops:List Top) (out:List Quote):List AObj:=[.cells [.own 1,.own 3] 258,MkU (tops,out) 1,.gone,MkU (tops,out) 2]
def mkC (sa sb:Int):Con:=zR MkI (λi=>[.nm 0 0,.agg [zA i.a,zA sa],.agg [zA i.b,zA sb],yT i.less]) (λi=>MkR i.tops i.out)
 (λi=>0<=i.a/\i.a<i.tops.length/\0<=i.b/\i.b<i.tops.length/\wJ i.tops/\i.out.length<=1000) (λ_=>aU) (λi=>MkP i.tops (i.out++mkq i.tops ⟨i.a,sa⟩ ⟨i.b,sb⟩ i.less))
def mk11:Con:=mkC 1 1
def mk12:Con:=mkC 1 2
def mk21:Con:=mkC 2 1
def mk22:Con:=mkC 2 2
def yKc (n:Int):Prop:=
 ∃(o:Unit),3-n=ar.wrap (3-n)/\True
def yDd (i:I3'):Prop:=
 cnd (i.side==1) (∃(o:Unit),btr i.side i.x i.y=decide (i.x>i.y)/\True) (∃(o:Unit),btr i.side i.x i.y=decide (i.x<i.y)/\True)
def eD (a:MkI):=(a.out++mkq a.tops (Leg.mk a.a 1) (Leg.mk a.b 1) a.less)
def nD (a:MkI):Prop:=∃(b:Unit),ag 6 (aa zZ a.tops)=MkU (a.tops,a.out) 1/\aa zI (eD a)=aa zI a.out/\True
def kH (a:I2):Prop:=((-9223372036854775808)<=a.x/\a.x<=9223372036854775807)/\(-9223372036854775808)<=a.y/\a.y<=9223372036854775807
def x9 (a:MkI):=(↑(aa zZ a.tops).length:Int)
def xU (a:MkI):Prop:=(0<=a.b/\a.b<(x9 a))/\da a.b.toNat
def kF (a:MkI):Prop:=(0<=a.a/\a.a<(x9 a))/\da a.a.toNat
def kI (a:MkI):=((aa zI a.out).length+1)
def zMb (a:MkI) (b:Bool) (c:Bool) (d:Int) (e:Int) (f:Int) (g:Int):Prop:=True/\(xU a)/\a.b=a.b/\True/\True/\(kF a)/\a.a=a.a/\True/\True/\(xU a)/\a.b=a.b/\True/\True/\(kF a)/\a.a=a.a/\True/\True/\(xU a)/\a.b=a.b/\True/\cnd (!b) (nD a) (cnd (!c) (nD a) (∃(h:I2),h.x=d/\h.y=e/\(kH h)/\∀(j:Unit),True->cnd a.less (∃(k:I2),k.x=e/\k.y=d/\(kH k)/\∀(l:Unit),True->cnd (uH k.x k.y).snd (True/\(kI a)*(48:Nat)<=(140737488355328:Nat)/\∃(m:Unit),ag 6 (aa zZ a.tops)=MkU (a.tops,a.out) 1/\aa zI (eD a)=aa zI a.out++[[dI ((uH k.x k.y).fst),dI (min f g),dI a.a,dI 1,dI a.b,dI 1]]/\True) (nD a)) (cnd (uB h.x h.y).snd (True/\(kI a)*(48:Nat)<=(140737488355328:Nat)/\∃(k:Unit),ag 6 (aa zZ a.tops)=MkU (a.tops,a.out) 1/\aa zI (eD a)=aa zI a.out++[[dI ((uB h.x h.y).fst),dI (min f g),dI a.a,dI 1,dI a.b,dI 1]]/\True) (nD a))))
def yNl (i:MkI):Prop:=
 (0<=i.a/\i.a<(x9 i))/\∃(a:Bool),∃(b:Bool),∃(c:Int),∃(d:Int),∃(e:Int),∃(f:Int),zE (aa zZ i.tops) i.a.toNat 0 6=aw [D.v (.bool a),D.v (.bool b),dI c,dI d,dI e,dI f]/\(0<=i.b/\i.b<(x9 i))/\∃(g:Bool),∃(h:Bool),∃(j:Int),∃(k:Int),∃(l:Int),∃(m:Int),zE (aa zZ i.tops) i.b.toNat 0 6=aw [D.v (.bool g),D.v (.bool h),dI j,dI k,dI l,dI m]/\(zMb i a g c j e l)/\zMb i a g c j e l
def eL (a:MkI):=(a.out++mkq a.tops (Leg.mk a.a 1) (Leg.mk a.b 2) a.less)
def mK (a:MkI):Prop:=∃(b:Unit),ag 6 (aa zZ a.tops)=MkU (a.tops,a.out) 1/\aa zI (eL a)=aa zI a.out/\True
def zNl (a:MkI) (b:Bool) (c:Bool) (d:Int) (e:Int) (f:Int) (g:Int):Prop:=True/\(xU a)/\a.b=a.b/\True/\True/\(kF a)/\a.a=a.a/\True/\True/\(xU a)/\a.b=a.b/\True/\True/\(kF a)/\a.a=a.a/\True/\True/\(xU a)/\a.b=a.b/\True/\cnd (!b) (mK a) (cnd (!c) (mK a) (∃(h:I2),h.x=d/\h.y=e/\(kH h)/\∀(j:Unit),True->cnd a.less (∃(k:I2),k.x=e/\k.y=d/\(kH k)/\∀(l:Unit),True->cnd (uH k.x k.y).snd (True/\(kI a)*(48:Nat)<=(140737488355328:Nat)/\∃(m:Unit),ag 6 (aa zZ a.tops)=MkU (a.tops,a.out) 1/\aa zI (eL a)=aa zI a.out++[[dI ((uH k.x k.y).fst),dI (min f g),dI a.a,dI 1,dI a.b,dI 2]]/\True) (mK a)) (cnd (uB h.x h.y).snd (True/\(kI a)*(48:Nat)<=(140737488355328:Nat)/\∃(k:Unit),ag 6 (aa zZ a.tops)=MkU (a.tops,a.out) 1/\aa zI (eL a)=aa zI a.out++[[dI ((uB h.x h.y).fst),dI (min f g),dI a.a,dI 1,dI a.b,dI 2]]/\True) (mK a))))
def yMh (i:MkI):Prop:=
 (0<=i.a/\i.a<(x9 i))/\∃(a:Bool),∃(b:Bool),∃(c:Int),∃(d:Int),∃(e:Int),∃(f:Int),zE (aa zZ i.tops) i.a.toNat 0 6=aw [D.v (.bool a),D.v (.bool b),dI c,dI d,dI e,dI f]/\(0<=i.b/\i.b<(x9 i))/\∃(g:Bool),∃(h:Bool),∃(j:Int),∃(k:Int),∃(l:Int),∃(m:Int),zE (aa zZ i.tops) i.b.toNat 0 6=aw [D.v (.bool g),D.v (.bool h),dI j,dI k,dI l,dI m]/\(zNl i a h c k e m)/\zNl i a h c k e m
def eF (a:MkI):=(a.out++mkq a.tops (Leg.mk a.a 2) (Leg.mk a.b 1) a.less)
def nC (a:MkI):Prop:=∃(b:Unit),ag 6 (aa zZ a.tops)=MkU (a.tops,a.out) 1/\aa zI (eF a)=aa zI a.out/\True
def zMp (a:MkI) (b:Bool) (c:Bool) (d:Int) (e:Int) (f:Int) (g:Int):Prop:=True/\(xU a)/\a.b=a.b/\True/\True/\(kF a)/\a.a=a.a/\True/\True/\(xU a)/\a.b=a.b/\True/\True/\(kF a)/\a.a=a.a/\True/\True/\(xU a)/\a.b=a.b/\True/\cnd (!b) (nC a) (cnd (!c) (nC a) (∃(h:I2),h.x=d/\h.y=e/\(kH h)/\∀(j:Unit),True->cnd a.less (∃(k:I2),k.x=e/\k.y=d/\(kH k)/\∀(l:Unit),True->cnd (uH k.x k.y).snd (True/\(kI a)*(48:Nat)<=(140737488355328:Nat)/\∃(m:Unit),ag 6 (aa zZ a.tops)=MkU (a.tops,a.out) 1/\aa zI (eF a)=aa zI a.out++[[dI ((uH k.x k.y).fst),dI (min f g),dI a.a,dI 2,dI a.b,dI 1]]/\True) (nC a)) (cnd (uB h.x h.y).snd (True/\(kI a)*(48:Nat)<=(140737488355328:Nat)/\∃(k:Unit),ag 6 (aa zZ a.tops)=MkU (a.tops,a.out) 1/\aa zI (eF a)=aa zI a.out++[[dI ((uB h.x h.y).fst),dI (min f g),dI a.a,dI 2,dI a.b,dI 1]]/\True) (nC a))))
def yMd (i:MkI):Prop:=
 (0<=i.a/\i.a<(x9 i))/\∃(a:Bool),∃(b:Bool),∃(c:Int),∃(d:Int),∃(e:Int),∃(f:Int),zE (aa zZ i.tops) i.a.toNat 0 6=aw [D.v (.bool a),D.v (.bool b),dI c,dI d,dI e,dI f]/\(0<=i.b/\i.b<(x9 i))/\∃(g:Bool),∃(h:Bool),∃(j:Int),∃(k:Int),∃(l:Int),∃(m:Int),zE (aa zZ i.tops) i.b.toNat 0 6=aw [D.v (.bool g),D.v (.bool h),dI j,dI k,dI l,dI m]/\(zMp i b g d j f l)/\zMp i b g d j f l
def lE (a:MkI):=(a.out++mkq a.tops (Leg.mk a.a 2) (Leg.mk a.b 2) a.less)
def mY (a:MkI):Prop:=∃(b:Unit),ag 6 (aa zZ a.tops)=MkU (a.tops,a.out) 1/\aa zI (lE a)=aa zI a.out/\True
def zNn (a:MkI) (b:Bool) (c:Bool) (d:Int) (e:Int) (f:Int) (g:Int):Prop:=True/\(xU a)/\a.b=a.b/\True/\True/\(kF a)/\a.a=a.a/\True/\True/\(xU a)/\a.b=a.b/\True/\True/\(kF a)/\a.a=a.a/\True/\True/\(xU a)/\a.b=a.b/\True/\cnd (!b) (mY a) (cnd (!c) (mY a) (∃(h:I2),h.x=d/\h.y=e/\(kH h)/\∀(j:Unit),True->cnd a.less (∃(k:I2),k.x=e/\k.y=d/\(kH k)/\∀(l:Unit),True->cnd (uH k.x k.y).snd (True/\(kI a)*(48:Nat)<=(140737488355328:Nat)/\∃(m:Unit),ag 6 (aa zZ a.tops)=MkU (a.tops,a.out) 1/\aa zI (lE a)=aa zI a.out++[[dI ((uH k.x k.y).fst),dI (min f g),dI a.a,dI 2,dI a.b,dI 2]]/\True) (mY a)) (cnd (uB h.x h.y).snd (True/\(kI a)*(48:Nat)<=(140737488355328:Nat)/\∃(k:Unit),ag 6 (aa zZ a.tops)=MkU (a.tops,a.out) 1/\aa zI (lE a)=aa zI a.out++[[dI ((uB h.x h.y).fst),dI (min f g),dI a.a,dI 2,dI a.b,dI 2]]/\True) (mY a))))
def yNy (i:MkI):Prop:=
 (0<=i.a/\i.a<(x9 i))/\∃(a:Bool),∃(b:Bool),∃(c:Int),∃(d:Int),∃(e:Int),∃(f:Int),zE (aa zZ i.tops) i.a.toNat 0 6=aw [D.v (.bool a),D.v (.bool b),dI c,dI d,dI e,dI f]/\(0<=i.b/\i.b<(x9 i))/\∃(g:Bool),∃(h:Bool),∃(j:Int),∃(k:Int),∃(l:Int),∃(m:Int),zE (aa zZ i.tops) i.b.toNat 0 6=aw [D.v (.bool g),D.v (.bool h),dI j,dI k,dI l,dI m]/\(zNn i b h d k f m)/\zNn i b h d k f m
def zQn:iotherC.ok Tryz.prog 156:=okw (V:=yKc) mixed gok0 0 (λ_=>[]) (λ_=>[]) [] Tryz.func156 λ(n:Int) h=>by
 have h:n=1\/n=2:=h;refine⟨(),?_,trivial⟩;rw[w64 (by omega)]
def z1u:ibetterC.ok Tryz.prog 134:=okw (V:=yDd) mixed gok0 0 (λ_=>[]) (λ_=>[]) [] Tryz.func134 λ(i:I3') _=>by
 refine Cv.cnd.mk (λe=>⟨(),?_,trivial⟩) (λe=>⟨(),?_,trivial⟩)
 ·have e:i.side=1:=by simpa using e
  simp[btr,e]
 ·have e:i.side≠1:=by simpa using e
  simp[btr,e]
def yLm (a b:Int):(if b<a then b else a)=min a b:=by split<;>omega
def yUp (i:MkI) (h:mk11.cnd i):yNl i:=by
 obtain⟨a0,a1,b0,b1,⟨ht,hp⟩,ho⟩:0<=i.a/\i.a<i.tops.length/\0<=i.b/\i.b<i.tops.length/\wJ i.tops/\i.out.length<=1000:=h;obtain⟨x,hx⟩:=yE (l:=i.tops) (i:=i.a.toNat) oM;obtain⟨y,hy⟩:=yE (l:=i.tops) (i:=i.b.toNat) oM;obtain⟨⟨px1,px2⟩,px3,px4⟩:=hp x (y1j hx);obtain⟨⟨py1,py2⟩,py3,py4⟩:=hp y (y1j hy);have e0:mkq i.tops ⟨i.a,1⟩ ⟨i.b,1⟩ i.less=if x.has1 && y.has1 && (if i.less then uH y.p1 x.p1 else uB x.p1 y.p1).2 then[⟨(if i.less then uH y.p1 x.p1 else uB x.p1 y.p1).1,min x.q1 y.q1,⟨i.a,1⟩,⟨i.b,1⟩⟩]else[]:=by
  simp only[mkq,y1h,hx,hy,y3i];rfl
 unfold yNl zMb kI kF xU x9 kH nD eD dI;simp only[y0z];refine⟨⟨oM,oM⟩,x.has1,x.has2,x.p1,x.p2,x.q1,x.q2,elA hx (by simp[zZ]) rfl,⟨oM,oM⟩,y.has1,y.has2,y.p1,y.p2,y.q1,y.q2,elA hy (by simp[zZ]) rfl,?_⟩;rw[e0]
 (repeat'(first|exact rfl|exact trivial|assumption|apply aq|refineλ(_:Unit) (_:True)=>?_|refine am () ?_|omega|(dsimp only;omega)))
 all_goals
  refine Cv.cnd.mk (λc1=> ?_) (λc1=>Cv.cnd.mk (λc2=> ?_) (λc2=> ?_))
  ·have c1:x.has1=ap:=by simpa using c1
   simp only[c1,y4g,y1p,if_false,y1t];exact kp
  ·have c2:y.has1=ap:=by simpa using c2
   simp only[c2,y5x,y4g,y1p,if_false,y1t];exact kp
  ·have c1:x.has1=ao:=by simpa using c1
   have c2:y.has1=ao:=by simpa using c2
   simp only[c1,c2,y4b,yLm];refine⟨⟨x.p1,y.p1⟩,?_⟩
   (repeat'(first|exact rfl|exact trivial|assumption|apply aq|refineλ(_:Unit) (_:True)=>?_|refine am () ?_|omega|(dsimp only;omega)))
   refine Cv.cnd.mk (λc3=> ?_) (λc3=> ?_)
   ·have c3:i.less=ao:=c3;simp only[c3,if_true];refine⟨⟨y.p1,x.p1⟩,?_⟩
    (repeat'(first|exact rfl|exact trivial|assumption|apply aq|refineλ(_:Unit) (_:True)=>?_|refine am () ?_|omega|(dsimp only;omega)))
    refine Cv.cnd.mk (λc4=> ?_) (λc4=> ?_)
    ·have c4:(uH y.p1 x.p1).2=ao:=c4;simp only[c4,if_true,y1i];exact kp
    ·have c4:(uH y.p1 x.p1).2=ap:=c4;simp only[c4,y1p,if_false,y1t];exact kp
   ·have c3:i.less=ap:=c3;simp only[c3,y1p,if_false];refine Cv.cnd.mk (λc4=> ?_) (λc4=> ?_)
    ·have c4:(uB x.p1 y.p1).2=ao:=c4;simp only[c4,if_true,y1i];exact kp
    ·have c4:(uB x.p1 y.p1).2=ap:=c4;simp only[c4,y1p,if_false,y1t];exact kp
def yLi:mk11.ok Tryz.prog 157:=okw mixed (gokc zRm (gokc zTx gok0)) 0 (λ_=>[]) (λ_=>[]) [] Tryz.func157 yUp
def yXz (i:MkI) (h:mk12.cnd i):yMh i:=by
 obtain⟨a0,a1,b0,b1,⟨ht,hp⟩,ho⟩:0<=i.a/\i.a<i.tops.length/\0<=i.b/\i.b<i.tops.length/\wJ i.tops/\i.out.length<=1000:=h;obtain⟨x,hx⟩:=yE (l:=i.tops) (i:=i.a.toNat) oM;obtain⟨y,hy⟩:=yE (l:=i.tops) (i:=i.b.toNat) oM;obtain⟨⟨px1,px2⟩,px3,px4⟩:=hp x (y1j hx);obtain⟨⟨py1,py2⟩,py3,py4⟩:=hp y (y1j hy);have e0:mkq i.tops ⟨i.a,1⟩ ⟨i.b,2⟩ i.less=if x.has1 && y.has2 && (if i.less then uH y.p2 x.p1 else uB x.p1 y.p2).2 then[⟨(if i.less then uH y.p2 x.p1 else uB x.p1 y.p2).1,min x.q1 y.q2,⟨i.a,1⟩,⟨i.b,2⟩⟩]else[]:=by
  simp only[mkq,y1h,hx,hy,y3i];rfl
 unfold yMh zNl mK eL kI kF xU kH x9 dI;simp only[y0z];refine⟨⟨oM,oM⟩,x.has1,x.has2,x.p1,x.p2,x.q1,x.q2,elA hx (by simp[zZ]) rfl,⟨oM,oM⟩,y.has1,y.has2,y.p1,y.p2,y.q1,y.q2,elA hy (by simp[zZ]) rfl,?_⟩;rw[e0]
 (repeat'(first|exact rfl|exact trivial|assumption|apply aq|refineλ(_:Unit) (_:True)=>?_|refine am () ?_|omega|(dsimp only;omega)))
 all_goals
  refine Cv.cnd.mk (λc1=> ?_) (λc1=>Cv.cnd.mk (λc2=> ?_) (λc2=> ?_))
  ·have c1:x.has1=ap:=by simpa using c1
   simp only[c1,y4g,y1p,if_false,y1t];exact kp
  ·have c2:y.has2=ap:=by simpa using c2
   simp only[c2,y5x,y4g,y1p,if_false,y1t];exact kp
  ·have c1:x.has1=ao:=by simpa using c1
   have c2:y.has2=ao:=by simpa using c2
   simp only[c1,c2,y4b,yLm];refine⟨⟨x.p1,y.p2⟩,?_⟩
   (repeat'(first|exact rfl|exact trivial|assumption|apply aq|refineλ(_:Unit) (_:True)=>?_|refine am () ?_|omega|(dsimp only;omega)))
   refine Cv.cnd.mk (λc3=> ?_) (λc3=> ?_)
   ·have c3:i.less=ao:=c3;simp only[c3,if_true];refine⟨⟨y.p2,x.p1⟩,?_⟩
    (repeat'(first|exact rfl|exact trivial|assumption|apply aq|refineλ(_:Unit) (_:True)=>?_|refine am () ?_|omega|(dsimp only;omega)))
    refine Cv.cnd.mk (λc4=> ?_) (λc4=> ?_)
    ·have c4:(uH y.p2 x.p1).2=ao:=c4;simp only[c4,if_true,y1i];exact kp
    ·have c4:(uH y.p2 x.p1).2=ap:=c4;simp only[c4,y1p,if_false,y1t];exact kp
   ·have c3:i.less=ap:=c3;simp only[c3,y1p,if_false];refine Cv.cnd.mk (λc4=> ?_) (λc4=> ?_)
    ·have c4:(uB x.p1 y.p2).2=ao:=c4;simp only[c4,if_true,y1i];exact kp
    ·have c4:(uB x.p1 y.p2).2=ap:=c4;simp only[c4,y1p,if_false,y1t];exact kp
def yIe:mk12.ok Tryz.prog 157:=okw mixed (gokc zRm (gokc zTx gok0)) 0 (λ_=>[]) (λ_=>[]) [] Tryz.func157 yXz
def yVf (i:MkI) (h:mk21.cnd i):yMd i:=by
 obtain⟨a0,a1,b0,b1,⟨ht,hp⟩,ho⟩:0<=i.a/\i.a<i.tops.length/\0<=i.b/\i.b<i.tops.length/\wJ i.tops/\i.out.length<=1000:=h;obtain⟨x,hx⟩:=yE (l:=i.tops) (i:=i.a.toNat) oM;obtain⟨y,hy⟩:=yE (l:=i.tops) (i:=i.b.toNat) oM;obtain⟨⟨px1,px2⟩,px3,px4⟩:=hp x (y1j hx);obtain⟨⟨py1,py2⟩,py3,py4⟩:=hp y (y1j hy);have e0:mkq i.tops ⟨i.a,2⟩ ⟨i.b,1⟩ i.less=if x.has2 && y.has1 && (if i.less then uH y.p1 x.p2 else uB x.p2 y.p1).2 then[⟨(if i.less then uH y.p1 x.p2 else uB x.p2 y.p1).1,min x.q2 y.q1,⟨i.a,2⟩,⟨i.b,1⟩⟩]else[]:=by
  simp only[mkq,y1h,hx,hy,y3i];rfl
 unfold yMd zMp nC eF kI kF xU kH x9 dI;simp only[y0z];refine⟨⟨oM,oM⟩,x.has1,x.has2,x.p1,x.p2,x.q1,x.q2,elA hx (by simp[zZ]) rfl,⟨oM,oM⟩,y.has1,y.has2,y.p1,y.p2,y.q1,y.q2,elA hy (by simp[zZ]) rfl,?_⟩;rw[e0]
 (repeat'(first|exact rfl|exact trivial|assumption|apply aq|refineλ(_:Unit) (_:True)=>?_|refine am () ?_|omega|(dsimp only;omega)))
 all_goals
  refine Cv.cnd.mk (λc1=> ?_) (λc1=>Cv.cnd.mk (λc2=> ?_) (λc2=> ?_))
  ·have c1:x.has2=ap:=by simpa using c1
   simp only[c1,y4g,y1p,if_false,y1t];exact kp
  ·have c2:y.has1=ap:=by simpa using c2
   simp only[c2,y5x,y4g,y1p,if_false,y1t];exact kp
  ·have c1:x.has2=ao:=by simpa using c1
   have c2:y.has1=ao:=by simpa using c2
   simp only[c1,c2,y4b,yLm];refine⟨⟨x.p2,y.p1⟩,?_⟩
   (repeat'(first|exact rfl|exact trivial|assumption|apply aq|refineλ(_:Unit) (_:True)=>?_|refine am () ?_|omega|(dsimp only;omega)))
   refine Cv.cnd.mk (λc3=> ?_) (λc3=> ?_)
   ·have c3:i.less=ao:=c3;simp only[c3,if_true];refine⟨⟨y.p1,x.p2⟩,?_⟩
    (repeat'(first|exact rfl|exact trivial|assumption|apply aq|refineλ(_:Unit) (_:True)=>?_|refine am () ?_|omega|(dsimp only;omega)))
    refine Cv.cnd.mk (λc4=> ?_) (λc4=> ?_)
    ·have c4:(uH y.p1 x.p2).2=ao:=c4;simp only[c4,if_true,y1i];exact kp
    ·have c4:(uH y.p1 x.p2).2=ap:=c4;simp only[c4,y1p,if_false,y1t];exact kp
   ·have c3:i.less=ap:=c3;simp only[c3,y1p,if_false];refine Cv.cnd.mk (λc4=> ?_) (λc4=> ?_)
    ·have c4:(uB x.p2 y.p1).2=ao:=c4;simp only[c4,if_true,y1i];exact kp
    ·have c4:(uB x.p2 y.p1).2=ap:=c4;simp only[c4,y1p,if_false,y1t];exact kp
def yKl:mk21.ok Tryz.prog 157:=okw mixed (gokc zRm (gokc zTx gok0)) 0 (λ_=>[]) (λ_=>[]) [] Tryz.func157 yVf
def yUe (i:MkI) (h:mk22.cnd i):yNy i:=by
 obtain⟨a0,a1,b0,b1,⟨ht,hp⟩,ho⟩:0<=i.a/\i.a<i.tops.length/\0<=i.b/\i.b<i.tops.length/\wJ i.tops/\i.out.length<=1000:=h;obtain⟨x,hx⟩:=yE (l:=i.tops) (i:=i.a.toNat) oM;obtain⟨y,hy⟩:=yE (l:=i.tops) (i:=i.b.toNat) oM;obtain⟨⟨px1,px2⟩,px3,px4⟩:=hp x (y1j hx);obtain⟨⟨py1,py2⟩,py3,py4⟩:=hp y (y1j hy);have e0:mkq i.tops ⟨i.a,2⟩ ⟨i.b,2⟩ i.less=if x.has2 && y.has2 && (if i.less then uH y.p2 x.p2 else uB x.p2 y.p2).2 then[⟨(if i.less then uH y.p2 x.p2 else uB x.p2 y.p2).1,min x.q2 y.q2,⟨i.a,2⟩,⟨i.b,2⟩⟩]else[]:=by
  simp only[mkq,y1h,hx,hy,y3i];rfl
 unfold yNy zNn mY lE kI kF xU kH x9 dI;simp only[y0z];refine⟨⟨oM,oM⟩,x.has1,x.has2,x.p1,x.p2,x.q1,x.q2,elA hx (by simp[zZ]) rfl,⟨oM,oM⟩,y.has1,y.has2,y.p1,y.p2,y.q1,y.q2,elA hy (by simp[zZ]) rfl,?_⟩;rw[e0]
 (repeat'(first|exact rfl|exact trivial|assumption|apply aq|refineλ(_:Unit) (_:True)=>?_|refine am () ?_|omega|(dsimp only;omega)))
 all_goals
  refine Cv.cnd.mk (λc1=> ?_) (λc1=>Cv.cnd.mk (λc2=> ?_) (λc2=> ?_))
  ·have c1:x.has2=ap:=by simpa using c1
   simp only[c1,y4g,y1p,if_false,y1t];exact kp
  ·have c2:y.has2=ap:=by simpa using c2
   simp only[c2,y5x,y4g,y1p,if_false,y1t];exact kp
  ·have c1:x.has2=ao:=by simpa using c1
   have c2:y.has2=ao:=by simpa using c2
   simp only[c1,c2,y4b,yLm];refine⟨⟨x.p2,y.p2⟩,?_⟩
   (repeat'(first|exact rfl|exact trivial|assumption|apply aq|refineλ(_:Unit) (_:True)=>?_|refine am () ?_|omega|(dsimp only;omega)))
   refine Cv.cnd.mk (λc3=> ?_) (λc3=> ?_)
   ·have c3:i.less=ao:=c3;simp only[c3,if_true];refine⟨⟨y.p2,x.p2⟩,?_⟩
    (repeat'(first|exact rfl|exact trivial|assumption|apply aq|refineλ(_:Unit) (_:True)=>?_|refine am () ?_|omega|(dsimp only;omega)))
    refine Cv.cnd.mk (λc4=> ?_) (λc4=> ?_)
    ·have c4:(uH y.p2 x.p2).2=ao:=c4;simp only[c4,if_true,y1i];exact kp
    ·have c4:(uH y.p2 x.p2).2=ap:=c4;simp only[c4,y1p,if_false,y1t];exact kp
   ·have c3:i.less=ap:=c3;simp only[c3,y1p,if_false];refine Cv.cnd.mk (λc4=> ?_) (λc4=> ?_)
    ·have c4:(uB x.p2 y.p2).2=ao:=c4;simp only[c4,if_true,y1i];exact kp
    ·have c4:(uB x.p2 y.p2).2=ap:=c4;simp only[c4,y1p,if_false,y1t];exact kp
def yHg:mk22.ok Tryz.prog 157:=okw mixed (gokc zRm (gokc zTx gok0)) 0 (λ_=>[]) (λ_=>[]) [] Tryz.func157 yUe
structure MkJ where
 i:MkI
 sa:Bool
 sb:Bool
def mkAnyC:Con:=zR MkJ (λj=>[.nm 0 0,.agg [zA j.i.a,zA (zC j.sa)],.agg [zA j.i.b,zA (zC j.sb)],yT j.i.less]) (λj=>MkR j.i.tops j.i.out)
 (λj=>0<=j.i.a/\j.i.a<j.i.tops.length/\0<=j.i.b/\j.i.b<j.i.tops.length/\wJ j.i.tops/\j.i.out.length<=1000) (λ_=>aU) (λj=>MkP j.i.tops (j.i.out++mkq j.i.tops ⟨j.i.a,zC j.sa⟩ ⟨j.i.b,zC j.sb⟩ j.i.less))
def zXk:mkAnyC.ok Tryz.prog 157:=λj=>match j with
 |⟨i,ap,ap⟩=>yLi i
 |⟨i,ap,ao⟩=>yIe i
 |⟨i,ao,ap⟩=>yKl i
 |⟨i,ao,ao⟩=>yHg i
structure fE where
 p:Prd
 tops:List Top
 inst:Int
def kC (i:fE) (s:Int) (k:Nat):List Quote:=(af k).flatMap λ(k:Nat)=>mkq i.tops ⟨(i.p.spread i.inst (i.inst+1+k)).1,s⟩ ⟨i.inst+1+k,s⟩ ap
def jL (i:fE) (s:Int) (k:Nat):List Quote:=(af k).flatMap λ(k:Nat)=>mkq i.tops ⟨(i.p.spread k i.inst).1,3-s⟩ ⟨k,s⟩ ao
def yN (i:fE) (s:Int):List Quote:=mkq i.tops ⟨(i.p.legs i.inst).2.1,3-s⟩ ⟨(i.p.legs i.inst).1,s⟩ ao
def dW (i:fE) (s:Int) (q:Quote):Quote:={q with a:=⟨(i.p.legs i.inst).1,s⟩,b:=⟨(i.p.legs i.inst).2.1,3-s⟩}
def qP (i:fE) (s:Int):List Quote:=
 if i.p.count=0\/(i.tops.length:Int)≠i.p.count\/i.inst<0\/(i.p.count:Int)<=i.inst then[]
 else if(i.p.legs i.inst).2.2 then(yN i s).map (dW i s)
 else kC i s (i.p.months.length-(i.inst.toNat+1))++jL i s i.inst.toNat
def yNm (s:Int):Con:=zR fE (λi=>[mD i.p,roV 6 (i.tops.map zZ),zA i.inst,zA s]) (λ_=>[]) (λi=>i.p.small/\wJ i.tops) (λ_=> .own 0) (λi=>[.own 172 6 ((qP i s).map zI)])
def all1C:Con:=yNm 1
def all2C:Con:=yNm 2
def yUt (i:fE) (s:Int):List SAnn:=[
 {ι:=Nat,slots:=λk=>[(10,.nm 0 0),(77,zA k)],rows:=λk=>(af 3).map (MkU (i.tops,((yN i s).take k).map (dW i s)++(yN i s).drop k))},
 {ι:=Nat,slots:=λk=>[(10,.nm 0 0),(17,zA (i.inst+1+k))],rows:=λk=>MkR i.tops (kC i s k)},
 {ι:=Nat,slots:=λk=>[(10,.nm 0 0),(120,zA k)],rows:=λk=>MkR i.tops (kC i s (i.p.months.length-(i.inst.toNat+1))++jL i s k)}]
structure tQ where
 i:fE
 s:Bool
def allC:Con:=zR tQ (λj=>[mD j.i.p,roV 6 (j.i.tops.map zZ),zA j.i.inst,zA (zC j.s)]) (λ_=>[]) (λj=>j.i.p.small/\wJ j.i.tops) (λ_=> .own 0) (λj=>[.own 172 6 ((qP j.i (zC j.s)).map zI)])
def xO (i:fE) (s:Int):List Quote:=(qP i s).filter λq=>decide (i.p.price i.inst q.price=0)
def quotesC:Con:=zR tQ (λj=>[mD j.i.p,roV 6 (j.i.tops.map zZ),zA j.i.inst,zA (zC j.s)]) (λ_=>[]) (λj=>j.i.p.small/\wJ j.i.tops) (λ_=> .own 0) (λj=>[.own 172 6 ((xO j.i (zC j.s)).map zI)])
def yJl (j:tQ):List SAnn:=[{ι:=Nat,slots:=λk=>[(9,.own 0),(18,zA k)],rows:=λk=>[.own 172 6 ((((qP j.i (zC j.s)).take k).filter λq=>decide (j.i.p.price j.i.inst q.price=0)).map zI)]}]
structure BsI where
 l:List Quote
 s:Int
def zU (l:List Quote) (s:Int):Quote×Bool:=match l with
 |[]=>(yPq,ap)
 |q::r=>(r.foldl (λb q=>if btr s q.price b.price then q else b) q,ao)
def bestQC:Con:=zR BsI (λi=>[roV 6 (i.l.map zI),zA i.s]) (λ_=>[]) (λi=>(i.s=1\/i.s=2)/\i.l.length<=1000000) (λi=> .tup [zTr (zU i.l i.s).1,yT (zU i.l i.s).2]) (λ_=>[])
def yTk (i:BsI):List SAnn:=[{ι:=Nat,slots:=λk=>[(6,.nm 0 0),(26,zA k)],rows:=λk=>[.cells (zTr (zU (i.l.take (max k 1)) i.s).1).cl 172]}]
def mU (a:fE):Prop:=ag 6 (aa zZ a.tops)=ag 6 (aa zZ a.tops)/\da (aj [V.d (D.v (au (sb a.p.code))),V.own 0,V.d (dI a.p.tick),V.d (dI a.p.low),V.d (dI a.p.high),V.d (dI a.p.wide),V.d (dI a.p.rule),V.d (dI a.p.top),V.d (dI a.p.least),V.d (dI a.p.part),V.own 1] 25)/\da (ag 1 (iE a.p.settle))/\da (ag 1 (iE a.p.months))
def zCi (a:Nat->Prop) (b:Nat) (c:Nat->Nat) (d:Nat) (e:fE):Prop:=a b/\c b<c d/\da (ag 6 (aa zZ e.tops))/\mU e
def zDa (a:Nat->Prop) (b:Nat) (c:Nat->Nat) (d:Nat) (e:fE):Prop:=a b/\c b<c d/\mU e
def u9 (a:Top):Prop:=((-9223372036854775808)<=a.p1/\a.p1<=9223372036854775807)/\(-9223372036854775808)<=a.p2/\a.p2<=9223372036854775807
def uW (a:MkJ):Prop:=0<=a.i.a/\a.i.a<(↑a.i.tops.length:Int)/\0<=a.i.b/\a.i.b<(↑a.i.tops.length:Int)/\(a.i.tops.length<=1000000/\∀(b:Top),b∈a.i.tops->u9 b)/\a.i.out.length<=1000
def vO (a:MkJ):=(a.i.out++mkq a.i.tops (Leg.mk a.i.a (zC a.sa)) (Leg.mk a.i.b (zC a.sb)) a.i.less)
def lT (a:Nat) (b:MkJ):=(decide ((↑a:Int)<(↑(aa zI (vO b)).length:Int)))
def xS (a:rZ):Prop:=a.p.code.length<=1099511627776/\a.p.months.length<=1099511627776/\a.p.settle.length<=1099511627776
def wE (a:zAo):Prop:=a.p.code.length<=1099511627776/\a.p.months.length<=1099511627776/\a.p.settle.length<=1099511627776
def nA (a:fE) (b:Nat):=(aa (dW a 1) (ab b (yN a 1))++ae b (yN a 1))
def lM (a:fE) (b:Nat):=(aa zI (nA a b))
def nJ (a:fE) (b:Nat):=(kC a 1 (a.p.months.length-(a.inst.toNat+1))++jL a 1 b)
def wH (a:zAo):=((a.p.legs a.n).snd.fst)
def yMs (i:fE):Prop:=
 ∃(a:Prd),sb a.code=sb i.p.code/\iE a.months=iE i.p.months/\a.tick=i.p.tick/\a.low=i.p.low/\a.high=i.p.high/\a.wide=i.p.wide/\a.rule=i.p.rule/\a.top=i.p.top/\a.least=i.p.least/\a.part=i.p.part/\iE a.settle=iE i.p.settle/\(yC a)/\∀(b:Unit),True->cnd ((↑a.count:Int)==0) (∃(c:Unit),aa zI (qP i 1)=[]/\True) (cnd ((↑(aa zZ i.tops).length:Int) !=(↑a.count:Int)) (∃(c:Unit),aa zI (qP i 1)=[]/\True) (cnd (decide (i.inst<0)) (∃(c:Unit),aa zI (qP i 1)=[]/\True) (cnd (decide (i.inst>=(↑a.count:Int))) (∃(c:Unit),aa zI (qP i 1)=[]/\True) (∃(c:zAo),sb c.p.code=sb i.p.code/\iE c.p.months=iE i.p.months/\c.p.tick=i.p.tick/\c.p.low=i.p.low/\c.p.high=i.p.high/\c.p.wide=i.p.wide/\c.p.rule=i.p.rule/\c.p.top=i.p.top/\c.p.least=i.p.least/\c.p.part=i.p.part/\iE c.p.settle=iE i.p.settle/\c.n=i.inst/\(wE c)/\∀(d:Unit),True->cnd (c.p.legs c.n).snd.snd (∃(e:Int),e=1/\(e=1\/e=2)/\∀(f:Unit),True->∃(g:MkJ),g.i.a=(c.p.legs c.n).snd.fst/\zC g.sa=3-e/\g.i.b=(c.p.legs c.n).fst/\zC g.sb=1/\g.i.less=ao/\ag 6 (aa zZ g.i.tops)=ag 6 (aa zZ i.tops)/\aa zI g.i.out=[]/\(uW g)/\∀(h:Unit),True->∃(j:Nat),(↑j:Int)=0/\ag 6 (aa zZ i.tops)=ag 6 (aa zZ g.i.tops)/\aa zI (nA i j)=aa zI (vO g)/\∃(k:Nat->Prop),∃(l:Nat->Nat),k j/\∀(m:Nat),k m->cnd (lT m g) ((0<=(↑m:Int)/\(↑m:Int)<(↑(lM i m).length:Int))/\(↑m:Int).toNat<(lM i m).length/\∃(n:Nat),(↑n:Int)=ar.wrap ((↑m:Int)+1)/\da (ag 6 (aa zZ i.tops))/\aa zI (nA i n)=zW (lM i m) (↑m:Int).toNat 2 [dI ((c.p.legs c.n).fst),dI 1,dI (wH c),dI (3-e)]/\k n/\l n<l m/\da (ag 6 (aa zZ g.i.tops))/\da (aj [V.d (dI (wH c)),V.d (dI (3-e))] 169)/\da (aj [V.d (dI ((c.p.legs c.n).fst)),V.d (dI 1)] 169)/\mU i) (∃(n:Unit),aa zI (qP i 1)=aa zI (nA i m)/\True)) (∃(e:Nat),i.inst+1+(↑e:Int)=ar.wrap (i.inst+1)/\da (ag 6 (aa zZ i.tops))/\aa zI (kC i 1 e)=[]/\∃(f:Nat->Prop),∃(g:Nat->Nat),f e/\∀(h:Nat),f h->cnd (decide (i.inst+1+(↑h:Int)<(↑(iE i.p.months).length:Int))) (∃(j:rZ),sb j.p.code=sb i.p.code/\iE j.p.months=iE i.p.months/\j.p.tick=i.p.tick/\j.p.low=i.p.low/\j.p.high=i.p.high/\j.p.wide=i.p.wide/\j.p.rule=i.p.rule/\j.p.top=i.p.top/\j.p.least=i.p.least/\j.p.part=i.p.part/\iE j.p.settle=iE i.p.settle/\j.a=i.inst/\j.b=i.inst+1+(↑h:Int)/\(xS j)/\∀(k:Unit),True->∃(l:MkJ),l.i.a=(j.p.spread j.a j.b).fst/\zC l.sa=1/\l.i.b=i.inst+1+(↑h:Int)/\zC l.sb=1/\l.i.less=ap/\ag 6 (aa zZ l.i.tops)=ag 6 (aa zZ i.tops)/\aa zI l.i.out=aa zI (kC i 1 h)/\(uW l)/\∀(m:Unit),True->∃(n:Nat),i.inst+1+(↑n:Int)=ar.wrap (i.inst+1+(↑h:Int)+1)/\ag 6 (aa zZ i.tops)=ag 6 (aa zZ l.i.tops)/\aa zI (kC i 1 n)=aa zI (vO l)/\zDa f n g h i) (∃(j:Nat),(↑j:Int)=0/\da (ag 6 (aa zZ i.tops))/\aa zI (nJ i j)=aa zI (kC i 1 h)/\∃(k:Nat->Prop),∃(l:Nat->Nat),k j/\∀(m:Nat),k m->cnd (decide ((↑m:Int)<i.inst)) (∃(n:rZ),sb n.p.code=sb i.p.code/\iE n.p.months=iE i.p.months/\n.p.tick=i.p.tick/\n.p.low=i.p.low/\n.p.high=i.p.high/\n.p.wide=i.p.wide/\n.p.rule=i.p.rule/\n.p.top=i.p.top/\n.p.least=i.p.least/\n.p.part=i.p.part/\iE n.p.settle=iE i.p.settle/\n.a=(↑m:Int)/\n.b=i.inst/\(xS n)/\∀(p:Unit),True->∃(q:Int),q=1/\(q=1\/q=2)/\∀(r:Unit),True->∃(s:MkJ),s.i.a=(n.p.spread n.a n.b).fst/\zC s.sa=3-q/\s.i.b=(↑m:Int)/\zC s.sb=1/\s.i.less=ao/\ag 6 (aa zZ s.i.tops)=ag 6 (aa zZ i.tops)/\aa zI s.i.out=aa zI (nJ i m)/\(uW s)/\∀(t:Unit),True->∃(u:Nat),(↑u:Int)=ar.wrap ((↑m:Int)+1)/\ag 6 (aa zZ i.tops)=ag 6 (aa zZ s.i.tops)/\aa zI (nJ i u)=aa zI (vO s)/\zCi k u l m i) (∃(n:Unit),aa zI (qP i 1)=aa zI (nJ i m)/\True)))))))
def mQ (a:fE) (b:Nat):=(aa (dW a 2) (ab b (yN a 2))++ae b (yN a 2))
def eY (a:fE) (b:Nat):=(aa zI (mQ a b))
def mX (a:fE) (b:Nat):=(kC a 2 (a.p.months.length-(a.inst.toNat+1))++jL a 2 b)
def yMq (i:fE):Prop:=
 ∃(a:Prd),sb a.code=sb i.p.code/\iE a.months=iE i.p.months/\a.tick=i.p.tick/\a.low=i.p.low/\a.high=i.p.high/\a.wide=i.p.wide/\a.rule=i.p.rule/\a.top=i.p.top/\a.least=i.p.least/\a.part=i.p.part/\iE a.settle=iE i.p.settle/\(yC a)/\∀(b:Unit),True->cnd ((↑a.count:Int)==0) (∃(c:Unit),aa zI (qP i 2)=[]/\True) (cnd ((↑(aa zZ i.tops).length:Int) !=(↑a.count:Int)) (∃(c:Unit),aa zI (qP i 2)=[]/\True) (cnd (decide (i.inst<0)) (∃(c:Unit),aa zI (qP i 2)=[]/\True) (cnd (decide (i.inst>=(↑a.count:Int))) (∃(c:Unit),aa zI (qP i 2)=[]/\True) (∃(c:zAo),sb c.p.code=sb i.p.code/\iE c.p.months=iE i.p.months/\c.p.tick=i.p.tick/\c.p.low=i.p.low/\c.p.high=i.p.high/\c.p.wide=i.p.wide/\c.p.rule=i.p.rule/\c.p.top=i.p.top/\c.p.least=i.p.least/\c.p.part=i.p.part/\iE c.p.settle=iE i.p.settle/\c.n=i.inst/\(wE c)/\∀(d:Unit),True->cnd (c.p.legs c.n).snd.snd (∃(e:Int),e=2/\(e=1\/e=2)/\∀(f:Unit),True->∃(g:MkJ),g.i.a=(c.p.legs c.n).snd.fst/\zC g.sa=3-e/\g.i.b=(c.p.legs c.n).fst/\zC g.sb=2/\g.i.less=ao/\ag 6 (aa zZ g.i.tops)=ag 6 (aa zZ i.tops)/\aa zI g.i.out=[]/\(uW g)/\∀(h:Unit),True->∃(j:Nat),(↑j:Int)=0/\ag 6 (aa zZ i.tops)=ag 6 (aa zZ g.i.tops)/\aa zI (mQ i j)=aa zI (vO g)/\∃(k:Nat->Prop),∃(l:Nat->Nat),k j/\∀(m:Nat),k m->cnd (lT m g) ((0<=(↑m:Int)/\(↑m:Int)<(↑(eY i m).length:Int))/\(↑m:Int).toNat<(eY i m).length/\∃(n:Nat),(↑n:Int)=ar.wrap ((↑m:Int)+1)/\da (ag 6 (aa zZ i.tops))/\aa zI (mQ i n)=zW (eY i m) (↑m:Int).toNat 2 [dI ((c.p.legs c.n).fst),dI 2,dI (wH c),dI (3-e)]/\k n/\l n<l m/\da (ag 6 (aa zZ g.i.tops))/\da (aj [V.d (dI (wH c)),V.d (dI (3-e))] 169)/\da (aj [V.d (dI ((c.p.legs c.n).fst)),V.d (dI 2)] 169)/\mU i) (∃(n:Unit),aa zI (qP i 2)=aa zI (mQ i m)/\True)) (∃(e:Nat),i.inst+1+(↑e:Int)=ar.wrap (i.inst+1)/\da (ag 6 (aa zZ i.tops))/\aa zI (kC i 2 e)=[]/\∃(f:Nat->Prop),∃(g:Nat->Nat),f e/\∀(h:Nat),f h->cnd (decide (i.inst+1+(↑h:Int)<(↑(iE i.p.months).length:Int))) (∃(j:rZ),sb j.p.code=sb i.p.code/\iE j.p.months=iE i.p.months/\j.p.tick=i.p.tick/\j.p.low=i.p.low/\j.p.high=i.p.high/\j.p.wide=i.p.wide/\j.p.rule=i.p.rule/\j.p.top=i.p.top/\j.p.least=i.p.least/\j.p.part=i.p.part/\iE j.p.settle=iE i.p.settle/\j.a=i.inst/\j.b=i.inst+1+(↑h:Int)/\(xS j)/\∀(k:Unit),True->∃(l:MkJ),l.i.a=(j.p.spread j.a j.b).fst/\zC l.sa=2/\l.i.b=i.inst+1+(↑h:Int)/\zC l.sb=2/\l.i.less=ap/\ag 6 (aa zZ l.i.tops)=ag 6 (aa zZ i.tops)/\aa zI l.i.out=aa zI (kC i 2 h)/\(uW l)/\∀(m:Unit),True->∃(n:Nat),i.inst+1+(↑n:Int)=ar.wrap (i.inst+1+(↑h:Int)+1)/\ag 6 (aa zZ i.tops)=ag 6 (aa zZ l.i.tops)/\aa zI (kC i 2 n)=aa zI (vO l)/\zDa f n g h i) (∃(j:Nat),(↑j:Int)=0/\da (ag 6 (aa zZ i.tops))/\aa zI (mX i j)=aa zI (kC i 2 h)/\∃(k:Nat->Prop),∃(l:Nat->Nat),k j/\∀(m:Nat),k m->cnd (decide ((↑m:Int)<i.inst)) (∃(n:rZ),sb n.p.code=sb i.p.code/\iE n.p.months=iE i.p.months/\n.p.tick=i.p.tick/\n.p.low=i.p.low/\n.p.high=i.p.high/\n.p.wide=i.p.wide/\n.p.rule=i.p.rule/\n.p.top=i.p.top/\n.p.least=i.p.least/\n.p.part=i.p.part/\iE n.p.settle=iE i.p.settle/\n.a=(↑m:Int)/\n.b=i.inst/\(xS n)/\∀(p:Unit),True->∃(q:Int),q=2/\(q=1\/q=2)/\∀(r:Unit),True->∃(s:MkJ),s.i.a=(n.p.spread n.a n.b).fst/\zC s.sa=3-q/\s.i.b=(↑m:Int)/\zC s.sb=2/\s.i.less=ao/\ag 6 (aa zZ s.i.tops)=ag 6 (aa zZ i.tops)/\aa zI s.i.out=aa zI (mX i m)/\(uW s)/\∀(t:Unit),True->∃(u:Nat),(↑u:Int)=ar.wrap ((↑m:Int)+1)/\ag 6 (aa zZ i.tops)=ag 6 (aa zZ s.i.tops)/\aa zI (mX i u)=aa zI (vO s)/\zCi k u l m i) (∃(n:Unit),aa zI (qP i 2)=aa zI (mX i m)/\True)))))))
def kJ (a:tQ):=(aa zI (qP a.i (zC a.s)))
def zBt (a:Nat->Prop) (b:Nat) (c:Nat->Nat) (d:Nat) (e:tQ) (f:tQ):Prop:=a b/\c b<c d/\da (ak 172 6 (kJ e))/\da (aj [V.d (D.v (au (sb f.i.p.code))),V.own 0,V.d (dI f.i.p.tick),V.d (dI f.i.p.low),V.d (dI f.i.p.high),V.d (dI f.i.p.wide),V.d (dI f.i.p.rule),V.d (dI f.i.p.top),V.d (dI f.i.p.least),V.d (dI f.i.p.part),V.own 1] 25)/\da (ag 1 (iE f.i.p.settle))/\da (ag 1 (iE f.i.p.months))
def qN (a:tQ):Prop:=(a.i.p.code.length<=1099511627776/\a.i.p.months.length<=1099511627776/\a.i.p.settle.length<=1099511627776)/\a.i.tops.length<=1000000/\∀(b:Top),b∈a.i.tops->u9 b
def gB (a:tQ):=(↑(kJ a).length:Int)
def z4s (j:tQ):Prop:=
 ∃(a:tQ),sb a.i.p.code=sb j.i.p.code/\iE a.i.p.months=iE j.i.p.months/\a.i.p.tick=j.i.p.tick/\a.i.p.low=j.i.p.low/\a.i.p.high=j.i.p.high/\a.i.p.wide=j.i.p.wide/\a.i.p.rule=j.i.p.rule/\a.i.p.top=j.i.p.top/\a.i.p.least=j.i.p.least/\a.i.p.part=j.i.p.part/\iE a.i.p.settle=iE j.i.p.settle/\aa zZ a.i.tops=aa zZ j.i.tops/\a.i.inst=j.i.inst/\zC a.s=zC j.s/\(qN a)/\∀(b:Unit),True->∃(c:Nat),(↑c:Int)=0/\aa zI (ac (λ(q:Sx.Quote) ↦ decide (j.i.p.price j.i.inst q.price=0)) (ab c (qP j.i (zC j.s))))=[]/\∃(d:Nat->Prop),∃(e:Nat->Nat),d c/\∀(f:Nat),d f->cnd (decide ((↑f:Int)<(gB a))) ((0<=(↑f:Int)/\(↑f:Int)<(gB a))/\∃(g:Int),∃(h:Int),∃(k:Int),∃(l:Int),∃(m:Int),∃(n:Int),zE (kJ a) (↑f:Int).toNat 0 6=aw [dI g,dI h,dI k,dI l,dI m,dI n]/\∃(p:rZ),sb p.p.code=sb j.i.p.code/\iE p.p.months=iE j.i.p.months/\p.p.tick=j.i.p.tick/\p.p.low=j.i.p.low/\p.p.high=j.i.p.high/\p.p.wide=j.i.p.wide/\p.p.rule=j.i.p.rule/\p.p.top=j.i.p.top/\p.p.least=j.i.p.least/\p.p.part=j.i.p.part/\iE p.p.settle=iE j.i.p.settle/\p.a=j.i.inst/\p.b=g/\(xS p)/\∀(q:Unit),True->cnd (p.p.price p.a p.b==0) (((aa zI (ac (λ(q:Sx.Quote) ↦ decide (j.i.p.price j.i.inst q.price=0)) (ab f (qP j.i (zC j.s))))).length+1)*(48:Nat)<=(140737488355328:Nat)/\∃(r:Nat),(↑r:Int)=ar.wrap ((↑f:Int)+1)/\aa zI (ac (λ(q:Sx.Quote) ↦ decide (j.i.p.price j.i.inst q.price=0)) (ab r (qP j.i (zC j.s))))=aa zI (ac (λ(q:Sx.Quote) ↦ decide (j.i.p.price j.i.inst q.price=0)) (ab f (qP j.i (zC j.s))))++[[dI g,dI h,dI k,dI l,dI m,dI n]]/\zBt d r e f a j) (∃(r:Nat),(↑r:Int)=ar.wrap ((↑f:Int)+1)/\aa zI (ac (λ(q:Sx.Quote) ↦ decide (j.i.p.price j.i.inst q.price=0)) (ab r (qP j.i (zC j.s))))=aa zI (ac (λ(q:Sx.Quote) ↦ decide (j.i.p.price j.i.inst q.price=0)) (ab f (qP j.i (zC j.s))))/\zBt d r e f a j)) (∃(g:Unit),aa zI (xO j.i (zC j.s))=aa zI (ac (λ(q:Sx.Quote) ↦ decide (j.i.p.price j.i.inst q.price=0)) (ab f (qP j.i (zC j.s))))/\True)
def zAy (a:Nat->Prop) (b:Nat) (c:Nat->Nat) (d:Nat):Prop:=a b/\c b<c d/\da (aj (Sx.V.agg [V.d (dI 0),V.d (dI 0),V.d (dI 0),V.d (dI 0),V.d (dI 0),V.d (dI 0)]).cl 172)
def yB (a:Nat) (b:BsI):=(zU (ab (max a 1) b.l) b.s)
def vA (a:BsI):=(↑(aa zI a.l).length:Int)
def zLo (a:BsI):Prop:=((0:Int)<=(0:Int)/\0<(vA a))/\∃(b:Int),∃(c:Int),∃(d:Int),∃(e:Int),∃(f:Int),∃(g:Int),zE (aa zI a.l) (Int.toNat 0) 0 6=aw [dI b,dI c,dI d,dI e,dI f,dI g]/\∃(h:Nat),(↑h:Int)=0/\(yB h a).fst.price=b/\(yB h a).fst.qty=c/\(yB h a).fst.a.inst=d/\(yB h a).fst.a.side=e/\(yB h a).fst.b.inst=f/\(yB h a).fst.b.side=g/\∃(j:Nat->Prop),∃(k:Nat->Nat),j h/\∀(l:Nat),j l->cnd (decide ((↑l:Int)<(vA a))) ((0<=(↑l:Int)/\(↑l:Int)<(vA a))/\∃(m:Int),∃(n:Int),∃(p:Int),∃(q:Int),∃(r:Int),∃(s:Int),zE (aa zI a.l) (↑l:Int).toNat 0 6=aw [dI m,dI n,dI p,dI q,dI r,dI s]/\∃(t:I3'),t.side=a.s/\t.x=m/\t.y=(yB l a).fst.price/\True/\∀(u:Unit),True->cnd (btr t.side t.x t.y) (∃(v:Nat),(↑v:Int)=ar.wrap ((↑l:Int)+1)/\(yB v a).fst.price=m/\(yB v a).fst.qty=n/\(yB v a).fst.a.inst=p/\(yB v a).fst.a.side=q/\(yB v a).fst.b.inst=r/\(yB v a).fst.b.side=s/\zAy j v k l) (∃(v:Nat),(↑v:Int)=ar.wrap ((↑l:Int)+1)/\(yB v a).fst.price=(yB l a).fst.price/\(yB v a).fst.qty=(yB l a).fst.qty/\(yB v a).fst.a.inst=(yB l a).fst.a.inst/\(yB v a).fst.a.side=(yB l a).fst.a.side/\(yB v a).fst.b.inst=(yB l a).fst.b.inst/\(yB v a).fst.b.side=(yB l a).fst.b.side/\zAy j v k l)) (∃(m:Unit),(zU a.l a.s).fst.price=(yB l a).fst.price/\(zU a.l a.s).fst.qty=(yB l a).fst.qty/\(zU a.l a.s).fst.a.inst=(yB l a).fst.a.inst/\(zU a.l a.s).fst.a.side=(yB l a).fst.a.side/\(zU a.l a.s).fst.b.inst=(yB l a).fst.b.inst/\(zU a.l a.s).fst.b.side=(yB l a).fst.b.side/\(zU a.l a.s).snd=ao/\True)
def zAf (a:BsI):Prop:=∃(b:Unit),(zU a.l a.s).fst.price=0/\(zU a.l a.s).fst.qty=0/\(zU a.l a.s).fst.a.inst=0/\(zU a.l a.s).fst.a.side=0/\(zU a.l a.s).fst.b.inst=0/\(zU a.l a.s).fst.b.side=0/\(zU a.l a.s).snd=ap/\True
def yEg (i:BsI):Prop:=
 cnd ((vA i)==0) (zAf i) (cnd (i.s !=1) (cnd (i.s !=2) (zAf i) (zLo i)) (zLo i))
def z1i {l:List Quote} {q:Quote} (s:Int) (h:l[0]? =aw q):(zU (l.take (max 0 1)) s).1=q:=by
 cases l with
 |nil=>simp at h
 |cons a l=>simp at h;subst h;rfl
def zZf {l:List Quote} {j:Nat} {q:Quote} (s:Int) (h:l[j]? =aw q):
 (zU (l.take (max (j+1) 1)) s).1=if btr s q.price (zU (l.take (max j 1)) s).1.price then q else(zU (l.take (max j 1)) s).1:=by
 cases l with
 |nil=>simp at h
 |cons a l=>
  cases j with
  |zero=>simp at h;subst h;simp[zU]
  |succ m=>
   simp only[y2w]at h;rw[show max (m+1+1) 1=(m+1)+1 by omega,show max (m+1) 1=m+1 by omega,y2j,y2j,y2e,h];simp only[zU,y3z,y5q];rfl
def z9k {l:List Quote} (s:Int) (h:l≠[]):(zU l s).2=ao:=by
 cases l with
 |nil=>exact absurd rfl h
 |cons a l=>rfl
def yRa (i:BsI) (h:bestQC.cnd i):yEg i:=by
 obtain⟨hs,hl⟩:(i.s=1\/i.s=2)/\i.l.length<=1000000:=h;unfold yEg zLo yB zAy vA zAf dI;simp only[y0z];refine Cv.cnd.mk (λc=> ?_) (λc=> ?_)
 ·have e:i.l=[]:=y1z (by have:(i.l.length:Int)=0:=(by simpa using c);omega);rw[e];exact kp
 have h0:0<i.l.length:=by
  rcases Nat.eq_zero_or_pos i.l.length with h|h
  ·rw[h]at c;exact absurd c Z8
  ·exact h
 have hne:i.l≠[]:=by intro e;rw[e]at h0;simp at h0
 have two:=z9k i.s hne;obtain⟨q,hq⟩:=yE h0;have b0:=z1i i.s hq;have fin:(zU (i.l.take (max i.l.length 1)) i.s).1=(zU i.l i.s).1:=by
  rw[y1k (by omega)]
 have step:∀j:Nat,j<i.l.length->∀x:Quote,i.l[j]? =aw x->(btr i.s x.price (zU (i.l.take (max j 1)) i.s).1.price=ao->(zU (i.l.take (max (j+1) 1)) i.s).1=x)/\(btr i.s x.price (zU (i.l.take (max j 1)) i.s).1.price=ap->(zU (i.l.take (max (j+1) 1)) i.s).1=(zU (i.l.take (max j 1)) i.s).1):=λj hj x hx=>by
  have:=zZf i.s hx;constructor
  ·intro e;rw[this,y1a e]
  ·intro e;rw[this,y0y (by rw[e];simp)]
 refine Cv.cnd.mk (λc1=>Cv.cnd.mk (λc2=> ?_) (λc2=> ?_)) (λc1=> ?_)
 ·exfalso;have c1:i.s≠1:=by simpa using c1
  have c2:i.s≠2:=by simpa using c2
  omega
 all_goals
  refine⟨⟨oM,oM⟩,q.price,q.qty,q.a.inst,q.a.side,q.b.inst,q.b.side,elA hq (by simp[zI]) rfl,0,?_⟩;rw[b0]
  (repeat'(first|exact rfl|exact trivial|assumption|apply aq|refineλ(_:Unit) (_:True)=>?_|refine am () ?_|omega|(dsimp only;omega)))
  refine⟨λj=>j<=i.l.length,λj=>i.l.length-j,oM,λj hj=>zH (λhlt=> ?_) (λhlt=> ?_)⟩
  ·have hj':j<i.l.length:=by omega
   obtain⟨x,hx⟩:=yE hj';obtain⟨st,sf⟩:=step j hj' x hx;refine⟨⟨oM,oM⟩,x.price,x.qty,x.a.inst,x.a.side,x.b.inst,x.b.side,elA hx (by simp[zI]) rfl,⟨i.s,x.price,_⟩,rfl,rfl,rfl,trivial,λ_ _=>Cv.cnd.mk (λe=>⟨j+1,by rw[w64 (by omega)];rfl,?_⟩) (λe=>⟨j+1,by rw[w64 (by omega)];rfl,?_⟩)⟩
   ·rw[st e];exact kp
   ·rw[sf e];exact kp
  ·have hj:j<=i.l.length:=hj;obtain rfl:j=i.l.length:=by omega
   rw[fin,two];exact kp
def zWp:bestQC.ok Tryz.prog 93:=okw mixed (gokc z1u gok0) 0 (λ_=>[]) (λi=>yTk i) [] Tryz.func93 yRa
def zCp (tops:List Top) (a b:Leg) (less:Bool):(mkq tops a b less).length<=1:=by
 unfold mkq;dsimp only;split<;>split<;>simp
def zTw {α:Type} {f:Nat->List α} (h:∀k,(f k).length<=1):∀n,((af n).flatMap f).length<=n
 |0=>by simp
 |n+1=>by
  rw[y6r,y2u,y0x];have:=zTw h n;have:=h n;simp only[y2q,y5y,y1t];omega
def zBp (i:fE) (s:Int) (k:Nat):(kC i s k).length<=k:=zTw (λ_=>zCp _ _ _ _) k
def pS (i:fE) (s:Int) (k:Nat):(jL i s k).length<=k:=zTw (λ_=>zCp _ _ _ _) k
def zCd (i:fE) (s:Int):(qP i s).length<=100:=by
 unfold qP;split
 ·simp
 ·rename_i h;have hc:=xN i.p;have m6:=(jJ (sP (p:=i.p) oM)).m6;split
  ·rw[y0z];have:=zCp i.tops ⟨(i.p.legs i.inst).2.1,3-s⟩ ⟨(i.p.legs i.inst).1,s⟩ ao;have e:(yN i s).length<=1:=this;omega
  ·rw[y0x];have h1:=zBp i s (i.p.months.length-(i.inst.toNat+1));have h2:=pS i s i.inst.toNat;omega
def yLc (j:tQ) (h:quotesC.cnd j):z4s j:=by
 unfold z4s zBt gB kJ qN u9 xS dI;obtain⟨hp,ht,hr⟩:j.i.p.small/\wJ j.i.tops:=h;obtain⟨h1,h2,h3⟩:=hp;have hl:=zCd j.i (zC j.s);refine⟨j,?_⟩;simp only[y0z]
 (repeat'(first|exact rfl|exact trivial|assumption|apply aq|refineλ(_:Unit) (_:True)=>?_|refine am () ?_|omega|(dsimp only;omega)))
 refine⟨0,rfl,rfl,λk=>k<=(qP j.i (zC j.s)).length,λk=>(qP j.i (zC j.s)).length-k,oM,λk hk=>zH (λhlt=> ?_) (λhlt=> ?_)⟩
 ·have hk':k<(qP j.i (zC j.s)).length:=by omega
  obtain⟨q,hq⟩:=yE hk';have hf:(ac (λq=>decide (j.i.p.price j.i.inst q.price=0)) (ab k (qP j.i (zC j.s)))).length<=100:=by
   have:=y4i (λq:Quote=>decide (j.i.p.price j.i.inst q.price=0)) (ab k (qP j.i (zC j.s)));rw[y1q]at this;omega
  refine⟨⟨oM,oM⟩,q.price,q.qty,q.a.inst,q.a.side,q.b.inst,q.b.side,elA hq (by simp[zI]) rfl,⟨j.i.p,j.i.inst,q.price⟩,?_⟩
  (repeat'(first|exact rfl|exact trivial|assumption|apply aq|refineλ(_:Unit) (_:True)=>?_|refine am () ?_|omega|(dsimp only;omega)))
  refine Cv.cnd.mk (λc=>⟨oM,k+1,by rw[w64 (by omega)];rfl,?_⟩) (λc=>⟨k+1,by rw[w64 (by omega)];rfl,?_⟩)
  ·have c:j.i.p.price j.i.inst q.price=0:=by simpa using c
   rw[y2e,hq,y3z,y4y,y5r (by simpa using c),y1i];exact kp
  ·have c:¬j.i.p.price j.i.inst q.price=0:=by simpa using c
   rw[y2e,hq,y3z,y4y,y5s (by simpa using c),List.filter_nil,y1t];exact kp
 ·have hk:k<=(qP j.i (zC j.s)).length:=hk;obtain rfl:k=(qP j.i (zC j.s)).length:=by omega
  rw[y1k (y1u _)];exact kp
def z9p:∀n≤6,∀a<n,∀b<n,a<b->0<=(y8 n a:Int)+b-a-1/\(y8 n a:Int)+b-a-1<((n+n*(n-1) / 2:Nat):Int):=by decide
def cT {p:Prd} (hc:p.check=0) {a b:Nat} (hab:a<b) (hb:b<p.months.length):0<=(p.spread a b).1/\(p.spread a b).1<p.count:=by
 have m6:=(jJ hc).m6;have:=z9p p.months.length m6 a oM b hb hab;rw[Prd.spread,y0y (by omega),Prd.count,y1a hc];simpa using this
def yHj:∀n≤6,∀k<n+n*(n-1) / 2,n<=k->(kU n k n 0).2.2=ao/\0<=(kU n k n 0).1/\(kU n k n 0).1<n/\0<=(kU n k n 0).2.1/\(kU n k n 0).2.1<n:=by decide
def dN {p:Prd} (hc:p.check=0) {k:Nat} (hk:k<p.count):((p.legs k).2.2=ao/\0<=(p.legs k).1/\(p.legs k).1<p.months.length/\0<=(p.legs k).2.1/\(p.legs k).2.1<p.months.length)\/((p.legs k).2.2=ap/\k<p.months.length):=by
 have m6:=(jJ hc).m6;have hk':=hk;rw[Prd.count,y1a hc]at hk';by_cases h:k<p.months.length
 ·right;rw[Prd.legs,y0y (by omega),y1a (by omega)];exact⟨rfl,h⟩
 ·left;rw[Prd.legs,y0y (by omega),y0y (by omega)];exact yHj p.months.length m6 k hk' oM
def zLd {p:Prd} (hc:p.check=0):p.months.length<=p.count:=by
 rw[Prd.count,y1a hc];omega
def zVf {i:fE} {s:Int} {k:Nat} (hk:k<(yN i s).length):aa zI (aa (dW i s) (ab (k+1) (yN i s))++ae (k+1) (yN i s))=
 zW (aa zI (aa (dW i s) (ab k (yN i s))++ae k (yN i s))) k (0+2) [D.v (.int .i64 (i.p.legs i.inst).1),D.v (.int .i64 s),D.v (.int .i64 (i.p.legs i.inst).2.1),D.v (.int .i64 (3-s))]:=by
 obtain⟨q,hq⟩:=yE hk;rw[zOm (a:=aa zI (aa (dW i s) (ab k (yN i s)))) (b:=aa zI (ae (k+1) (yN i s))) (x:=zI q) (y:=zI (dW i s q)) (by
  rw[y1i,y3f hk,(y1c.1 hq).2,y1m]) (by simp;omega) rfl]
 rw[y2e,hq,y3z,y1i,y1i,y1i,y1m,y4q,y1m,y4q,y1e];rfl
def yXa (i:fE) (h:all1C.cnd i):yMs i:=by
 unfold yMs yC zDa zCi mU wH nJ lM nA wE xS lT vO uW u9 dI;obtain⟨⟨h1,h2,h3⟩,ht,hr⟩:i.p.small/\wJ i.tops:=h;have hto:wJ i.tops:=⟨ht,hr⟩
 refine⟨i.p,?_⟩;simp only[y0z,y3]
 (repeat'(first|exact rfl|exact trivial|assumption|apply aq|refineλ(_:Unit) (_:True)=>?_|refine am () ?_|omega|(dsimp only;omega)))
 have bad (hb:i.p.count=0\/(i.tops.length:Int)≠i.p.count\/i.inst<0\/(i.p.count:Int)<=i.inst):∃(o:Unit),aa zI (qP i 1)=[]/\True:=⟨(),by rw[qP,y1a hb];rfl,trivial⟩
 refine Cv.cnd.mk (λc1=>bad (.inl (by have c1:(i.p.count:Int)=0:=(by simpa using c1);omega))) λc1=>Cv.cnd.mk (λc2=>bad (.inr (.inl (by simpa using c2)))) λc2=>zH (λc3=>bad oM) λc3=>zH (λc4=>bad oM) λc4=>⟨⟨i.p,i.inst⟩,?_⟩
 have c1:i.p.count≠0:=by
  have c1:¬(i.p.count:Int)=0:=(by simpa using c1)
  omega
 have c2:(i.tops.length:Int)=i.p.count:=by simpa using c2
 have c4:i.inst<(i.p.count:Int):=by
  have c4:¬i.inst>=(i.p.count:Int):=c4;omega
 have hc:=sP c1;have hm:=zLd hc;have e0:qP i 1=if(i.p.legs i.inst).2.2 then(yN i 1).map (dW i 1)else kC i 1 (i.p.months.length-(i.inst.toNat+1))++jL i 1 i.inst.toNat:=by
  rw[qP,y0y (by omega)]
 obtain⟨k,hk⟩:∃k:Nat,i.inst=k:=⟨i.inst.toNat,oM⟩
 have hl:=dN hc (k:=k) oM;rw[<- hk]at hl
 (repeat'(first|exact rfl|exact trivial|assumption|apply aq|refineλ(_:Unit) (_:True)=>?_|refine am () ?_|omega|(dsimp only;omega)))
 refine Cv.cnd.mk (λc5=> ?_) (λc5=> ?_)
 ·have c5:(i.p.legs i.inst).2.2=ao:=c5;rw[e0,y1a c5];rcases hl with⟨_,l1,l2,l3,l4⟩|⟨l1,_⟩
  ·have hsl:(yN i 1).length<=1:=zCp _ _ _ _;refine⟨1,rfl,oM,λ_ _=>⟨⟨⟨i.tops,[],(i.p.legs i.inst).2.1,(i.p.legs i.inst).1,ao⟩,ao,ap⟩,rF6 ⟨rfl,⟨l3,Z9,l1,Z9,hto,by simp⟩,λ_ _=>⟨0,rfl,rfl,rfl,λj=>j<=(yN i 1).length,λj=>(yN i 1).length-j,oM,?_⟩⟩⟩⟩;intro j hj;have hj:j<=(yN i 1).length:=hj;have hL:(aa (dW i 1) (ab j (yN i 1))++ae j (yN i 1)).length=(yN i 1).length:=by simp;omega
   refine zH (λhlt=> ?_) (λhlt=> ?_)
   ·have hlt:(j:Int)<((yN i 1).length:Int):=hlt;refine⟨⟨oM,by rw[hL];omega⟩,by rw[hL];omega,j+1,by rw[w64 (by omega)];rfl,kp,?_,?_⟩
    ·exact zVf (i:=i) (s:=1) oM
    ·exact kp
   ·have hlt:¬(j:Int)<((yN i 1).length:Int):=hlt;obtain rfl:j=(yN i 1).length:=by omega
    rw[y1k (y1u _),List.drop_length,y1t];exact kp
  ·rw[c5]at l1;cases l1
 ·have c5:(i.p.legs i.inst).2.2=ap:=c5;rw[e0,y0y (by rw[c5];simp)];rcases hl with⟨l1,_⟩|⟨_,l2⟩
  ·rw[c5]at l1;cases l1
  have m6:=(jJ hc).m6;have e1:i.inst.toNat=k:=by omega
  rw[e1];refine⟨0,by rw[w64 (by omega)];omega,kp,rfl,λj=>j<=i.p.months.length-(k+1),λj=>i.p.months.length-(k+1)-j,oM,?_⟩;intro j hj;have hj:j<=i.p.months.length-(k+1):=hj;have hq:=zBp i 1 j;refine zH (λhlt=> ?_) (λhlt=> ?_)
  ·obtain⟨b1,b2⟩:=cT hc (a:=k) (b:=k+1+j) oM oM;have eb:((k+1+j:Nat):Int)=i.inst+1+j:=by omega
   rw[eb,<- hk]at b1 b2;refine⟨⟨i.p,i.inst,i.inst+1+j⟩,?_⟩
   (repeat'(first|exact rfl|exact trivial|assumption|apply aq|refineλ(_:Unit) (_:True)=>?_|refine am () ?_|omega|(dsimp only;omega)))
   refine⟨⟨⟨i.tops,kC i 1 j,(i.p.spread i.inst (i.inst+1+j)).1,i.inst+1+j,ap⟩,ap,ap⟩,rF4 ⟨rfl,kp,rfl,⟨b1,Z9,Z9,Z9,hto,Z9⟩,λ_ _=>⟨j+1,by rw[w64 (by omega)];omega,kp,?_,?_⟩⟩⟩
   ·rw[kC,y6r,y2u];simp only[y2q,y5y,y1t];rfl
   ·exact kp
  ·obtain rfl:j=i.p.months.length-(k+1):=by omega
   refine⟨0,rfl,kp,by rw[jL];simp,λj=>j<=k,λj=>k-j,oM,?_⟩;intro j hj;have hj:j<=k:=hj;have hq2:=pS i 1 j;refine zH (λhlt2=> ?_) (λhlt2=> ?_)
   ·obtain⟨b1,b2⟩:=cT hc (a:=j) (b:=k) oM oM;rw[<- hk]at b1 b2;refine⟨⟨i.p,j,i.inst⟩,?_⟩
    (repeat'(first|exact rfl|exact trivial|assumption|apply aq|refineλ(_:Unit) (_:True)=>?_|refine am () ?_|omega|(dsimp only;omega)))
    refine⟨1,rfl,oM,λ_ _=>⟨⟨⟨i.tops,kC i 1 (i.p.months.length-(k+1))++jL i 1 j,(i.p.spread j i.inst).1,j,ao⟩,ao,ap⟩,rF4 ⟨rfl,kp,rfl,⟨b1,Z9,Z9,Z9,hto,by dsimp only;rw[y0x];omega⟩,λ_ _=>⟨j+1,by rw[w64 (by omega)];omega,kp,?_,?_⟩⟩⟩⟩
    ·rw[jL,y6r,y2u];simp only[y2q,y5y,y1t,y1e];rfl
    ·exact kp
   ·obtain rfl:j=k:=by omega
    exact kp
def yHf:all1C.ok Tryz.prog 129:=okw mixed (gokc cR (gokc tY (gokc zPr (gokc zQn (gokc zXk gok0))))) 0 (λ_=>[]) (λi=>yUt i 1) [] Tryz.func129 yXa
def yYh (i:fE) (h:all2C.cnd i):yMq i:=by
 unfold yMq yC mX eY mQ zDa zCi mU wH wE xS lT vO uW u9 dI;obtain⟨⟨h1,h2,h3⟩,ht,hr⟩:i.p.small/\wJ i.tops:=h;have hto:wJ i.tops:=⟨ht,hr⟩
 refine⟨i.p,?_⟩;simp only[y0z,y3]
 (repeat'(first|exact rfl|exact trivial|assumption|apply aq|refineλ(_:Unit) (_:True)=>?_|refine am () ?_|omega|(dsimp only;omega)))
 have bad (hb:i.p.count=0\/(i.tops.length:Int)≠i.p.count\/i.inst<0\/(i.p.count:Int)<=i.inst):∃(o:Unit),aa zI (qP i 2)=[]/\True:=⟨(),by rw[qP,y1a hb];rfl,trivial⟩
 refine Cv.cnd.mk (λc1=>bad (.inl (by have c1:(i.p.count:Int)=0:=(by simpa using c1);omega))) λc1=>Cv.cnd.mk (λc2=>bad (.inr (.inl (by simpa using c2)))) λc2=>zH (λc3=>bad oM) λc3=>zH (λc4=>bad oM) λc4=>⟨⟨i.p,i.inst⟩,?_⟩
 have c1:i.p.count≠0:=by
  have c1:¬(i.p.count:Int)=0:=(by simpa using c1)
  omega
 have c2:(i.tops.length:Int)=i.p.count:=by simpa using c2
 have c4:i.inst<(i.p.count:Int):=by
  have c4:¬i.inst>=(i.p.count:Int):=c4;omega
 have hc:=sP c1;have hm:=zLd hc;have e0:qP i 2=if(i.p.legs i.inst).2.2 then(yN i 2).map (dW i 2)else kC i 2 (i.p.months.length-(i.inst.toNat+1))++jL i 2 i.inst.toNat:=by
  rw[qP,y0y (by omega)]
 obtain⟨k,hk⟩:∃k:Nat,i.inst=k:=⟨i.inst.toNat,oM⟩
 have hl:=dN hc (k:=k) oM;rw[<- hk]at hl
 (repeat'(first|exact rfl|exact trivial|assumption|apply aq|refineλ(_:Unit) (_:True)=>?_|refine am () ?_|omega|(dsimp only;omega)))
 refine Cv.cnd.mk (λc5=> ?_) (λc5=> ?_)
 ·have c5:(i.p.legs i.inst).2.2=ao:=c5;rw[e0,y1a c5];rcases hl with⟨_,l1,l2,l3,l4⟩|⟨l1,_⟩
  ·have hsl:(yN i 2).length<=1:=zCp _ _ _ _;refine⟨2,rfl,oM,λ_ _=>⟨⟨⟨i.tops,[],(i.p.legs i.inst).2.1,(i.p.legs i.inst).1,ao⟩,ap,ao⟩,rF6 ⟨rfl,⟨l3,Z9,l1,Z9,hto,by simp⟩,λ_ _=>⟨0,rfl,rfl,rfl,λj=>j<=(yN i 2).length,λj=>(yN i 2).length-j,oM,?_⟩⟩⟩⟩;intro j hj;have hj:j<=(yN i 2).length:=hj;have hL:(aa (dW i 2) (ab j (yN i 2))++ae j (yN i 2)).length=(yN i 2).length:=by simp;omega
   refine zH (λhlt=> ?_) (λhlt=> ?_)
   ·have hlt:(j:Int)<((yN i 2).length:Int):=hlt;refine⟨⟨oM,by rw[hL];omega⟩,by rw[hL];omega,j+1,by rw[w64 (by omega)];rfl,kp,?_,?_⟩
    ·exact zVf (i:=i) (s:=2) oM
    ·exact kp
   ·have hlt:¬(j:Int)<((yN i 2).length:Int):=hlt;obtain rfl:j=(yN i 2).length:=by omega
    rw[y1k (y1u _),List.drop_length,y1t];exact kp
  ·rw[c5]at l1;cases l1
 ·have c5:(i.p.legs i.inst).2.2=ap:=c5;rw[e0,y0y (by rw[c5];simp)];rcases hl with⟨l1,_⟩|⟨_,l2⟩
  ·rw[c5]at l1;cases l1
  have m6:=(jJ hc).m6;have e1:i.inst.toNat=k:=by omega
  rw[e1];refine⟨0,by rw[w64 (by omega)];omega,kp,rfl,λj=>j<=i.p.months.length-(k+1),λj=>i.p.months.length-(k+1)-j,oM,?_⟩;intro j hj;have hj:j<=i.p.months.length-(k+1):=hj;have hq:=zBp i 2 j;refine zH (λhlt=> ?_) (λhlt=> ?_)
  ·obtain⟨b1,b2⟩:=cT hc (a:=k) (b:=k+1+j) oM oM;have eb:((k+1+j:Nat):Int)=i.inst+1+j:=by omega
   rw[eb,<- hk]at b1 b2;refine⟨⟨i.p,i.inst,i.inst+1+j⟩,?_⟩
   (repeat'(first|exact rfl|exact trivial|assumption|apply aq|refineλ(_:Unit) (_:True)=>?_|refine am () ?_|omega|(dsimp only;omega)))
   refine⟨⟨⟨i.tops,kC i 2 j,(i.p.spread i.inst (i.inst+1+j)).1,i.inst+1+j,ap⟩,ao,ao⟩,rF4 ⟨rfl,kp,rfl,⟨b1,Z9,Z9,Z9,hto,Z9⟩,λ_ _=>⟨j+1,by rw[w64 (by omega)];omega,kp,?_,?_⟩⟩⟩
   ·rw[kC,y6r,y2u];simp only[y2q,y5y,y1t];rfl
   ·exact kp
  ·obtain rfl:j=i.p.months.length-(k+1):=by omega
   refine⟨0,rfl,kp,by rw[jL];simp,λj=>j<=k,λj=>k-j,oM,?_⟩;intro j hj;have hj:j<=k:=hj;have hq2:=pS i 2 j;refine zH (λhlt2=> ?_) (λhlt2=> ?_)
   ·obtain⟨b1,b2⟩:=cT hc (a:=j) (b:=k) oM oM;rw[<- hk]at b1 b2;refine⟨⟨i.p,j,i.inst⟩,?_⟩
    (repeat'(first|exact rfl|exact trivial|assumption|apply aq|refineλ(_:Unit) (_:True)=>?_|refine am () ?_|omega|(dsimp only;omega)))
    refine⟨2,rfl,oM,λ_ _=>⟨⟨⟨i.tops,kC i 2 (i.p.months.length-(k+1))++jL i 2 j,(i.p.spread j i.inst).1,j,ao⟩,ap,ao⟩,rF4 ⟨rfl,kp,rfl,⟨b1,Z9,Z9,Z9,hto,by dsimp only;rw[y0x];omega⟩,λ_ _=>⟨j+1,by rw[w64 (by omega)];omega,kp,?_,?_⟩⟩⟩⟩
    ·rw[jL,y6r,y2u];simp only[y2q,y5y,y1t,y1e];rfl
    ·exact kp
   ·obtain rfl:j=k:=by omega
    exact kp
def yKs:all2C.ok Tryz.prog 129:=okw mixed (gokc cR (gokc tY (gokc zPr (gokc zQn (gokc zXk gok0))))) 0 (λ_=>[]) (λi=>yUt i 2) [] Tryz.func129 yYh
def yFs:allC.ok Tryz.prog 129:=λj=>match j with
 |⟨i,ap⟩=>yHf i
 |⟨i,ao⟩=>yKs i
def zPv:quotesC.ok Tryz.prog 81:=okw mixed (gokc yFs (gokc tA gok0)) 0 (λ_=>[]) (λj=>yJl j) [] Tryz.func81 yLc
def zHq (i:fE) (s:Int):(xO i s).length<=100:=y3u (y4i _ _) (zCd i s)
structure Mkt where
 p:Prd
 s:MSt
 used:List Int
def zT (l:List Int):List (Value×List D):=l.map λx=>(.int .i64 x,[.v (.bool ao)])
def yS (m:Mkt):Nat->AObj
 |0=> .cells [sV m.p.code,.own 3,zA m.p.tick,zA m.p.low,zA m.p.high,zA m.p.wide,zA m.p.rule,zA m.p.top,zA m.p.least,zA m.p.part,.own 4,.nm 1 0,.mp 2] 114
 |1=>zD m.s
 |2=> .map (zT m.used)
 |3=> .fro 1 (iE m.p.months)
 |4=> .fro 1 (iE m.p.settle)
 |_=> .gone
def qR (m:Mkt):AObj:= .adt Mkt 5 yS m
def newMC:Con where
 ι:=Prd
 pat:=λp=>[mD p]
 pre:=λ_=>[]
 cnd:=λp=>p.small
 alts:=λp=>[{o:=Unit,res:=λ_=> .tup [.nm 0 0,zA 0],post:=λ_=>[qR ⟨p,dS p,[]⟩],rel:=λ_=>p.check=0},{o:=Unit,res:=λ_=> .tup [.d (.v (.pointer none)),zA p.check],post:=λ_=>[],rel:=λ_=>p.check≠0}]
def zGm (a:Prd) (b:Prd) (c:Unit):Prop:=True/\(0+(iE a.settle).length)*(8:Nat)<=(140737488355328:Nat)/\((∃(d:Unit),da ((0:Int))/\da (sb a.code)/\da a.tick/\da a.low/\da a.high/\da a.wide/\da a.rule/\da a.top/\da a.least/\da a.part/\zD (dS a)=zD (dS b)/\zT []=[]/\iE a.months=[]++iE a.months/\iE a.settle=[]++iE a.settle/\a.check=0)\/∃(c:Unit),False)
def zEq (a:Prd) (b:Prd) (c:Unit):Prop:=True/\True/\(0+(iE a.months).length)*(8:Nat)<=(140737488355328:Nat)/\zGm a b c
def zGl (a:Prd) (b:Unit):Prop:=True/\(0+(iE a.settle).length)*(8:Nat)<=(140737488355328:Nat)/\((∃(c:Unit),da ((0:Int))/\da (sb a.code)/\da a.tick/\da a.low/\da a.high/\da a.wide/\da a.rule/\da a.top/\da a.least/\da a.part/\False)\/∃(b:Unit),False)
def zGs (a:Prd) (b:Unit):Prop:=True/\True/\(0+(iE a.months).length)*(8:Nat)<=(140737488355328:Nat)/\zGl a b
def yOa (p:Prd):Prop:=
 ∃(a:Prd),sb a.code=sb p.code/\iE a.months=iE p.months/\a.tick=p.tick/\a.low=p.low/\a.high=p.high/\a.wide=p.wide/\a.rule=p.rule/\a.top=p.top/\a.least=p.least/\a.part=p.part/\iE a.settle=iE p.settle/\(yC a)/\(∀(b:Unit),a.check=0->(True/\True/\((0+(iE p.months).length)*(8:Nat)<=(140737488355328:Nat)/\True/\zGm p a b)/\zEq p a b)/\True/\True/\zEq p a b)/\∀(b:Unit),a.check≠0->cnd (a.check !=0) ((∃(c:Unit),False)\/∃(b:Unit),True/\p.check=a.check/\(p.check=0->False)) ((True/\True/\((0+(iE p.months).length)*(8:Nat)<=(140737488355328:Nat)/\True/\zGl p b)/\zGs p b)/\True/\True/\zGs p b)
def yVx (p:Prd) (h:newMC.cnd p):yOa p:=by
 unfold yOa zGs zGl zEq zGm yC;obtain⟨h1,h2,h3⟩:p.small:=h;refine⟨p,?_⟩;simp only[y3]
 (repeat'(first|exact rfl|exact trivial|assumption|apply aq|refineλ(_:Unit) (_:True)=>?_|refine am () ?_|omega|(dsimp only;omega)))
 ·intro _ c
  (repeat'(first|exact rfl|exact trivial|assumption|apply aq|refineλ(_:Unit) (_:True)=>?_|refine am () ?_|omega|(dsimp only;omega)))
  all_goals(refine .inl ⟨(),?_⟩;(repeat'(first|exact rfl|exact trivial|assumption|apply aq|refineλ(_:Unit) (_:True)=>?_|refine am () ?_|omega|(dsimp only;omega))))
 ·intro _ c;refine Cv.cnd.mk (λe=> .inr ⟨(),trivial,kp,c⟩) (λe=>absurd (by simpa using e) c)
def yKk:newMC.ok Tryz.prog 105:=okw mixed (gokc yKb gok0) 0 (λ_=>[]) (λ_=>[]) [] Tryz.func105 yVx
def clIntRC:Con:=zR (List Int) (λl=>[iV l]) (λ_=>[]) (λl=>l.length<=1000000) (λl=>iV l) (λ_=>[])
def yPx (n lo hi:Int):Int:=lo+n % (hi-lo+1)
def three (rule:Int):Prd:=⟨[67,76],[320,321,323],5,0,1000,200,rule,4,2,40,[500,505,490]⟩
def threeC:Con:=zR Int (λn=>[zA n]) (λ_=>[]) (λ_=>True) (λn=>mD (three n)) (λ_=>[])
def yIt (l:List Int):Prop:=
 ∀(b:Bool),(b=ao->iE l=[])->cnd b (∃(o:Unit),iE l=[]/\True) ((0+(iE l).length)*(8:Nat)<=(140737488355328:Nat)/\∃(o:Unit),iE l=[]++iE l/\True)
def z6w (l:List Int):Prop:=
 ∀(b:Bool),(b=ao->iE l=[])->cnd b (∃(o:Unit),iE l=[]/\True) ((0+(iE l).length)*(8:Nat)<=(140737488355328:Nat)/\∃(o:Unit),iE l=[]++iE l/\True)
def yBq (n:Int):Prop:=
 ∃(a:Unit),sb [(67:UInt8),(76:UInt8)]=ByteArray.mk #[(67:UInt8),(76:UInt8)]/\iE [(320:Int),(321:Int),(323:Int)]=[[dI 320],[dI 321],[dI 323]]/\da ((5:Int))/\da ((0:Int))/\da ((1000:Int))/\da ((200:Int))/\n=n/\da ((4:Int))/\da ((2:Int))/\da ((40:Int))/\iE [(500:Int),(505:Int),(490:Int)]=[[dI 500],[dI 505],[dI 490]]/\True
def zOr:clIntRC.ok Tryz.prog 49:=okw (V:=yIt) mixed gok0 0 (λ_=>[]) (λ_=>[]) [] Tryz.func49 λ(l:List Int) h=>by
 have h:l.length<=1000000:=h;exactλb hb=>Cv.cnd.mk (λe=>⟨(),hb e,trivial⟩) (λ_=>⟨by rw[y1x,y3];omega,(),rfl,trivial⟩)
def zHt:clIntRC.ok Tryz.prog 50:=okw (V:=z6w) mixed gok0 0 (λ_=>[]) (λ_=>[]) [] Tryz.func50 λ(l:List Int) h=>by
 have h:l.length<=1000000:=h;exactλb hb=>Cv.cnd.mk (λe=>⟨(),hb e,trivial⟩) (λ_=>⟨by rw[y1x,y3];omega,(),rfl,trivial⟩)
def three_ok:threeC.ok Tryz.prog 31:=okw (V:=yBq) mixed gok0 0 (λ_=>[]) (λ_=>[]) [] Tryz.func31 λ(n:Int) _=>by
 unfold yBq dI;exact kp
def zBh (l:List (Int×Int)) (k:Int):Option Int:=(l.find? λx=>decide (x.1=k)).map (·.2)
def yCb (l:List (Int×Int)) (k:Int):∀p∈yM l,like (av ar k) p.1=ao:=by
 intro p hp;obtain⟨x,_,rfl⟩:=y2m.1 hp;rfl
def mO (k:Int):∀l:List (Int×Int),qQ (av ar k) (yM l)=(zBh l k).map λv=>[D.v (.int .i64 v)]
 |[]=>rfl
 |(a,v)::l=>by
  have ih:=mO k l;show(bif (keq .i64 .i64 && decide (k=a))then _ else qQ _ (yM l))=_;by_cases h:k=a
  ·subst h;simp[zBh,keq]
  ·have h':¬a=k:=λe=>h e.symm
   rw[show(keq .i64 .i64 && decide (k=a))=ap by simp[h],cond_false,ih];simp[zBh,y6s,h']
structure Rep where
 kind:Int
 id:Int
 inst:Int
 side:Int
 price:Int
 qty:Int
 left:Int
 why:Int
 deriving DecidableEq
@[reducible] def y0h (r:Rep):V:= .agg [zA r.kind,zA r.id,zA r.inst,zA r.side,zA r.price,zA r.qty,zA r.left,zA r.why]
def xJ (r:Rep):List D:=[.v (.int .i64 r.kind),.v (.int .i64 r.id),.v (.int .i64 r.inst),.v (.int .i64 r.side),.v (.int .i64 r.price),.v (.int .i64 r.qty),.v (.int .i64 r.left),.v (.int .i64 r.why)]
def zXj (k v:Int):List (Int×Int)->List (Int×Int)
 |[]=>[(k,v)]
 |(a,b)::l=>if k=a then(a,v)::l else(a,b)::zXj k v l
def z1z (k:Int):List (Int×Int)->List (Int×Int)
 |[]=>[]
 |(a,b)::l=>if k=a then l else(a,b)::z1z k l
def bj (t:Nat):SAnn:={ι:=Bool,slots:=λb=>[(t,yT b)],rows:=λ_=>[]}
def ij (t:Nat):SAnn:={ι:=Int,slots:=λn=>[(t,zA n)],rows:=λ_=>[]}
end Sx
