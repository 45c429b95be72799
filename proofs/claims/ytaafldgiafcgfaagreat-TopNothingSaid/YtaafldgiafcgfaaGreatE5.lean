/- Texts of ours. No condition. -/
import Derived.Test.YtaafldgiafcgfaaGreatE4
set_option linter.all false
open List renaming map->aa,take->ab,filter->ac,drop->ae,range->af
open Sx.AObj renaming fro->ag,cells->aj,own->ak
open Exists renaming intro->am
open Bool renaming true->ao,false->ap
open Go.IntKind renaming i64->aq
open And renaming intro->ar
open Go.Value renaming string->au,int->av
open Option renaming some->aw
open Int renaming add_mul_emod_self_left->ax
namespace Sx
set_option maxRecDepth 100000
open Go Cv Go.Proofs
def elA {α:Type} {f:α->List D} {l:List α} {i g n:Nat} {x:α} {r:List D} (h:l[i]? =aw x) (hn:g+n<=(f x).length) (hr:((f x).drop g).take n=r):zE (l.map f) i g n=aw r:=by
 unfold zE;rw[y7p,h];simp only[y8b,Nat.ble_eq_true_of_le hn,cond_true,hr]
def zVq {a:Arena} {n:Int} {q:cQ} (h0:0<=n) (h:a.queues[n.toNat]? =aw q):a.qAt n=q:=by
 have:=(y6c.1 h).1;rw[Arena.qAt,y6a ⟨h0,by omega⟩,y6h,h];rfl
def zLi {a:Arena} {n:Int} (h:¬(0<=n/\n<a.queues.length)):a.qAt n=⟨0,0,0,0⟩:=by rw[Arena.qAt,y5x h]
def zHw:atotalC.ok Tryz.prog 175:=okw (V:=z6q) mixed gok0 1 (λ_=>[]) (λ_=>[]) [0] Tryz.func175 λ(i:ArN) _=>by
 unfold z6q gT lI jR dI;simp only[y5z];refine zI (λc=>Cv.cnd.mk (λd=> ?_) (λd=> ?_)) (λc=> ?_)
 ·have d:¬i.n<(i.a.queues.length:Int):=by simpa using d
  rw[zLi (by omega)];exact kp
 ·have d:i.n<(i.a.queues.length:Int):=by simpa using d
  obtain⟨q,hq⟩:=yC (l:=i.a.queues) (i:=i.n.toNat) oM;rw[zVq (by omega) hq];refine⟨⟨oM,oM⟩,q.total,elA hq (by simp[zP]) rfl,?_⟩;exact kp
 ·rw[zLi (by omega)];exact kp
def nY:acountC.ok Tryz.prog 176:=okw (V:=z8v) mixed gok0 1 (λ_=>[]) (λ_=>[]) [0] Tryz.func176 λ(i:ArN) _=>by
 unfold z8v gT lG jR dI;simp only[y5z];refine zI (λc=>Cv.cnd.mk (λd=> ?_) (λd=> ?_)) (λc=> ?_)
 ·have d:¬i.n<(i.a.queues.length:Int):=by simpa using d
  rw[zLi (by omega)];exact kp
 ·have d:i.n<(i.a.queues.length:Int):=by simpa using d
  obtain⟨q,hq⟩:=yC (l:=i.a.queues) (i:=i.n.toNat) oM;rw[zVq (by omega) hq];refine⟨⟨oM,oM⟩,q.count,elA hq (by simp[zP]) rfl,?_⟩;exact kp
 ·rw[zLi (by omega)];exact kp
def eU:bisC.ok Tryz.prog 154:=okw (V:=y1p) mixed gok0 0 (λ_=>[]) (λ_=>[]) [] Tryz.func154 λ(n:Int) _=>by
 unfold y1p;refine Cv.cnd.mk (λc=>⟨(),?_,trivial⟩) (λc=>⟨(),?_,trivial⟩)
 all_goals simp at c
 ·simp[c]
 ·by_cases h:n=2<;>simp[c,h]
def z8l:toldC.ok Tryz.prog 155:=okw (V:=y1y) mixed (gokc zHw (gokc nY gok0)) 0 (λ_=>[]) (λ_=>[]) [0] Tryz.func155 λ(i:BkR) h=>by
 refine⟨⟨i.b.a,i.r.queue⟩,?_⟩;(repeat'(first|exact rfl|exact trivial|assumption|apply ar|refineλ(_:Unit) (_:True)=>?_|refine am () ?_|omega|(dsimp only;omega)));refine⟨⟨i.b.a,i.r.queue⟩,?_⟩;exact kp
def yGh:best1C.ok Tryz.prog 126:=okw (V:=yUb) mixed (gokc eU (gokc z8l gok0)) 0 (λ_=>[]) (λ_=>[]) [0] Tryz.func126 λ(b:Book) h=>by
 have h:b.cntOk:=h;refine⟨1,rfl,trivial,λ_ _=>Cv.cnd.mk (λc=>absurd c Z8) λ_=> ?_⟩;simp only[y5z];refine Cv.cnd.mk (λc=> ?_) (λc=> ?_)
 ·have hl:b.buys=[]:=y6y (by have:(b.buys.length:Int)=0:=(by simpa using c);omega);have e:b.best b.buys=(⟨0,0,0⟩,ap):=by rw[hl];rfl
  rw[e];exact kp
 ·obtain⟨r,l,hl⟩:∃r l,b.buys=r::l:=by
   cases hb:b.buys with
   |nil=>rw[hb]at c;exact absurd c Z8
   |cons r l=>exact⟨r,l,rfl⟩
  have e:b.best b.buys=(b.told r,ao):=by rw[hl];rfl
  rw[e];refine⟨⟨oM,by rw[hl,y6d];omega⟩,r.price,r.queue,elA (x:=r) (by rw[hl];rfl) (by simp[zB]) rfl,⟨b,r⟩,?_⟩;exact kp
def yEc:best2C.ok Tryz.prog 126:=okw (V:=yXb) mixed (gokc eU (gokc z8l gok0)) 0 (λ_=>[]) (λ_=>[]) [0] Tryz.func126 λ(b:Book) h=>by
 have h:b.cntOk:=h;refine⟨2,rfl,trivial,λ_ _=>Cv.cnd.mk (λc=>absurd c Z8) λ_=> ?_⟩;simp only[y5z];refine Cv.cnd.mk (λc=> ?_) (λc=> ?_)
 ·have hl:b.sells=[]:=y6y (by have:(b.sells.length:Int)=0:=(by simpa using c);omega);have e:b.best b.sells=(⟨0,0,0⟩,ap):=by rw[hl];rfl
  rw[e];exact kp
 ·obtain⟨r,l,hl⟩:∃r l,b.sells=r::l:=by
   cases hb:b.sells with
   |nil=>rw[hb]at c;exact absurd c Z8
   |cons r l=>exact⟨r,l,rfl⟩
  have e:b.best b.sells=(b.told r,ao):=by rw[hl];rfl
  rw[e];refine⟨⟨oM,by rw[hl,y6d];omega⟩,r.price,r.queue,elA (x:=r) (by rw[hl];rfl) (by simp[zB]) rfl,⟨b,r⟩,?_⟩;exact kp
def zLl:bestC.ok Tryz.prog 126:=λi=>match i with
 |⟨ap,b⟩=>yGh b
 |⟨ao,b⟩=>yEc b
def zQe {α:Type} (f:α->α) (x:α) (b:List α):∀a:List α,(a++x::b).modify a.length f=a++f x::b
 |[]=>rfl
 |y::a=>by
  show y::(a++x::b).modify a.length f=_;rw[zQe f x b a];rfl
def zRg {els:List (List D)} {a b:List (List D)} {x y ds:List D} {j f:Nat} (h:els=a++x::b) (hl:a.length=j) (hy:x.take f++(ds++x.drop (f+ds.length))=y):zX els j f ds=a++y::b:=by
 rw[zX,h,<- hl,zQe,hy]
def qZ {s:MSt} {j:Nat} {x y:Top} {f:Nat} {ds:List D} (hj:j<s.books.length) (hy:(z6 x).take f++(ds++(z6 x).drop (f+ds.length))=z6 y):
 zX (aa z6 (xR s j x)) j f ds=aa z6 (xR s j y):=by
 rw[zRg (a:=(s.tops.take j).map z6) (b:=(List.replicate (s.books.length-j-1) top0).map z6) (by rw[xR,y6i,y6m]) (by
  rw[y5z,y6t,MSt.tops,y5z];omega) hy,xR,y6i,y6m]
def zQd {s:MSt} {j:Nat} {x:Top} (hj:j<s.books.length):(xR s j x).length=s.books.length:=by
 rw[xR,y5y,y6d,y6t,MSt.tops,y5z,y9d];omega
def zJw {s:MSt} {j:Nat} (hj:j<s.books.length):xR s j top0=x5 s j:=by
 rw[xR,x5];obtain⟨m,hm⟩:∃m,s.books.length-j=m+1:=⟨s.books.length-j-1,oM⟩
 rw[hm,xAf];rfl
def zKl {s:MSt} {j:Nat} {b:Book} (hb:s.books[j]? =aw b):xR s j b.top=x5 s (j+1):=by
 have hj:=(y6c.1 hb).1;rw[xR,x5,y7h,show s.tops[j]? =aw b.top by rw[MSt.tops,y7p,hb];rfl];simp only[y9b,y6f,y7o,y8s];rw[show s.books.length-j-1=s.books.length-(j+1)by omega]
def fV {α:Type} {l:List α} {j:Nat} {x:α} (h:l[j]? =aw x):l.set j x=l:=by
 obtain⟨hj,rfl⟩:=y6c.1 h;exact List.set_getElem_self hj
def y0k (s:MSt) (h:topsC.cnd s):yQu s:=by
 obtain⟨h1,h2⟩:s.cntOk:=h;unfold yQu zPq zFt g8 uO qV vK fH bY bP zHh zAz l8 dO bV l6 dA dX zY bX uT dI;have p48:(2:Int) ^ (48:Nat)=281474976710656:=by decide
 refine⟨⟨oM,oM,oM,by rw[p48];omega⟩,0,rfl,?_,λj=>j<=s.books.length,λj=>s.books.length-j,oM,λj hj=>zI (λhlt=> ?_) (λhlt=> ?_)⟩
 ·rw[x5,y6i,List.map_replicate];rfl
 ·have hj':j<s.books.length:=by omega
  obtain⟨b,hb⟩:=yC hj';have hc:=h2 b (y6j hb);simp only[y6r];have ha:∀x,(aa z6 (xR s j x)).length=s.books.length:=λx=>by rw[y5z,zQd hj']
  have w1:aq.wrap (0+1)=1:=by decide
  have w2:(0+1) % ((2:Int) ^ aq.bits).natAbs=1:=by decide
  refine⟨⟨oM,oM⟩,oM,(j,top0),by rw[zJw hj'],λx=>x=(j,top0.buy (b.best b.buys)),⟨⟨Z8,Z8⟩,1,rfl,b,hb,⟨ap,b⟩,rfl,rfl,hc,λ_ _=>⟨b,rfl,kp,oM,?_⟩⟩,?_⟩
  ·refine Cv.cnd.mk (λc=> ?_) (λc=> ?_)
   ·have c:(b.best b.buys).2=ao:=c;have e1:=qZ (s:=s) hj' (x:=top0) (y:={top0 with has1:=ao}) (f:=0+0+0*1) (ds:=[D.v (.bool ao)]) rfl;have e2:=qZ (s:=s) hj' (x:={top0 with has1:=ao}) (y:={top0 with has1:=ao,p1:=(b.best b.buys).1.price}) (f:=0+2+0*1) (ds:=[D.v (.int .i64 (b.best b.buys).1.price)]) rfl;have e3:=qZ (s:=s) hj' (x:={top0 with has1:=ao,p1:=(b.best b.buys).1.price}) (y:={top0 with has1:=ao,p1:=(b.best b.buys).1.price,q1:=(b.best b.buys).1.qty}) (f:=0+4+0*1) (ds:=[D.v (.int .i64 (b.best b.buys).1.qty)]) rfl;dsimp only;simp only[show b.side ap=b.buys from rfl,e1,e2,e3,ha]
    (repeat'(first|exact rfl|exact trivial|assumption|apply ar|refineλ(_:Unit) (_:True)=>?_|refine am () ?_|omega|(dsimp only;omega)))
    refine⟨(j,{top0 with has1:=ao,p1:=(b.best b.buys).1.price,q1:=(b.best b.buys).1.qty}),rfl,?_,?_⟩
    ·rw[Top.buy,y6a c]
    ·(repeat'(first|exact rfl|exact trivial|assumption|apply ar|refineλ(_:Unit) (_:True)=>?_|refine am () ?_|omega|(dsimp only;omega)))
     rw[fV hb]
   ·have c:(b.best b.buys).2=ap:=c;refine⟨(j,top0),rfl,?_,?_⟩
    ·rw[Top.buy,y5x (by rw[c];simp)]
    ·(repeat'(first|exact rfl|exact trivial|assumption|apply ar|refineλ(_:Unit) (_:True)=>?_|refine am () ?_|omega|(dsimp only;omega)))
     rw[fV hb]
  ·rintro _ rfl;rw[w1];generalize hx:top0.buy (b.best b.buys)=x;have hx2:b.top=x.sell (b.best b.sells):=by rw[Book.top,hx]
   refine⟨(j,x),rfl,λy=>y=(j,b.top),⟨⟨Z8,Z8⟩,2,rfl,b,hb,⟨ao,b⟩,rfl,rfl,hc,λ_ _=>⟨b,rfl,kp,oM,?_⟩⟩,?_⟩
   ·refine Cv.cnd.mk (λc=> ?_) (λc=> ?_)
    ·have c:(b.best b.sells).2=ao:=c;have e1:=qZ (s:=s) hj' (x:=x) (y:={x with has2:=ao}) (f:=0+0+1*1) (ds:=[D.v (.bool ao)]) rfl;have e2:=qZ (s:=s) hj' (x:={x with has2:=ao}) (y:={x with has2:=ao,p2:=(b.best b.sells).1.price}) (f:=0+2+1*1) (ds:=[D.v (.int .i64 (b.best b.sells).1.price)]) rfl;have e3:=qZ (s:=s) hj' (x:={x with has2:=ao,p2:=(b.best b.sells).1.price}) (y:={x with has2:=ao,p2:=(b.best b.sells).1.price,q2:=(b.best b.sells).1.qty}) (f:=0+4+1*1) (ds:=[D.v (.int .i64 (b.best b.sells).1.qty)]) rfl;dsimp only;simp only[w2,show b.side ao=b.sells from rfl,e1,e2,e3,ha]
     (repeat'(first|exact rfl|exact trivial|assumption|apply ar|refineλ(_:Unit) (_:True)=>?_|refine am () ?_|omega|(dsimp only;omega)))
     refine⟨(j,{x with has2:=ao,p2:=(b.best b.sells).1.price,q2:=(b.best b.sells).1.qty}),rfl,?_,?_⟩
     ·rw[hx2,Top.sell,y6a c]
     ·(repeat'(first|exact rfl|exact trivial|assumption|apply ar|refineλ(_:Unit) (_:True)=>?_|refine am () ?_|omega|(dsimp only;omega)))
      rw[fV hb]
    ·have c:(b.best b.sells).2=ap:=c;refine⟨(j,x),rfl,?_,?_⟩
     ·rw[hx2,Top.sell,y5x (by rw[c];simp)]
     ·(repeat'(first|exact rfl|exact trivial|assumption|apply ar|refineλ(_:Unit) (_:True)=>?_|refine am () ?_|omega|(dsimp only;omega)))
      rw[fV hb]
   ·rintro _ rfl;refine⟨j+1,by rw[w64 (by omega)];rfl,?_⟩;refine⟨by dsimp only;rw[zKl hb],?_⟩;exact kp
 ·have hj:j<=s.books.length:=hj;obtain rfl:j=s.books.length:=by omega
  have e:x5 s s.books.length=s.tops:=by
   rw[x5,xBo,List.replicate_zero,y6w,y6k (by rw[MSt.tops,y5z];omega)]
  rw[e];exact kp
def yPc:topsC.ok Tryz.prog 76:=okw mixed (gokc zLl gok0) 0 (λs=>yQt s) (λs=>ySu s) [0] Tryz.func76 y0k
def zFk:copySC.ok Tryz.prog 82:=okw (V:=yWw) mixed (gokc yNh (gokc yFz gok0)) 0 (λ_=>[]) (λs=>yVd s) [0] Tryz.func82 λ(s:MSt) h=>by
 obtain⟨h1,h2⟩:s.small:=h;refine⟨yR s.wh,?_⟩;(repeat'(first|exact rfl|exact trivial|assumption|apply ar|refineλ(_:Unit) (_:True)=>?_|refine am () ?_|omega|(dsimp only;omega)));refine⟨0,?_⟩;(repeat'(first|exact rfl|exact trivial|assumption|apply ar|refineλ(_:Unit) (_:True)=>?_|refine am () ?_|omega|(dsimp only;omega)));refine⟨λj=>j<=s.books.length,λj=>s.books.length-j,oM,λj hj=>zI (λhlt=> ?_) (λhlt=> ?_)⟩
 ·obtain⟨b,hb⟩:=yC (l:=s.books) (i:=j) oM;have hs:=h2 b (y6j hb);simp only[y6r];refine⟨⟨oM,oM⟩,oM,b,hb,b,rfl,hs,λ_ _=>⟨b,rfl,kp,oM,trivial,trivial,s.books.take j,rfl,?_,j+1,?_⟩⟩
  ·rw[y6t];omega
  ·rw[w64 (by omega),y7h,hb]
   (repeat'(first|exact rfl|exact trivial|assumption|apply ar|refineλ(_:Unit) (_:True)=>?_|refine am () ?_|omega|(dsimp only;omega)))
   rw[fV hb]
 ·have hj:j<=s.books.length:=hj;obtain rfl:j=s.books.length:=by omega
  rw[y6k (y6v _)];exact kp
structure Leg where
 inst:Int
 side:Int
 deriving DecidableEq
structure Quote where
 price:Int
 qty:Int
 a:Leg
 b:Leg
 deriving DecidableEq
def zJ (q:Quote):List D:=[.v (.int .i64 q.price),.v (.int .i64 q.qty),.v (.int .i64 q.a.inst),.v (.int .i64 q.a.side),.v (.int .i64 q.b.inst),.v (.int .i64 q.b.side)]
@[reducible] def zUd (q:Quote):V:= .agg [zA q.price,zA q.qty,zA q.a.inst,zA q.a.side,zA q.b.inst,zA q.b.side]
def yVj:Quote:=⟨0,0,⟨0,0⟩,⟨0,0⟩⟩
structure I3' where
 side:Int
 x:Int
 y:Int
def btr (side x y:Int):Bool:=if side=1 then decide (y<x)else decide (x<y)
def iotherC:Con:=con1 Int (λn=>[zA n]) (λ_=>[]) (λn=>n=1\/n=2) (λn=>zA (3-n)) (λ_=>[])
def ibetterC:Con:=con1 I3' (λi=>[zA i.side,zA i.x,zA i.y]) (λ_=>[]) (λ_=>True) (λi=>yP (btr i.side i.x i.y)) (λ_=>[])
def Top.has (t:Top) (s:Int):Bool:=if s=1 then t.has1 else t.has2
def Top.price (t:Top) (s:Int):Int:=if s=1 then t.p1 else t.p2
def Top.qty (t:Top) (s:Int):Int:=if s=1 then t.q1 else t.q2
def mkq (tops:List Top) (a b:Leg) (less:Bool):List Quote:=
 let x:=tops.getD a.inst.toNat top0
 let y:=tops.getD b.inst.toNat top0
 let r:=if less then h9 (y.price b.side) (x.price a.side)else gF (x.price a.side) (y.price b.side)
 if x.has a.side && y.has b.side && r.2 then[⟨r.1,min (x.qty a.side) (y.qty b.side),a,b⟩]else[]
structure MkI where
 tops:List Top
 out:List Quote
 a:Int
 b:Int
 less:Bool
@[reducible] def vN (l:List Top):Prop:=l.length<=1000000/\∀t∈l,i64r t.p1/\i64r t.p2
def MkU (x:List Top×List Quote):Nat->AObj
 |0=> .cells [.own 1,.own 2] 258
 |1=> .fro 6 (x.1.map z6)
 |2=> .own 172 6 (x.2.map zJ)
 |_=> .gone
@[reducible] def MkR (tops:List Top) (out:List Quote):List AObj:=[MkU (tops,out) 0,MkU (tops,out) 1,MkU (tops,out) 2]
@[reducible] def MkP (tops:List Top) (out:List Quote):List AObj:=[.cells [.own 1,.own 3] 258,MkU (tops,out) 1,.gone,MkU (tops,out) 2]
def mkC (sa sb:Int):Con:=con1 MkI (λi=>[.nm 0 0,.agg [zA i.a,zA sa],.agg [zA i.b,zA sb],yP i.less]) (λi=>MkR i.tops i.out)
 (λi=>0<=i.a/\i.a<i.tops.length/\0<=i.b/\i.b<i.tops.length/\vN i.tops/\i.out.length<=1000) (λ_=>tH) (λi=>MkP i.tops (i.out++mkq i.tops ⟨i.a,sa⟩ ⟨i.b,sb⟩ i.less))
def mk11:Con:=mkC 1 1
def mk12:Con:=mkC 1 2
def mk21:Con:=mkC 2 1
def mk22:Con:=mkC 2 2
def yNf (n:Int):Prop:=
 ∃(o:Unit),3-n=aq.wrap (3-n)/\True
def yDt (i:I3'):Prop:=
 cnd (i.side==1) (∃(o:Unit),btr i.side i.x i.y=decide (i.x>i.y)/\True) (∃(o:Unit),btr i.side i.x i.y=decide (i.x<i.y)/\True)
def lW (a:MkI):=(a.out++mkq a.tops (Leg.mk a.a 1) (Leg.mk a.b 1) a.less)
def pJ (a:MkI):Prop:=∃(b:Unit),ag 6 (aa z6 a.tops)=MkU (a.tops,a.out) 1/\aa zJ (lW a)=aa zJ a.out/\True
def jI (a:I2):Prop:=((-9223372036854775808)<=a.x/\a.x<=9223372036854775807)/\(-9223372036854775808)<=a.y/\a.y<=9223372036854775807
def qU (a:MkI):=(↑(aa z6 a.tops).length:Int)
def x9 (a:MkI):Prop:=(0<=a.b/\a.b<(qU a))/\dh a.b.toNat
def jE (a:MkI):Prop:=(0<=a.a/\a.a<(qU a))/\dh a.a.toNat
def jG (a:MkI):=((aa zJ a.out).length+1)
def zPv (a:MkI) (b:Bool) (c:Bool) (d:Int) (e:Int) (f:Int) (g:Int):Prop:=True/\(x9 a)/\a.b=a.b/\True/\True/\(jE a)/\a.a=a.a/\True/\True/\(x9 a)/\a.b=a.b/\True/\True/\(jE a)/\a.a=a.a/\True/\True/\(x9 a)/\a.b=a.b/\True/\cnd (!b) (pJ a) (cnd (!c) (pJ a) (∃(h:I2),h.x=d/\h.y=e/\(jI h)/\∀(j:Unit),True->cnd a.less (∃(k:I2),k.x=e/\k.y=d/\(jI k)/\∀(l:Unit),True->cnd (h9 k.x k.y).snd (True/\(jG a)*(48:Nat)<=(140737488355328:Nat)/\∃(m:Unit),ag 6 (aa z6 a.tops)=MkU (a.tops,a.out) 1/\aa zJ (lW a)=aa zJ a.out++[[dI ((h9 k.x k.y).fst),dI (min f g),dI a.a,dI 1,dI a.b,dI 1]]/\True) (pJ a)) (cnd (gF h.x h.y).snd (True/\(jG a)*(48:Nat)<=(140737488355328:Nat)/\∃(k:Unit),ag 6 (aa z6 a.tops)=MkU (a.tops,a.out) 1/\aa zJ (lW a)=aa zJ a.out++[[dI ((gF h.x h.y).fst),dI (min f g),dI a.a,dI 1,dI a.b,dI 1]]/\True) (pJ a))))
def yRf (i:MkI):Prop:=
 (0<=i.a/\i.a<(qU i))/\∃(a:Bool),∃(b:Bool),∃(c:Int),∃(d:Int),∃(e:Int),∃(f:Int),zE (aa z6 i.tops) i.a.toNat 0 6=aw [D.v (.bool a),D.v (.bool b),dI c,dI d,dI e,dI f]/\(0<=i.b/\i.b<(qU i))/\∃(g:Bool),∃(h:Bool),∃(j:Int),∃(k:Int),∃(l:Int),∃(m:Int),zE (aa z6 i.tops) i.b.toNat 0 6=aw [D.v (.bool g),D.v (.bool h),dI j,dI k,dI l,dI m]/\(zPv i a g c j e l)/\zPv i a g c j e l
def zAg (a:MkI):=(a.out++mkq a.tops (Leg.mk a.a 1) (Leg.mk a.b 2) a.less)
def nI (a:MkI):Prop:=∃(b:Unit),ag 6 (aa z6 a.tops)=MkU (a.tops,a.out) 1/\aa zJ (zAg a)=aa zJ a.out/\True
def zMu (a:MkI) (b:Bool) (c:Bool) (d:Int) (e:Int) (f:Int) (g:Int):Prop:=True/\(x9 a)/\a.b=a.b/\True/\True/\(jE a)/\a.a=a.a/\True/\True/\(x9 a)/\a.b=a.b/\True/\True/\(jE a)/\a.a=a.a/\True/\True/\(x9 a)/\a.b=a.b/\True/\cnd (!b) (nI a) (cnd (!c) (nI a) (∃(h:I2),h.x=d/\h.y=e/\(jI h)/\∀(j:Unit),True->cnd a.less (∃(k:I2),k.x=e/\k.y=d/\(jI k)/\∀(l:Unit),True->cnd (h9 k.x k.y).snd (True/\(jG a)*(48:Nat)<=(140737488355328:Nat)/\∃(m:Unit),ag 6 (aa z6 a.tops)=MkU (a.tops,a.out) 1/\aa zJ (zAg a)=aa zJ a.out++[[dI ((h9 k.x k.y).fst),dI (min f g),dI a.a,dI 1,dI a.b,dI 2]]/\True) (nI a)) (cnd (gF h.x h.y).snd (True/\(jG a)*(48:Nat)<=(140737488355328:Nat)/\∃(k:Unit),ag 6 (aa z6 a.tops)=MkU (a.tops,a.out) 1/\aa zJ (zAg a)=aa zJ a.out++[[dI ((gF h.x h.y).fst),dI (min f g),dI a.a,dI 1,dI a.b,dI 2]]/\True) (nI a))))
def yQs (i:MkI):Prop:=
 (0<=i.a/\i.a<(qU i))/\∃(a:Bool),∃(b:Bool),∃(c:Int),∃(d:Int),∃(e:Int),∃(f:Int),zE (aa z6 i.tops) i.a.toNat 0 6=aw [D.v (.bool a),D.v (.bool b),dI c,dI d,dI e,dI f]/\(0<=i.b/\i.b<(qU i))/\∃(g:Bool),∃(h:Bool),∃(j:Int),∃(k:Int),∃(l:Int),∃(m:Int),zE (aa z6 i.tops) i.b.toNat 0 6=aw [D.v (.bool g),D.v (.bool h),dI j,dI k,dI l,dI m]/\(zMu i a h c k e m)/\zMu i a h c k e m
def zAv (a:MkI):=(a.out++mkq a.tops (Leg.mk a.a 2) (Leg.mk a.b 1) a.less)
def pL (a:MkI):Prop:=∃(b:Unit),ag 6 (aa z6 a.tops)=MkU (a.tops,a.out) 1/\aa zJ (zAv a)=aa zJ a.out/\True
def zPb (a:MkI) (b:Bool) (c:Bool) (d:Int) (e:Int) (f:Int) (g:Int):Prop:=True/\(x9 a)/\a.b=a.b/\True/\True/\(jE a)/\a.a=a.a/\True/\True/\(x9 a)/\a.b=a.b/\True/\True/\(jE a)/\a.a=a.a/\True/\True/\(x9 a)/\a.b=a.b/\True/\cnd (!b) (pL a) (cnd (!c) (pL a) (∃(h:I2),h.x=d/\h.y=e/\(jI h)/\∀(j:Unit),True->cnd a.less (∃(k:I2),k.x=e/\k.y=d/\(jI k)/\∀(l:Unit),True->cnd (h9 k.x k.y).snd (True/\(jG a)*(48:Nat)<=(140737488355328:Nat)/\∃(m:Unit),ag 6 (aa z6 a.tops)=MkU (a.tops,a.out) 1/\aa zJ (zAv a)=aa zJ a.out++[[dI ((h9 k.x k.y).fst),dI (min f g),dI a.a,dI 2,dI a.b,dI 1]]/\True) (pL a)) (cnd (gF h.x h.y).snd (True/\(jG a)*(48:Nat)<=(140737488355328:Nat)/\∃(k:Unit),ag 6 (aa z6 a.tops)=MkU (a.tops,a.out) 1/\aa zJ (zAv a)=aa zJ a.out++[[dI ((gF h.x h.y).fst),dI (min f g),dI a.a,dI 2,dI a.b,dI 1]]/\True) (pL a))))
def yRu (i:MkI):Prop:=
 (0<=i.a/\i.a<(qU i))/\∃(a:Bool),∃(b:Bool),∃(c:Int),∃(d:Int),∃(e:Int),∃(f:Int),zE (aa z6 i.tops) i.a.toNat 0 6=aw [D.v (.bool a),D.v (.bool b),dI c,dI d,dI e,dI f]/\(0<=i.b/\i.b<(qU i))/\∃(g:Bool),∃(h:Bool),∃(j:Int),∃(k:Int),∃(l:Int),∃(m:Int),zE (aa z6 i.tops) i.b.toNat 0 6=aw [D.v (.bool g),D.v (.bool h),dI j,dI k,dI l,dI m]/\(zPb i b g d j f l)/\zPb i b g d j f l
def zAp (a:MkI):=(a.out++mkq a.tops (Leg.mk a.a 2) (Leg.mk a.b 2) a.less)
def pE (a:MkI):Prop:=∃(b:Unit),ag 6 (aa z6 a.tops)=MkU (a.tops,a.out) 1/\aa zJ (zAp a)=aa zJ a.out/\True
def zPt (a:MkI) (b:Bool) (c:Bool) (d:Int) (e:Int) (f:Int) (g:Int):Prop:=True/\(x9 a)/\a.b=a.b/\True/\True/\(jE a)/\a.a=a.a/\True/\True/\(x9 a)/\a.b=a.b/\True/\True/\(jE a)/\a.a=a.a/\True/\True/\(x9 a)/\a.b=a.b/\True/\cnd (!b) (pE a) (cnd (!c) (pE a) (∃(h:I2),h.x=d/\h.y=e/\(jI h)/\∀(j:Unit),True->cnd a.less (∃(k:I2),k.x=e/\k.y=d/\(jI k)/\∀(l:Unit),True->cnd (h9 k.x k.y).snd (True/\(jG a)*(48:Nat)<=(140737488355328:Nat)/\∃(m:Unit),ag 6 (aa z6 a.tops)=MkU (a.tops,a.out) 1/\aa zJ (zAp a)=aa zJ a.out++[[dI ((h9 k.x k.y).fst),dI (min f g),dI a.a,dI 2,dI a.b,dI 2]]/\True) (pE a)) (cnd (gF h.x h.y).snd (True/\(jG a)*(48:Nat)<=(140737488355328:Nat)/\∃(k:Unit),ag 6 (aa z6 a.tops)=MkU (a.tops,a.out) 1/\aa zJ (zAp a)=aa zJ a.out++[[dI ((gF h.x h.y).fst),dI (min f g),dI a.a,dI 2,dI a.b,dI 2]]/\True) (pE a))))
def yQp (i:MkI):Prop:=
 (0<=i.a/\i.a<(qU i))/\∃(a:Bool),∃(b:Bool),∃(c:Int),∃(d:Int),∃(e:Int),∃(f:Int),zE (aa z6 i.tops) i.a.toNat 0 6=aw [D.v (.bool a),D.v (.bool b),dI c,dI d,dI e,dI f]/\(0<=i.b/\i.b<(qU i))/\∃(g:Bool),∃(h:Bool),∃(j:Int),∃(k:Int),∃(l:Int),∃(m:Int),zE (aa z6 i.tops) i.b.toNat 0 6=aw [D.v (.bool g),D.v (.bool h),dI j,dI k,dI l,dI m]/\(zPt i b h d k f m)/\zPt i b h d k f m
def zTs:iotherC.ok Tryz.prog 156:=okw (V:=yNf) mixed gok0 0 (λ_=>[]) (λ_=>[]) [] Tryz.func156 λ(n:Int) h=>by
 have h:n=1\/n=2:=h;refine⟨(),?_,trivial⟩;rw[w64 (by omega)]
def z3d:ibetterC.ok Tryz.prog 134:=okw (V:=yDt) mixed gok0 0 (λ_=>[]) (λ_=>[]) [] Tryz.func134 λ(i:I3') _=>by
 refine Cv.cnd.mk (λe=>⟨(),?_,trivial⟩) (λe=>⟨(),?_,trivial⟩)
 ·have e:i.side=1:=by simpa using e
  simp[btr,e]
 ·have e:i.side≠1:=by simpa using e
  simp[btr,e]
def yNg (a b:Int):(if b<a then b else a)=min a b:=by split<;>omega
def y2q (i:MkI) (h:mk11.cnd i):yRf i:=by
 obtain⟨a0,a1,b0,b1,⟨ht,hp⟩,ho⟩:0<=i.a/\i.a<i.tops.length/\0<=i.b/\i.b<i.tops.length/\vN i.tops/\i.out.length<=1000:=h;obtain⟨x,hx⟩:=yC (l:=i.tops) (i:=i.a.toNat) oM;obtain⟨y,hy⟩:=yC (l:=i.tops) (i:=i.b.toNat) oM;obtain⟨⟨px1,px2⟩,px3,px4⟩:=hp x (y6j hx);obtain⟨⟨py1,py2⟩,py3,py4⟩:=hp y (y6j hy);have e0:mkq i.tops ⟨i.a,1⟩ ⟨i.b,1⟩ i.less=if x.has1 && y.has1 && (if i.less then h9 y.p1 x.p1 else gF x.p1 y.p1).2 then[⟨(if i.less then h9 y.p1 x.p1 else gF x.p1 y.p1).1,min x.q1 y.q1,⟨i.a,1⟩,⟨i.b,1⟩⟩]else[]:=by
  simp only[mkq,y6h,hx,hy,y8k];rfl
 unfold yRf zPv jG jE x9 qU jI pJ lW dI;simp only[y5z];refine⟨⟨oM,oM⟩,x.has1,x.has2,x.p1,x.p2,x.q1,x.q2,elA hx (by simp[z6]) rfl,⟨oM,oM⟩,y.has1,y.has2,y.p1,y.p2,y.q1,y.q2,elA hy (by simp[z6]) rfl,?_⟩;rw[e0]
 (repeat'(first|exact rfl|exact trivial|assumption|apply ar|refineλ(_:Unit) (_:True)=>?_|refine am () ?_|omega|(dsimp only;omega)))
 all_goals
  refine Cv.cnd.mk (λc1=> ?_) (λc1=>Cv.cnd.mk (λc2=> ?_) (λc2=> ?_))
  ·have c1:x.has1=ap:=by simpa using c1
   simp only[c1,y9k,y6s,if_false,y6w];exact kp
  ·have c2:y.has1=ap:=by simpa using c2
   simp only[c2,xBc,y9k,y6s,if_false,y6w];exact kp
  ·have c1:x.has1=ao:=by simpa using c1
   have c2:y.has1=ao:=by simpa using c2
   simp only[c1,c2,y8v,yNg];refine⟨⟨x.p1,y.p1⟩,?_⟩
   (repeat'(first|exact rfl|exact trivial|assumption|apply ar|refineλ(_:Unit) (_:True)=>?_|refine am () ?_|omega|(dsimp only;omega)))
   refine Cv.cnd.mk (λc3=> ?_) (λc3=> ?_)
   ·have c3:i.less=ao:=c3;simp only[c3,if_true];refine⟨⟨y.p1,x.p1⟩,?_⟩
    (repeat'(first|exact rfl|exact trivial|assumption|apply ar|refineλ(_:Unit) (_:True)=>?_|refine am () ?_|omega|(dsimp only;omega)))
    refine Cv.cnd.mk (λc4=> ?_) (λc4=> ?_)
    ·have c4:(h9 y.p1 x.p1).2=ao:=c4;simp only[c4,if_true,y6i];exact kp
    ·have c4:(h9 y.p1 x.p1).2=ap:=c4;simp only[c4,y6s,if_false,y6w];exact kp
   ·have c3:i.less=ap:=c3;simp only[c3,y6s,if_false];refine Cv.cnd.mk (λc4=> ?_) (λc4=> ?_)
    ·have c4:(gF x.p1 y.p1).2=ao:=c4;simp only[c4,if_true,y6i];exact kp
    ·have c4:(gF x.p1 y.p1).2=ap:=c4;simp only[c4,y6s,if_false,y6w];exact kp
def yQi:mk11.ok Tryz.prog 157:=okw mixed (gokc zWk (gokc zWb gok0)) 0 (λ_=>[]) (λ_=>[]) [] Tryz.func157 y2q
def y0a (i:MkI) (h:mk12.cnd i):yQs i:=by
 obtain⟨a0,a1,b0,b1,⟨ht,hp⟩,ho⟩:0<=i.a/\i.a<i.tops.length/\0<=i.b/\i.b<i.tops.length/\vN i.tops/\i.out.length<=1000:=h;obtain⟨x,hx⟩:=yC (l:=i.tops) (i:=i.a.toNat) oM;obtain⟨y,hy⟩:=yC (l:=i.tops) (i:=i.b.toNat) oM;obtain⟨⟨px1,px2⟩,px3,px4⟩:=hp x (y6j hx);obtain⟨⟨py1,py2⟩,py3,py4⟩:=hp y (y6j hy);have e0:mkq i.tops ⟨i.a,1⟩ ⟨i.b,2⟩ i.less=if x.has1 && y.has2 && (if i.less then h9 y.p2 x.p1 else gF x.p1 y.p2).2 then[⟨(if i.less then h9 y.p2 x.p1 else gF x.p1 y.p2).1,min x.q1 y.q2,⟨i.a,1⟩,⟨i.b,2⟩⟩]else[]:=by
  simp only[mkq,y6h,hx,hy,y8k];rfl
 unfold yQs zMu nI zAg jG jE x9 jI qU dI;simp only[y5z];refine⟨⟨oM,oM⟩,x.has1,x.has2,x.p1,x.p2,x.q1,x.q2,elA hx (by simp[z6]) rfl,⟨oM,oM⟩,y.has1,y.has2,y.p1,y.p2,y.q1,y.q2,elA hy (by simp[z6]) rfl,?_⟩;rw[e0]
 (repeat'(first|exact rfl|exact trivial|assumption|apply ar|refineλ(_:Unit) (_:True)=>?_|refine am () ?_|omega|(dsimp only;omega)))
 all_goals
  refine Cv.cnd.mk (λc1=> ?_) (λc1=>Cv.cnd.mk (λc2=> ?_) (λc2=> ?_))
  ·have c1:x.has1=ap:=by simpa using c1
   simp only[c1,y9k,y6s,if_false,y6w];exact kp
  ·have c2:y.has2=ap:=by simpa using c2
   simp only[c2,xBc,y9k,y6s,if_false,y6w];exact kp
  ·have c1:x.has1=ao:=by simpa using c1
   have c2:y.has2=ao:=by simpa using c2
   simp only[c1,c2,y8v,yNg];refine⟨⟨x.p1,y.p2⟩,?_⟩
   (repeat'(first|exact rfl|exact trivial|assumption|apply ar|refineλ(_:Unit) (_:True)=>?_|refine am () ?_|omega|(dsimp only;omega)))
   refine Cv.cnd.mk (λc3=> ?_) (λc3=> ?_)
   ·have c3:i.less=ao:=c3;simp only[c3,if_true];refine⟨⟨y.p2,x.p1⟩,?_⟩
    (repeat'(first|exact rfl|exact trivial|assumption|apply ar|refineλ(_:Unit) (_:True)=>?_|refine am () ?_|omega|(dsimp only;omega)))
    refine Cv.cnd.mk (λc4=> ?_) (λc4=> ?_)
    ·have c4:(h9 y.p2 x.p1).2=ao:=c4;simp only[c4,if_true,y6i];exact kp
    ·have c4:(h9 y.p2 x.p1).2=ap:=c4;simp only[c4,y6s,if_false,y6w];exact kp
   ·have c3:i.less=ap:=c3;simp only[c3,y6s,if_false];refine Cv.cnd.mk (λc4=> ?_) (λc4=> ?_)
    ·have c4:(gF x.p1 y.p2).2=ao:=c4;simp only[c4,if_true,y6i];exact kp
    ·have c4:(gF x.p1 y.p2).2=ap:=c4;simp only[c4,y6s,if_false,y6w];exact kp
def yNc:mk12.ok Tryz.prog 157:=okw mixed (gokc zWk (gokc zWb gok0)) 0 (λ_=>[]) (λ_=>[]) [] Tryz.func157 y0a
def y0r (i:MkI) (h:mk21.cnd i):yRu i:=by
 obtain⟨a0,a1,b0,b1,⟨ht,hp⟩,ho⟩:0<=i.a/\i.a<i.tops.length/\0<=i.b/\i.b<i.tops.length/\vN i.tops/\i.out.length<=1000:=h;obtain⟨x,hx⟩:=yC (l:=i.tops) (i:=i.a.toNat) oM;obtain⟨y,hy⟩:=yC (l:=i.tops) (i:=i.b.toNat) oM;obtain⟨⟨px1,px2⟩,px3,px4⟩:=hp x (y6j hx);obtain⟨⟨py1,py2⟩,py3,py4⟩:=hp y (y6j hy);have e0:mkq i.tops ⟨i.a,2⟩ ⟨i.b,1⟩ i.less=if x.has2 && y.has1 && (if i.less then h9 y.p1 x.p2 else gF x.p2 y.p1).2 then[⟨(if i.less then h9 y.p1 x.p2 else gF x.p2 y.p1).1,min x.q2 y.q1,⟨i.a,2⟩,⟨i.b,1⟩⟩]else[]:=by
  simp only[mkq,y6h,hx,hy,y8k];rfl
 unfold yRu zPb pL zAv jG jE x9 jI qU dI;simp only[y5z];refine⟨⟨oM,oM⟩,x.has1,x.has2,x.p1,x.p2,x.q1,x.q2,elA hx (by simp[z6]) rfl,⟨oM,oM⟩,y.has1,y.has2,y.p1,y.p2,y.q1,y.q2,elA hy (by simp[z6]) rfl,?_⟩;rw[e0]
 (repeat'(first|exact rfl|exact trivial|assumption|apply ar|refineλ(_:Unit) (_:True)=>?_|refine am () ?_|omega|(dsimp only;omega)))
 all_goals
  refine Cv.cnd.mk (λc1=> ?_) (λc1=>Cv.cnd.mk (λc2=> ?_) (λc2=> ?_))
  ·have c1:x.has2=ap:=by simpa using c1
   simp only[c1,y9k,y6s,if_false,y6w];exact kp
  ·have c2:y.has1=ap:=by simpa using c2
   simp only[c2,xBc,y9k,y6s,if_false,y6w];exact kp
  ·have c1:x.has2=ao:=by simpa using c1
   have c2:y.has1=ao:=by simpa using c2
   simp only[c1,c2,y8v,yNg];refine⟨⟨x.p2,y.p1⟩,?_⟩
   (repeat'(first|exact rfl|exact trivial|assumption|apply ar|refineλ(_:Unit) (_:True)=>?_|refine am () ?_|omega|(dsimp only;omega)))
   refine Cv.cnd.mk (λc3=> ?_) (λc3=> ?_)
   ·have c3:i.less=ao:=c3;simp only[c3,if_true];refine⟨⟨y.p1,x.p2⟩,?_⟩
    (repeat'(first|exact rfl|exact trivial|assumption|apply ar|refineλ(_:Unit) (_:True)=>?_|refine am () ?_|omega|(dsimp only;omega)))
    refine Cv.cnd.mk (λc4=> ?_) (λc4=> ?_)
    ·have c4:(h9 y.p1 x.p2).2=ao:=c4;simp only[c4,if_true,y6i];exact kp
    ·have c4:(h9 y.p1 x.p2).2=ap:=c4;simp only[c4,y6s,if_false,y6w];exact kp
   ·have c3:i.less=ap:=c3;simp only[c3,y6s,if_false];refine Cv.cnd.mk (λc4=> ?_) (λc4=> ?_)
    ·have c4:(gF x.p2 y.p1).2=ao:=c4;simp only[c4,if_true,y6i];exact kp
    ·have c4:(gF x.p2 y.p1).2=ap:=c4;simp only[c4,y6s,if_false,y6w];exact kp
def yMm:mk21.ok Tryz.prog 157:=okw mixed (gokc zWk (gokc zWb gok0)) 0 (λ_=>[]) (λ_=>[]) [] Tryz.func157 y0r
def yZv (i:MkI) (h:mk22.cnd i):yQp i:=by
 obtain⟨a0,a1,b0,b1,⟨ht,hp⟩,ho⟩:0<=i.a/\i.a<i.tops.length/\0<=i.b/\i.b<i.tops.length/\vN i.tops/\i.out.length<=1000:=h;obtain⟨x,hx⟩:=yC (l:=i.tops) (i:=i.a.toNat) oM;obtain⟨y,hy⟩:=yC (l:=i.tops) (i:=i.b.toNat) oM;obtain⟨⟨px1,px2⟩,px3,px4⟩:=hp x (y6j hx);obtain⟨⟨py1,py2⟩,py3,py4⟩:=hp y (y6j hy);have e0:mkq i.tops ⟨i.a,2⟩ ⟨i.b,2⟩ i.less=if x.has2 && y.has2 && (if i.less then h9 y.p2 x.p2 else gF x.p2 y.p2).2 then[⟨(if i.less then h9 y.p2 x.p2 else gF x.p2 y.p2).1,min x.q2 y.q2,⟨i.a,2⟩,⟨i.b,2⟩⟩]else[]:=by
  simp only[mkq,y6h,hx,hy,y8k];rfl
 unfold yQp zPt pE zAp jG jE x9 jI qU dI;simp only[y5z];refine⟨⟨oM,oM⟩,x.has1,x.has2,x.p1,x.p2,x.q1,x.q2,elA hx (by simp[z6]) rfl,⟨oM,oM⟩,y.has1,y.has2,y.p1,y.p2,y.q1,y.q2,elA hy (by simp[z6]) rfl,?_⟩;rw[e0]
 (repeat'(first|exact rfl|exact trivial|assumption|apply ar|refineλ(_:Unit) (_:True)=>?_|refine am () ?_|omega|(dsimp only;omega)))
 all_goals
  refine Cv.cnd.mk (λc1=> ?_) (λc1=>Cv.cnd.mk (λc2=> ?_) (λc2=> ?_))
  ·have c1:x.has2=ap:=by simpa using c1
   simp only[c1,y9k,y6s,if_false,y6w];exact kp
  ·have c2:y.has2=ap:=by simpa using c2
   simp only[c2,xBc,y9k,y6s,if_false,y6w];exact kp
  ·have c1:x.has2=ao:=by simpa using c1
   have c2:y.has2=ao:=by simpa using c2
   simp only[c1,c2,y8v,yNg];refine⟨⟨x.p2,y.p2⟩,?_⟩
   (repeat'(first|exact rfl|exact trivial|assumption|apply ar|refineλ(_:Unit) (_:True)=>?_|refine am () ?_|omega|(dsimp only;omega)))
   refine Cv.cnd.mk (λc3=> ?_) (λc3=> ?_)
   ·have c3:i.less=ao:=c3;simp only[c3,if_true];refine⟨⟨y.p2,x.p2⟩,?_⟩
    (repeat'(first|exact rfl|exact trivial|assumption|apply ar|refineλ(_:Unit) (_:True)=>?_|refine am () ?_|omega|(dsimp only;omega)))
    refine Cv.cnd.mk (λc4=> ?_) (λc4=> ?_)
    ·have c4:(h9 y.p2 x.p2).2=ao:=c4;simp only[c4,if_true,y6i];exact kp
    ·have c4:(h9 y.p2 x.p2).2=ap:=c4;simp only[c4,y6s,if_false,y6w];exact kp
   ·have c3:i.less=ap:=c3;simp only[c3,y6s,if_false];refine Cv.cnd.mk (λc4=> ?_) (λc4=> ?_)
    ·have c4:(gF x.p2 y.p2).2=ao:=c4;simp only[c4,if_true,y6i];exact kp
    ·have c4:(gF x.p2 y.p2).2=ap:=c4;simp only[c4,y6s,if_false,y6w];exact kp
def yMz:mk22.ok Tryz.prog 157:=okw mixed (gokc zWk (gokc zWb gok0)) 0 (λ_=>[]) (λ_=>[]) [] Tryz.func157 yZv
structure MkJ where
 i:MkI
 sa:Bool
 sb:Bool
def mkAnyC:Con:=con1 MkJ (λj=>[.nm 0 0,.agg [zA j.i.a,zA (zC j.sa)],.agg [zA j.i.b,zA (zC j.sb)],yP j.i.less]) (λj=>MkR j.i.tops j.i.out)
 (λj=>0<=j.i.a/\j.i.a<j.i.tops.length/\0<=j.i.b/\j.i.b<j.i.tops.length/\vN j.i.tops/\j.i.out.length<=1000) (λ_=>tH) (λj=>MkP j.i.tops (j.i.out++mkq j.i.tops ⟨j.i.a,zC j.sa⟩ ⟨j.i.b,zC j.sb⟩ j.i.less))
def zZy:mkAnyC.ok Tryz.prog 157:=λj=>match j with
 |⟨i,ap,ap⟩=>yQi i
 |⟨i,ap,ao⟩=>yNc i
 |⟨i,ao,ap⟩=>yMm i
 |⟨i,ao,ao⟩=>yMz i
structure dV where
 p:Prd
 tops:List Top
 inst:Int
def jC (i:dV) (s:Int) (k:Nat):List Quote:=(af k).flatMap λ(k:Nat)=>mkq i.tops ⟨(i.p.spread i.inst (i.inst+1+k)).1,s⟩ ⟨i.inst+1+k,s⟩ ap
def wG (i:dV) (s:Int) (k:Nat):List Quote:=(af k).flatMap λ(k:Nat)=>mkq i.tops ⟨(i.p.spread k i.inst).1,3-s⟩ ⟨k,s⟩ ao
def yS (i:dV) (s:Int):List Quote:=mkq i.tops ⟨(i.p.legs i.inst).2.1,3-s⟩ ⟨(i.p.legs i.inst).1,s⟩ ao
def cW (i:dV) (s:Int) (q:Quote):Quote:={q with a:=⟨(i.p.legs i.inst).1,s⟩,b:=⟨(i.p.legs i.inst).2.1,3-s⟩}
def kO (i:dV) (s:Int):List Quote:=
 if i.p.count=0\/(i.tops.length:Int)≠i.p.count\/i.inst<0\/(i.p.count:Int)<=i.inst then[]
 else if(i.p.legs i.inst).2.2 then(yS i s).map (cW i s)
 else jC i s (i.p.months.length-(i.inst.toNat+1))++wG i s i.inst.toNat
def yRd (s:Int):Con:=con1 dV (λi=>[prdV i.p,roV 6 (i.tops.map z6),zA i.inst,zA s]) (λ_=>[]) (λi=>i.p.small/\vN i.tops) (λ_=> .own 0) (λi=>[.own 172 6 ((kO i s).map zJ)])
def all1C:Con:=yRd 1
def all2C:Con:=yRd 2
def yZl (i:dV) (s:Int):List SAnn:=[
 {ι:=Nat,slots:=λk=>[(10,.nm 0 0),(77,zA k)],rows:=λk=>(af 3).map (MkU (i.tops,((yS i s).take k).map (cW i s)++(yS i s).drop k))},
 {ι:=Nat,slots:=λk=>[(10,.nm 0 0),(17,zA (i.inst+1+k))],rows:=λk=>MkR i.tops (jC i s k)},
 {ι:=Nat,slots:=λk=>[(10,.nm 0 0),(120,zA k)],rows:=λk=>MkR i.tops (jC i s (i.p.months.length-(i.inst.toNat+1))++wG i s k)}]
structure lE where
 i:dV
 s:Bool
def allC:Con:=con1 lE (λj=>[prdV j.i.p,roV 6 (j.i.tops.map z6),zA j.i.inst,zA (zC j.s)]) (λ_=>[]) (λj=>j.i.p.small/\vN j.i.tops) (λ_=> .own 0) (λj=>[.own 172 6 ((kO j.i (zC j.s)).map zJ)])
def xW (i:dV) (s:Int):List Quote:=(kO i s).filter λq=>decide (i.p.price i.inst q.price=0)
def quotesC:Con:=con1 lE (λj=>[prdV j.i.p,roV 6 (j.i.tops.map z6),zA j.i.inst,zA (zC j.s)]) (λ_=>[]) (λj=>j.i.p.small/\vN j.i.tops) (λ_=> .own 0) (λj=>[.own 172 6 ((xW j.i (zC j.s)).map zJ)])
def yNr (j:lE):List SAnn:=[{ι:=Nat,slots:=λk=>[(9,.own 0),(18,zA k)],rows:=λk=>[.own 172 6 ((((kO j.i (zC j.s)).take k).filter λq=>decide (j.i.p.price j.i.inst q.price=0)).map zJ)]}]
structure BsI where
 l:List Quote
 s:Int
def zW (l:List Quote) (s:Int):Quote×Bool:=match l with
 |[]=>(yVj,ap)
 |q::r=>(r.foldl (λb q=>if btr s q.price b.price then q else b) q,ao)
def bestQC:Con:=con1 BsI (λi=>[roV 6 (i.l.map zJ),zA i.s]) (λ_=>[]) (λi=>(i.s=1\/i.s=2)/\i.l.length<=1000000) (λi=> .tup [zUd (zW i.l i.s).1,yP (zW i.l i.s).2]) (λ_=>[])
def yTw (i:BsI):List SAnn:=[{ι:=Nat,slots:=λk=>[(6,.nm 0 0),(26,zA k)],rows:=λk=>[.cells (zUd (zW (i.l.take (max k 1)) i.s).1).cl 172]}]
def nK (a:dV):Prop:=ag 6 (aa z6 a.tops)=ag 6 (aa z6 a.tops)/\dh (aj [V.d (D.v (au (sb a.p.code))),V.own 0,V.d (dI a.p.tick),V.d (dI a.p.low),V.d (dI a.p.high),V.d (dI a.p.wide),V.d (dI a.p.rule),V.d (dI a.p.top),V.d (dI a.p.least),V.d (dI a.p.part),V.own 1] 25)/\dh (ag 1 (iE a.p.settle))/\dh (ag 1 (iE a.p.months))
def zGa (a:Nat->Prop) (b:Nat) (c:Nat->Nat) (d:Nat) (e:dV):Prop:=a b/\c b<c d/\dh (ag 6 (aa z6 e.tops))/\nK e
def zEn (a:Nat->Prop) (b:Nat) (c:Nat->Nat) (d:Nat) (e:dV):Prop:=a b/\c b<c d/\nK e
def fF (a:Top):Prop:=((-9223372036854775808)<=a.p1/\a.p1<=9223372036854775807)/\(-9223372036854775808)<=a.p2/\a.p2<=9223372036854775807
def gV (a:MkJ):Prop:=0<=a.i.a/\a.i.a<(↑a.i.tops.length:Int)/\0<=a.i.b/\a.i.b<(↑a.i.tops.length:Int)/\(a.i.tops.length<=1000000/\∀(b:Top),b∈a.i.tops->fF b)/\a.i.out.length<=1000
def uQ (a:MkJ):=(a.i.out++mkq a.i.tops (Leg.mk a.i.a (zC a.sa)) (Leg.mk a.i.b (zC a.sb)) a.i.less)
def lR (a:Nat) (b:MkJ):=(decide ((↑a:Int)<(↑(aa zJ (uQ b)).length:Int)))
def qA (a:tP):Prop:=a.p.code.length<=1099511627776/\a.p.months.length<=1099511627776/\a.p.settle.length<=1099511627776
def jF (a:cG):Prop:=a.p.code.length<=1099511627776/\a.p.months.length<=1099511627776/\a.p.settle.length<=1099511627776
def pT (a:dV) (b:Nat):=(aa (cW a 1) (ab b (yS a 1))++ae b (yS a 1))
def zAc (a:dV) (b:Nat):=(aa zJ (pT a b))
def pR (a:dV) (b:Nat):=(jC a 1 (a.p.months.length-(a.inst.toNat+1))++wG a 1 b)
def vF (a:cG):=((a.p.legs a.n).snd.fst)
def ySq (i:dV):Prop:=
 ∃(a:Prd),sb a.code=sb i.p.code/\iE a.months=iE i.p.months/\a.tick=i.p.tick/\a.low=i.p.low/\a.high=i.p.high/\a.wide=i.p.wide/\a.rule=i.p.rule/\a.top=i.p.top/\a.least=i.p.least/\a.part=i.p.part/\iE a.settle=iE i.p.settle/\(z5 a)/\∀(b:Unit),True->cnd ((↑a.count:Int)==0) (∃(c:Unit),aa zJ (kO i 1)=[]/\True) (cnd ((↑(aa z6 i.tops).length:Int) !=(↑a.count:Int)) (∃(c:Unit),aa zJ (kO i 1)=[]/\True) (cnd (decide (i.inst<0)) (∃(c:Unit),aa zJ (kO i 1)=[]/\True) (cnd (decide (i.inst>=(↑a.count:Int))) (∃(c:Unit),aa zJ (kO i 1)=[]/\True) (∃(c:cG),sb c.p.code=sb i.p.code/\iE c.p.months=iE i.p.months/\c.p.tick=i.p.tick/\c.p.low=i.p.low/\c.p.high=i.p.high/\c.p.wide=i.p.wide/\c.p.rule=i.p.rule/\c.p.top=i.p.top/\c.p.least=i.p.least/\c.p.part=i.p.part/\iE c.p.settle=iE i.p.settle/\c.n=i.inst/\(jF c)/\∀(d:Unit),True->cnd (c.p.legs c.n).snd.snd (∃(e:Int),e=1/\(e=1\/e=2)/\∀(f:Unit),True->∃(g:MkJ),g.i.a=(c.p.legs c.n).snd.fst/\zC g.sa=3-e/\g.i.b=(c.p.legs c.n).fst/\zC g.sb=1/\g.i.less=ao/\ag 6 (aa z6 g.i.tops)=ag 6 (aa z6 i.tops)/\aa zJ g.i.out=[]/\(gV g)/\∀(h:Unit),True->∃(j:Nat),(↑j:Int)=0/\ag 6 (aa z6 i.tops)=ag 6 (aa z6 g.i.tops)/\aa zJ (pT i j)=aa zJ (uQ g)/\∃(k:Nat->Prop),∃(l:Nat->Nat),k j/\∀(m:Nat),k m->cnd (lR m g) ((0<=(↑m:Int)/\(↑m:Int)<(↑(zAc i m).length:Int))/\(↑m:Int).toNat<(zAc i m).length/\∃(n:Nat),(↑n:Int)=aq.wrap ((↑m:Int)+1)/\dh (ag 6 (aa z6 i.tops))/\aa zJ (pT i n)=zX (zAc i m) (↑m:Int).toNat 2 [dI ((c.p.legs c.n).fst),dI 1,dI (vF c),dI (3-e)]/\k n/\l n<l m/\dh (ag 6 (aa z6 g.i.tops))/\dh (aj [V.d (dI (vF c)),V.d (dI (3-e))] 169)/\dh (aj [V.d (dI ((c.p.legs c.n).fst)),V.d (dI 1)] 169)/\nK i) (∃(n:Unit),aa zJ (kO i 1)=aa zJ (pT i m)/\True)) (∃(e:Nat),i.inst+1+(↑e:Int)=aq.wrap (i.inst+1)/\dh (ag 6 (aa z6 i.tops))/\aa zJ (jC i 1 e)=[]/\∃(f:Nat->Prop),∃(g:Nat->Nat),f e/\∀(h:Nat),f h->cnd (decide (i.inst+1+(↑h:Int)<(↑(iE i.p.months).length:Int))) (∃(j:tP),sb j.p.code=sb i.p.code/\iE j.p.months=iE i.p.months/\j.p.tick=i.p.tick/\j.p.low=i.p.low/\j.p.high=i.p.high/\j.p.wide=i.p.wide/\j.p.rule=i.p.rule/\j.p.top=i.p.top/\j.p.least=i.p.least/\j.p.part=i.p.part/\iE j.p.settle=iE i.p.settle/\j.a=i.inst/\j.b=i.inst+1+(↑h:Int)/\(qA j)/\∀(k:Unit),True->∃(l:MkJ),l.i.a=(j.p.spread j.a j.b).fst/\zC l.sa=1/\l.i.b=i.inst+1+(↑h:Int)/\zC l.sb=1/\l.i.less=ap/\ag 6 (aa z6 l.i.tops)=ag 6 (aa z6 i.tops)/\aa zJ l.i.out=aa zJ (jC i 1 h)/\(gV l)/\∀(m:Unit),True->∃(n:Nat),i.inst+1+(↑n:Int)=aq.wrap (i.inst+1+(↑h:Int)+1)/\ag 6 (aa z6 i.tops)=ag 6 (aa z6 l.i.tops)/\aa zJ (jC i 1 n)=aa zJ (uQ l)/\zEn f n g h i) (∃(j:Nat),(↑j:Int)=0/\dh (ag 6 (aa z6 i.tops))/\aa zJ (pR i j)=aa zJ (jC i 1 h)/\∃(k:Nat->Prop),∃(l:Nat->Nat),k j/\∀(m:Nat),k m->cnd (decide ((↑m:Int)<i.inst)) (∃(n:tP),sb n.p.code=sb i.p.code/\iE n.p.months=iE i.p.months/\n.p.tick=i.p.tick/\n.p.low=i.p.low/\n.p.high=i.p.high/\n.p.wide=i.p.wide/\n.p.rule=i.p.rule/\n.p.top=i.p.top/\n.p.least=i.p.least/\n.p.part=i.p.part/\iE n.p.settle=iE i.p.settle/\n.a=(↑m:Int)/\n.b=i.inst/\(qA n)/\∀(p:Unit),True->∃(q:Int),q=1/\(q=1\/q=2)/\∀(r:Unit),True->∃(s:MkJ),s.i.a=(n.p.spread n.a n.b).fst/\zC s.sa=3-q/\s.i.b=(↑m:Int)/\zC s.sb=1/\s.i.less=ao/\ag 6 (aa z6 s.i.tops)=ag 6 (aa z6 i.tops)/\aa zJ s.i.out=aa zJ (pR i m)/\(gV s)/\∀(t:Unit),True->∃(u:Nat),(↑u:Int)=aq.wrap ((↑m:Int)+1)/\ag 6 (aa z6 i.tops)=ag 6 (aa z6 s.i.tops)/\aa zJ (pR i u)=aa zJ (uQ s)/\zGa k u l m i) (∃(n:Unit),aa zJ (kO i 1)=aa zJ (pR i m)/\True)))))))
def nU (a:dV) (b:Nat):=(aa (cW a 2) (ab b (yS a 2))++ae b (yS a 2))
def lZ (a:dV) (b:Nat):=(aa zJ (nU a b))
def nQ (a:dV) (b:Nat):=(jC a 2 (a.p.months.length-(a.inst.toNat+1))++wG a 2 b)
def ySa (i:dV):Prop:=
 ∃(a:Prd),sb a.code=sb i.p.code/\iE a.months=iE i.p.months/\a.tick=i.p.tick/\a.low=i.p.low/\a.high=i.p.high/\a.wide=i.p.wide/\a.rule=i.p.rule/\a.top=i.p.top/\a.least=i.p.least/\a.part=i.p.part/\iE a.settle=iE i.p.settle/\(z5 a)/\∀(b:Unit),True->cnd ((↑a.count:Int)==0) (∃(c:Unit),aa zJ (kO i 2)=[]/\True) (cnd ((↑(aa z6 i.tops).length:Int) !=(↑a.count:Int)) (∃(c:Unit),aa zJ (kO i 2)=[]/\True) (cnd (decide (i.inst<0)) (∃(c:Unit),aa zJ (kO i 2)=[]/\True) (cnd (decide (i.inst>=(↑a.count:Int))) (∃(c:Unit),aa zJ (kO i 2)=[]/\True) (∃(c:cG),sb c.p.code=sb i.p.code/\iE c.p.months=iE i.p.months/\c.p.tick=i.p.tick/\c.p.low=i.p.low/\c.p.high=i.p.high/\c.p.wide=i.p.wide/\c.p.rule=i.p.rule/\c.p.top=i.p.top/\c.p.least=i.p.least/\c.p.part=i.p.part/\iE c.p.settle=iE i.p.settle/\c.n=i.inst/\(jF c)/\∀(d:Unit),True->cnd (c.p.legs c.n).snd.snd (∃(e:Int),e=2/\(e=1\/e=2)/\∀(f:Unit),True->∃(g:MkJ),g.i.a=(c.p.legs c.n).snd.fst/\zC g.sa=3-e/\g.i.b=(c.p.legs c.n).fst/\zC g.sb=2/\g.i.less=ao/\ag 6 (aa z6 g.i.tops)=ag 6 (aa z6 i.tops)/\aa zJ g.i.out=[]/\(gV g)/\∀(h:Unit),True->∃(j:Nat),(↑j:Int)=0/\ag 6 (aa z6 i.tops)=ag 6 (aa z6 g.i.tops)/\aa zJ (nU i j)=aa zJ (uQ g)/\∃(k:Nat->Prop),∃(l:Nat->Nat),k j/\∀(m:Nat),k m->cnd (lR m g) ((0<=(↑m:Int)/\(↑m:Int)<(↑(lZ i m).length:Int))/\(↑m:Int).toNat<(lZ i m).length/\∃(n:Nat),(↑n:Int)=aq.wrap ((↑m:Int)+1)/\dh (ag 6 (aa z6 i.tops))/\aa zJ (nU i n)=zX (lZ i m) (↑m:Int).toNat 2 [dI ((c.p.legs c.n).fst),dI 2,dI (vF c),dI (3-e)]/\k n/\l n<l m/\dh (ag 6 (aa z6 g.i.tops))/\dh (aj [V.d (dI (vF c)),V.d (dI (3-e))] 169)/\dh (aj [V.d (dI ((c.p.legs c.n).fst)),V.d (dI 2)] 169)/\nK i) (∃(n:Unit),aa zJ (kO i 2)=aa zJ (nU i m)/\True)) (∃(e:Nat),i.inst+1+(↑e:Int)=aq.wrap (i.inst+1)/\dh (ag 6 (aa z6 i.tops))/\aa zJ (jC i 2 e)=[]/\∃(f:Nat->Prop),∃(g:Nat->Nat),f e/\∀(h:Nat),f h->cnd (decide (i.inst+1+(↑h:Int)<(↑(iE i.p.months).length:Int))) (∃(j:tP),sb j.p.code=sb i.p.code/\iE j.p.months=iE i.p.months/\j.p.tick=i.p.tick/\j.p.low=i.p.low/\j.p.high=i.p.high/\j.p.wide=i.p.wide/\j.p.rule=i.p.rule/\j.p.top=i.p.top/\j.p.least=i.p.least/\j.p.part=i.p.part/\iE j.p.settle=iE i.p.settle/\j.a=i.inst/\j.b=i.inst+1+(↑h:Int)/\(qA j)/\∀(k:Unit),True->∃(l:MkJ),l.i.a=(j.p.spread j.a j.b).fst/\zC l.sa=2/\l.i.b=i.inst+1+(↑h:Int)/\zC l.sb=2/\l.i.less=ap/\ag 6 (aa z6 l.i.tops)=ag 6 (aa z6 i.tops)/\aa zJ l.i.out=aa zJ (jC i 2 h)/\(gV l)/\∀(m:Unit),True->∃(n:Nat),i.inst+1+(↑n:Int)=aq.wrap (i.inst+1+(↑h:Int)+1)/\ag 6 (aa z6 i.tops)=ag 6 (aa z6 l.i.tops)/\aa zJ (jC i 2 n)=aa zJ (uQ l)/\zEn f n g h i) (∃(j:Nat),(↑j:Int)=0/\dh (ag 6 (aa z6 i.tops))/\aa zJ (nQ i j)=aa zJ (jC i 2 h)/\∃(k:Nat->Prop),∃(l:Nat->Nat),k j/\∀(m:Nat),k m->cnd (decide ((↑m:Int)<i.inst)) (∃(n:tP),sb n.p.code=sb i.p.code/\iE n.p.months=iE i.p.months/\n.p.tick=i.p.tick/\n.p.low=i.p.low/\n.p.high=i.p.high/\n.p.wide=i.p.wide/\n.p.rule=i.p.rule/\n.p.top=i.p.top/\n.p.least=i.p.least/\n.p.part=i.p.part/\iE n.p.settle=iE i.p.settle/\n.a=(↑m:Int)/\n.b=i.inst/\(qA n)/\∀(p:Unit),True->∃(q:Int),q=2/\(q=1\/q=2)/\∀(r:Unit),True->∃(s:MkJ),s.i.a=(n.p.spread n.a n.b).fst/\zC s.sa=3-q/\s.i.b=(↑m:Int)/\zC s.sb=2/\s.i.less=ao/\ag 6 (aa z6 s.i.tops)=ag 6 (aa z6 i.tops)/\aa zJ s.i.out=aa zJ (nQ i m)/\(gV s)/\∀(t:Unit),True->∃(u:Nat),(↑u:Int)=aq.wrap ((↑m:Int)+1)/\ag 6 (aa z6 i.tops)=ag 6 (aa z6 s.i.tops)/\aa zJ (nQ i u)=aa zJ (uQ s)/\zGa k u l m i) (∃(n:Unit),aa zJ (kO i 2)=aa zJ (nQ i m)/\True)))))))
def jS (a:lE):=(aa zJ (kO a.i (zC a.s)))
def zCs (a:Nat->Prop) (b:Nat) (c:Nat->Nat) (d:Nat) (e:lE) (f:lE):Prop:=a b/\c b<c d/\dh (ak 172 6 (jS e))/\dh (aj [V.d (D.v (au (sb f.i.p.code))),V.own 0,V.d (dI f.i.p.tick),V.d (dI f.i.p.low),V.d (dI f.i.p.high),V.d (dI f.i.p.wide),V.d (dI f.i.p.rule),V.d (dI f.i.p.top),V.d (dI f.i.p.least),V.d (dI f.i.p.part),V.own 1] 25)/\dh (ag 1 (iE f.i.p.settle))/\dh (ag 1 (iE f.i.p.months))
def kL (a:lE):Prop:=(a.i.p.code.length<=1099511627776/\a.i.p.months.length<=1099511627776/\a.i.p.settle.length<=1099511627776)/\a.i.tops.length<=1000000/\∀(b:Top),b∈a.i.tops->fF b
def gZ (a:lE):=(↑(jS a).length:Int)
def z8z (j:lE):Prop:=
 ∃(a:lE),sb a.i.p.code=sb j.i.p.code/\iE a.i.p.months=iE j.i.p.months/\a.i.p.tick=j.i.p.tick/\a.i.p.low=j.i.p.low/\a.i.p.high=j.i.p.high/\a.i.p.wide=j.i.p.wide/\a.i.p.rule=j.i.p.rule/\a.i.p.top=j.i.p.top/\a.i.p.least=j.i.p.least/\a.i.p.part=j.i.p.part/\iE a.i.p.settle=iE j.i.p.settle/\aa z6 a.i.tops=aa z6 j.i.tops/\a.i.inst=j.i.inst/\zC a.s=zC j.s/\(kL a)/\∀(b:Unit),True->∃(c:Nat),(↑c:Int)=0/\aa zJ (ac (λ(q:Sx.Quote) ↦ decide (j.i.p.price j.i.inst q.price=0)) (ab c (kO j.i (zC j.s))))=[]/\∃(d:Nat->Prop),∃(e:Nat->Nat),d c/\∀(f:Nat),d f->cnd (decide ((↑f:Int)<(gZ a))) ((0<=(↑f:Int)/\(↑f:Int)<(gZ a))/\∃(g:Int),∃(h:Int),∃(k:Int),∃(l:Int),∃(m:Int),∃(n:Int),zE (jS a) (↑f:Int).toNat 0 6=aw [dI g,dI h,dI k,dI l,dI m,dI n]/\∃(p:tP),sb p.p.code=sb j.i.p.code/\iE p.p.months=iE j.i.p.months/\p.p.tick=j.i.p.tick/\p.p.low=j.i.p.low/\p.p.high=j.i.p.high/\p.p.wide=j.i.p.wide/\p.p.rule=j.i.p.rule/\p.p.top=j.i.p.top/\p.p.least=j.i.p.least/\p.p.part=j.i.p.part/\iE p.p.settle=iE j.i.p.settle/\p.a=j.i.inst/\p.b=g/\(qA p)/\∀(q:Unit),True->cnd (p.p.price p.a p.b==0) (((aa zJ (ac (λ(q:Sx.Quote) ↦ decide (j.i.p.price j.i.inst q.price=0)) (ab f (kO j.i (zC j.s))))).length+1)*(48:Nat)<=(140737488355328:Nat)/\∃(r:Nat),(↑r:Int)=aq.wrap ((↑f:Int)+1)/\aa zJ (ac (λ(q:Sx.Quote) ↦ decide (j.i.p.price j.i.inst q.price=0)) (ab r (kO j.i (zC j.s))))=aa zJ (ac (λ(q:Sx.Quote) ↦ decide (j.i.p.price j.i.inst q.price=0)) (ab f (kO j.i (zC j.s))))++[[dI g,dI h,dI k,dI l,dI m,dI n]]/\zCs d r e f a j) (∃(r:Nat),(↑r:Int)=aq.wrap ((↑f:Int)+1)/\aa zJ (ac (λ(q:Sx.Quote) ↦ decide (j.i.p.price j.i.inst q.price=0)) (ab r (kO j.i (zC j.s))))=aa zJ (ac (λ(q:Sx.Quote) ↦ decide (j.i.p.price j.i.inst q.price=0)) (ab f (kO j.i (zC j.s))))/\zCs d r e f a j)) (∃(g:Unit),aa zJ (xW j.i (zC j.s))=aa zJ (ac (λ(q:Sx.Quote) ↦ decide (j.i.p.price j.i.inst q.price=0)) (ab f (kO j.i (zC j.s))))/\True)
def zBv (a:Nat->Prop) (b:Nat) (c:Nat->Nat) (d:Nat):Prop:=a b/\c b<c d/\dh (aj (Sx.V.agg [V.d (dI 0),V.d (dI 0),V.d (dI 0),V.d (dI 0),V.d (dI 0),V.d (dI 0)]).cl 172)
def yE (a:Nat) (b:BsI):=(zW (ab (max a 1) b.l) b.s)
def vU (a:BsI):=(↑(aa zJ a.l).length:Int)
def zHp (a:BsI):Prop:=((0:Int)<=(0:Int)/\0<(vU a))/\∃(b:Int),∃(c:Int),∃(d:Int),∃(e:Int),∃(f:Int),∃(g:Int),zE (aa zJ a.l) (Int.toNat 0) 0 6=aw [dI b,dI c,dI d,dI e,dI f,dI g]/\∃(h:Nat),(↑h:Int)=0/\(yE h a).fst.price=b/\(yE h a).fst.qty=c/\(yE h a).fst.a.inst=d/\(yE h a).fst.a.side=e/\(yE h a).fst.b.inst=f/\(yE h a).fst.b.side=g/\∃(j:Nat->Prop),∃(k:Nat->Nat),j h/\∀(l:Nat),j l->cnd (decide ((↑l:Int)<(vU a))) ((0<=(↑l:Int)/\(↑l:Int)<(vU a))/\∃(m:Int),∃(n:Int),∃(p:Int),∃(q:Int),∃(r:Int),∃(s:Int),zE (aa zJ a.l) (↑l:Int).toNat 0 6=aw [dI m,dI n,dI p,dI q,dI r,dI s]/\∃(t:I3'),t.side=a.s/\t.x=m/\t.y=(yE l a).fst.price/\True/\∀(u:Unit),True->cnd (btr t.side t.x t.y) (∃(v:Nat),(↑v:Int)=aq.wrap ((↑l:Int)+1)/\(yE v a).fst.price=m/\(yE v a).fst.qty=n/\(yE v a).fst.a.inst=p/\(yE v a).fst.a.side=q/\(yE v a).fst.b.inst=r/\(yE v a).fst.b.side=s/\zBv j v k l) (∃(v:Nat),(↑v:Int)=aq.wrap ((↑l:Int)+1)/\(yE v a).fst.price=(yE l a).fst.price/\(yE v a).fst.qty=(yE l a).fst.qty/\(yE v a).fst.a.inst=(yE l a).fst.a.inst/\(yE v a).fst.a.side=(yE l a).fst.a.side/\(yE v a).fst.b.inst=(yE l a).fst.b.inst/\(yE v a).fst.b.side=(yE l a).fst.b.side/\zBv j v k l)) (∃(m:Unit),(zW a.l a.s).fst.price=(yE l a).fst.price/\(zW a.l a.s).fst.qty=(yE l a).fst.qty/\(zW a.l a.s).fst.a.inst=(yE l a).fst.a.inst/\(zW a.l a.s).fst.a.side=(yE l a).fst.a.side/\(zW a.l a.s).fst.b.inst=(yE l a).fst.b.inst/\(zW a.l a.s).fst.b.side=(yE l a).fst.b.side/\(zW a.l a.s).snd=ao/\True)
def zCe (a:BsI):Prop:=∃(b:Unit),(zW a.l a.s).fst.price=0/\(zW a.l a.s).fst.qty=0/\(zW a.l a.s).fst.a.inst=0/\(zW a.l a.s).fst.a.side=0/\(zW a.l a.s).fst.b.inst=0/\(zW a.l a.s).fst.b.side=0/\(zW a.l a.s).snd=ap/\True
def yEe (i:BsI):Prop:=
 cnd ((vU i)==0) (zCe i) (cnd (i.s !=1) (cnd (i.s !=2) (zCe i) (zHp i)) (zHp i))
def z5p {l:List Quote} {q:Quote} (s:Int) (h:l[0]? =aw q):(zW (l.take (max 0 1)) s).1=q:=by
 cases l with
 |nil=>simp at h
 |cons a l=>simp at h;subst h;rfl
def z2a {l:List Quote} {j:Nat} {q:Quote} (s:Int) (h:l[j]? =aw q):
 (zW (l.take (max (j+1) 1)) s).1=if btr s q.price (zW (l.take (max j 1)) s).1.price then q else(zW (l.take (max j 1)) s).1:=by
 cases l with
 |nil=>simp at h
 |cons a l=>
  cases j with
  |zero=>simp at h;subst h;simp[zW]
  |succ m=>
   simp only[y7x]at h;rw[show max (m+1+1) 1=(m+1)+1 by omega,show max (m+1) 1=m+1 by omega,y7k,y7k,y7h,h];simp only[zW,y9b,xAu];rfl
def yCe {l:List Quote} (s:Int) (h:l≠[]):(zW l s).2=ao:=by
 cases l with
 |nil=>exact absurd rfl h
 |cons a l=>rfl
def yXg (i:BsI) (h:bestQC.cnd i):yEe i:=by
 obtain⟨hs,hl⟩:(i.s=1\/i.s=2)/\i.l.length<=1000000:=h;unfold yEe zCe zHp vU yE zBv dI;simp only[y5z];refine Cv.cnd.mk (λc=> ?_) (λc=> ?_)
 ·have e:i.l=[]:=y6y (by have:(i.l.length:Int)=0:=(by simpa using c);omega);rw[e];exact kp
 have h0:0<i.l.length:=by
  rcases Nat.eq_zero_or_pos i.l.length with h|h
  ·rw[h]at c;exact absurd c Z8
  ·exact h
 have hne:i.l≠[]:=by intro e;rw[e]at h0;simp at h0
 have two:=yCe i.s hne;obtain⟨q,hq⟩:=yC h0;have b0:=z5p i.s hq;have fin:(zW (i.l.take (max i.l.length 1)) i.s).1=(zW i.l i.s).1:=by
  rw[y6k (by omega)]
 have step:∀j:Nat,j<i.l.length->∀x:Quote,i.l[j]? =aw x->(btr i.s x.price (zW (i.l.take (max j 1)) i.s).1.price=ao->(zW (i.l.take (max (j+1) 1)) i.s).1=x)/\(btr i.s x.price (zW (i.l.take (max j 1)) i.s).1.price=ap->(zW (i.l.take (max (j+1) 1)) i.s).1=(zW (i.l.take (max j 1)) i.s).1):=λj hj x hx=>by
  have:=z2a i.s hx;constructor
  ·intro e;rw[this,y6a e]
  ·intro e;rw[this,y5x (by rw[e];simp)]
 refine Cv.cnd.mk (λc1=>Cv.cnd.mk (λc2=> ?_) (λc2=> ?_)) (λc1=> ?_)
 ·exfalso;have c1:i.s≠1:=by simpa using c1
  have c2:i.s≠2:=by simpa using c2
  omega
 all_goals
  refine⟨⟨oM,oM⟩,q.price,q.qty,q.a.inst,q.a.side,q.b.inst,q.b.side,elA hq (by simp[zJ]) rfl,0,?_⟩;rw[b0]
  (repeat'(first|exact rfl|exact trivial|assumption|apply ar|refineλ(_:Unit) (_:True)=>?_|refine am () ?_|omega|(dsimp only;omega)))
  refine⟨λj=>j<=i.l.length,λj=>i.l.length-j,oM,λj hj=>zI (λhlt=> ?_) (λhlt=> ?_)⟩
  ·have hj':j<i.l.length:=by omega
   obtain⟨x,hx⟩:=yC hj';obtain⟨st,sf⟩:=step j hj' x hx;refine⟨⟨oM,oM⟩,x.price,x.qty,x.a.inst,x.a.side,x.b.inst,x.b.side,elA hx (by simp[zJ]) rfl,⟨i.s,x.price,_⟩,rfl,rfl,rfl,trivial,λ_ _=>Cv.cnd.mk (λe=>⟨j+1,by rw[w64 (by omega)];rfl,?_⟩) (λe=>⟨j+1,by rw[w64 (by omega)];rfl,?_⟩)⟩
   ·rw[st e];exact kp
   ·rw[sf e];exact kp
  ·have hj:j<=i.l.length:=hj;obtain rfl:j=i.l.length:=by omega
   rw[fin,two];exact kp
def zYy:bestQC.ok Tryz.prog 93:=okw mixed (gokc z3d gok0) 0 (λ_=>[]) (λi=>yTw i) [] Tryz.func93 yXg
def zFg (tops:List Top) (a b:Leg) (less:Bool):(mkq tops a b less).length<=1:=by
 unfold mkq;dsimp only;split<;>split<;>simp
def zVh {α:Type} {f:Nat->List α} (h:∀k,(f k).length<=1):∀n,((af n).flatMap f).length<=n
 |0=>by simp
 |n+1=>by
  rw[xAt,y7w,y5y];have:=zVh h n;have:=h n;simp only[y7t,xBd,y6w];omega
def zBu (i:dV) (s:Int) (k:Nat):(jC i s k).length<=k:=zVh (λ_=>zFg _ _ _ _) k
def rO (i:dV) (s:Int) (k:Nat):(wG i s k).length<=k:=zVh (λ_=>zFg _ _ _ _) k
def zFw (i:dV) (s:Int):(kO i s).length<=100:=by
 unfold kO;split
 ·simp
 ·rename_i h;have hc:=xL i.p;have m6:=(kI (eW (p:=i.p) oM)).m6;split
  ·rw[y5z];have:=zFg i.tops ⟨(i.p.legs i.inst).2.1,3-s⟩ ⟨(i.p.legs i.inst).1,s⟩ ao;have e:(yS i s).length<=1:=this;omega
  ·rw[y5y];have h1:=zBu i s (i.p.months.length-(i.inst.toNat+1));have h2:=rO i s i.inst.toNat;omega
def yOi (j:lE) (h:quotesC.cnd j):z8z j:=by
 unfold z8z zCs gZ jS kL fF qA dI;obtain⟨hp,ht,hr⟩:j.i.p.small/\vN j.i.tops:=h;obtain⟨h1,h2,h3⟩:=hp;have hl:=zFw j.i (zC j.s);refine⟨j,?_⟩;simp only[y5z]
 (repeat'(first|exact rfl|exact trivial|assumption|apply ar|refineλ(_:Unit) (_:True)=>?_|refine am () ?_|omega|(dsimp only;omega)))
 refine⟨0,rfl,rfl,λk=>k<=(kO j.i (zC j.s)).length,λk=>(kO j.i (zC j.s)).length-k,oM,λk hk=>zI (λhlt=> ?_) (λhlt=> ?_)⟩
 ·have hk':k<(kO j.i (zC j.s)).length:=by omega
  obtain⟨q,hq⟩:=yC hk';have hf:(ac (λq=>decide (j.i.p.price j.i.inst q.price=0)) (ab k (kO j.i (zC j.s)))).length<=100:=by
   have:=y9l (λq:Quote=>decide (j.i.p.price j.i.inst q.price=0)) (ab k (kO j.i (zC j.s)));rw[y6t]at this;omega
  refine⟨⟨oM,oM⟩,q.price,q.qty,q.a.inst,q.a.side,q.b.inst,q.b.side,elA hq (by simp[zJ]) rfl,⟨j.i.p,j.i.inst,q.price⟩,?_⟩
  (repeat'(first|exact rfl|exact trivial|assumption|apply ar|refineλ(_:Unit) (_:True)=>?_|refine am () ?_|omega|(dsimp only;omega)))
  refine Cv.cnd.mk (λc=>⟨oM,k+1,by rw[w64 (by omega)];rfl,?_⟩) (λc=>⟨k+1,by rw[w64 (by omega)];rfl,?_⟩)
  ·have c:j.i.p.price j.i.inst q.price=0:=by simpa using c
   rw[y7h,hq,y9b,xAb,xAw (by simpa using c),y6i];exact kp
  ·have c:¬j.i.p.price j.i.inst q.price=0:=by simpa using c
   rw[y7h,hq,y9b,xAb,xAx (by simpa using c),List.filter_nil,y6w];exact kp
 ·have hk:k<=(kO j.i (zC j.s)).length:=hk;obtain rfl:k=(kO j.i (zC j.s)).length:=by omega
  rw[y6k (y6v _)];exact kp
def yBf:∀n≤6,∀a<n,∀b<n,a<b->0<=(yK n a:Int)+b-a-1/\(yK n a:Int)+b-a-1<((n+n*(n-1) / 2:Nat):Int):=by decide
def bN {p:Prd} (hc:p.check=0) {a b:Nat} (hab:a<b) (hb:b<p.months.length):0<=(p.spread a b).1/\(p.spread a b).1<p.count:=by
 have m6:=(kI hc).m6;have:=yBf p.months.length m6 a oM b hb hab;rw[Prd.spread,y5x (by omega),Prd.count,y6a hc];simpa using this
def yLr:∀n≤6,∀k<n+n*(n-1) / 2,n<=k->(kU n k n 0).2.2=ao/\0<=(kU n k n 0).1/\(kU n k n 0).1<n/\0<=(kU n k n 0).2.1/\(kU n k n 0).2.1<n:=by decide
def g9 {p:Prd} (hc:p.check=0) {k:Nat} (hk:k<p.count):((p.legs k).2.2=ao/\0<=(p.legs k).1/\(p.legs k).1<p.months.length/\0<=(p.legs k).2.1/\(p.legs k).2.1<p.months.length)\/((p.legs k).2.2=ap/\k<p.months.length):=by
 have m6:=(kI hc).m6;have hk':=hk;rw[Prd.count,y6a hc]at hk';by_cases h:k<p.months.length
 ·right;rw[Prd.legs,y5x (by omega),y6a (by omega)];exact⟨rfl,h⟩
 ·left;rw[Prd.legs,y5x (by omega),y5x (by omega)];exact yLr p.months.length m6 k hk' oM
def zFc {p:Prd} (hc:p.check=0):p.months.length<=p.count:=by
 rw[Prd.count,y6a hc];omega
def zZe {i:dV} {s:Int} {k:Nat} (hk:k<(yS i s).length):aa zJ (aa (cW i s) (ab (k+1) (yS i s))++ae (k+1) (yS i s))=
 zX (aa zJ (aa (cW i s) (ab k (yS i s))++ae k (yS i s))) k (0+2) [D.v (.int .i64 (i.p.legs i.inst).1),D.v (.int .i64 s),D.v (.int .i64 (i.p.legs i.inst).2.1),D.v (.int .i64 (3-s))]:=by
 obtain⟨q,hq⟩:=yC hk;rw[zRg (a:=aa zJ (aa (cW i s) (ab k (yS i s)))) (b:=aa zJ (ae (k+1) (yS i s))) (x:=zJ q) (y:=zJ (cW i s q)) (by
  rw[y6i,y8g hk,(y6c.1 hq).2,y6m]) (by simp;omega) rfl]
 rw[y7h,hq,y9b,y6i,y6i,y6i,y6m,y9q,y6m,y9q,y6f];rfl
def y1v (i:dV) (h:all1C.cnd i):ySq i:=by
 unfold ySq z5 zEn zGa nK vF pR zAc pT jF qA lR uQ gV fF dI;obtain⟨⟨h1,h2,h3⟩,ht,hr⟩:i.p.small/\vN i.tops:=h;have hto:vN i.tops:=⟨ht,hr⟩
 refine⟨i.p,?_⟩;simp only[y5z,yY]
 (repeat'(first|exact rfl|exact trivial|assumption|apply ar|refineλ(_:Unit) (_:True)=>?_|refine am () ?_|omega|(dsimp only;omega)))
 have bad (hb:i.p.count=0\/(i.tops.length:Int)≠i.p.count\/i.inst<0\/(i.p.count:Int)<=i.inst):∃(o:Unit),aa zJ (kO i 1)=[]/\True:=⟨(),by rw[kO,y6a hb];rfl,trivial⟩
 refine Cv.cnd.mk (λc1=>bad (.inl (by have c1:(i.p.count:Int)=0:=(by simpa using c1);omega))) λc1=>Cv.cnd.mk (λc2=>bad (.inr (.inl (by simpa using c2)))) λc2=>zI (λc3=>bad oM) λc3=>zI (λc4=>bad oM) λc4=>⟨⟨i.p,i.inst⟩,?_⟩
 have c1:i.p.count≠0:=by
  have c1:¬(i.p.count:Int)=0:=(by simpa using c1)
  omega
 have c2:(i.tops.length:Int)=i.p.count:=by simpa using c2
 have c4:i.inst<(i.p.count:Int):=by
  have c4:¬i.inst>=(i.p.count:Int):=c4;omega
 have hc:=eW c1;have hm:=zFc hc;have e0:kO i 1=if(i.p.legs i.inst).2.2 then(yS i 1).map (cW i 1)else jC i 1 (i.p.months.length-(i.inst.toNat+1))++wG i 1 i.inst.toNat:=by
  rw[kO,y5x (by omega)]
 obtain⟨k,hk⟩:∃k:Nat,i.inst=k:=⟨i.inst.toNat,oM⟩
 have hl:=g9 hc (k:=k) oM;rw[<- hk]at hl
 (repeat'(first|exact rfl|exact trivial|assumption|apply ar|refineλ(_:Unit) (_:True)=>?_|refine am () ?_|omega|(dsimp only;omega)))
 refine Cv.cnd.mk (λc5=> ?_) (λc5=> ?_)
 ·have c5:(i.p.legs i.inst).2.2=ao:=c5;rw[e0,y6a c5];rcases hl with⟨_,l1,l2,l3,l4⟩|⟨l1,_⟩
  ·have hsl:(yS i 1).length<=1:=zFg _ _ _ _;refine⟨1,rfl,oM,λ_ _=>⟨⟨⟨i.tops,[],(i.p.legs i.inst).2.1,(i.p.legs i.inst).1,ao⟩,ao,ap⟩,rF6 ⟨rfl,⟨l3,Z9,l1,Z9,hto,by simp⟩,λ_ _=>⟨0,rfl,rfl,rfl,λj=>j<=(yS i 1).length,λj=>(yS i 1).length-j,oM,?_⟩⟩⟩⟩;intro j hj;have hj:j<=(yS i 1).length:=hj;have hL:(aa (cW i 1) (ab j (yS i 1))++ae j (yS i 1)).length=(yS i 1).length:=by simp;omega
   refine zI (λhlt=> ?_) (λhlt=> ?_)
   ·have hlt:(j:Int)<((yS i 1).length:Int):=hlt;refine⟨⟨oM,by rw[hL];omega⟩,by rw[hL];omega,j+1,by rw[w64 (by omega)];rfl,kp,?_,?_⟩
    ·exact zZe (i:=i) (s:=1) oM
    ·exact kp
   ·have hlt:¬(j:Int)<((yS i 1).length:Int):=hlt;obtain rfl:j=(yS i 1).length:=by omega
    rw[y6k (y6v _),List.drop_length,y6w];exact kp
  ·rw[c5]at l1;cases l1
 ·have c5:(i.p.legs i.inst).2.2=ap:=c5;rw[e0,y5x (by rw[c5];simp)];rcases hl with⟨l1,_⟩|⟨_,l2⟩
  ·rw[c5]at l1;cases l1
  have m6:=(kI hc).m6;have e1:i.inst.toNat=k:=by omega
  rw[e1];refine⟨0,by rw[w64 (by omega)];omega,kp,rfl,λj=>j<=i.p.months.length-(k+1),λj=>i.p.months.length-(k+1)-j,oM,?_⟩;intro j hj;have hj:j<=i.p.months.length-(k+1):=hj;have hq:=zBu i 1 j;refine zI (λhlt=> ?_) (λhlt=> ?_)
  ·obtain⟨b1,b2⟩:=bN hc (a:=k) (b:=k+1+j) oM oM;have eb:((k+1+j:Nat):Int)=i.inst+1+j:=by omega
   rw[eb,<- hk]at b1 b2;refine⟨⟨i.p,i.inst,i.inst+1+j⟩,?_⟩
   (repeat'(first|exact rfl|exact trivial|assumption|apply ar|refineλ(_:Unit) (_:True)=>?_|refine am () ?_|omega|(dsimp only;omega)))
   refine⟨⟨⟨i.tops,jC i 1 j,(i.p.spread i.inst (i.inst+1+j)).1,i.inst+1+j,ap⟩,ap,ap⟩,rF4 ⟨rfl,kp,rfl,⟨b1,Z9,Z9,Z9,hto,Z9⟩,λ_ _=>⟨j+1,by rw[w64 (by omega)];omega,kp,?_,?_⟩⟩⟩
   ·rw[jC,xAt,y7w];simp only[y7t,xBd,y6w];rfl
   ·exact kp
  ·obtain rfl:j=i.p.months.length-(k+1):=by omega
   refine⟨0,rfl,kp,by rw[wG];simp,λj=>j<=k,λj=>k-j,oM,?_⟩;intro j hj;have hj:j<=k:=hj;have hq2:=rO i 1 j;refine zI (λhlt2=> ?_) (λhlt2=> ?_)
   ·obtain⟨b1,b2⟩:=bN hc (a:=j) (b:=k) oM oM;rw[<- hk]at b1 b2;refine⟨⟨i.p,j,i.inst⟩,?_⟩
    (repeat'(first|exact rfl|exact trivial|assumption|apply ar|refineλ(_:Unit) (_:True)=>?_|refine am () ?_|omega|(dsimp only;omega)))
    refine⟨1,rfl,oM,λ_ _=>⟨⟨⟨i.tops,jC i 1 (i.p.months.length-(k+1))++wG i 1 j,(i.p.spread j i.inst).1,j,ao⟩,ao,ap⟩,rF4 ⟨rfl,kp,rfl,⟨b1,Z9,Z9,Z9,hto,by dsimp only;rw[y5y];omega⟩,λ_ _=>⟨j+1,by rw[w64 (by omega)];omega,kp,?_,?_⟩⟩⟩⟩
    ·rw[wG,xAt,y7w];simp only[y7t,xBd,y6w,y6f];rfl
    ·exact kp
   ·obtain rfl:j=k:=by omega
    exact kp
def yPw:all1C.ok Tryz.prog 129:=okw mixed (gokc bZ (gokc zAb (gokc zRm (gokc zTs (gokc zZy gok0))))) 0 (λ_=>[]) (λi=>yZl i 1) [] Tryz.func129 y1v
def y3b (i:dV) (h:all2C.cnd i):ySa i:=by
 unfold ySa z5 nQ lZ nU zEn zGa nK vF jF qA lR uQ gV fF dI;obtain⟨⟨h1,h2,h3⟩,ht,hr⟩:i.p.small/\vN i.tops:=h;have hto:vN i.tops:=⟨ht,hr⟩
 refine⟨i.p,?_⟩;simp only[y5z,yY]
 (repeat'(first|exact rfl|exact trivial|assumption|apply ar|refineλ(_:Unit) (_:True)=>?_|refine am () ?_|omega|(dsimp only;omega)))
 have bad (hb:i.p.count=0\/(i.tops.length:Int)≠i.p.count\/i.inst<0\/(i.p.count:Int)<=i.inst):∃(o:Unit),aa zJ (kO i 2)=[]/\True:=⟨(),by rw[kO,y6a hb];rfl,trivial⟩
 refine Cv.cnd.mk (λc1=>bad (.inl (by have c1:(i.p.count:Int)=0:=(by simpa using c1);omega))) λc1=>Cv.cnd.mk (λc2=>bad (.inr (.inl (by simpa using c2)))) λc2=>zI (λc3=>bad oM) λc3=>zI (λc4=>bad oM) λc4=>⟨⟨i.p,i.inst⟩,?_⟩
 have c1:i.p.count≠0:=by
  have c1:¬(i.p.count:Int)=0:=(by simpa using c1)
  omega
 have c2:(i.tops.length:Int)=i.p.count:=by simpa using c2
 have c4:i.inst<(i.p.count:Int):=by
  have c4:¬i.inst>=(i.p.count:Int):=c4;omega
 have hc:=eW c1;have hm:=zFc hc;have e0:kO i 2=if(i.p.legs i.inst).2.2 then(yS i 2).map (cW i 2)else jC i 2 (i.p.months.length-(i.inst.toNat+1))++wG i 2 i.inst.toNat:=by
  rw[kO,y5x (by omega)]
 obtain⟨k,hk⟩:∃k:Nat,i.inst=k:=⟨i.inst.toNat,oM⟩
 have hl:=g9 hc (k:=k) oM;rw[<- hk]at hl
 (repeat'(first|exact rfl|exact trivial|assumption|apply ar|refineλ(_:Unit) (_:True)=>?_|refine am () ?_|omega|(dsimp only;omega)))
 refine Cv.cnd.mk (λc5=> ?_) (λc5=> ?_)
 ·have c5:(i.p.legs i.inst).2.2=ao:=c5;rw[e0,y6a c5];rcases hl with⟨_,l1,l2,l3,l4⟩|⟨l1,_⟩
  ·have hsl:(yS i 2).length<=1:=zFg _ _ _ _;refine⟨2,rfl,oM,λ_ _=>⟨⟨⟨i.tops,[],(i.p.legs i.inst).2.1,(i.p.legs i.inst).1,ao⟩,ap,ao⟩,rF6 ⟨rfl,⟨l3,Z9,l1,Z9,hto,by simp⟩,λ_ _=>⟨0,rfl,rfl,rfl,λj=>j<=(yS i 2).length,λj=>(yS i 2).length-j,oM,?_⟩⟩⟩⟩;intro j hj;have hj:j<=(yS i 2).length:=hj;have hL:(aa (cW i 2) (ab j (yS i 2))++ae j (yS i 2)).length=(yS i 2).length:=by simp;omega
   refine zI (λhlt=> ?_) (λhlt=> ?_)
   ·have hlt:(j:Int)<((yS i 2).length:Int):=hlt;refine⟨⟨oM,by rw[hL];omega⟩,by rw[hL];omega,j+1,by rw[w64 (by omega)];rfl,kp,?_,?_⟩
    ·exact zZe (i:=i) (s:=2) oM
    ·exact kp
   ·have hlt:¬(j:Int)<((yS i 2).length:Int):=hlt;obtain rfl:j=(yS i 2).length:=by omega
    rw[y6k (y6v _),List.drop_length,y6w];exact kp
  ·rw[c5]at l1;cases l1
 ·have c5:(i.p.legs i.inst).2.2=ap:=c5;rw[e0,y5x (by rw[c5];simp)];rcases hl with⟨l1,_⟩|⟨_,l2⟩
  ·rw[c5]at l1;cases l1
  have m6:=(kI hc).m6;have e1:i.inst.toNat=k:=by omega
  rw[e1];refine⟨0,by rw[w64 (by omega)];omega,kp,rfl,λj=>j<=i.p.months.length-(k+1),λj=>i.p.months.length-(k+1)-j,oM,?_⟩;intro j hj;have hj:j<=i.p.months.length-(k+1):=hj;have hq:=zBu i 2 j;refine zI (λhlt=> ?_) (λhlt=> ?_)
  ·obtain⟨b1,b2⟩:=bN hc (a:=k) (b:=k+1+j) oM oM;have eb:((k+1+j:Nat):Int)=i.inst+1+j:=by omega
   rw[eb,<- hk]at b1 b2;refine⟨⟨i.p,i.inst,i.inst+1+j⟩,?_⟩
   (repeat'(first|exact rfl|exact trivial|assumption|apply ar|refineλ(_:Unit) (_:True)=>?_|refine am () ?_|omega|(dsimp only;omega)))
   refine⟨⟨⟨i.tops,jC i 2 j,(i.p.spread i.inst (i.inst+1+j)).1,i.inst+1+j,ap⟩,ao,ao⟩,rF4 ⟨rfl,kp,rfl,⟨b1,Z9,Z9,Z9,hto,Z9⟩,λ_ _=>⟨j+1,by rw[w64 (by omega)];omega,kp,?_,?_⟩⟩⟩
   ·rw[jC,xAt,y7w];simp only[y7t,xBd,y6w];rfl
   ·exact kp
  ·obtain rfl:j=i.p.months.length-(k+1):=by omega
   refine⟨0,rfl,kp,by rw[wG];simp,λj=>j<=k,λj=>k-j,oM,?_⟩;intro j hj;have hj:j<=k:=hj;have hq2:=rO i 2 j;refine zI (λhlt2=> ?_) (λhlt2=> ?_)
   ·obtain⟨b1,b2⟩:=bN hc (a:=j) (b:=k) oM oM;rw[<- hk]at b1 b2;refine⟨⟨i.p,j,i.inst⟩,?_⟩
    (repeat'(first|exact rfl|exact trivial|assumption|apply ar|refineλ(_:Unit) (_:True)=>?_|refine am () ?_|omega|(dsimp only;omega)))
    refine⟨2,rfl,oM,λ_ _=>⟨⟨⟨i.tops,jC i 2 (i.p.months.length-(k+1))++wG i 2 j,(i.p.spread j i.inst).1,j,ao⟩,ap,ao⟩,rF4 ⟨rfl,kp,rfl,⟨b1,Z9,Z9,Z9,hto,by dsimp only;rw[y5y];omega⟩,λ_ _=>⟨j+1,by rw[w64 (by omega)];omega,kp,?_,?_⟩⟩⟩⟩
    ·rw[wG,xAt,y7w];simp only[y7t,xBd,y6w,y6f];rfl
    ·exact kp
   ·obtain rfl:j=k:=by omega
    exact kp
def yPo:all2C.ok Tryz.prog 129:=okw mixed (gokc bZ (gokc zAb (gokc zRm (gokc zTs (gokc zZy gok0))))) 0 (λ_=>[]) (λi=>yZl i 2) [] Tryz.func129 y3b
def yHy:allC.ok Tryz.prog 129:=λj=>match j with
 |⟨i,ap⟩=>yPw i
 |⟨i,ao⟩=>yPo i
def zRx:quotesC.ok Tryz.prog 81:=okw mixed (gokc yHy (gokc eZ gok0)) 0 (λ_=>[]) (λj=>yNr j) [] Tryz.func81 yOi
def zKh (i:dV) (s:Int):(xW i s).length<=100:=y8u (y9l _ _) (zFw i s)
structure Mkt where
 p:Prd
 s:MSt
 used:List Int
def zV (l:List Int):List (Value×List D):=l.map λx=>(.int .i64 x,[.v (.bool ao)])
def yI (m:Mkt):Nat->AObj
 |0=> .cells [sV m.p.code,.own 3,zA m.p.tick,zA m.p.low,zA m.p.high,zA m.p.wide,zA m.p.rule,zA m.p.top,zA m.p.least,zA m.p.part,.own 4,.nm 1 0,.mp 2] 114
 |1=>zD m.s
 |2=> .map (zV m.used)
 |3=> .fro 1 (iE m.p.months)
 |4=> .fro 1 (iE m.p.settle)
 |_=> .gone
def qD (m:Mkt):AObj:= .adt Mkt 5 yI m
def newMC:Con where
 ι:=Prd
 pat:=λp=>[prdV p]
 pre:=λ_=>[]
 cnd:=λp=>p.small
 alts:=λp=>[{o:=Unit,res:=λ_=> .tup [.nm 0 0,zA 0],post:=λ_=>[qD ⟨p,mI p,[]⟩],rel:=λ_=>p.check=0},{o:=Unit,res:=λ_=> .tup [.d (.v (.pointer none)),zA p.check],post:=λ_=>[],rel:=λ_=>p.check≠0}]
def zIk (a:Prd) (b:Prd) (c:Unit):Prop:=True/\(0+(iE a.settle).length)*(8:Nat)<=(140737488355328:Nat)/\((∃(d:Unit),dh ((0:Int))/\dh (sb a.code)/\dh a.tick/\dh a.low/\dh a.high/\dh a.wide/\dh a.rule/\dh a.top/\dh a.least/\dh a.part/\zD (mI a)=zD (mI b)/\zV []=[]/\iE a.months=[]++iE a.months/\iE a.settle=[]++iE a.settle/\a.check=0)\/∃(c:Unit),False)
def zGr (a:Prd) (b:Prd) (c:Unit):Prop:=True/\True/\(0+(iE a.months).length)*(8:Nat)<=(140737488355328:Nat)/\zIk a b c
def zIi (a:Prd) (b:Unit):Prop:=True/\(0+(iE a.settle).length)*(8:Nat)<=(140737488355328:Nat)/\((∃(c:Unit),dh ((0:Int))/\dh (sb a.code)/\dh a.tick/\dh a.low/\dh a.high/\dh a.wide/\dh a.rule/\dh a.top/\dh a.least/\dh a.part/\False)\/∃(b:Unit),False)
def zHv (a:Prd) (b:Unit):Prop:=True/\True/\(0+(iE a.months).length)*(8:Nat)<=(140737488355328:Nat)/\zIi a b
def yQw (p:Prd):Prop:=
 ∃(a:Prd),sb a.code=sb p.code/\iE a.months=iE p.months/\a.tick=p.tick/\a.low=p.low/\a.high=p.high/\a.wide=p.wide/\a.rule=p.rule/\a.top=p.top/\a.least=p.least/\a.part=p.part/\iE a.settle=iE p.settle/\(z5 a)/\(∀(b:Unit),a.check=0->(True/\True/\((0+(iE p.months).length)*(8:Nat)<=(140737488355328:Nat)/\True/\zIk p a b)/\zGr p a b)/\True/\True/\zGr p a b)/\∀(b:Unit),a.check≠0->cnd (a.check !=0) ((∃(c:Unit),False)\/∃(b:Unit),True/\p.check=a.check/\(p.check=0->False)) ((True/\True/\((0+(iE p.months).length)*(8:Nat)<=(140737488355328:Nat)/\True/\zIi p b)/\zHv p b)/\True/\True/\zHv p b)
def yZg (p:Prd) (h:newMC.cnd p):yQw p:=by
 unfold yQw zHv zIi zGr zIk z5;obtain⟨h1,h2,h3⟩:p.small:=h;refine⟨p,?_⟩;simp only[yY]
 (repeat'(first|exact rfl|exact trivial|assumption|apply ar|refineλ(_:Unit) (_:True)=>?_|refine am () ?_|omega|(dsimp only;omega)))
 ·intro _ c
  (repeat'(first|exact rfl|exact trivial|assumption|apply ar|refineλ(_:Unit) (_:True)=>?_|refine am () ?_|omega|(dsimp only;omega)))
  all_goals(refine .inl ⟨(),?_⟩;(repeat'(first|exact rfl|exact trivial|assumption|apply ar|refineλ(_:Unit) (_:True)=>?_|refine am () ?_|omega|(dsimp only;omega))))
 ·intro _ c;refine Cv.cnd.mk (λe=> .inr ⟨(),trivial,kp,c⟩) (λe=>absurd (by simpa using e) c)
def yOv:newMC.ok Tryz.prog 105:=okw mixed (gokc yPu gok0) 0 (λ_=>[]) (λ_=>[]) [] Tryz.func105 yZg
def clIntRC:Con:=con1 (List Int) (λl=>[iV l]) (λ_=>[]) (λl=>l.length<=1000000) (λl=>iV l) (λ_=>[])
structure WiI where
 n:Int
 lo:Int
 hi:Int
def zF (n lo hi:Int):Int:=lo+n % (hi-lo+1)
def withinC:Con:=con1 WiI (λi=>[zA i.n,zA i.lo,zA i.hi]) (λ_=>[]) (λi=>i64r i.n/\-1000000<=i.lo/\i.lo<=i.hi/\i.hi<=1000000) (λi=>zA (zF i.n i.lo i.hi)) (λ_=>[])
def f8 (rule:Int):Prd:=⟨[67,76],[320,321,323],5,0,1000,200,rule,4,2,40,[500,505,490]⟩
def threeC:Con:=con1 Int (λn=>[zA n]) (λ_=>[]) (λ_=>True) (λn=>prdV (f8 n)) (λ_=>[])
def yNj (l:List Int):Prop:=
 ∀(b:Bool),(b=ao->iE l=[])->cnd b (∃(o:Unit),iE l=[]/\True) ((0+(iE l).length)*(8:Nat)<=(140737488355328:Nat)/\∃(o:Unit),iE l=[]++iE l/\True)
def yDp (l:List Int):Prop:=
 ∀(b:Bool),(b=ao->iE l=[])->cnd b (∃(o:Unit),iE l=[]/\True) ((0+(iE l).length)*(8:Nat)<=(140737488355328:Nat)/\∃(o:Unit),iE l=[]++iE l/\True)
def mV (a:WiI):=(aq.wrap (aq.wrap (a.hi-a.lo)+1))
def z9u (i:WiI):Prop:=
 aq=aq/\aq.wrap (aq.wrap (i.hi-i.lo)+1)≠0/\cnd (decide (i.n.tmod (mV i)<0)) (∃(a:Unit),zF i.n i.lo i.hi=aq.wrap (i.lo+aq.wrap (aq.wrap (aq.wrap (i.n.tmod (mV i)+i.hi)-i.lo)+1))/\True) (∃(a:Unit),zF i.n i.lo i.hi=aq.wrap (i.lo+i.n.tmod (mV i))/\True)
def yGv (n:Int):Prop:=
 ∃(a:Unit),sb [(67:UInt8),(76:UInt8)]=ByteArray.mk #[(67:UInt8),(76:UInt8)]/\iE [(320:Int),(321:Int),(323:Int)]=[[dI 320],[dI 321],[dI 323]]/\dh ((5:Int))/\dh ((0:Int))/\dh ((1000:Int))/\dh ((200:Int))/\n=n/\dh ((4:Int))/\dh ((2:Int))/\dh ((40:Int))/\iE [(500:Int),(505:Int),(490:Int)]=[[dI 500],[dI 505],[dI 490]]/\True
def yBm:clIntRC.ok Tryz.prog 49:=okw (V:=yNj) mixed gok0 0 (λ_=>[]) (λ_=>[]) [] Tryz.func49 λ(l:List Int) h=>by
 have h:l.length<=1000000:=h;exactλb hb=>Cv.cnd.mk (λe=>⟨(),hb e,trivial⟩) (λ_=>⟨by rw[y6x,yY];omega,(),rfl,trivial⟩)
def z1l:clIntRC.ok Tryz.prog 50:=okw (V:=yDp) mixed gok0 0 (λ_=>[]) (λ_=>[]) [] Tryz.func50 λ(l:List Int) h=>by
 have h:l.length<=1000000:=h;exactλb hb=>Cv.cnd.mk (λe=>⟨(),hb e,trivial⟩) (λ_=>⟨by rw[y6x,yY];omega,(),rfl,trivial⟩)
def yLg:threeC.ok Tryz.prog 31:=okw (V:=yGv) mixed gok0 0 (λ_=>[]) (λ_=>[]) [] Tryz.func31 λ(n:Int) _=>by
 unfold yGv dI;exact kp
def yOk (i:WiI) (h:withinC.cnd i):z9u i:=by
 obtain⟨⟨a1,a2⟩,a3,a4,a5⟩:i64r i.n/\-1000000<=i.lo/\i.lo<=i.hi/\i.hi<=1000000:=h;unfold z9u mV;rw[w64 (x:=i.hi-i.lo) (by omega),w64 (x:=i.hi-i.lo+1) (by omega)];obtain⟨d,hd⟩:∃d:Int,i.hi-i.lo+1=d:=⟨_,rfl⟩
 rw[hd];have h1:i.n.tmod d=if 0<=i.n then i.n % d else-((-i.n) % d):=by
  split
  ·rename_i h;rw[xBj h]
  ·rename_i h;have:i.n= -(-i.n):=by omega
   conv=>lhs;rw[this]
   rw[Int.neg_tmod,xBj (by omega)]
 have hb1:=xCa i.n (show d≠0 by omega);have hb2:=xCb i.n (show 0<d by omega);have hb3:=xCa (-i.n) (show d≠0 by omega);have hb4:=xCb (-i.n) (show 0<d by omega);have key:i.n.tmod d<0->i.n % d=i.n.tmod d+d:=λhneg=>by
  have:=Int.emod_eq_of_lt (a:=i.n.tmod d+d) (b:=d) (by rw[h1]at hneg ⊢;split at hneg<;>split<;>omega) oM;rw[<- this,Int.add_emod_right];have e:=Int.tmod_add_mul_tdiv i.n d
  conv=>lhs;rw[<- e]
  rw[ax]
 have key2:¬i.n.tmod d<0->i.n % d=i.n.tmod d:=λhneg=>by
  have hlt:i.n.tmod d<d:=by rw[h1];split<;>omega
  have:=Int.emod_eq_of_lt (a:=i.n.tmod d) (b:=d) oM hlt;rw[<- this];have e:=Int.tmod_add_mul_tdiv i.n d
  conv=>lhs;rw[<- e]
  rw[ax]
 refine⟨rfl,oM,zI (λc=>⟨(),?_,trivial⟩) (λc=>⟨(),?_,trivial⟩)⟩
 ·have k:=key c;rw[zF,hd,k];rw[w64 (x:=i.n.tmod d+i.hi) (by omega),w64 (x:=i.n.tmod d+i.hi-i.lo) (by omega),w64 (x:=i.n.tmod d+i.hi-i.lo+1) (by omega),w64 (by omega)];omega
 ·have k:=key2 c;rw[zF,hd,k,w64 (by omega)]
def within_ok:withinC.ok Tryz.prog 11:=okw mixed gok0 0 (λ_=>[]) (λ_=>[]) [] Tryz.func11 yOk
def zDm (l:List (Int×Int)) (k:Int):Option Int:=(l.find? λx=>decide (x.1=k)).map (·.2)
def yGs (l:List (Int×Int)) (k:Int):∀p∈yR l,like (av aq k) p.1=ao:=by
 intro p hp;obtain⟨x,_,rfl⟩:=y7j.1 hp;rfl
def pB (k:Int):∀l:List (Int×Int),kC (av aq k) (yR l)=(zDm l k).map λv=>[D.v (.int .i64 v)]
 |[]=>rfl
 |(a,v)::l=>by
  have ih:=pB k l;show(bif (keq .i64 .i64 && decide (k=a))then _ else kC _ (yR l))=_;by_cases h:k=a
  ·subst h;simp[zDm,keq]
  ·have h':¬a=k:=λe=>h e.symm
   rw[show(keq .i64 .i64 && decide (k=a))=ap by simp[h],cond_false,ih];simp[zDm,xCd,h']
structure Rep where
 kind:Int
 id:Int
 inst:Int
 side:Int
 price:Int
 qty:Int
 left:Int
 why:Int
 deriving DecidableEq
@[reducible] def y4f (r:Rep):V:= .agg [zA r.kind,zA r.id,zA r.inst,zA r.side,zA r.price,zA r.qty,zA r.left,zA r.why]
def xQ (r:Rep):List D:=[.v (.int .i64 r.kind),.v (.int .i64 r.id),.v (.int .i64 r.inst),.v (.int .i64 r.side),.v (.int .i64 r.price),.v (.int .i64 r.qty),.v (.int .i64 r.left),.v (.int .i64 r.why)]
def z1g (k v:Int):List (Int×Int)->List (Int×Int)
 |[]=>[(k,v)]
 |(a,b)::l=>if k=a then(a,v)::l else(a,b)::z1g k v l
def z5q (k:Int):List (Int×Int)->List (Int×Int)
 |[]=>[]
 |(a,b)::l=>if k=a then l else(a,b)::z5q k l
def bj (t:Nat):SAnn:={ι:=Bool,slots:=λb=>[(t,yP b)],rows:=λ_=>[]}
def ij (t:Nat):SAnn:={ι:=Int,slots:=λn=>[(t,zA n)],rows:=λ_=>[]}
end Sx
