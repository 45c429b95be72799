/- Texts of ours. No condition. -/
import Derived.Test.YtaafldgiafcgfaaGreatT4
set_option linter.all false
open List renaming map->aa,take->ab,filter->ac,drop->ae,range->af,drop_length->ag
open Sx.AObj renaming fro->aj,cells->ak,own->am
open Exists renaming intro->ao
open Bool renaming true->ap,false->aq
open Go.IntKind renaming i64->ar
open And renaming intro->au
open Int renaming tmod_eq_emod_of_nonneg->av,add_mul_emod_self_left->aw
open Go.Value renaming string->ax,int->ay
open Option renaming some->az
namespace Sx
set_option maxRecDepth 100000
open Go Cv Go.Proofs
def elA {α:Type} {f:α->List D} {l:List α} {i g n:Nat} {x:α} {r:List D} (h:l[i]? =az x) (hn:g+n<=(f x).length) (hr:((f x).drop g).take n=r):zE (l.map f) i g n=az r:=by
 unfold zE;rw[y9r,h];simp only[xAd,Nat.ble_eq_true_of_le hn,cond_true,hr]
def zXi {a:Arena} {n:Int} {q:cY} (h0:0<=n) (h:a.queues[n.toNat]? =az q):a.qAt n=q:=by
 have:=(y8e.1 h).1;rw[Arena.qAt,y8c ⟨h0,by omega⟩,y8j,h];rfl
def zMe {a:Arena} {n:Int} (h:¬(0<=n/\n<a.queues.length)):a.qAt n=⟨0,0,0,0⟩:=by rw[Arena.qAt,y7z h]
def zJs:atotalC.ok Tryz.prog 175:=okw (V:=z8p) mixed gok0 1 (λ_=>[]) (λ_=>[]) [0] Tryz.func175 λ(i:ArN) _=>by
 unfold z8p fU eJ jY dI;simp only[y8b];refine zI (λc=>Cv.cnd.mk (λd=> ?_) (λd=> ?_)) (λc=> ?_)
 ·have d:¬i.n<(i.a.queues.length:Int):=by simpa using d
  rw[zMe (by omega)];exact kp
 ·have d:i.n<(i.a.queues.length:Int):=by simpa using d
  obtain⟨q,hq⟩:=yC (l:=i.a.queues) (i:=i.n.toNat) oM;rw[zXi (by omega) hq];refine⟨⟨oM,oM⟩,q.total,elA hq (by simp[zO]) rfl,?_⟩;exact kp
 ·rw[zMe (by omega)];exact kp
def pJ:acountC.ok Tryz.prog 176:=okw (V:=yAa) mixed gok0 1 (λ_=>[]) (λ_=>[]) [0] Tryz.func176 λ(i:ArN) _=>by
 unfold yAa fU lA jY dI;simp only[y8b];refine zI (λc=>Cv.cnd.mk (λd=> ?_) (λd=> ?_)) (λc=> ?_)
 ·have d:¬i.n<(i.a.queues.length:Int):=by simpa using d
  rw[zMe (by omega)];exact kp
 ·have d:i.n<(i.a.queues.length:Int):=by simpa using d
  obtain⟨q,hq⟩:=yC (l:=i.a.queues) (i:=i.n.toNat) oM;rw[zXi (by omega) hq];refine⟨⟨oM,oM⟩,q.count,elA hq (by simp[zO]) rfl,?_⟩;exact kp
 ·rw[zMe (by omega)];exact kp
def lS:bisC.ok Tryz.prog 154:=okw (V:=y2y) mixed gok0 0 (λ_=>[]) (λ_=>[]) [] Tryz.func154 λ(n:Int) _=>by
 unfold y2y;refine Cv.cnd.mk (λc=>⟨(),?_,trivial⟩) (λc=>⟨(),?_,trivial⟩)
 all_goals simp at c
 ·simp[c]
 ·by_cases h:n=2<;>simp[c,h]
def yAu:toldC.ok Tryz.prog 155:=okw (V:=y1l) mixed (gokc zJs (gokc pJ gok0)) 0 (λ_=>[]) (λ_=>[]) [0] Tryz.func155 λ(i:BkR) h=>by
 refine⟨⟨i.b.a,i.r.queue⟩,?_⟩;(repeat'(first|exact rfl|exact trivial|assumption|apply au|refineλ(_:Unit) (_:True)=>?_|refine ao () ?_|omega|(dsimp only;omega)));refine⟨⟨i.b.a,i.r.queue⟩,?_⟩;exact kp
def yHf:best1C.ok Tryz.prog 126:=okw (V:=yVk) mixed (gokc lS (gokc yAu gok0)) 0 (λ_=>[]) (λ_=>[]) [0] Tryz.func126 λ(b:Book) h=>by
 have h:b.cntOk:=h;refine⟨1,rfl,trivial,λ_ _=>Cv.cnd.mk (λc=>absurd c Z8) λ_=> ?_⟩;simp only[y8b];refine Cv.cnd.mk (λc=> ?_) (λc=> ?_)
 ·have hl:b.buys=[]:=y9a (by have:(b.buys.length:Int)=0:=(by simpa using c);omega);have e:b.best b.buys=(⟨0,0,0⟩,aq):=by rw[hl];rfl
  rw[e];exact kp
 ·obtain⟨r,l,hl⟩:∃r l,b.buys=r::l:=by
   cases hb:b.buys with
   |nil=>rw[hb]at c;exact absurd c Z8
   |cons r l=>exact⟨r,l,rfl⟩
  have e:b.best b.buys=(b.told r,ap):=by rw[hl];rfl
  rw[e];refine⟨⟨oM,by rw[hl,y8f];omega⟩,r.price,r.queue,elA (x:=r) (by rw[hl];rfl) (by simp[zB]) rfl,⟨b,r⟩,?_⟩;exact kp
def yGu:best2C.ok Tryz.prog 126:=okw (V:=yZi) mixed (gokc lS (gokc yAu gok0)) 0 (λ_=>[]) (λ_=>[]) [0] Tryz.func126 λ(b:Book) h=>by
 have h:b.cntOk:=h;refine⟨2,rfl,trivial,λ_ _=>Cv.cnd.mk (λc=>absurd c Z8) λ_=> ?_⟩;simp only[y8b];refine Cv.cnd.mk (λc=> ?_) (λc=> ?_)
 ·have hl:b.sells=[]:=y9a (by have:(b.sells.length:Int)=0:=(by simpa using c);omega);have e:b.best b.sells=(⟨0,0,0⟩,aq):=by rw[hl];rfl
  rw[e];exact kp
 ·obtain⟨r,l,hl⟩:∃r l,b.sells=r::l:=by
   cases hb:b.sells with
   |nil=>rw[hb]at c;exact absurd c Z8
   |cons r l=>exact⟨r,l,rfl⟩
  have e:b.best b.sells=(b.told r,ap):=by rw[hl];rfl
  rw[e];refine⟨⟨oM,by rw[hl,y8f];omega⟩,r.price,r.queue,elA (x:=r) (by rw[hl];rfl) (by simp[zB]) rfl,⟨b,r⟩,?_⟩;exact kp
def zLx:bestC.ok Tryz.prog 126:=λi=>match i with
 |⟨aq,b⟩=>yHf b
 |⟨ap,b⟩=>yGu b
def zQg {α:Type} (f:α->α) (x:α) (b:List α):∀a:List α,(a++x::b).modify a.length f=a++f x::b
 |[]=>rfl
 |y::a=>by
  show y::(a++x::b).modify a.length f=_;rw[zQg f x b a];rfl
def zRv {els:List (List D)} {a b:List (List D)} {x y ds:List D} {j f:Nat} (h:els=a++x::b) (hl:a.length=j) (hy:x.take f++(ds++x.drop (f+ds.length))=y):zZ els j f ds=a++y::b:=by
 rw[zZ,h,<- hl,zQg,hy]
def kG {s:MSt} {j:Nat} {x y:Top} {f:Nat} {ds:List D} (hj:j<s.books.length) (hy:(z7 x).take f++(ds++(z7 x).drop (f+ds.length))=z7 y):
 zZ (aa z7 (xX s j x)) j f ds=aa z7 (xX s j y):=by
 rw[zRv (a:=(s.tops.take j).map z7) (b:=(List.replicate (s.books.length-j-1) top0).map z7) (by rw[xX,y8k,y8p]) (by
  rw[y8b,y8t,MSt.tops,y8b];omega) hy,xX,y8k,y8p]
def zQx {s:MSt} {j:Nat} {x:Top} (hj:j<s.books.length):(xX s j x).length=s.books.length:=by
 rw[xX,y8a,y8f,y8t,MSt.tops,y8b,xBg];omega
def zKh {s:MSt} {j:Nat} (hj:j<s.books.length):xX s j top0=qB s j:=by
 rw[xX,qB];obtain⟨m,hm⟩:∃m,s.books.length-j=m+1:=⟨s.books.length-j-1,oM⟩
 rw[hm,xCh];rfl
def zLb {s:MSt} {j:Nat} {b:Book} (hb:s.books[j]? =az b):xX s j b.top=qB s (j+1):=by
 have hj:=(y8e.1 hb).1;rw[xX,qB,y9g,show s.tops[j]? =az b.top by rw[MSt.tops,y9r,hb];rfl];simp only[xBb,y8g,y9q,xAu];rw[show s.books.length-j-1=s.books.length-(j+1)by omega]
def fY {α:Type} {l:List α} {j:Nat} {x:α} (h:l[j]? =az x):l.set j x=l:=by
 obtain⟨hj,rfl⟩:=y8e.1 h;exact List.set_getElem_self hj
def y4x (s:MSt) (h:topsC.cnd s):yTt s:=by
 obtain⟨h1,h2⟩:s.cntOk:=h;unfold yTt zOc zGv fK uQ kE vQ uZ aC b9 zJb zAo zAl dZ b8 zAf cL cI z5 aB uO dI;have p48:(2:Int) ^ (48:Nat)=281474976710656:=by decide
 refine⟨⟨oM,oM,oM,by rw[p48];omega⟩,0,rfl,?_,λj=>j<=s.books.length,λj=>s.books.length-j,oM,λj hj=>zI (λhlt=> ?_) (λhlt=> ?_)⟩
 ·rw[qB,y8k,List.map_replicate];rfl
 ·have hj':j<s.books.length:=by omega
  obtain⟨b,hb⟩:=yC hj';have hc:=h2 b (y8m hb);simp only[y8s];have ha:∀x,(aa z7 (xX s j x)).length=s.books.length:=λx=>by rw[y8b,zQx hj']
  have w1:ar.wrap (0+1)=1:=by decide
  have w2:(0+1) % ((2:Int) ^ ar.bits).natAbs=1:=by decide
  refine⟨⟨oM,oM⟩,oM,(j,top0),by rw[zKh hj'],λx=>x=(j,top0.buy (b.best b.buys)),⟨⟨Z8,Z8⟩,1,rfl,b,hb,⟨aq,b⟩,rfl,rfl,hc,λ_ _=>⟨b,rfl,kp,oM,?_⟩⟩,?_⟩
  ·refine Cv.cnd.mk (λc=> ?_) (λc=> ?_)
   ·have c:(b.best b.buys).2=ap:=c;have e1:=kG (s:=s) hj' (x:=top0) (y:={top0 with has1:=ap}) (f:=0+0+0*1) (ds:=[D.v (.bool ap)]) rfl;have e2:=kG (s:=s) hj' (x:={top0 with has1:=ap}) (y:={top0 with has1:=ap,p1:=(b.best b.buys).1.price}) (f:=0+2+0*1) (ds:=[D.v (.int .i64 (b.best b.buys).1.price)]) rfl;have e3:=kG (s:=s) hj' (x:={top0 with has1:=ap,p1:=(b.best b.buys).1.price}) (y:={top0 with has1:=ap,p1:=(b.best b.buys).1.price,q1:=(b.best b.buys).1.qty}) (f:=0+4+0*1) (ds:=[D.v (.int .i64 (b.best b.buys).1.qty)]) rfl;dsimp only;simp only[show b.side aq=b.buys from rfl,e1,e2,e3,ha]
    (repeat'(first|exact rfl|exact trivial|assumption|apply au|refineλ(_:Unit) (_:True)=>?_|refine ao () ?_|omega|(dsimp only;omega)))
    refine⟨(j,{top0 with has1:=ap,p1:=(b.best b.buys).1.price,q1:=(b.best b.buys).1.qty}),rfl,?_,?_⟩
    ·rw[Top.buy,y8c c]
    ·(repeat'(first|exact rfl|exact trivial|assumption|apply au|refineλ(_:Unit) (_:True)=>?_|refine ao () ?_|omega|(dsimp only;omega)))
     rw[fY hb]
   ·have c:(b.best b.buys).2=aq:=c;refine⟨(j,top0),rfl,?_,?_⟩
    ·rw[Top.buy,y7z (by rw[c];simp)]
    ·(repeat'(first|exact rfl|exact trivial|assumption|apply au|refineλ(_:Unit) (_:True)=>?_|refine ao () ?_|omega|(dsimp only;omega)))
     rw[fY hb]
  ·rintro _ rfl;rw[w1];generalize hx:top0.buy (b.best b.buys)=x;have hx2:b.top=x.sell (b.best b.sells):=by rw[Book.top,hx]
   refine⟨(j,x),rfl,λy=>y=(j,b.top),⟨⟨Z8,Z8⟩,2,rfl,b,hb,⟨ap,b⟩,rfl,rfl,hc,λ_ _=>⟨b,rfl,kp,oM,?_⟩⟩,?_⟩
   ·refine Cv.cnd.mk (λc=> ?_) (λc=> ?_)
    ·have c:(b.best b.sells).2=ap:=c;have e1:=kG (s:=s) hj' (x:=x) (y:={x with has2:=ap}) (f:=0+0+1*1) (ds:=[D.v (.bool ap)]) rfl;have e2:=kG (s:=s) hj' (x:={x with has2:=ap}) (y:={x with has2:=ap,p2:=(b.best b.sells).1.price}) (f:=0+2+1*1) (ds:=[D.v (.int .i64 (b.best b.sells).1.price)]) rfl;have e3:=kG (s:=s) hj' (x:={x with has2:=ap,p2:=(b.best b.sells).1.price}) (y:={x with has2:=ap,p2:=(b.best b.sells).1.price,q2:=(b.best b.sells).1.qty}) (f:=0+4+1*1) (ds:=[D.v (.int .i64 (b.best b.sells).1.qty)]) rfl;dsimp only;simp only[w2,show b.side ap=b.sells from rfl,e1,e2,e3,ha]
     (repeat'(first|exact rfl|exact trivial|assumption|apply au|refineλ(_:Unit) (_:True)=>?_|refine ao () ?_|omega|(dsimp only;omega)))
     refine⟨(j,{x with has2:=ap,p2:=(b.best b.sells).1.price,q2:=(b.best b.sells).1.qty}),rfl,?_,?_⟩
     ·rw[hx2,Top.sell,y8c c]
     ·(repeat'(first|exact rfl|exact trivial|assumption|apply au|refineλ(_:Unit) (_:True)=>?_|refine ao () ?_|omega|(dsimp only;omega)))
      rw[fY hb]
    ·have c:(b.best b.sells).2=aq:=c;refine⟨(j,x),rfl,?_,?_⟩
     ·rw[hx2,Top.sell,y7z (by rw[c];simp)]
     ·(repeat'(first|exact rfl|exact trivial|assumption|apply au|refineλ(_:Unit) (_:True)=>?_|refine ao () ?_|omega|(dsimp only;omega)))
      rw[fY hb]
   ·rintro _ rfl;refine⟨j+1,by rw[w64 (by omega)];rfl,?_⟩;refine⟨by dsimp only;rw[zLb hb],?_⟩;exact kp
 ·have hj:j<=s.books.length:=hj;obtain rfl:j=s.books.length:=by omega
  have e:qB s s.books.length=s.tops:=by
   rw[qB,xDq,List.replicate_zero,y8x,y8l (by rw[MSt.tops,y8b];omega)]
  rw[e];exact kp
def z7o:topsC.ok Tryz.prog 76:=okw mixed (gokc zLx gok0) 0 (λs=>ySx s) (λs=>ySb s) [0] Tryz.func76 y4x
def eN:copySC.ok Tryz.prog 82:=okw (V:=yWh) mixed (gokc yPf (gokc yJb gok0)) 0 (λ_=>[]) (λs=>yZa s) [0] Tryz.func82 λ(s:MSt) h=>by
 obtain⟨h1,h2⟩:s.small:=h;refine⟨yR s.wh,?_⟩;(repeat'(first|exact rfl|exact trivial|assumption|apply au|refineλ(_:Unit) (_:True)=>?_|refine ao () ?_|omega|(dsimp only;omega)));refine⟨0,?_⟩;(repeat'(first|exact rfl|exact trivial|assumption|apply au|refineλ(_:Unit) (_:True)=>?_|refine ao () ?_|omega|(dsimp only;omega)));refine⟨λj=>j<=s.books.length,λj=>s.books.length-j,oM,λj hj=>zI (λhlt=> ?_) (λhlt=> ?_)⟩
 ·obtain⟨b,hb⟩:=yC (l:=s.books) (i:=j) oM;have hs:=h2 b (y8m hb);simp only[y8s];refine⟨⟨oM,oM⟩,oM,b,hb,b,rfl,hs,λ_ _=>⟨b,rfl,kp,oM,trivial,trivial,s.books.take j,rfl,?_,j+1,?_⟩⟩
  ·rw[y8t];omega
  ·rw[w64 (by omega),y9g,hb]
   (repeat'(first|exact rfl|exact trivial|assumption|apply au|refineλ(_:Unit) (_:True)=>?_|refine ao () ?_|omega|(dsimp only;omega)))
   rw[fY hb]
 ·have hj:j<=s.books.length:=hj;obtain rfl:j=s.books.length:=by omega
  rw[y8l (y8w _)];exact kp
structure Leg where
 inst:Int
 side:Int
 deriving DecidableEq
structure Quote where
 price:Int
 qty:Int
 a:Leg
 b:Leg
 deriving DecidableEq
def zJ (q:Quote):List D:=[.v (.int .i64 q.price),.v (.int .i64 q.qty),.v (.int .i64 q.a.inst),.v (.int .i64 q.a.side),.v (.int .i64 q.b.inst),.v (.int .i64 q.b.side)]
@[reducible] def zWt (q:Quote):V:= .agg [zA q.price,zA q.qty,zA q.a.inst,zA q.a.side,zA q.b.inst,zA q.b.side]
def yXp:Quote:=⟨0,0,⟨0,0⟩,⟨0,0⟩⟩
structure I3' where
 side:Int
 x:Int
 y:Int
def btr (side x y:Int):Bool:=if side=1 then decide (y<x)else decide (x<y)
def iotherC:Con:=con1 Int (λn=>[zA n]) (λ_=>[]) (λn=>n=1\/n=2) (λn=>zA (3-n)) (λ_=>[])
def ibetterC:Con:=con1 I3' (λi=>[zA i.side,zA i.x,zA i.y]) (λ_=>[]) (λ_=>True) (λi=>yK (btr i.side i.x i.y)) (λ_=>[])
def Top.has (t:Top) (s:Int):Bool:=if s=1 then t.has1 else t.has2
def Top.price (t:Top) (s:Int):Int:=if s=1 then t.p1 else t.p2
def Top.qty (t:Top) (s:Int):Int:=if s=1 then t.q1 else t.q2
def mkq (tops:List Top) (a b:Leg) (less:Bool):List Quote:=
 let x:=tops.getD a.inst.toNat top0
 let y:=tops.getD b.inst.toNat top0
 let r:=if less then gL (y.price b.side) (x.price a.side)else gG (x.price a.side) (y.price b.side)
 if x.has a.side && y.has b.side && r.2 then[⟨r.1,min (x.qty a.side) (y.qty b.side),a,b⟩]else[]
structure MkI where
 tops:List Top
 out:List Quote
 a:Int
 b:Int
 less:Bool
@[reducible] def vG (l:List Top):Prop:=l.length<=1000000/\∀t∈l,i64r t.p1/\i64r t.p2
def MkU (x:List Top×List Quote):Nat->AObj
 |0=> .cells [.own 1,.own 2] 258
 |1=> .fro 6 (x.1.map z7)
 |2=> .own 172 6 (x.2.map zJ)
 |_=> .gone
@[reducible] def MkR (tops:List Top) (out:List Quote):List AObj:=[MkU (tops,out) 0,MkU (tops,out) 1,MkU (tops,out) 2]
@[reducible] def MkP (tops:List Top) (out:List Quote):List AObj:=[.cells [.own 1,.own 3] 258,MkU (tops,out) 1,.gone,MkU (tops,out) 2]
def mkC (sa sb:Int):Con:=con1 MkI (λi=>[.nm 0 0,.agg [zA i.a,zA sa],.agg [zA i.b,zA sb],yK i.less]) (λi=>MkR i.tops i.out)
 (λi=>0<=i.a/\i.a<i.tops.length/\0<=i.b/\i.b<i.tops.length/\vG i.tops/\i.out.length<=1000) (λ_=>tU) (λi=>MkP i.tops (i.out++mkq i.tops ⟨i.a,sa⟩ ⟨i.b,sb⟩ i.less))
def mk11:Con:=mkC 1 1
def mk12:Con:=mkC 1 2
def mk21:Con:=mkC 2 1
def mk22:Con:=mkC 2 2
def yQn (n:Int):Prop:=
 ∃(o:Unit),3-n=ar.wrap (3-n)/\True
def yJd (i:I3'):Prop:=
 cnd (i.side==1) (∃(o:Unit),btr i.side i.x i.y=decide (i.x>i.y)/\True) (∃(o:Unit),btr i.side i.x i.y=decide (i.x<i.y)/\True)
def zAi (a:MkI):=(a.out++mkq a.tops (Leg.mk a.a 1) (Leg.mk a.b 1) a.less)
def pM (a:MkI):Prop:=∃(b:Unit),aj 6 (aa z7 a.tops)=MkU (a.tops,a.out) 1/\aa zJ (zAi a)=aa zJ a.out/\True
def jN (a:I2):Prop:=((-9223372036854775808)<=a.x/\a.x<=9223372036854775807)/\(-9223372036854775808)<=a.y/\a.y<=9223372036854775807
def kD (a:MkI):=(↑(aa z7 a.tops).length:Int)
def qD (a:MkI):Prop:=(0<=a.b/\a.b<(kD a))/\dh a.b.toNat
def jM (a:MkI):Prop:=(0<=a.a/\a.a<(kD a))/\dh a.a.toNat
def jO (a:MkI):=((aa zJ a.out).length+1)
def zOi (a:MkI) (b:Bool) (c:Bool) (d:Int) (e:Int) (f:Int) (g:Int):Prop:=True/\(qD a)/\a.b=a.b/\True/\True/\(jM a)/\a.a=a.a/\True/\True/\(qD a)/\a.b=a.b/\True/\True/\(jM a)/\a.a=a.a/\True/\True/\(qD a)/\a.b=a.b/\True/\cnd (!b) (pM a) (cnd (!c) (pM a) (∃(h:I2),h.x=d/\h.y=e/\(jN h)/\∀(j:Unit),True->cnd a.less (∃(k:I2),k.x=e/\k.y=d/\(jN k)/\∀(l:Unit),True->cnd (gL k.x k.y).snd (True/\(jO a)*(48:Nat)<=(140737488355328:Nat)/\∃(m:Unit),aj 6 (aa z7 a.tops)=MkU (a.tops,a.out) 1/\aa zJ (zAi a)=aa zJ a.out++[[dI ((gL k.x k.y).fst),dI (min f g),dI a.a,dI 1,dI a.b,dI 1]]/\True) (pM a)) (cnd (gG h.x h.y).snd (True/\(jO a)*(48:Nat)<=(140737488355328:Nat)/\∃(k:Unit),aj 6 (aa z7 a.tops)=MkU (a.tops,a.out) 1/\aa zJ (zAi a)=aa zJ a.out++[[dI ((gG h.x h.y).fst),dI (min f g),dI a.a,dI 1,dI a.b,dI 1]]/\True) (pM a))))
def ySw (i:MkI):Prop:=
 (0<=i.a/\i.a<(kD i))/\∃(a:Bool),∃(b:Bool),∃(c:Int),∃(d:Int),∃(e:Int),∃(f:Int),zE (aa z7 i.tops) i.a.toNat 0 6=az [D.v (.bool a),D.v (.bool b),dI c,dI d,dI e,dI f]/\(0<=i.b/\i.b<(kD i))/\∃(g:Bool),∃(h:Bool),∃(j:Int),∃(k:Int),∃(l:Int),∃(m:Int),zE (aa z7 i.tops) i.b.toNat 0 6=az [D.v (.bool g),D.v (.bool h),dI j,dI k,dI l,dI m]/\(zOi i a g c j e l)/\zOi i a g c j e l
def zAd (a:MkI):=(a.out++mkq a.tops (Leg.mk a.a 1) (Leg.mk a.b 2) a.less)
def nZ (a:MkI):Prop:=∃(b:Unit),aj 6 (aa z7 a.tops)=MkU (a.tops,a.out) 1/\aa zJ (zAd a)=aa zJ a.out/\True
def zNy (a:MkI) (b:Bool) (c:Bool) (d:Int) (e:Int) (f:Int) (g:Int):Prop:=True/\(qD a)/\a.b=a.b/\True/\True/\(jM a)/\a.a=a.a/\True/\True/\(qD a)/\a.b=a.b/\True/\True/\(jM a)/\a.a=a.a/\True/\True/\(qD a)/\a.b=a.b/\True/\cnd (!b) (nZ a) (cnd (!c) (nZ a) (∃(h:I2),h.x=d/\h.y=e/\(jN h)/\∀(j:Unit),True->cnd a.less (∃(k:I2),k.x=e/\k.y=d/\(jN k)/\∀(l:Unit),True->cnd (gL k.x k.y).snd (True/\(jO a)*(48:Nat)<=(140737488355328:Nat)/\∃(m:Unit),aj 6 (aa z7 a.tops)=MkU (a.tops,a.out) 1/\aa zJ (zAd a)=aa zJ a.out++[[dI ((gL k.x k.y).fst),dI (min f g),dI a.a,dI 1,dI a.b,dI 2]]/\True) (nZ a)) (cnd (gG h.x h.y).snd (True/\(jO a)*(48:Nat)<=(140737488355328:Nat)/\∃(k:Unit),aj 6 (aa z7 a.tops)=MkU (a.tops,a.out) 1/\aa zJ (zAd a)=aa zJ a.out++[[dI ((gG h.x h.y).fst),dI (min f g),dI a.a,dI 1,dI a.b,dI 2]]/\True) (nZ a))))
def yTr (i:MkI):Prop:=
 (0<=i.a/\i.a<(kD i))/\∃(a:Bool),∃(b:Bool),∃(c:Int),∃(d:Int),∃(e:Int),∃(f:Int),zE (aa z7 i.tops) i.a.toNat 0 6=az [D.v (.bool a),D.v (.bool b),dI c,dI d,dI e,dI f]/\(0<=i.b/\i.b<(kD i))/\∃(g:Bool),∃(h:Bool),∃(j:Int),∃(k:Int),∃(l:Int),∃(m:Int),zE (aa z7 i.tops) i.b.toNat 0 6=az [D.v (.bool g),D.v (.bool h),dI j,dI k,dI l,dI m]/\(zNy i a h c k e m)/\zNy i a h c k e m
def zBi (a:MkI):=(a.out++mkq a.tops (Leg.mk a.a 2) (Leg.mk a.b 1) a.less)
def pK (a:MkI):Prop:=∃(b:Unit),aj 6 (aa z7 a.tops)=MkU (a.tops,a.out) 1/\aa zJ (zBi a)=aa zJ a.out/\True
def zOk (a:MkI) (b:Bool) (c:Bool) (d:Int) (e:Int) (f:Int) (g:Int):Prop:=True/\(qD a)/\a.b=a.b/\True/\True/\(jM a)/\a.a=a.a/\True/\True/\(qD a)/\a.b=a.b/\True/\True/\(jM a)/\a.a=a.a/\True/\True/\(qD a)/\a.b=a.b/\True/\cnd (!b) (pK a) (cnd (!c) (pK a) (∃(h:I2),h.x=d/\h.y=e/\(jN h)/\∀(j:Unit),True->cnd a.less (∃(k:I2),k.x=e/\k.y=d/\(jN k)/\∀(l:Unit),True->cnd (gL k.x k.y).snd (True/\(jO a)*(48:Nat)<=(140737488355328:Nat)/\∃(m:Unit),aj 6 (aa z7 a.tops)=MkU (a.tops,a.out) 1/\aa zJ (zBi a)=aa zJ a.out++[[dI ((gL k.x k.y).fst),dI (min f g),dI a.a,dI 2,dI a.b,dI 1]]/\True) (pK a)) (cnd (gG h.x h.y).snd (True/\(jO a)*(48:Nat)<=(140737488355328:Nat)/\∃(k:Unit),aj 6 (aa z7 a.tops)=MkU (a.tops,a.out) 1/\aa zJ (zBi a)=aa zJ a.out++[[dI ((gG h.x h.y).fst),dI (min f g),dI a.a,dI 2,dI a.b,dI 1]]/\True) (pK a))))
def yUc (i:MkI):Prop:=
 (0<=i.a/\i.a<(kD i))/\∃(a:Bool),∃(b:Bool),∃(c:Int),∃(d:Int),∃(e:Int),∃(f:Int),zE (aa z7 i.tops) i.a.toNat 0 6=az [D.v (.bool a),D.v (.bool b),dI c,dI d,dI e,dI f]/\(0<=i.b/\i.b<(kD i))/\∃(g:Bool),∃(h:Bool),∃(j:Int),∃(k:Int),∃(l:Int),∃(m:Int),zE (aa z7 i.tops) i.b.toNat 0 6=az [D.v (.bool g),D.v (.bool h),dI j,dI k,dI l,dI m]/\(zOk i b g d j f l)/\zOk i b g d j f l
def zAn (a:MkI):=(a.out++mkq a.tops (Leg.mk a.a 2) (Leg.mk a.b 2) a.less)
def pO (a:MkI):Prop:=∃(b:Unit),aj 6 (aa z7 a.tops)=MkU (a.tops,a.out) 1/\aa zJ (zAn a)=aa zJ a.out/\True
def zRe (a:MkI) (b:Bool) (c:Bool) (d:Int) (e:Int) (f:Int) (g:Int):Prop:=True/\(qD a)/\a.b=a.b/\True/\True/\(jM a)/\a.a=a.a/\True/\True/\(qD a)/\a.b=a.b/\True/\True/\(jM a)/\a.a=a.a/\True/\True/\(qD a)/\a.b=a.b/\True/\cnd (!b) (pO a) (cnd (!c) (pO a) (∃(h:I2),h.x=d/\h.y=e/\(jN h)/\∀(j:Unit),True->cnd a.less (∃(k:I2),k.x=e/\k.y=d/\(jN k)/\∀(l:Unit),True->cnd (gL k.x k.y).snd (True/\(jO a)*(48:Nat)<=(140737488355328:Nat)/\∃(m:Unit),aj 6 (aa z7 a.tops)=MkU (a.tops,a.out) 1/\aa zJ (zAn a)=aa zJ a.out++[[dI ((gL k.x k.y).fst),dI (min f g),dI a.a,dI 2,dI a.b,dI 2]]/\True) (pO a)) (cnd (gG h.x h.y).snd (True/\(jO a)*(48:Nat)<=(140737488355328:Nat)/\∃(k:Unit),aj 6 (aa z7 a.tops)=MkU (a.tops,a.out) 1/\aa zJ (zAn a)=aa zJ a.out++[[dI ((gG h.x h.y).fst),dI (min f g),dI a.a,dI 2,dI a.b,dI 2]]/\True) (pO a))))
def ySl (i:MkI):Prop:=
 (0<=i.a/\i.a<(kD i))/\∃(a:Bool),∃(b:Bool),∃(c:Int),∃(d:Int),∃(e:Int),∃(f:Int),zE (aa z7 i.tops) i.a.toNat 0 6=az [D.v (.bool a),D.v (.bool b),dI c,dI d,dI e,dI f]/\(0<=i.b/\i.b<(kD i))/\∃(g:Bool),∃(h:Bool),∃(j:Int),∃(k:Int),∃(l:Int),∃(m:Int),zE (aa z7 i.tops) i.b.toNat 0 6=az [D.v (.bool g),D.v (.bool h),dI j,dI k,dI l,dI m]/\(zRe i b h d k f m)/\zRe i b h d k f m
def zSg:iotherC.ok Tryz.prog 156:=okw (V:=yQn) mixed gok0 0 (λ_=>[]) (λ_=>[]) [] Tryz.func156 λ(n:Int) h=>by
 have h:n=1\/n=2:=h;refine⟨(),?_,trivial⟩;rw[w64 (by omega)]
def z3l:ibetterC.ok Tryz.prog 134:=okw (V:=yJd) mixed gok0 0 (λ_=>[]) (λ_=>[]) [] Tryz.func134 λ(i:I3') _=>by
 refine Cv.cnd.mk (λe=>⟨(),?_,trivial⟩) (λe=>⟨(),?_,trivial⟩)
 ·have e:i.side=1:=by simpa using e
  simp[btr,e]
 ·have e:i.side≠1:=by simpa using e
  simp[btr,e]
def yRn (a b:Int):(if b<a then b else a)=min a b:=by split<;>omega
def y4j (i:MkI) (h:mk11.cnd i):ySw i:=by
 obtain⟨a0,a1,b0,b1,⟨ht,hp⟩,ho⟩:0<=i.a/\i.a<i.tops.length/\0<=i.b/\i.b<i.tops.length/\vG i.tops/\i.out.length<=1000:=h;obtain⟨x,hx⟩:=yC (l:=i.tops) (i:=i.a.toNat) oM;obtain⟨y,hy⟩:=yC (l:=i.tops) (i:=i.b.toNat) oM;obtain⟨⟨px1,px2⟩,px3,px4⟩:=hp x (y8m hx);obtain⟨⟨py1,py2⟩,py3,py4⟩:=hp y (y8m hy);have e0:mkq i.tops ⟨i.a,1⟩ ⟨i.b,1⟩ i.less=if x.has1 && y.has1 && (if i.less then gL y.p1 x.p1 else gG x.p1 y.p1).2 then[⟨(if i.less then gL y.p1 x.p1 else gG x.p1 y.p1).1,min x.q1 y.q1,⟨i.a,1⟩,⟨i.b,1⟩⟩]else[]:=by
  simp only[mkq,y8j,hx,hy,xAm];rfl
 unfold ySw zOi jO jM qD kD jN pM zAi dI;simp only[y8b];refine⟨⟨oM,oM⟩,x.has1,x.has2,x.p1,x.p2,x.q1,x.q2,elA hx (by simp[z7]) rfl,⟨oM,oM⟩,y.has1,y.has2,y.p1,y.p2,y.q1,y.q2,elA hy (by simp[z7]) rfl,?_⟩;rw[e0]
 (repeat'(first|exact rfl|exact trivial|assumption|apply au|refineλ(_:Unit) (_:True)=>?_|refine ao () ?_|omega|(dsimp only;omega)))
 all_goals
  refine Cv.cnd.mk (λc1=> ?_) (λc1=>Cv.cnd.mk (λc2=> ?_) (λc2=> ?_))
  ·have c1:x.has1=aq:=by simpa using c1
   simp only[c1,xBm,y8u,if_false,y8x];exact kp
  ·have c2:y.has1=aq:=by simpa using c2
   simp only[c2,xDf,xBm,y8u,if_false,y8x];exact kp
  ·have c1:x.has1=ap:=by simpa using c1
   have c2:y.has1=ap:=by simpa using c2
   simp only[c1,c2,xAy,yRn];refine⟨⟨x.p1,y.p1⟩,?_⟩
   (repeat'(first|exact rfl|exact trivial|assumption|apply au|refineλ(_:Unit) (_:True)=>?_|refine ao () ?_|omega|(dsimp only;omega)))
   refine Cv.cnd.mk (λc3=> ?_) (λc3=> ?_)
   ·have c3:i.less=ap:=c3;simp only[c3,if_true];refine⟨⟨y.p1,x.p1⟩,?_⟩
    (repeat'(first|exact rfl|exact trivial|assumption|apply au|refineλ(_:Unit) (_:True)=>?_|refine ao () ?_|omega|(dsimp only;omega)))
    refine Cv.cnd.mk (λc4=> ?_) (λc4=> ?_)
    ·have c4:(gL y.p1 x.p1).2=ap:=c4;simp only[c4,if_true,y8k];exact kp
    ·have c4:(gL y.p1 x.p1).2=aq:=c4;simp only[c4,y8u,if_false,y8x];exact kp
   ·have c3:i.less=aq:=c3;simp only[c3,y8u,if_false];refine Cv.cnd.mk (λc4=> ?_) (λc4=> ?_)
    ·have c4:(gG x.p1 y.p1).2=ap:=c4;simp only[c4,if_true,y8k];exact kp
    ·have c4:(gG x.p1 y.p1).2=aq:=c4;simp only[c4,y8u,if_false,y8x];exact kp
def yNs:mk11.ok Tryz.prog 157:=okw mixed (gokc zUu (gokc zXx gok0)) 0 (λ_=>[]) (λ_=>[]) [] Tryz.func157 y4j
def y1g (i:MkI) (h:mk12.cnd i):yTr i:=by
 obtain⟨a0,a1,b0,b1,⟨ht,hp⟩,ho⟩:0<=i.a/\i.a<i.tops.length/\0<=i.b/\i.b<i.tops.length/\vG i.tops/\i.out.length<=1000:=h;obtain⟨x,hx⟩:=yC (l:=i.tops) (i:=i.a.toNat) oM;obtain⟨y,hy⟩:=yC (l:=i.tops) (i:=i.b.toNat) oM;obtain⟨⟨px1,px2⟩,px3,px4⟩:=hp x (y8m hx);obtain⟨⟨py1,py2⟩,py3,py4⟩:=hp y (y8m hy);have e0:mkq i.tops ⟨i.a,1⟩ ⟨i.b,2⟩ i.less=if x.has1 && y.has2 && (if i.less then gL y.p2 x.p1 else gG x.p1 y.p2).2 then[⟨(if i.less then gL y.p2 x.p1 else gG x.p1 y.p2).1,min x.q1 y.q2,⟨i.a,1⟩,⟨i.b,2⟩⟩]else[]:=by
  simp only[mkq,y8j,hx,hy,xAm];rfl
 unfold yTr zNy nZ zAd jO jM qD jN kD dI;simp only[y8b];refine⟨⟨oM,oM⟩,x.has1,x.has2,x.p1,x.p2,x.q1,x.q2,elA hx (by simp[z7]) rfl,⟨oM,oM⟩,y.has1,y.has2,y.p1,y.p2,y.q1,y.q2,elA hy (by simp[z7]) rfl,?_⟩;rw[e0]
 (repeat'(first|exact rfl|exact trivial|assumption|apply au|refineλ(_:Unit) (_:True)=>?_|refine ao () ?_|omega|(dsimp only;omega)))
 all_goals
  refine Cv.cnd.mk (λc1=> ?_) (λc1=>Cv.cnd.mk (λc2=> ?_) (λc2=> ?_))
  ·have c1:x.has1=aq:=by simpa using c1
   simp only[c1,xBm,y8u,if_false,y8x];exact kp
  ·have c2:y.has2=aq:=by simpa using c2
   simp only[c2,xDf,xBm,y8u,if_false,y8x];exact kp
  ·have c1:x.has1=ap:=by simpa using c1
   have c2:y.has2=ap:=by simpa using c2
   simp only[c1,c2,xAy,yRn];refine⟨⟨x.p1,y.p2⟩,?_⟩
   (repeat'(first|exact rfl|exact trivial|assumption|apply au|refineλ(_:Unit) (_:True)=>?_|refine ao () ?_|omega|(dsimp only;omega)))
   refine Cv.cnd.mk (λc3=> ?_) (λc3=> ?_)
   ·have c3:i.less=ap:=c3;simp only[c3,if_true];refine⟨⟨y.p2,x.p1⟩,?_⟩
    (repeat'(first|exact rfl|exact trivial|assumption|apply au|refineλ(_:Unit) (_:True)=>?_|refine ao () ?_|omega|(dsimp only;omega)))
    refine Cv.cnd.mk (λc4=> ?_) (λc4=> ?_)
    ·have c4:(gL y.p2 x.p1).2=ap:=c4;simp only[c4,if_true,y8k];exact kp
    ·have c4:(gL y.p2 x.p1).2=aq:=c4;simp only[c4,y8u,if_false,y8x];exact kp
   ·have c3:i.less=aq:=c3;simp only[c3,y8u,if_false];refine Cv.cnd.mk (λc4=> ?_) (λc4=> ?_)
    ·have c4:(gG x.p1 y.p2).2=ap:=c4;simp only[c4,if_true,y8k];exact kp
    ·have c4:(gG x.p1 y.p2).2=aq:=c4;simp only[c4,y8u,if_false,y8x];exact kp
def yOy:mk12.ok Tryz.prog 157:=okw mixed (gokc zUu (gokc zXx gok0)) 0 (λ_=>[]) (λ_=>[]) [] Tryz.func157 y1g
def y1d (i:MkI) (h:mk21.cnd i):yUc i:=by
 obtain⟨a0,a1,b0,b1,⟨ht,hp⟩,ho⟩:0<=i.a/\i.a<i.tops.length/\0<=i.b/\i.b<i.tops.length/\vG i.tops/\i.out.length<=1000:=h;obtain⟨x,hx⟩:=yC (l:=i.tops) (i:=i.a.toNat) oM;obtain⟨y,hy⟩:=yC (l:=i.tops) (i:=i.b.toNat) oM;obtain⟨⟨px1,px2⟩,px3,px4⟩:=hp x (y8m hx);obtain⟨⟨py1,py2⟩,py3,py4⟩:=hp y (y8m hy);have e0:mkq i.tops ⟨i.a,2⟩ ⟨i.b,1⟩ i.less=if x.has2 && y.has1 && (if i.less then gL y.p1 x.p2 else gG x.p2 y.p1).2 then[⟨(if i.less then gL y.p1 x.p2 else gG x.p2 y.p1).1,min x.q2 y.q1,⟨i.a,2⟩,⟨i.b,1⟩⟩]else[]:=by
  simp only[mkq,y8j,hx,hy,xAm];rfl
 unfold yUc zOk pK zBi jO jM qD jN kD dI;simp only[y8b];refine⟨⟨oM,oM⟩,x.has1,x.has2,x.p1,x.p2,x.q1,x.q2,elA hx (by simp[z7]) rfl,⟨oM,oM⟩,y.has1,y.has2,y.p1,y.p2,y.q1,y.q2,elA hy (by simp[z7]) rfl,?_⟩;rw[e0]
 (repeat'(first|exact rfl|exact trivial|assumption|apply au|refineλ(_:Unit) (_:True)=>?_|refine ao () ?_|omega|(dsimp only;omega)))
 all_goals
  refine Cv.cnd.mk (λc1=> ?_) (λc1=>Cv.cnd.mk (λc2=> ?_) (λc2=> ?_))
  ·have c1:x.has2=aq:=by simpa using c1
   simp only[c1,xBm,y8u,if_false,y8x];exact kp
  ·have c2:y.has1=aq:=by simpa using c2
   simp only[c2,xDf,xBm,y8u,if_false,y8x];exact kp
  ·have c1:x.has2=ap:=by simpa using c1
   have c2:y.has1=ap:=by simpa using c2
   simp only[c1,c2,xAy,yRn];refine⟨⟨x.p2,y.p1⟩,?_⟩
   (repeat'(first|exact rfl|exact trivial|assumption|apply au|refineλ(_:Unit) (_:True)=>?_|refine ao () ?_|omega|(dsimp only;omega)))
   refine Cv.cnd.mk (λc3=> ?_) (λc3=> ?_)
   ·have c3:i.less=ap:=c3;simp only[c3,if_true];refine⟨⟨y.p1,x.p2⟩,?_⟩
    (repeat'(first|exact rfl|exact trivial|assumption|apply au|refineλ(_:Unit) (_:True)=>?_|refine ao () ?_|omega|(dsimp only;omega)))
    refine Cv.cnd.mk (λc4=> ?_) (λc4=> ?_)
    ·have c4:(gL y.p1 x.p2).2=ap:=c4;simp only[c4,if_true,y8k];exact kp
    ·have c4:(gL y.p1 x.p2).2=aq:=c4;simp only[c4,y8u,if_false,y8x];exact kp
   ·have c3:i.less=aq:=c3;simp only[c3,y8u,if_false];refine Cv.cnd.mk (λc4=> ?_) (λc4=> ?_)
    ·have c4:(gG x.p2 y.p1).2=ap:=c4;simp only[c4,if_true,y8k];exact kp
    ·have c4:(gG x.p2 y.p1).2=aq:=c4;simp only[c4,y8u,if_false,y8x];exact kp
def yMz:mk21.ok Tryz.prog 157:=okw mixed (gokc zUu (gokc zXx gok0)) 0 (λ_=>[]) (λ_=>[]) [] Tryz.func157 y1d
def y4g (i:MkI) (h:mk22.cnd i):ySl i:=by
 obtain⟨a0,a1,b0,b1,⟨ht,hp⟩,ho⟩:0<=i.a/\i.a<i.tops.length/\0<=i.b/\i.b<i.tops.length/\vG i.tops/\i.out.length<=1000:=h;obtain⟨x,hx⟩:=yC (l:=i.tops) (i:=i.a.toNat) oM;obtain⟨y,hy⟩:=yC (l:=i.tops) (i:=i.b.toNat) oM;obtain⟨⟨px1,px2⟩,px3,px4⟩:=hp x (y8m hx);obtain⟨⟨py1,py2⟩,py3,py4⟩:=hp y (y8m hy);have e0:mkq i.tops ⟨i.a,2⟩ ⟨i.b,2⟩ i.less=if x.has2 && y.has2 && (if i.less then gL y.p2 x.p2 else gG x.p2 y.p2).2 then[⟨(if i.less then gL y.p2 x.p2 else gG x.p2 y.p2).1,min x.q2 y.q2,⟨i.a,2⟩,⟨i.b,2⟩⟩]else[]:=by
  simp only[mkq,y8j,hx,hy,xAm];rfl
 unfold ySl zRe pO zAn jO jM qD jN kD dI;simp only[y8b];refine⟨⟨oM,oM⟩,x.has1,x.has2,x.p1,x.p2,x.q1,x.q2,elA hx (by simp[z7]) rfl,⟨oM,oM⟩,y.has1,y.has2,y.p1,y.p2,y.q1,y.q2,elA hy (by simp[z7]) rfl,?_⟩;rw[e0]
 (repeat'(first|exact rfl|exact trivial|assumption|apply au|refineλ(_:Unit) (_:True)=>?_|refine ao () ?_|omega|(dsimp only;omega)))
 all_goals
  refine Cv.cnd.mk (λc1=> ?_) (λc1=>Cv.cnd.mk (λc2=> ?_) (λc2=> ?_))
  ·have c1:x.has2=aq:=by simpa using c1
   simp only[c1,xBm,y8u,if_false,y8x];exact kp
  ·have c2:y.has2=aq:=by simpa using c2
   simp only[c2,xDf,xBm,y8u,if_false,y8x];exact kp
  ·have c1:x.has2=ap:=by simpa using c1
   have c2:y.has2=ap:=by simpa using c2
   simp only[c1,c2,xAy,yRn];refine⟨⟨x.p2,y.p2⟩,?_⟩
   (repeat'(first|exact rfl|exact trivial|assumption|apply au|refineλ(_:Unit) (_:True)=>?_|refine ao () ?_|omega|(dsimp only;omega)))
   refine Cv.cnd.mk (λc3=> ?_) (λc3=> ?_)
   ·have c3:i.less=ap:=c3;simp only[c3,if_true];refine⟨⟨y.p2,x.p2⟩,?_⟩
    (repeat'(first|exact rfl|exact trivial|assumption|apply au|refineλ(_:Unit) (_:True)=>?_|refine ao () ?_|omega|(dsimp only;omega)))
    refine Cv.cnd.mk (λc4=> ?_) (λc4=> ?_)
    ·have c4:(gL y.p2 x.p2).2=ap:=c4;simp only[c4,if_true,y8k];exact kp
    ·have c4:(gL y.p2 x.p2).2=aq:=c4;simp only[c4,y8u,if_false,y8x];exact kp
   ·have c3:i.less=aq:=c3;simp only[c3,y8u,if_false];refine Cv.cnd.mk (λc4=> ?_) (λc4=> ?_)
    ·have c4:(gG x.p2 y.p2).2=ap:=c4;simp only[c4,if_true,y8k];exact kp
    ·have c4:(gG x.p2 y.p2).2=aq:=c4;simp only[c4,y8u,if_false,y8x];exact kp
def yOg:mk22.ok Tryz.prog 157:=okw mixed (gokc zUu (gokc zXx gok0)) 0 (λ_=>[]) (λ_=>[]) [] Tryz.func157 y4g
structure MkJ where
 i:MkI
 sa:Bool
 sb:Bool
def mkAnyC:Con:=con1 MkJ (λj=>[.nm 0 0,.agg [zA j.i.a,zA (zD j.sa)],.agg [zA j.i.b,zA (zD j.sb)],yK j.i.less]) (λj=>MkR j.i.tops j.i.out)
 (λj=>0<=j.i.a/\j.i.a<j.i.tops.length/\0<=j.i.b/\j.i.b<j.i.tops.length/\vG j.i.tops/\j.i.out.length<=1000) (λ_=>tU) (λj=>MkP j.i.tops (j.i.out++mkq j.i.tops ⟨j.i.a,zD j.sa⟩ ⟨j.i.b,zD j.sb⟩ j.i.less))
def z1q:mkAnyC.ok Tryz.prog 157:=λj=>match j with
 |⟨i,aq,aq⟩=>yNs i
 |⟨i,aq,ap⟩=>yOy i
 |⟨i,ap,aq⟩=>yMz i
 |⟨i,ap,ap⟩=>yOg i
structure dU where
 p:Prd
 tops:List Top
 inst:Int
def jJ (i:dU) (s:Int) (k:Nat):List Quote:=(af k).flatMap λ(k:Nat)=>mkq i.tops ⟨(i.p.spread i.inst (i.inst+1+k)).1,s⟩ ⟨i.inst+1+k,s⟩ aq
def wN (i:dU) (s:Int) (k:Nat):List Quote:=(af k).flatMap λ(k:Nat)=>mkq i.tops ⟨(i.p.spread k i.inst).1,3-s⟩ ⟨k,s⟩ ap
def yS (i:dU) (s:Int):List Quote:=mkq i.tops ⟨(i.p.legs i.inst).2.1,3-s⟩ ⟨(i.p.legs i.inst).1,s⟩ ap
def bL (i:dU) (s:Int) (q:Quote):Quote:={q with a:=⟨(i.p.legs i.inst).1,s⟩,b:=⟨(i.p.legs i.inst).2.1,3-s⟩}
def kX (i:dU) (s:Int):List Quote:=
 if i.p.count=0\/(i.tops.length:Int)≠i.p.count\/i.inst<0\/(i.p.count:Int)<=i.inst then[]
 else if(i.p.legs i.inst).2.2 then(yS i s).map (bL i s)
 else jJ i s (i.p.months.length-(i.inst.toNat+1))++wN i s i.inst.toNat
def yTb (s:Int):Con:=con1 dU (λi=>[prdV i.p,roV 6 (i.tops.map z7),zA i.inst,zA s]) (λ_=>[]) (λi=>i.p.small/\vG i.tops) (λ_=> .own 0) (λi=>[.own 172 6 ((kX i s).map zJ)])
def all1C:Con:=yTb 1
def all2C:Con:=yTb 2
def y3b (i:dU) (s:Int):List SAnn:=[
 {ι:=Nat,slots:=λk=>[(10,.nm 0 0),(77,zA k)],rows:=λk=>(af 3).map (MkU (i.tops,((yS i s).take k).map (bL i s)++(yS i s).drop k))},
 {ι:=Nat,slots:=λk=>[(10,.nm 0 0),(17,zA (i.inst+1+k))],rows:=λk=>MkR i.tops (jJ i s k)},
 {ι:=Nat,slots:=λk=>[(10,.nm 0 0),(120,zA k)],rows:=λk=>MkR i.tops (jJ i s (i.p.months.length-(i.inst.toNat+1))++wN i s k)}]
structure eZ where
 i:dU
 s:Bool
def allC:Con:=con1 eZ (λj=>[prdV j.i.p,roV 6 (j.i.tops.map z7),zA j.i.inst,zA (zD j.s)]) (λ_=>[]) (λj=>j.i.p.small/\vG j.i.tops) (λ_=> .own 0) (λj=>[.own 172 6 ((kX j.i (zD j.s)).map zJ)])
def xL (i:dU) (s:Int):List Quote:=(kX i s).filter λq=>decide (i.p.price i.inst q.price=0)
def quotesC:Con:=con1 eZ (λj=>[prdV j.i.p,roV 6 (j.i.tops.map z7),zA j.i.inst,zA (zD j.s)]) (λ_=>[]) (λj=>j.i.p.small/\vG j.i.tops) (λ_=> .own 0) (λj=>[.own 172 6 ((xL j.i (zD j.s)).map zJ)])
def yPa (j:eZ):List SAnn:=[{ι:=Nat,slots:=λk=>[(9,.own 0),(18,zA k)],rows:=λk=>[.own 172 6 ((((kX j.i (zD j.s)).take k).filter λq=>decide (j.i.p.price j.i.inst q.price=0)).map zJ)]}]
structure BsI where
 l:List Quote
 s:Int
def zY (l:List Quote) (s:Int):Quote×Bool:=match l with
 |[]=>(yXp,aq)
 |q::r=>(r.foldl (λb q=>if btr s q.price b.price then q else b) q,ap)
def bestQC:Con:=con1 BsI (λi=>[roV 6 (i.l.map zJ),zA i.s]) (λ_=>[]) (λi=>(i.s=1\/i.s=2)/\i.l.length<=1000000) (λi=> .tup [zWt (zY i.l i.s).1,yK (zY i.l i.s).2]) (λ_=>[])
def yZf (i:BsI):List SAnn:=[{ι:=Nat,slots:=λk=>[(6,.nm 0 0),(26,zA k)],rows:=λk=>[.cells (zWt (zY (i.l.take (max k 1)) i.s).1).cl 172]}]
def pS (a:dU):Prop:=aj 6 (aa z7 a.tops)=aj 6 (aa z7 a.tops)/\dh (ak [V.d (D.v (ax (sb a.p.code))),V.own 0,V.d (dI a.p.tick),V.d (dI a.p.low),V.d (dI a.p.high),V.d (dI a.p.wide),V.d (dI a.p.rule),V.d (dI a.p.top),V.d (dI a.p.least),V.d (dI a.p.part),V.own 1] 25)/\dh (aj 1 (iE a.p.settle))/\dh (aj 1 (iE a.p.months))
def zGa (a:Nat->Prop) (b:Nat) (c:Nat->Nat) (d:Nat) (e:dU):Prop:=a b/\c b<c d/\dh (aj 6 (aa z7 e.tops))/\pS e
def zFd (a:Nat->Prop) (b:Nat) (c:Nat->Nat) (d:Nat) (e:dU):Prop:=a b/\c b<c d/\pS e
def u6 (a:Top):Prop:=((-9223372036854775808)<=a.p1/\a.p1<=9223372036854775807)/\(-9223372036854775808)<=a.p2/\a.p2<=9223372036854775807
def fQ (a:MkJ):Prop:=0<=a.i.a/\a.i.a<(↑a.i.tops.length:Int)/\0<=a.i.b/\a.i.b<(↑a.i.tops.length:Int)/\(a.i.tops.length<=1000000/\∀(b:Top),b∈a.i.tops->u6 b)/\a.i.out.length<=1000
def u9 (a:MkJ):=(a.i.out++mkq a.i.tops (Leg.mk a.i.a (zD a.sa)) (Leg.mk a.i.b (zD a.sb)) a.i.less)
def l5 (a:Nat) (b:MkJ):=(decide ((↑a:Int)<(↑(aa zJ (u9 b)).length:Int)))
def qE (a:tX):Prop:=a.p.code.length<=1099511627776/\a.p.months.length<=1099511627776/\a.p.settle.length<=1099511627776
def jL (a:c8):Prop:=a.p.code.length<=1099511627776/\a.p.months.length<=1099511627776/\a.p.settle.length<=1099511627776
def nR (a:dU) (b:Nat):=(aa (bL a 1) (ab b (yS a 1))++ae b (yS a 1))
def zAc (a:dU) (b:Nat):=(aa zJ (nR a b))
def rE (a:dU) (b:Nat):=(jJ a 1 (a.p.months.length-(a.inst.toNat+1))++wN a 1 b)
def vP (a:c8):=((a.p.legs a.n).snd.fst)
def yTk (i:dU):Prop:=
 ∃(a:Prd),sb a.code=sb i.p.code/\iE a.months=iE i.p.months/\a.tick=i.p.tick/\a.low=i.p.low/\a.high=i.p.high/\a.wide=i.p.wide/\a.rule=i.p.rule/\a.top=i.p.top/\a.least=i.p.least/\a.part=i.p.part/\iE a.settle=iE i.p.settle/\(zX a)/\∀(b:Unit),True->cnd ((↑a.count:Int)==0) (∃(c:Unit),aa zJ (kX i 1)=[]/\True) (cnd ((↑(aa z7 i.tops).length:Int) !=(↑a.count:Int)) (∃(c:Unit),aa zJ (kX i 1)=[]/\True) (cnd (decide (i.inst<0)) (∃(c:Unit),aa zJ (kX i 1)=[]/\True) (cnd (decide (i.inst>=(↑a.count:Int))) (∃(c:Unit),aa zJ (kX i 1)=[]/\True) (∃(c:c8),sb c.p.code=sb i.p.code/\iE c.p.months=iE i.p.months/\c.p.tick=i.p.tick/\c.p.low=i.p.low/\c.p.high=i.p.high/\c.p.wide=i.p.wide/\c.p.rule=i.p.rule/\c.p.top=i.p.top/\c.p.least=i.p.least/\c.p.part=i.p.part/\iE c.p.settle=iE i.p.settle/\c.n=i.inst/\(jL c)/\∀(d:Unit),True->cnd (c.p.legs c.n).snd.snd (∃(e:Int),e=1/\(e=1\/e=2)/\∀(f:Unit),True->∃(g:MkJ),g.i.a=(c.p.legs c.n).snd.fst/\zD g.sa=3-e/\g.i.b=(c.p.legs c.n).fst/\zD g.sb=1/\g.i.less=ap/\aj 6 (aa z7 g.i.tops)=aj 6 (aa z7 i.tops)/\aa zJ g.i.out=[]/\(fQ g)/\∀(h:Unit),True->∃(j:Nat),(↑j:Int)=0/\aj 6 (aa z7 i.tops)=aj 6 (aa z7 g.i.tops)/\aa zJ (nR i j)=aa zJ (u9 g)/\∃(k:Nat->Prop),∃(l:Nat->Nat),k j/\∀(m:Nat),k m->cnd (l5 m g) ((0<=(↑m:Int)/\(↑m:Int)<(↑(zAc i m).length:Int))/\(↑m:Int).toNat<(zAc i m).length/\∃(n:Nat),(↑n:Int)=ar.wrap ((↑m:Int)+1)/\dh (aj 6 (aa z7 i.tops))/\aa zJ (nR i n)=zZ (zAc i m) (↑m:Int).toNat 2 [dI ((c.p.legs c.n).fst),dI 1,dI (vP c),dI (3-e)]/\k n/\l n<l m/\dh (aj 6 (aa z7 g.i.tops))/\dh (ak [V.d (dI (vP c)),V.d (dI (3-e))] 169)/\dh (ak [V.d (dI ((c.p.legs c.n).fst)),V.d (dI 1)] 169)/\pS i) (∃(n:Unit),aa zJ (kX i 1)=aa zJ (nR i m)/\True)) (∃(e:Nat),i.inst+1+(↑e:Int)=ar.wrap (i.inst+1)/\dh (aj 6 (aa z7 i.tops))/\aa zJ (jJ i 1 e)=[]/\∃(f:Nat->Prop),∃(g:Nat->Nat),f e/\∀(h:Nat),f h->cnd (decide (i.inst+1+(↑h:Int)<(↑(iE i.p.months).length:Int))) (∃(j:tX),sb j.p.code=sb i.p.code/\iE j.p.months=iE i.p.months/\j.p.tick=i.p.tick/\j.p.low=i.p.low/\j.p.high=i.p.high/\j.p.wide=i.p.wide/\j.p.rule=i.p.rule/\j.p.top=i.p.top/\j.p.least=i.p.least/\j.p.part=i.p.part/\iE j.p.settle=iE i.p.settle/\j.a=i.inst/\j.b=i.inst+1+(↑h:Int)/\(qE j)/\∀(k:Unit),True->∃(l:MkJ),l.i.a=(j.p.spread j.a j.b).fst/\zD l.sa=1/\l.i.b=i.inst+1+(↑h:Int)/\zD l.sb=1/\l.i.less=aq/\aj 6 (aa z7 l.i.tops)=aj 6 (aa z7 i.tops)/\aa zJ l.i.out=aa zJ (jJ i 1 h)/\(fQ l)/\∀(m:Unit),True->∃(n:Nat),i.inst+1+(↑n:Int)=ar.wrap (i.inst+1+(↑h:Int)+1)/\aj 6 (aa z7 i.tops)=aj 6 (aa z7 l.i.tops)/\aa zJ (jJ i 1 n)=aa zJ (u9 l)/\zFd f n g h i) (∃(j:Nat),(↑j:Int)=0/\dh (aj 6 (aa z7 i.tops))/\aa zJ (rE i j)=aa zJ (jJ i 1 h)/\∃(k:Nat->Prop),∃(l:Nat->Nat),k j/\∀(m:Nat),k m->cnd (decide ((↑m:Int)<i.inst)) (∃(n:tX),sb n.p.code=sb i.p.code/\iE n.p.months=iE i.p.months/\n.p.tick=i.p.tick/\n.p.low=i.p.low/\n.p.high=i.p.high/\n.p.wide=i.p.wide/\n.p.rule=i.p.rule/\n.p.top=i.p.top/\n.p.least=i.p.least/\n.p.part=i.p.part/\iE n.p.settle=iE i.p.settle/\n.a=(↑m:Int)/\n.b=i.inst/\(qE n)/\∀(p:Unit),True->∃(q:Int),q=1/\(q=1\/q=2)/\∀(r:Unit),True->∃(s:MkJ),s.i.a=(n.p.spread n.a n.b).fst/\zD s.sa=3-q/\s.i.b=(↑m:Int)/\zD s.sb=1/\s.i.less=ap/\aj 6 (aa z7 s.i.tops)=aj 6 (aa z7 i.tops)/\aa zJ s.i.out=aa zJ (rE i m)/\(fQ s)/\∀(t:Unit),True->∃(u:Nat),(↑u:Int)=ar.wrap ((↑m:Int)+1)/\aj 6 (aa z7 i.tops)=aj 6 (aa z7 s.i.tops)/\aa zJ (rE i u)=aa zJ (u9 s)/\zGa k u l m i) (∃(n:Unit),aa zJ (kX i 1)=aa zJ (rE i m)/\True)))))))
def nS (a:dU) (b:Nat):=(aa (bL a 2) (ab b (yS a 2))++ae b (yS a 2))
def zBk (a:dU) (b:Nat):=(aa zJ (nS a b))
def nP (a:dU) (b:Nat):=(jJ a 2 (a.p.months.length-(a.inst.toNat+1))++wN a 2 b)
def yTm (i:dU):Prop:=
 ∃(a:Prd),sb a.code=sb i.p.code/\iE a.months=iE i.p.months/\a.tick=i.p.tick/\a.low=i.p.low/\a.high=i.p.high/\a.wide=i.p.wide/\a.rule=i.p.rule/\a.top=i.p.top/\a.least=i.p.least/\a.part=i.p.part/\iE a.settle=iE i.p.settle/\(zX a)/\∀(b:Unit),True->cnd ((↑a.count:Int)==0) (∃(c:Unit),aa zJ (kX i 2)=[]/\True) (cnd ((↑(aa z7 i.tops).length:Int) !=(↑a.count:Int)) (∃(c:Unit),aa zJ (kX i 2)=[]/\True) (cnd (decide (i.inst<0)) (∃(c:Unit),aa zJ (kX i 2)=[]/\True) (cnd (decide (i.inst>=(↑a.count:Int))) (∃(c:Unit),aa zJ (kX i 2)=[]/\True) (∃(c:c8),sb c.p.code=sb i.p.code/\iE c.p.months=iE i.p.months/\c.p.tick=i.p.tick/\c.p.low=i.p.low/\c.p.high=i.p.high/\c.p.wide=i.p.wide/\c.p.rule=i.p.rule/\c.p.top=i.p.top/\c.p.least=i.p.least/\c.p.part=i.p.part/\iE c.p.settle=iE i.p.settle/\c.n=i.inst/\(jL c)/\∀(d:Unit),True->cnd (c.p.legs c.n).snd.snd (∃(e:Int),e=2/\(e=1\/e=2)/\∀(f:Unit),True->∃(g:MkJ),g.i.a=(c.p.legs c.n).snd.fst/\zD g.sa=3-e/\g.i.b=(c.p.legs c.n).fst/\zD g.sb=2/\g.i.less=ap/\aj 6 (aa z7 g.i.tops)=aj 6 (aa z7 i.tops)/\aa zJ g.i.out=[]/\(fQ g)/\∀(h:Unit),True->∃(j:Nat),(↑j:Int)=0/\aj 6 (aa z7 i.tops)=aj 6 (aa z7 g.i.tops)/\aa zJ (nS i j)=aa zJ (u9 g)/\∃(k:Nat->Prop),∃(l:Nat->Nat),k j/\∀(m:Nat),k m->cnd (l5 m g) ((0<=(↑m:Int)/\(↑m:Int)<(↑(zBk i m).length:Int))/\(↑m:Int).toNat<(zBk i m).length/\∃(n:Nat),(↑n:Int)=ar.wrap ((↑m:Int)+1)/\dh (aj 6 (aa z7 i.tops))/\aa zJ (nS i n)=zZ (zBk i m) (↑m:Int).toNat 2 [dI ((c.p.legs c.n).fst),dI 2,dI (vP c),dI (3-e)]/\k n/\l n<l m/\dh (aj 6 (aa z7 g.i.tops))/\dh (ak [V.d (dI (vP c)),V.d (dI (3-e))] 169)/\dh (ak [V.d (dI ((c.p.legs c.n).fst)),V.d (dI 2)] 169)/\pS i) (∃(n:Unit),aa zJ (kX i 2)=aa zJ (nS i m)/\True)) (∃(e:Nat),i.inst+1+(↑e:Int)=ar.wrap (i.inst+1)/\dh (aj 6 (aa z7 i.tops))/\aa zJ (jJ i 2 e)=[]/\∃(f:Nat->Prop),∃(g:Nat->Nat),f e/\∀(h:Nat),f h->cnd (decide (i.inst+1+(↑h:Int)<(↑(iE i.p.months).length:Int))) (∃(j:tX),sb j.p.code=sb i.p.code/\iE j.p.months=iE i.p.months/\j.p.tick=i.p.tick/\j.p.low=i.p.low/\j.p.high=i.p.high/\j.p.wide=i.p.wide/\j.p.rule=i.p.rule/\j.p.top=i.p.top/\j.p.least=i.p.least/\j.p.part=i.p.part/\iE j.p.settle=iE i.p.settle/\j.a=i.inst/\j.b=i.inst+1+(↑h:Int)/\(qE j)/\∀(k:Unit),True->∃(l:MkJ),l.i.a=(j.p.spread j.a j.b).fst/\zD l.sa=2/\l.i.b=i.inst+1+(↑h:Int)/\zD l.sb=2/\l.i.less=aq/\aj 6 (aa z7 l.i.tops)=aj 6 (aa z7 i.tops)/\aa zJ l.i.out=aa zJ (jJ i 2 h)/\(fQ l)/\∀(m:Unit),True->∃(n:Nat),i.inst+1+(↑n:Int)=ar.wrap (i.inst+1+(↑h:Int)+1)/\aj 6 (aa z7 i.tops)=aj 6 (aa z7 l.i.tops)/\aa zJ (jJ i 2 n)=aa zJ (u9 l)/\zFd f n g h i) (∃(j:Nat),(↑j:Int)=0/\dh (aj 6 (aa z7 i.tops))/\aa zJ (nP i j)=aa zJ (jJ i 2 h)/\∃(k:Nat->Prop),∃(l:Nat->Nat),k j/\∀(m:Nat),k m->cnd (decide ((↑m:Int)<i.inst)) (∃(n:tX),sb n.p.code=sb i.p.code/\iE n.p.months=iE i.p.months/\n.p.tick=i.p.tick/\n.p.low=i.p.low/\n.p.high=i.p.high/\n.p.wide=i.p.wide/\n.p.rule=i.p.rule/\n.p.top=i.p.top/\n.p.least=i.p.least/\n.p.part=i.p.part/\iE n.p.settle=iE i.p.settle/\n.a=(↑m:Int)/\n.b=i.inst/\(qE n)/\∀(p:Unit),True->∃(q:Int),q=2/\(q=1\/q=2)/\∀(r:Unit),True->∃(s:MkJ),s.i.a=(n.p.spread n.a n.b).fst/\zD s.sa=3-q/\s.i.b=(↑m:Int)/\zD s.sb=2/\s.i.less=ap/\aj 6 (aa z7 s.i.tops)=aj 6 (aa z7 i.tops)/\aa zJ s.i.out=aa zJ (nP i m)/\(fQ s)/\∀(t:Unit),True->∃(u:Nat),(↑u:Int)=ar.wrap ((↑m:Int)+1)/\aj 6 (aa z7 i.tops)=aj 6 (aa z7 s.i.tops)/\aa zJ (nP i u)=aa zJ (u9 s)/\zGa k u l m i) (∃(n:Unit),aa zJ (kX i 2)=aa zJ (nP i m)/\True)))))))
def jV (a:eZ):=(aa zJ (kX a.i (zD a.s)))
def zDu (a:Nat->Prop) (b:Nat) (c:Nat->Nat) (d:Nat) (e:eZ) (f:eZ):Prop:=a b/\c b<c d/\dh (am 172 6 (jV e))/\dh (ak [V.d (D.v (ax (sb f.i.p.code))),V.own 0,V.d (dI f.i.p.tick),V.d (dI f.i.p.low),V.d (dI f.i.p.high),V.d (dI f.i.p.wide),V.d (dI f.i.p.rule),V.d (dI f.i.p.top),V.d (dI f.i.p.least),V.d (dI f.i.p.part),V.own 1] 25)/\dh (aj 1 (iE f.i.p.settle))/\dh (aj 1 (iE f.i.p.months))
def qV (a:eZ):Prop:=(a.i.p.code.length<=1099511627776/\a.i.p.months.length<=1099511627776/\a.i.p.settle.length<=1099511627776)/\a.i.tops.length<=1000000/\∀(b:Top),b∈a.i.tops->u6 b
def fB (a:eZ):=(↑(jV a).length:Int)
def yAc (j:eZ):Prop:=
 ∃(a:eZ),sb a.i.p.code=sb j.i.p.code/\iE a.i.p.months=iE j.i.p.months/\a.i.p.tick=j.i.p.tick/\a.i.p.low=j.i.p.low/\a.i.p.high=j.i.p.high/\a.i.p.wide=j.i.p.wide/\a.i.p.rule=j.i.p.rule/\a.i.p.top=j.i.p.top/\a.i.p.least=j.i.p.least/\a.i.p.part=j.i.p.part/\iE a.i.p.settle=iE j.i.p.settle/\aa z7 a.i.tops=aa z7 j.i.tops/\a.i.inst=j.i.inst/\zD a.s=zD j.s/\(qV a)/\∀(b:Unit),True->∃(c:Nat),(↑c:Int)=0/\aa zJ (ac (λ(q:Sx.Quote) ↦ decide (j.i.p.price j.i.inst q.price=0)) (ab c (kX j.i (zD j.s))))=[]/\∃(d:Nat->Prop),∃(e:Nat->Nat),d c/\∀(f:Nat),d f->cnd (decide ((↑f:Int)<(fB a))) ((0<=(↑f:Int)/\(↑f:Int)<(fB a))/\∃(g:Int),∃(h:Int),∃(k:Int),∃(l:Int),∃(m:Int),∃(n:Int),zE (jV a) (↑f:Int).toNat 0 6=az [dI g,dI h,dI k,dI l,dI m,dI n]/\∃(p:tX),sb p.p.code=sb j.i.p.code/\iE p.p.months=iE j.i.p.months/\p.p.tick=j.i.p.tick/\p.p.low=j.i.p.low/\p.p.high=j.i.p.high/\p.p.wide=j.i.p.wide/\p.p.rule=j.i.p.rule/\p.p.top=j.i.p.top/\p.p.least=j.i.p.least/\p.p.part=j.i.p.part/\iE p.p.settle=iE j.i.p.settle/\p.a=j.i.inst/\p.b=g/\(qE p)/\∀(q:Unit),True->cnd (p.p.price p.a p.b==0) (((aa zJ (ac (λ(q:Sx.Quote) ↦ decide (j.i.p.price j.i.inst q.price=0)) (ab f (kX j.i (zD j.s))))).length+1)*(48:Nat)<=(140737488355328:Nat)/\∃(r:Nat),(↑r:Int)=ar.wrap ((↑f:Int)+1)/\aa zJ (ac (λ(q:Sx.Quote) ↦ decide (j.i.p.price j.i.inst q.price=0)) (ab r (kX j.i (zD j.s))))=aa zJ (ac (λ(q:Sx.Quote) ↦ decide (j.i.p.price j.i.inst q.price=0)) (ab f (kX j.i (zD j.s))))++[[dI g,dI h,dI k,dI l,dI m,dI n]]/\zDu d r e f a j) (∃(r:Nat),(↑r:Int)=ar.wrap ((↑f:Int)+1)/\aa zJ (ac (λ(q:Sx.Quote) ↦ decide (j.i.p.price j.i.inst q.price=0)) (ab r (kX j.i (zD j.s))))=aa zJ (ac (λ(q:Sx.Quote) ↦ decide (j.i.p.price j.i.inst q.price=0)) (ab f (kX j.i (zD j.s))))/\zDu d r e f a j)) (∃(g:Unit),aa zJ (xL j.i (zD j.s))=aa zJ (ac (λ(q:Sx.Quote) ↦ decide (j.i.p.price j.i.inst q.price=0)) (ab f (kX j.i (zD j.s))))/\True)
def zCl (a:Nat->Prop) (b:Nat) (c:Nat->Nat) (d:Nat):Prop:=a b/\c b<c d/\dh (ak (Sx.V.agg [V.d (dI 0),V.d (dI 0),V.d (dI 0),V.d (dI 0),V.d (dI 0),V.d (dI 0)]).cl 172)
def yF (a:Nat) (b:BsI):=(zY (ab (max a 1) b.l) b.s)
def uI (a:BsI):=(↑(aa zJ a.l).length:Int)
def zOb (a:BsI):Prop:=((0:Int)<=(0:Int)/\0<(uI a))/\∃(b:Int),∃(c:Int),∃(d:Int),∃(e:Int),∃(f:Int),∃(g:Int),zE (aa zJ a.l) (Int.toNat 0) 0 6=az [dI b,dI c,dI d,dI e,dI f,dI g]/\∃(h:Nat),(↑h:Int)=0/\(yF h a).fst.price=b/\(yF h a).fst.qty=c/\(yF h a).fst.a.inst=d/\(yF h a).fst.a.side=e/\(yF h a).fst.b.inst=f/\(yF h a).fst.b.side=g/\∃(j:Nat->Prop),∃(k:Nat->Nat),j h/\∀(l:Nat),j l->cnd (decide ((↑l:Int)<(uI a))) ((0<=(↑l:Int)/\(↑l:Int)<(uI a))/\∃(m:Int),∃(n:Int),∃(p:Int),∃(q:Int),∃(r:Int),∃(s:Int),zE (aa zJ a.l) (↑l:Int).toNat 0 6=az [dI m,dI n,dI p,dI q,dI r,dI s]/\∃(t:I3'),t.side=a.s/\t.x=m/\t.y=(yF l a).fst.price/\True/\∀(u:Unit),True->cnd (btr t.side t.x t.y) (∃(v:Nat),(↑v:Int)=ar.wrap ((↑l:Int)+1)/\(yF v a).fst.price=m/\(yF v a).fst.qty=n/\(yF v a).fst.a.inst=p/\(yF v a).fst.a.side=q/\(yF v a).fst.b.inst=r/\(yF v a).fst.b.side=s/\zCl j v k l) (∃(v:Nat),(↑v:Int)=ar.wrap ((↑l:Int)+1)/\(yF v a).fst.price=(yF l a).fst.price/\(yF v a).fst.qty=(yF l a).fst.qty/\(yF v a).fst.a.inst=(yF l a).fst.a.inst/\(yF v a).fst.a.side=(yF l a).fst.a.side/\(yF v a).fst.b.inst=(yF l a).fst.b.inst/\(yF v a).fst.b.side=(yF l a).fst.b.side/\zCl j v k l)) (∃(m:Unit),(zY a.l a.s).fst.price=(yF l a).fst.price/\(zY a.l a.s).fst.qty=(yF l a).fst.qty/\(zY a.l a.s).fst.a.inst=(yF l a).fst.a.inst/\(zY a.l a.s).fst.a.side=(yF l a).fst.a.side/\(zY a.l a.s).fst.b.inst=(yF l a).fst.b.inst/\(zY a.l a.s).fst.b.side=(yF l a).fst.b.side/\(zY a.l a.s).snd=ap/\True)
def zEg (a:BsI):Prop:=∃(b:Unit),(zY a.l a.s).fst.price=0/\(zY a.l a.s).fst.qty=0/\(zY a.l a.s).fst.a.inst=0/\(zY a.l a.s).fst.a.side=0/\(zY a.l a.s).fst.b.inst=0/\(zY a.l a.s).fst.b.side=0/\(zY a.l a.s).snd=aq/\True
def yJa (i:BsI):Prop:=
 cnd ((uI i)==0) (zEg i) (cnd (i.s !=1) (cnd (i.s !=2) (zEg i) (zOb i)) (zOb i))
def z4c {l:List Quote} {q:Quote} (s:Int) (h:l[0]? =az q):(zY (l.take (max 0 1)) s).1=q:=by
 cases l with
 |nil=>simp at h
 |cons a l=>simp at h;subst h;rfl
def z4v {l:List Quote} {j:Nat} {q:Quote} (s:Int) (h:l[j]? =az q):
 (zY (l.take (max (j+1) 1)) s).1=if btr s q.price (zY (l.take (max j 1)) s).1.price then q else(zY (l.take (max j 1)) s).1:=by
 cases l with
 |nil=>simp at h
 |cons a l=>
  cases j with
  |zero=>simp at h;subst h;simp[zY]
  |succ m=>
   simp only[y9z]at h;rw[show max (m+1+1) 1=(m+1)+1 by omega,show max (m+1) 1=m+1 by omega,y9l,y9l,y9g,h];simp only[zY,xBb,xCx];rfl
def yDo {l:List Quote} (s:Int) (h:l≠[]):(zY l s).2=ap:=by
 cases l with
 |nil=>exact absurd rfl h
 |cons a l=>rfl
def yUu (i:BsI) (h:bestQC.cnd i):yJa i:=by
 obtain⟨hs,hl⟩:(i.s=1\/i.s=2)/\i.l.length<=1000000:=h;unfold yJa zOb yF zCl uI zEg dI;simp only[y8b];refine Cv.cnd.mk (λc=> ?_) (λc=> ?_)
 ·have e:i.l=[]:=y9a (by have:(i.l.length:Int)=0:=(by simpa using c);omega);rw[e];exact kp
 have h0:0<i.l.length:=by
  rcases Nat.eq_zero_or_pos i.l.length with h|h
  ·rw[h]at c;exact absurd c Z8
  ·exact h
 have hne:i.l≠[]:=by intro e;rw[e]at h0;simp at h0
 have two:=yDo i.s hne;obtain⟨q,hq⟩:=yC h0;have b0:=z4c i.s hq;have fin:(zY (i.l.take (max i.l.length 1)) i.s).1=(zY i.l i.s).1:=by
  rw[y8l (by omega)]
 have step:∀j:Nat,j<i.l.length->∀x:Quote,i.l[j]? =az x->(btr i.s x.price (zY (i.l.take (max j 1)) i.s).1.price=ap->(zY (i.l.take (max (j+1) 1)) i.s).1=x)/\(btr i.s x.price (zY (i.l.take (max j 1)) i.s).1.price=aq->(zY (i.l.take (max (j+1) 1)) i.s).1=(zY (i.l.take (max j 1)) i.s).1):=λj hj x hx=>by
  have:=z4v i.s hx;constructor
  ·intro e;rw[this,y8c e]
  ·intro e;rw[this,y7z (by rw[e];simp)]
 refine Cv.cnd.mk (λc1=>Cv.cnd.mk (λc2=> ?_) (λc2=> ?_)) (λc1=> ?_)
 ·exfalso;have c1:i.s≠1:=by simpa using c1
  have c2:i.s≠2:=by simpa using c2
  omega
 all_goals
  refine⟨⟨oM,oM⟩,q.price,q.qty,q.a.inst,q.a.side,q.b.inst,q.b.side,elA hq (by simp[zJ]) rfl,0,?_⟩;rw[b0]
  (repeat'(first|exact rfl|exact trivial|assumption|apply au|refineλ(_:Unit) (_:True)=>?_|refine ao () ?_|omega|(dsimp only;omega)))
  refine⟨λj=>j<=i.l.length,λj=>i.l.length-j,oM,λj hj=>zI (λhlt=> ?_) (λhlt=> ?_)⟩
  ·have hj':j<i.l.length:=by omega
   obtain⟨x,hx⟩:=yC hj';obtain⟨st,sf⟩:=step j hj' x hx;refine⟨⟨oM,oM⟩,x.price,x.qty,x.a.inst,x.a.side,x.b.inst,x.b.side,elA hx (by simp[zJ]) rfl,⟨i.s,x.price,_⟩,rfl,rfl,rfl,trivial,λ_ _=>Cv.cnd.mk (λe=>⟨j+1,by rw[w64 (by omega)];rfl,?_⟩) (λe=>⟨j+1,by rw[w64 (by omega)];rfl,?_⟩)⟩
   ·rw[st e];exact kp
   ·rw[sf e];exact kp
  ·have hj:j<=i.l.length:=hj;obtain rfl:j=i.l.length:=by omega
   rw[fin,two];exact kp
def zZn:bestQC.ok Tryz.prog 93:=okw mixed (gokc z3l gok0) 0 (λ_=>[]) (λi=>yZf i) [] Tryz.func93 yUu
def zFq (tops:List Top) (a b:Leg) (less:Bool):(mkq tops a b less).length<=1:=by
 unfold mkq;dsimp only;split<;>split<;>simp
def zVq {α:Type} {f:Nat->List α} (h:∀k,(f k).length<=1):∀n,((af n).flatMap f).length<=n
 |0=>by simp
 |n+1=>by
  rw[xCw,y9y,y8a];have:=zVq h n;have:=h n;simp only[y9s,xDg,y8x];omega
def zDt (i:dU) (s:Int) (k:Nat):(jJ i s k).length<=k:=zVq (λ_=>zFq _ _ _ _) k
def sI (i:dU) (s:Int) (k:Nat):(wN i s k).length<=k:=zVq (λ_=>zFq _ _ _ _) k
def zEy (i:dU) (s:Int):(kX i s).length<=100:=by
 unfold kX;split
 ·simp
 ·rename_i h;have hc:=xJ i.p;have m6:=(kK (eV (p:=i.p) oM)).m6;split
  ·rw[y8b];have:=zFq i.tops ⟨(i.p.legs i.inst).2.1,3-s⟩ ⟨(i.p.legs i.inst).1,s⟩ ap;have e:(yS i s).length<=1:=this;omega
  ·rw[y8a];have h1:=zDt i s (i.p.months.length-(i.inst.toNat+1));have h2:=sI i s i.inst.toNat;omega
def yNu (j:eZ) (h:quotesC.cnd j):yAc j:=by
 unfold yAc zDu fB jV qV u6 qE dI;obtain⟨hp,ht,hr⟩:j.i.p.small/\vG j.i.tops:=h;obtain⟨h1,h2,h3⟩:=hp;have hl:=zEy j.i (zD j.s);refine⟨j,?_⟩;simp only[y8b]
 (repeat'(first|exact rfl|exact trivial|assumption|apply au|refineλ(_:Unit) (_:True)=>?_|refine ao () ?_|omega|(dsimp only;omega)))
 refine⟨0,rfl,rfl,λk=>k<=(kX j.i (zD j.s)).length,λk=>(kX j.i (zD j.s)).length-k,oM,λk hk=>zI (λhlt=> ?_) (λhlt=> ?_)⟩
 ·have hk':k<(kX j.i (zD j.s)).length:=by omega
  obtain⟨q,hq⟩:=yC hk';have hf:(ac (λq=>decide (j.i.p.price j.i.inst q.price=0)) (ab k (kX j.i (zD j.s)))).length<=100:=by
   have:=xBn (λq:Quote=>decide (j.i.p.price j.i.inst q.price=0)) (ab k (kX j.i (zD j.s)));rw[y8t]at this;omega
  refine⟨⟨oM,oM⟩,q.price,q.qty,q.a.inst,q.a.side,q.b.inst,q.b.side,elA hq (by simp[zJ]) rfl,⟨j.i.p,j.i.inst,q.price⟩,?_⟩
  (repeat'(first|exact rfl|exact trivial|assumption|apply au|refineλ(_:Unit) (_:True)=>?_|refine ao () ?_|omega|(dsimp only;omega)))
  refine Cv.cnd.mk (λc=>⟨oM,k+1,by rw[w64 (by omega)];rfl,?_⟩) (λc=>⟨k+1,by rw[w64 (by omega)];rfl,?_⟩)
  ·have c:j.i.p.price j.i.inst q.price=0:=by simpa using c
   rw[y9g,hq,xBb,xCd,xCz (by simpa using c),y8k];exact kp
  ·have c:¬j.i.p.price j.i.inst q.price=0:=by simpa using c
   rw[y9g,hq,xBb,xCd,xDa (by simpa using c),List.filter_nil,y8x];exact kp
 ·have hk:k<=(kX j.i (zD j.s)).length:=hk;obtain rfl:k=(kX j.i (zD j.s)).length:=by omega
  rw[y8l (y8w _)];exact kp
def yCj:∀n≤6,∀a<n,∀b<n,a<b->0<=(yM n a:Int)+b-a-1/\(yM n a:Int)+b-a-1<((n+n*(n-1) / 2:Nat):Int):=by decide
def aF {p:Prd} (hc:p.check=0) {a b:Nat} (hab:a<b) (hb:b<p.months.length):0<=(p.spread a b).1/\(p.spread a b).1<p.count:=by
 have m6:=(kK hc).m6;have:=yCj p.months.length m6 a oM b hb hab;rw[Prd.spread,y7z (by omega),Prd.count,y8c hc];simpa using this
def yPo:∀n≤6,∀k<n+n*(n-1) / 2,n<=k->(jC n k n 0).2.2=ap/\0<=(jC n k n 0).1/\(jC n k n 0).1<n/\0<=(jC n k n 0).2.1/\(jC n k n 0).2.1<n:=by decide
def fT {p:Prd} (hc:p.check=0) {k:Nat} (hk:k<p.count):((p.legs k).2.2=ap/\0<=(p.legs k).1/\(p.legs k).1<p.months.length/\0<=(p.legs k).2.1/\(p.legs k).2.1<p.months.length)\/((p.legs k).2.2=aq/\k<p.months.length):=by
 have m6:=(kK hc).m6;have hk':=hk;rw[Prd.count,y8c hc]at hk';by_cases h:k<p.months.length
 ·right;rw[Prd.legs,y7z (by omega),y8c (by omega)];exact⟨rfl,h⟩
 ·left;rw[Prd.legs,y7z (by omega),y7z (by omega)];exact yPo p.months.length m6 k hk' oM
def zEx {p:Prd} (hc:p.check=0):p.months.length<=p.count:=by
 rw[Prd.count,y8c hc];omega
def zYx {i:dU} {s:Int} {k:Nat} (hk:k<(yS i s).length):aa zJ (aa (bL i s) (ab (k+1) (yS i s))++ae (k+1) (yS i s))=
 zZ (aa zJ (aa (bL i s) (ab k (yS i s))++ae k (yS i s))) k (0+2) [D.v (.int .i64 (i.p.legs i.inst).1),D.v (.int .i64 s),D.v (.int .i64 (i.p.legs i.inst).2.1),D.v (.int .i64 (3-s))]:=by
 obtain⟨q,hq⟩:=yC hk;rw[zRv (a:=aa zJ (aa (bL i s) (ab k (yS i s)))) (b:=aa zJ (ae (k+1) (yS i s))) (x:=zJ q) (y:=zJ (bL i s q)) (by
  rw[y8k,xAe hk,(y8e.1 hq).2,y8p]) (by simp;omega) rfl]
 rw[y9g,hq,xBb,y8k,y8k,y8k,y8p,xBq,y8p,xBq,y8g];rfl
def y1j (i:dU) (h:all1C.cnd i):yTk i:=by
 unfold yTk zX zFd zGa pS vP rE zAc nR jL qE l5 u9 fQ u6 dI;obtain⟨⟨h1,h2,h3⟩,ht,hr⟩:i.p.small/\vG i.tops:=h;have hto:vG i.tops:=⟨ht,hr⟩
 refine⟨i.p,?_⟩;simp only[y8b,yZ]
 (repeat'(first|exact rfl|exact trivial|assumption|apply au|refineλ(_:Unit) (_:True)=>?_|refine ao () ?_|omega|(dsimp only;omega)))
 have bad (hb:i.p.count=0\/(i.tops.length:Int)≠i.p.count\/i.inst<0\/(i.p.count:Int)<=i.inst):∃(o:Unit),aa zJ (kX i 1)=[]/\True:=⟨(),by rw[kX,y8c hb];rfl,trivial⟩
 refine Cv.cnd.mk (λc1=>bad (.inl (by have c1:(i.p.count:Int)=0:=(by simpa using c1);omega))) λc1=>Cv.cnd.mk (λc2=>bad (.inr (.inl (by simpa using c2)))) λc2=>zI (λc3=>bad oM) λc3=>zI (λc4=>bad oM) λc4=>⟨⟨i.p,i.inst⟩,?_⟩
 have c1:i.p.count≠0:=by
  have c1:¬(i.p.count:Int)=0:=(by simpa using c1)
  omega
 have c2:(i.tops.length:Int)=i.p.count:=by simpa using c2
 have c4:i.inst<(i.p.count:Int):=by
  have c4:¬i.inst>=(i.p.count:Int):=c4;omega
 have hc:=eV c1;have hm:=zEx hc;have e0:kX i 1=if(i.p.legs i.inst).2.2 then(yS i 1).map (bL i 1)else jJ i 1 (i.p.months.length-(i.inst.toNat+1))++wN i 1 i.inst.toNat:=by
  rw[kX,y7z (by omega)]
 obtain⟨k,hk⟩:∃k:Nat,i.inst=k:=⟨i.inst.toNat,oM⟩
 have hl:=fT hc (k:=k) oM;rw[<- hk]at hl
 (repeat'(first|exact rfl|exact trivial|assumption|apply au|refineλ(_:Unit) (_:True)=>?_|refine ao () ?_|omega|(dsimp only;omega)))
 refine Cv.cnd.mk (λc5=> ?_) (λc5=> ?_)
 ·have c5:(i.p.legs i.inst).2.2=ap:=c5;rw[e0,y8c c5];rcases hl with⟨_,l1,l2,l3,l4⟩|⟨l1,_⟩
  ·have hsl:(yS i 1).length<=1:=zFq _ _ _ _;refine⟨1,rfl,oM,λ_ _=>⟨⟨⟨i.tops,[],(i.p.legs i.inst).2.1,(i.p.legs i.inst).1,ap⟩,ap,aq⟩,rF6 ⟨rfl,⟨l3,Z9,l1,Z9,hto,by simp⟩,λ_ _=>⟨0,rfl,rfl,rfl,λj=>j<=(yS i 1).length,λj=>(yS i 1).length-j,oM,?_⟩⟩⟩⟩;intro j hj;have hj:j<=(yS i 1).length:=hj;have hL:(aa (bL i 1) (ab j (yS i 1))++ae j (yS i 1)).length=(yS i 1).length:=by simp;omega
   refine zI (λhlt=> ?_) (λhlt=> ?_)
   ·have hlt:(j:Int)<((yS i 1).length:Int):=hlt;refine⟨⟨oM,by rw[hL];omega⟩,by rw[hL];omega,j+1,by rw[w64 (by omega)];rfl,kp,?_,?_⟩
    ·exact zYx (i:=i) (s:=1) oM
    ·exact kp
   ·have hlt:¬(j:Int)<((yS i 1).length:Int):=hlt;obtain rfl:j=(yS i 1).length:=by omega
    rw[y8l (y8w _),ag,y8x];exact kp
  ·rw[c5]at l1;cases l1
 ·have c5:(i.p.legs i.inst).2.2=aq:=c5;rw[e0,y7z (by rw[c5];simp)];rcases hl with⟨l1,_⟩|⟨_,l2⟩
  ·rw[c5]at l1;cases l1
  have m6:=(kK hc).m6;have e1:i.inst.toNat=k:=by omega
  rw[e1];refine⟨0,by rw[w64 (by omega)];omega,kp,rfl,λj=>j<=i.p.months.length-(k+1),λj=>i.p.months.length-(k+1)-j,oM,?_⟩;intro j hj;have hj:j<=i.p.months.length-(k+1):=hj;have hq:=zDt i 1 j;refine zI (λhlt=> ?_) (λhlt=> ?_)
  ·obtain⟨b1,b2⟩:=aF hc (a:=k) (b:=k+1+j) oM oM;have eb:((k+1+j:Nat):Int)=i.inst+1+j:=by omega
   rw[eb,<- hk]at b1 b2;refine⟨⟨i.p,i.inst,i.inst+1+j⟩,?_⟩
   (repeat'(first|exact rfl|exact trivial|assumption|apply au|refineλ(_:Unit) (_:True)=>?_|refine ao () ?_|omega|(dsimp only;omega)))
   refine⟨⟨⟨i.tops,jJ i 1 j,(i.p.spread i.inst (i.inst+1+j)).1,i.inst+1+j,aq⟩,aq,aq⟩,rF4 ⟨rfl,kp,rfl,⟨b1,Z9,Z9,Z9,hto,Z9⟩,λ_ _=>⟨j+1,by rw[w64 (by omega)];omega,kp,?_,?_⟩⟩⟩
   ·rw[jJ,xCw,y9y];simp only[y9s,xDg,y8x];rfl
   ·exact kp
  ·obtain rfl:j=i.p.months.length-(k+1):=by omega
   refine⟨0,rfl,kp,by rw[wN];simp,λj=>j<=k,λj=>k-j,oM,?_⟩;intro j hj;have hj:j<=k:=hj;have hq2:=sI i 1 j;refine zI (λhlt2=> ?_) (λhlt2=> ?_)
   ·obtain⟨b1,b2⟩:=aF hc (a:=j) (b:=k) oM oM;rw[<- hk]at b1 b2;refine⟨⟨i.p,j,i.inst⟩,?_⟩
    (repeat'(first|exact rfl|exact trivial|assumption|apply au|refineλ(_:Unit) (_:True)=>?_|refine ao () ?_|omega|(dsimp only;omega)))
    refine⟨1,rfl,oM,λ_ _=>⟨⟨⟨i.tops,jJ i 1 (i.p.months.length-(k+1))++wN i 1 j,(i.p.spread j i.inst).1,j,ap⟩,ap,aq⟩,rF4 ⟨rfl,kp,rfl,⟨b1,Z9,Z9,Z9,hto,by dsimp only;rw[y8a];omega⟩,λ_ _=>⟨j+1,by rw[w64 (by omega)];omega,kp,?_,?_⟩⟩⟩⟩
    ·rw[wN,xCw,y9y];simp only[y9s,xDg,y8x,y8g];rfl
    ·exact kp
   ·obtain rfl:j=k:=by omega
    exact kp
def yNh:all1C.ok Tryz.prog 129:=okw mixed (gokc cJ (gokc zAm (gokc zUq (gokc zSg (gokc z1q gok0))))) 0 (λ_=>[]) (λi=>y3b i 1) [] Tryz.func129 y1j
def y3g (i:dU) (h:all2C.cnd i):yTm i:=by
 unfold yTm zX nP zBk nS zFd zGa pS vP jL qE l5 u9 fQ u6 dI;obtain⟨⟨h1,h2,h3⟩,ht,hr⟩:i.p.small/\vG i.tops:=h;have hto:vG i.tops:=⟨ht,hr⟩
 refine⟨i.p,?_⟩;simp only[y8b,yZ]
 (repeat'(first|exact rfl|exact trivial|assumption|apply au|refineλ(_:Unit) (_:True)=>?_|refine ao () ?_|omega|(dsimp only;omega)))
 have bad (hb:i.p.count=0\/(i.tops.length:Int)≠i.p.count\/i.inst<0\/(i.p.count:Int)<=i.inst):∃(o:Unit),aa zJ (kX i 2)=[]/\True:=⟨(),by rw[kX,y8c hb];rfl,trivial⟩
 refine Cv.cnd.mk (λc1=>bad (.inl (by have c1:(i.p.count:Int)=0:=(by simpa using c1);omega))) λc1=>Cv.cnd.mk (λc2=>bad (.inr (.inl (by simpa using c2)))) λc2=>zI (λc3=>bad oM) λc3=>zI (λc4=>bad oM) λc4=>⟨⟨i.p,i.inst⟩,?_⟩
 have c1:i.p.count≠0:=by
  have c1:¬(i.p.count:Int)=0:=(by simpa using c1)
  omega
 have c2:(i.tops.length:Int)=i.p.count:=by simpa using c2
 have c4:i.inst<(i.p.count:Int):=by
  have c4:¬i.inst>=(i.p.count:Int):=c4;omega
 have hc:=eV c1;have hm:=zEx hc;have e0:kX i 2=if(i.p.legs i.inst).2.2 then(yS i 2).map (bL i 2)else jJ i 2 (i.p.months.length-(i.inst.toNat+1))++wN i 2 i.inst.toNat:=by
  rw[kX,y7z (by omega)]
 obtain⟨k,hk⟩:∃k:Nat,i.inst=k:=⟨i.inst.toNat,oM⟩
 have hl:=fT hc (k:=k) oM;rw[<- hk]at hl
 (repeat'(first|exact rfl|exact trivial|assumption|apply au|refineλ(_:Unit) (_:True)=>?_|refine ao () ?_|omega|(dsimp only;omega)))
 refine Cv.cnd.mk (λc5=> ?_) (λc5=> ?_)
 ·have c5:(i.p.legs i.inst).2.2=ap:=c5;rw[e0,y8c c5];rcases hl with⟨_,l1,l2,l3,l4⟩|⟨l1,_⟩
  ·have hsl:(yS i 2).length<=1:=zFq _ _ _ _;refine⟨2,rfl,oM,λ_ _=>⟨⟨⟨i.tops,[],(i.p.legs i.inst).2.1,(i.p.legs i.inst).1,ap⟩,aq,ap⟩,rF6 ⟨rfl,⟨l3,Z9,l1,Z9,hto,by simp⟩,λ_ _=>⟨0,rfl,rfl,rfl,λj=>j<=(yS i 2).length,λj=>(yS i 2).length-j,oM,?_⟩⟩⟩⟩;intro j hj;have hj:j<=(yS i 2).length:=hj;have hL:(aa (bL i 2) (ab j (yS i 2))++ae j (yS i 2)).length=(yS i 2).length:=by simp;omega
   refine zI (λhlt=> ?_) (λhlt=> ?_)
   ·have hlt:(j:Int)<((yS i 2).length:Int):=hlt;refine⟨⟨oM,by rw[hL];omega⟩,by rw[hL];omega,j+1,by rw[w64 (by omega)];rfl,kp,?_,?_⟩
    ·exact zYx (i:=i) (s:=2) oM
    ·exact kp
   ·have hlt:¬(j:Int)<((yS i 2).length:Int):=hlt;obtain rfl:j=(yS i 2).length:=by omega
    rw[y8l (y8w _),ag,y8x];exact kp
  ·rw[c5]at l1;cases l1
 ·have c5:(i.p.legs i.inst).2.2=aq:=c5;rw[e0,y7z (by rw[c5];simp)];rcases hl with⟨l1,_⟩|⟨_,l2⟩
  ·rw[c5]at l1;cases l1
  have m6:=(kK hc).m6;have e1:i.inst.toNat=k:=by omega
  rw[e1];refine⟨0,by rw[w64 (by omega)];omega,kp,rfl,λj=>j<=i.p.months.length-(k+1),λj=>i.p.months.length-(k+1)-j,oM,?_⟩;intro j hj;have hj:j<=i.p.months.length-(k+1):=hj;have hq:=zDt i 2 j;refine zI (λhlt=> ?_) (λhlt=> ?_)
  ·obtain⟨b1,b2⟩:=aF hc (a:=k) (b:=k+1+j) oM oM;have eb:((k+1+j:Nat):Int)=i.inst+1+j:=by omega
   rw[eb,<- hk]at b1 b2;refine⟨⟨i.p,i.inst,i.inst+1+j⟩,?_⟩
   (repeat'(first|exact rfl|exact trivial|assumption|apply au|refineλ(_:Unit) (_:True)=>?_|refine ao () ?_|omega|(dsimp only;omega)))
   refine⟨⟨⟨i.tops,jJ i 2 j,(i.p.spread i.inst (i.inst+1+j)).1,i.inst+1+j,aq⟩,ap,ap⟩,rF4 ⟨rfl,kp,rfl,⟨b1,Z9,Z9,Z9,hto,Z9⟩,λ_ _=>⟨j+1,by rw[w64 (by omega)];omega,kp,?_,?_⟩⟩⟩
   ·rw[jJ,xCw,y9y];simp only[y9s,xDg,y8x];rfl
   ·exact kp
  ·obtain rfl:j=i.p.months.length-(k+1):=by omega
   refine⟨0,rfl,kp,by rw[wN];simp,λj=>j<=k,λj=>k-j,oM,?_⟩;intro j hj;have hj:j<=k:=hj;have hq2:=sI i 2 j;refine zI (λhlt2=> ?_) (λhlt2=> ?_)
   ·obtain⟨b1,b2⟩:=aF hc (a:=j) (b:=k) oM oM;rw[<- hk]at b1 b2;refine⟨⟨i.p,j,i.inst⟩,?_⟩
    (repeat'(first|exact rfl|exact trivial|assumption|apply au|refineλ(_:Unit) (_:True)=>?_|refine ao () ?_|omega|(dsimp only;omega)))
    refine⟨2,rfl,oM,λ_ _=>⟨⟨⟨i.tops,jJ i 2 (i.p.months.length-(k+1))++wN i 2 j,(i.p.spread j i.inst).1,j,ap⟩,aq,ap⟩,rF4 ⟨rfl,kp,rfl,⟨b1,Z9,Z9,Z9,hto,by dsimp only;rw[y8a];omega⟩,λ_ _=>⟨j+1,by rw[w64 (by omega)];omega,kp,?_,?_⟩⟩⟩⟩
    ·rw[wN,xCw,y9y];simp only[y9s,xDg,y8x,y8g];rfl
    ·exact kp
   ·obtain rfl:j=k:=by omega
    exact kp
def yQx:all2C.ok Tryz.prog 129:=okw mixed (gokc cJ (gokc zAm (gokc zUq (gokc zSg (gokc z1q gok0))))) 0 (λ_=>[]) (λi=>y3b i 2) [] Tryz.func129 y3g
def yHm:allC.ok Tryz.prog 129:=λj=>match j with
 |⟨i,aq⟩=>yNh i
 |⟨i,ap⟩=>yQx i
def zHh:quotesC.ok Tryz.prog 81:=okw mixed (gokc yHm (gokc lC gok0)) 0 (λ_=>[]) (λj=>yPa j) [] Tryz.func81 yNu
def lB (i:dU) (s:Int):(xL i s).length<=100:=xAw (xBn _ _) (zEy i s)
structure Mkt where
 p:Prd
 s:MSt
 used:List Int
def zU (l:List Int):List (Value×List D):=l.map λx=>(.int .i64 x,[.v (.bool ap)])
def yL (m:Mkt):Nat->AObj
 |0=> .cells [sV m.p.code,.own 3,zA m.p.tick,zA m.p.low,zA m.p.high,zA m.p.wide,zA m.p.rule,zA m.p.top,zA m.p.least,zA m.p.part,.own 4,.nm 1 0,.mp 2] 114
 |1=>zC m.s
 |2=> .map (zU m.used)
 |3=> .fro 1 (iE m.p.months)
 |4=> .fro 1 (iE m.p.settle)
 |_=> .gone
def qT (m:Mkt):AObj:= .adt Mkt 5 yL m
def newMC:Con where
 ι:=Prd
 pat:=λp=>[prdV p]
 pre:=λ_=>[]
 cnd:=λp=>p.small
 alts:=λp=>[{o:=Unit,res:=λ_=> .tup [.nm 0 0,zA 0],post:=λ_=>[qT ⟨p,mO p,[]⟩],rel:=λ_=>p.check=0},{o:=Unit,res:=λ_=> .tup [.d (.v (.pointer none)),zA p.check],post:=λ_=>[],rel:=λ_=>p.check≠0}]
def stateC:Con:=con1 Mkt (λ_=>[.nm 0 0]) (λm=>[qT m]) (λm=>m.s.small) (λ_=> .nm 1 0) (λm=>[qT m,zC m.s])
def zJk (a:Prd) (b:Prd) (c:Unit):Prop:=True/\(0+(iE a.settle).length)*(8:Nat)<=(140737488355328:Nat)/\((∃(d:Unit),dh ((0:Int))/\dh (sb a.code)/\dh a.tick/\dh a.low/\dh a.high/\dh a.wide/\dh a.rule/\dh a.top/\dh a.least/\dh a.part/\zC (mO a)=zC (mO b)/\zU []=[]/\iE a.months=[]++iE a.months/\iE a.settle=[]++iE a.settle/\a.check=0)\/∃(c:Unit),False)
def zIn (a:Prd) (b:Prd) (c:Unit):Prop:=True/\True/\(0+(iE a.months).length)*(8:Nat)<=(140737488355328:Nat)/\zJk a b c
def zIl (a:Prd) (b:Unit):Prop:=True/\(0+(iE a.settle).length)*(8:Nat)<=(140737488355328:Nat)/\((∃(c:Unit),dh ((0:Int))/\dh (sb a.code)/\dh a.tick/\dh a.low/\dh a.high/\dh a.wide/\dh a.rule/\dh a.top/\dh a.least/\dh a.part/\False)\/∃(b:Unit),False)
def zJm (a:Prd) (b:Unit):Prop:=True/\True/\(0+(iE a.months).length)*(8:Nat)<=(140737488355328:Nat)/\zIl a b
def yTx (p:Prd):Prop:=
 ∃(a:Prd),sb a.code=sb p.code/\iE a.months=iE p.months/\a.tick=p.tick/\a.low=p.low/\a.high=p.high/\a.wide=p.wide/\a.rule=p.rule/\a.top=p.top/\a.least=p.least/\a.part=p.part/\iE a.settle=iE p.settle/\(zX a)/\(∀(b:Unit),a.check=0->(True/\True/\((0+(iE p.months).length)*(8:Nat)<=(140737488355328:Nat)/\True/\zJk p a b)/\zIn p a b)/\True/\True/\zIn p a b)/\∀(b:Unit),a.check≠0->cnd (a.check !=0) ((∃(c:Unit),False)\/∃(b:Unit),True/\p.check=a.check/\(p.check=0->False)) ((True/\True/\((0+(iE p.months).length)*(8:Nat)<=(140737488355328:Nat)/\True/\zIl p b)/\zJm p b)/\True/\True/\zJm p b)
def yXr (m:Mkt):Prop:=
 ∃(i:MSt),zC i=zC m.s/\(i.books.length<=1000000/\∀(b:Book),b∈i.books->(b.a.slots.length<=1000000/\b.a.queues.length<=1000000)/\b.buys.length<=1000000/\b.sells.length<=1000000/\b.spare.length<=1000000)/\∀(o:Unit),True->∃(o:Unit),dh (sb m.p.code)/\dh m.p.tick/\dh m.p.low/\dh m.p.high/\dh m.p.wide/\dh m.p.rule/\dh m.p.top/\dh m.p.least/\dh m.p.part/\zC m.s=zC i/\dh (zU m.used)/\dh (aj 1 (iE m.p.months))/\dh (aj 1 (iE m.p.settle))/\zC m.s=zC i/\True
def state_ok:stateC.ok Tryz.prog 30:=okw (V:=yXr) mixed (gokc eN gok0) 0 (λ_=>[]) (λ_=>[]) [0] Tryz.func30 λ(m:Mkt) h=>by
 obtain⟨h1,h2⟩:m.s.small:=h;refine⟨m.s,rfl,⟨h1,h2⟩,λ_ _=>⟨(),?_⟩⟩;exact kp
def y3a (p:Prd) (h:newMC.cnd p):yTx p:=by
 unfold yTx zJm zIl zIn zJk zX;obtain⟨h1,h2,h3⟩:p.small:=h;refine⟨p,?_⟩;simp only[yZ]
 (repeat'(first|exact rfl|exact trivial|assumption|apply au|refineλ(_:Unit) (_:True)=>?_|refine ao () ?_|omega|(dsimp only;omega)))
 ·intro _ c
  (repeat'(first|exact rfl|exact trivial|assumption|apply au|refineλ(_:Unit) (_:True)=>?_|refine ao () ?_|omega|(dsimp only;omega)))
  all_goals(refine .inl ⟨(),?_⟩;(repeat'(first|exact rfl|exact trivial|assumption|apply au|refineλ(_:Unit) (_:True)=>?_|refine ao () ?_|omega|(dsimp only;omega))))
 ·intro _ c;refine Cv.cnd.mk (λe=> .inr ⟨(),trivial,kp,c⟩) (λe=>absurd (by simpa using e) c)
def yOf:newMC.ok Tryz.prog 105:=okw mixed (gokc yMq gok0) 0 (λ_=>[]) (λ_=>[]) [] Tryz.func105 y3a
def clIntRC:Con:=con1 (List Int) (λl=>[iV l]) (λ_=>[]) (λl=>l.length<=1000000) (λl=>iV l) (λ_=>[])
structure WiI where
 n:Int
 lo:Int
 hi:Int
def zG (n lo hi:Int):Int:=lo+n % (hi-lo+1)
def withinC:Con:=con1 WiI (λi=>[zA i.n,zA i.lo,zA i.hi]) (λ_=>[]) (λi=>i64r i.n/\-1000000<=i.lo/\i.lo<=i.hi/\i.hi<=1000000) (λi=>zA (zG i.n i.lo i.hi)) (λ_=>[])
def dM (rule:Int):Prd:=⟨[67,76],[320,321,323],5,0,1000,200,rule,4,2,40,[500,505,490]⟩
def threeC:Con:=con1 Int (λn=>[zA n]) (λ_=>[]) (λ_=>True) (λn=>prdV (dM n)) (λ_=>[])
def yPp (l:List Int):Prop:=
 ∀(b:Bool),(b=ap->iE l=[])->cnd b (∃(o:Unit),iE l=[]/\True) ((0+(iE l).length)*(8:Nat)<=(140737488355328:Nat)/\∃(o:Unit),iE l=[]++iE l/\True)
def yCx (l:List Int):Prop:=
 ∀(b:Bool),(b=ap->iE l=[])->cnd b (∃(o:Unit),iE l=[]/\True) ((0+(iE l).length)*(8:Nat)<=(140737488355328:Nat)/\∃(o:Unit),iE l=[]++iE l/\True)
def nA (a:WiI):=(ar.wrap (ar.wrap (a.hi-a.lo)+1))
def z7m (i:WiI):Prop:=
 ar=ar/\ar.wrap (ar.wrap (i.hi-i.lo)+1)≠0/\cnd (decide (i.n.tmod (nA i)<0)) (∃(a:Unit),zG i.n i.lo i.hi=ar.wrap (i.lo+ar.wrap (ar.wrap (ar.wrap (i.n.tmod (nA i)+i.hi)-i.lo)+1))/\True) (∃(a:Unit),zG i.n i.lo i.hi=ar.wrap (i.lo+i.n.tmod (nA i))/\True)
def yGe (n:Int):Prop:=
 ∃(a:Unit),sb [(67:UInt8),(76:UInt8)]=ByteArray.mk #[(67:UInt8),(76:UInt8)]/\iE [(320:Int),(321:Int),(323:Int)]=[[dI 320],[dI 321],[dI 323]]/\dh ((5:Int))/\dh ((0:Int))/\dh ((1000:Int))/\dh ((200:Int))/\n=n/\dh ((4:Int))/\dh ((2:Int))/\dh ((40:Int))/\iE [(500:Int),(505:Int),(490:Int)]=[[dI 500],[dI 505],[dI 490]]/\True
def yCc:clIntRC.ok Tryz.prog 49:=okw (V:=yPp) mixed gok0 0 (λ_=>[]) (λ_=>[]) [] Tryz.func49 λ(l:List Int) h=>by
 have h:l.length<=1000000:=h;exactλb hb=>Cv.cnd.mk (λe=>⟨(),hb e,trivial⟩) (λ_=>⟨by rw[y8z,yZ];omega,(),rfl,trivial⟩)
def zZv:clIntRC.ok Tryz.prog 50:=okw (V:=yCx) mixed gok0 0 (λ_=>[]) (λ_=>[]) [] Tryz.func50 λ(l:List Int) h=>by
 have h:l.length<=1000000:=h;exactλb hb=>Cv.cnd.mk (λe=>⟨(),hb e,trivial⟩) (λ_=>⟨by rw[y8z,yZ];omega,(),rfl,trivial⟩)
def yLh:threeC.ok Tryz.prog 31:=okw (V:=yGe) mixed gok0 0 (λ_=>[]) (λ_=>[]) [] Tryz.func31 λ(n:Int) _=>by
 unfold yGe dI;exact kp
def yPd (i:WiI) (h:withinC.cnd i):z7m i:=by
 obtain⟨⟨a1,a2⟩,a3,a4,a5⟩:i64r i.n/\-1000000<=i.lo/\i.lo<=i.hi/\i.hi<=1000000:=h;unfold z7m nA;rw[w64 (x:=i.hi-i.lo) (by omega),w64 (x:=i.hi-i.lo+1) (by omega)];obtain⟨d,hd⟩:∃d:Int,i.hi-i.lo+1=d:=⟨_,rfl⟩
 rw[hd];have h1:i.n.tmod d=if 0<=i.n then i.n % d else-((-i.n) % d):=by
  split
  ·rename_i h;rw[av h]
  ·rename_i h;have:i.n= -(-i.n):=by omega
   conv=>lhs;rw[this]
   rw[Int.neg_tmod,av (by omega)]
 have hb1:=xEc i.n (show d≠0 by omega);have hb2:=xEd i.n (show 0<d by omega);have hb3:=xEc (-i.n) (show d≠0 by omega);have hb4:=xEd (-i.n) (show 0<d by omega);have key:i.n.tmod d<0->i.n % d=i.n.tmod d+d:=λhneg=>by
  have:=Int.emod_eq_of_lt (a:=i.n.tmod d+d) (b:=d) (by rw[h1]at hneg ⊢;split at hneg<;>split<;>omega) oM;rw[<- this,Int.add_emod_right];have e:=Int.tmod_add_mul_tdiv i.n d
  conv=>lhs;rw[<- e]
  rw[aw]
 have key2:¬i.n.tmod d<0->i.n % d=i.n.tmod d:=λhneg=>by
  have hlt:i.n.tmod d<d:=by rw[h1];split<;>omega
  have:=Int.emod_eq_of_lt (a:=i.n.tmod d) (b:=d) oM hlt;rw[<- this];have e:=Int.tmod_add_mul_tdiv i.n d
  conv=>lhs;rw[<- e]
  rw[aw]
 refine⟨rfl,oM,zI (λc=>⟨(),?_,trivial⟩) (λc=>⟨(),?_,trivial⟩)⟩
 ·have k:=key c;rw[zG,hd,k];rw[w64 (x:=i.n.tmod d+i.hi) (by omega),w64 (x:=i.n.tmod d+i.hi-i.lo) (by omega),w64 (x:=i.n.tmod d+i.hi-i.lo+1) (by omega),w64 (by omega)];omega
 ·have k:=key2 c;rw[zG,hd,k,w64 (by omega)]
def zJe:withinC.ok Tryz.prog 11:=okw mixed gok0 0 (λ_=>[]) (λ_=>[]) [] Tryz.func11 yPd
def zDl (l:List (Int×Int)) (k:Int):Option Int:=(l.find? λx=>decide (x.1=k)).map (·.2)
def yKe (l:List (Int×Int)) (k:Int):∀p∈yR l,like (ay ar k) p.1=ap:=by
 intro p hp;obtain⟨x,_,rfl⟩:=y9m.1 hp;rfl
def pA (k:Int):∀l:List (Int×Int),kW (ay ar k) (yR l)=(zDl l k).map λv=>[D.v (.int .i64 v)]
 |[]=>rfl
 |(a,v)::l=>by
  have ih:=pA k l;show(bif (keq .i64 .i64 && decide (k=a))then _ else kW _ (yR l))=_;by_cases h:k=a
  ·subst h;simp[zDl,keq]
  ·have h':¬a=k:=λe=>h e.symm
   rw[show(keq .i64 .i64 && decide (k=a))=aq by simp[h],cond_false,ih];simp[zDl,xEe,h']
structure Rep where
 kind:Int
 id:Int
 inst:Int
 side:Int
 price:Int
 qty:Int
 left:Int
 why:Int
 deriving DecidableEq
@[reducible] def y6c (r:Rep):V:= .agg [zA r.kind,zA r.id,zA r.inst,zA r.side,zA r.price,zA r.qty,zA r.left,zA r.why]
def xU (r:Rep):List D:=[.v (.int .i64 r.kind),.v (.int .i64 r.id),.v (.int .i64 r.inst),.v (.int .i64 r.side),.v (.int .i64 r.price),.v (.int .i64 r.qty),.v (.int .i64 r.left),.v (.int .i64 r.why)]
def zZr (k v:Int):List (Int×Int)->List (Int×Int)
 |[]=>[(k,v)]
 |(a,b)::l=>if k=a then(a,v)::l else(a,b)::zZr k v l
def z4o (k:Int):List (Int×Int)->List (Int×Int)
 |[]=>[]
 |(a,b)::l=>if k=a then l else(a,b)::z4o k l
def bj (t:Nat):SAnn:={ι:=Bool,slots:=λb=>[(t,yK b)],rows:=λ_=>[]}
def ij (t:Nat):SAnn:={ι:=Int,slots:=λn=>[(t,zA n)],rows:=λ_=>[]}
end Sx
