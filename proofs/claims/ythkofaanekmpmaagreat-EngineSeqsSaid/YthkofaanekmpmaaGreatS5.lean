/- Texts of ours. No condition. -/
import Derived.Laws.AppendOwn
import Derived.Lib.AppendZerosOnto
import Derived.Lib.Overlaps
import Derived.Test.YthkofaanekmpmaaGreatS4
set_option linter.all false
open List renaming map->aa,take->ab,drop->ac,filter->ae,range->af
open Sx.AObj renaming fro->ag,adt->aj,cells->ak,own->am
open Go.IntKind renaming i64->ao
open Bool renaming true->ap,false->aq
open Exists renaming intro->ar
open And renaming intro->au
open Go.Builtin renaming zeroCells->av,copy_->aw,firstCells->ax,append_->ay
open Option renaming some->az,none->ba
open Go.Value renaming int->bc,string->be
open Go renaming World->bg,Value->bo,Program->bu,Addr->bv,size_zeroCells->bz
open Int renaming tmod_eq_emod_of_nonneg->cd,add_mul_emod_self_left->ce
namespace Sx
set_option maxRecDepth 100000
open Go Cv Go.Proofs
def elA {α:Type} {f:α->List D} {l:List α} {i g n:Nat} {x:α} {r:List D} (h:l[i]? =az x) (hn:g+n<=(f x).length) (hr:((f x).drop g).take n=r):zE (l.map f) i g n=az r:=by
 unfold zE;rw[y6q,h];simp only[y7e,Nat.ble_eq_true_of_le hn,cond_true,hr]
def zVw {a:Arena} {n:Int} {q:cJ} (h0:0<=n) (h:a.queues[n.toNat]? =az q):a.qAt n=q:=by
 have:=(y5f.1 h).1;rw[Arena.qAt,y5d ⟨h0,by omega⟩,y5k,h];rfl
def zLb {a:Arena} {n:Int} (h:¬(0<=n/\n<a.queues.length)):a.qAt n=⟨0,0,0,0⟩:=by rw[Arena.qAt,y5b h]
def zJd:atotalC.ok Tryz.prog 228:=okw (V:=z6y) mixed gok0 1 (λ_=>[]) (λ_=>[]) [0] Tryz.func228 λ(i:ArN) _=>by
 unfold z6y fC eM jN dI;simp only[y5c];refine zH (λc=>Cv.cnd.mk (λd=> ?_) (λd=> ?_)) (λc=> ?_)
 ·have d:¬i.n<(i.a.queues.length:Int):=by simpa using d
  rw[zLb (by omega)];exact kp
 ·have d:i.n<(i.a.queues.length:Int):=by simpa using d
  obtain⟨q,hq⟩:=yE (l:=i.a.queues) (i:=i.n.toNat) oM;rw[zVw (by omega) hq];refine⟨⟨oM,oM⟩,q.total,elA hq (by simp[zO]) rfl,?_⟩;exact kp
 ·rw[zLb (by omega)];exact kp
def nY:acountC.ok Tryz.prog 229:=okw (V:=z8z) mixed gok0 1 (λ_=>[]) (λ_=>[]) [0] Tryz.func229 λ(i:ArN) _=>by
 unfold z8z fC eB jN dI;simp only[y5c];refine zH (λc=>Cv.cnd.mk (λd=> ?_) (λd=> ?_)) (λc=> ?_)
 ·have d:¬i.n<(i.a.queues.length:Int):=by simpa using d
  rw[zLb (by omega)];exact kp
 ·have d:i.n<(i.a.queues.length:Int):=by simpa using d
  obtain⟨q,hq⟩:=yE (l:=i.a.queues) (i:=i.n.toNat) oM;rw[zVw (by omega) hq];refine⟨⟨oM,oM⟩,q.count,elA hq (by simp[zO]) rfl,?_⟩;exact kp
 ·rw[zLb (by omega)];exact kp
def eN:bisC.ok Tryz.prog 193:=okw (V:=y2k) mixed gok0 0 (λ_=>[]) (λ_=>[]) [] Tryz.func193 λ(n:Int) _=>by
 unfold y2k;refine Cv.cnd.mk (λc=>⟨(),?_,trivial⟩) (λc=>⟨(),?_,trivial⟩)
 all_goals simp at c
 ·simp[c]
 ·by_cases h:n=2<;>simp[c,h]
def z8o:toldC.ok Tryz.prog 194:=okw (V:=y2p) mixed (gokc zJd (gokc nY gok0)) 0 (λ_=>[]) (λ_=>[]) [0] Tryz.func194 λ(i:BkR) h=>by
 refine⟨⟨i.b.a,i.r.queue⟩,?_⟩;(repeat'(first|exact rfl|exact trivial|assumption|apply au|refineλ(_:Unit) (_:True)=>?_|refine ar () ?_|omega|(dsimp only;omega)));refine⟨⟨i.b.a,i.r.queue⟩,?_⟩;exact kp
def yJd:best1C.ok Tryz.prog 156:=okw (V:=yXl) mixed (gokc eN (gokc z8o gok0)) 0 (λ_=>[]) (λ_=>[]) [0] Tryz.func156 λ(b:Book) h=>by
 have h:b.cntOk:=h;refine⟨1,rfl,trivial,λ_ _=>Cv.cnd.mk (λc=>absurd c Z8) λ_=> ?_⟩;simp only[y5c];refine Cv.cnd.mk (λc=> ?_) (λc=> ?_)
 ·have hl:b.buys=[]:=y6c (by have:(b.buys.length:Int)=0:=(by simpa using c);omega);have e:b.best b.buys=(⟨0,0,0⟩,aq):=by rw[hl];rfl
  rw[e];exact kp
 ·obtain⟨r,l,hl⟩:∃r l,b.buys=r::l:=by
   cases hb:b.buys with
   |nil=>rw[hb]at c;exact absurd c Z8
   |cons r l=>exact⟨r,l,rfl⟩
  have e:b.best b.buys=(b.told r,ap):=by rw[hl];rfl
  rw[e];refine⟨⟨oM,by rw[hl,y5g];omega⟩,r.price,r.queue,elA (x:=r) (by rw[hl];rfl) (by simp[zB]) rfl,⟨b,r⟩,?_⟩;exact kp
def yDz:best2C.ok Tryz.prog 156:=okw (V:=ySr) mixed (gokc eN (gokc z8o gok0)) 0 (λ_=>[]) (λ_=>[]) [0] Tryz.func156 λ(b:Book) h=>by
 have h:b.cntOk:=h;refine⟨2,rfl,trivial,λ_ _=>Cv.cnd.mk (λc=>absurd c Z8) λ_=> ?_⟩;simp only[y5c];refine Cv.cnd.mk (λc=> ?_) (λc=> ?_)
 ·have hl:b.sells=[]:=y6c (by have:(b.sells.length:Int)=0:=(by simpa using c);omega);have e:b.best b.sells=(⟨0,0,0⟩,aq):=by rw[hl];rfl
  rw[e];exact kp
 ·obtain⟨r,l,hl⟩:∃r l,b.sells=r::l:=by
   cases hb:b.sells with
   |nil=>rw[hb]at c;exact absurd c Z8
   |cons r l=>exact⟨r,l,rfl⟩
  have e:b.best b.sells=(b.told r,ap):=by rw[hl];rfl
  rw[e];refine⟨⟨oM,by rw[hl,y5g];omega⟩,r.price,r.queue,elA (x:=r) (by rw[hl];rfl) (by simp[zB]) rfl,⟨b,r⟩,?_⟩;exact kp
def zLg:bestC.ok Tryz.prog 156:=λi=>match i with
 |⟨aq,b⟩=>yJd b
 |⟨ap,b⟩=>yDz b
def zOh {α:Type} (f:α->α) (x:α) (b:List α):∀a:List α,(a++x::b).modify a.length f=a++f x::b
 |[]=>rfl
 |y::a=>by
  show y::(a++x::b).modify a.length f=_;rw[zOh f x b a];rfl
def zRw {els:List (List D)} {a b:List (List D)} {x y ds:List D} {j f:Nat} (h:els=a++x::b) (hl:a.length=j) (hy:x.take f++(ds++x.drop (f+ds.length))=y):zV els j f ds=a++y::b:=by
 rw[zV,h,<- hl,zOh,hy]
def qU {s:MSt} {j:Nat} {x y:Top} {f:Nat} {ds:List D} (hj:j<s.books.length) (hy:(z5 x).take f++(ds++(z5 x).drop (f+ds.length))=z5 y):
 zV (aa z5 (xV s j x)) j f ds=aa z5 (xV s j y):=by
 rw[zRw (a:=(s.tops.take j).map z5) (b:=(List.replicate (s.books.length-j-1) top0).map z5) (by rw[xV,y5l,y5q]) (by
  rw[y5c,y5t,MSt.tops,y5c];omega) hy,xV,y5l,y5q]
def zPt {s:MSt} {j:Nat} {x:Top} (hj:j<s.books.length):(xV s j x).length=s.books.length:=by
 rw[xV,y5a,y5g,y5t,MSt.tops,y5c,y8g];omega
def zJo {s:MSt} {j:Nat} (hj:j<s.books.length):xV s j top0=x6 s j:=by
 rw[xV,x6];obtain⟨m,hm⟩:∃m,s.books.length-j=m+1:=⟨s.books.length-j-1,oM⟩
 rw[hm,y9i];rfl
def zKh {s:MSt} {j:Nat} {b:Book} (hb:s.books[j]? =az b):xV s j b.top=x6 s (j+1):=by
 have hj:=(y5f.1 hb).1;rw[xV,x6,y6k,show s.tops[j]? =az b.top by rw[MSt.tops,y6q,hb];rfl];simp only[y8e,y5i,y6t,y7r];rw[show s.books.length-j-1=s.books.length-(j+1)by omega]
def fJ {α:Type} {l:List α} {j:Nat} {x:α} (h:l[j]? =az x):l.set j x=l:=by
 obtain⟨hj,rfl⟩:=y5f.1 h;exact List.set_getElem_self hj
def y0x (s:MSt) (h:topsC.cnd s):yRy s:=by
 obtain⟨h1,h2⟩:s.cntOk:=h;unfold yRy zPd zEw gW uH qS vC fB bR bV zHi zAn zAe dP b6 l8 dY dC zW aA uG dI;have p48:(2:Int) ^ (48:Nat)=281474976710656:=by decide
 refine⟨⟨oM,oM,oM,by rw[p48];omega⟩,0,rfl,?_,λj=>j<=s.books.length,λj=>s.books.length-j,oM,λj hj=>zH (λhlt=> ?_) (λhlt=> ?_)⟩
 ·rw[x6,y5l,List.map_replicate];rfl
 ·have hj':j<s.books.length:=by omega
  obtain⟨b,hb⟩:=yE hj';have hc:=h2 b (y5m hb);simp only[y5u];have ha:∀x,(aa z5 (xV s j x)).length=s.books.length:=λx=>by rw[y5c,zPt hj']
  have w1:ao.wrap (0+1)=1:=by decide
  have w2:(0+1) % ((2:Int) ^ ao.bits).natAbs=1:=by decide
  refine⟨⟨oM,oM⟩,oM,(j,top0),by rw[zJo hj'],λx=>x=(j,top0.buy (b.best b.buys)),⟨⟨Z8,Z8⟩,1,rfl,b,hb,⟨aq,b⟩,rfl,rfl,hc,λ_ _=>⟨b,rfl,kp,oM,?_⟩⟩,?_⟩
  ·refine Cv.cnd.mk (λc=> ?_) (λc=> ?_)
   ·have c:(b.best b.buys).2=ap:=c;have e1:=qU (s:=s) hj' (x:=top0) (y:={top0 with has1:=ap}) (f:=0+0+0*1) (ds:=[D.v (.bool ap)]) rfl;have e2:=qU (s:=s) hj' (x:={top0 with has1:=ap}) (y:={top0 with has1:=ap,p1:=(b.best b.buys).1.price}) (f:=0+2+0*1) (ds:=[D.v (.int .i64 (b.best b.buys).1.price)]) rfl;have e3:=qU (s:=s) hj' (x:={top0 with has1:=ap,p1:=(b.best b.buys).1.price}) (y:={top0 with has1:=ap,p1:=(b.best b.buys).1.price,q1:=(b.best b.buys).1.qty}) (f:=0+4+0*1) (ds:=[D.v (.int .i64 (b.best b.buys).1.qty)]) rfl;dsimp only;simp only[show b.side aq=b.buys from rfl,e1,e2,e3,ha]
    (repeat'(first|exact rfl|exact trivial|assumption|apply au|refineλ(_:Unit) (_:True)=>?_|refine ar () ?_|omega|(dsimp only;omega)))
    refine⟨(j,{top0 with has1:=ap,p1:=(b.best b.buys).1.price,q1:=(b.best b.buys).1.qty}),rfl,?_,?_⟩
    ·rw[Top.buy,y5d c]
    ·(repeat'(first|exact rfl|exact trivial|assumption|apply au|refineλ(_:Unit) (_:True)=>?_|refine ar () ?_|omega|(dsimp only;omega)))
     rw[fJ hb]
   ·have c:(b.best b.buys).2=aq:=c;refine⟨(j,top0),rfl,?_,?_⟩
    ·rw[Top.buy,y5b (by rw[c];simp)]
    ·(repeat'(first|exact rfl|exact trivial|assumption|apply au|refineλ(_:Unit) (_:True)=>?_|refine ar () ?_|omega|(dsimp only;omega)))
     rw[fJ hb]
  ·rintro _ rfl;rw[w1];generalize hx:top0.buy (b.best b.buys)=x;have hx2:b.top=x.sell (b.best b.sells):=by rw[Book.top,hx]
   refine⟨(j,x),rfl,λy=>y=(j,b.top),⟨⟨Z8,Z8⟩,2,rfl,b,hb,⟨ap,b⟩,rfl,rfl,hc,λ_ _=>⟨b,rfl,kp,oM,?_⟩⟩,?_⟩
   ·refine Cv.cnd.mk (λc=> ?_) (λc=> ?_)
    ·have c:(b.best b.sells).2=ap:=c;have e1:=qU (s:=s) hj' (x:=x) (y:={x with has2:=ap}) (f:=0+0+1*1) (ds:=[D.v (.bool ap)]) rfl;have e2:=qU (s:=s) hj' (x:={x with has2:=ap}) (y:={x with has2:=ap,p2:=(b.best b.sells).1.price}) (f:=0+2+1*1) (ds:=[D.v (.int .i64 (b.best b.sells).1.price)]) rfl;have e3:=qU (s:=s) hj' (x:={x with has2:=ap,p2:=(b.best b.sells).1.price}) (y:={x with has2:=ap,p2:=(b.best b.sells).1.price,q2:=(b.best b.sells).1.qty}) (f:=0+4+1*1) (ds:=[D.v (.int .i64 (b.best b.sells).1.qty)]) rfl;dsimp only;simp only[w2,show b.side ap=b.sells from rfl,e1,e2,e3,ha]
     (repeat'(first|exact rfl|exact trivial|assumption|apply au|refineλ(_:Unit) (_:True)=>?_|refine ar () ?_|omega|(dsimp only;omega)))
     refine⟨(j,{x with has2:=ap,p2:=(b.best b.sells).1.price,q2:=(b.best b.sells).1.qty}),rfl,?_,?_⟩
     ·rw[hx2,Top.sell,y5d c]
     ·(repeat'(first|exact rfl|exact trivial|assumption|apply au|refineλ(_:Unit) (_:True)=>?_|refine ar () ?_|omega|(dsimp only;omega)))
      rw[fJ hb]
    ·have c:(b.best b.sells).2=aq:=c;refine⟨(j,x),rfl,?_,?_⟩
     ·rw[hx2,Top.sell,y5b (by rw[c];simp)]
     ·(repeat'(first|exact rfl|exact trivial|assumption|apply au|refineλ(_:Unit) (_:True)=>?_|refine ar () ?_|omega|(dsimp only;omega)))
      rw[fJ hb]
   ·rintro _ rfl;refine⟨j+1,by rw[w64 (by omega)];rfl,?_⟩;refine⟨by dsimp only;rw[zKh hb],?_⟩;exact kp
 ·have hj:j<=s.books.length:=hj;obtain rfl:j=s.books.length:=by omega
  have e:x6 s s.books.length=s.tops:=by
   rw[x6,xAp,List.replicate_zero,y5y,y5n (by rw[MSt.tops,y5c];omega)]
  rw[e];exact kp
def yOs:topsC.ok Tryz.prog 105:=okw mixed (gokc zLg gok0) 0 (λs=>yQs s) (λs=>yRx s) [0] Tryz.func105 y0x
def zNh:copySC.ok Tryz.prog 110:=okw (V:=yTp) mixed (gokc yMt (gokc yCy gok0)) 0 (λ_=>[]) (λs=>ySz s) [0] Tryz.func110 λ(s:MSt) h=>by
 obtain⟨h1,h2⟩:s.small:=h;refine⟨yO s.wh,?_⟩;(repeat'(first|exact rfl|exact trivial|assumption|apply au|refineλ(_:Unit) (_:True)=>?_|refine ar () ?_|omega|(dsimp only;omega)));refine⟨0,?_⟩;(repeat'(first|exact rfl|exact trivial|assumption|apply au|refineλ(_:Unit) (_:True)=>?_|refine ar () ?_|omega|(dsimp only;omega)));refine⟨λj=>j<=s.books.length,λj=>s.books.length-j,oM,λj hj=>zH (λhlt=> ?_) (λhlt=> ?_)⟩
 ·obtain⟨b,hb⟩:=yE (l:=s.books) (i:=j) oM;have hs:=h2 b (y5m hb);simp only[y5u];refine⟨⟨oM,oM⟩,oM,b,hb,b,rfl,hs,λ_ _=>⟨b,rfl,kp,oM,trivial,trivial,s.books.take j,rfl,?_,j+1,?_⟩⟩
  ·rw[y5t];omega
  ·rw[w64 (by omega),y6k,hb]
   (repeat'(first|exact rfl|exact trivial|assumption|apply au|refineλ(_:Unit) (_:True)=>?_|refine ar () ?_|omega|(dsimp only;omega)))
   rw[fJ hb]
 ·have hj:j<=s.books.length:=hj;obtain rfl:j=s.books.length:=by omega
  rw[y5n (y5x _)];exact kp
structure Leg where
 inst:Int
 side:Int
 deriving DecidableEq
structure Quote where
 price:Int
 qty:Int
 a:Leg
 b:Leg
 deriving DecidableEq
def zJ (q:Quote):List D:=[.v (.int .i64 q.price),.v (.int .i64 q.qty),.v (.int .i64 q.a.inst),.v (.int .i64 q.a.side),.v (.int .i64 q.b.inst),.v (.int .i64 q.b.side)]
@[reducible] def zUl (q:Quote):V:= .agg [zA q.price,zA q.qty,zA q.a.inst,zA q.a.side,zA q.b.inst,zA q.b.side]
def yUi:Quote:=⟨0,0,⟨0,0⟩,⟨0,0⟩⟩
structure I3' where
 side:Int
 x:Int
 y:Int
def btr (side x y:Int):Bool:=if side=1 then decide (y<x)else decide (x<y)
def iotherC:Con:=con1 Int (λn=>[zA n]) (λ_=>[]) (λn=>n=1\/n=2) (λn=>zA (3-n)) (λ_=>[])
def ibetterC:Con:=con1 I3' (λi=>[zA i.side,zA i.x,zA i.y]) (λ_=>[]) (λ_=>True) (λi=>yX (btr i.side i.x i.y)) (λ_=>[])
def Top.has (t:Top) (s:Int):Bool:=if s=1 then t.has1 else t.has2
def Top.price (t:Top) (s:Int):Int:=if s=1 then t.p1 else t.p2
def Top.qty (t:Top) (s:Int):Int:=if s=1 then t.q1 else t.q2
def mkq (tops:List Top) (a b:Leg) (less:Bool):List Quote:=
 let x:=tops.getD a.inst.toNat top0
 let y:=tops.getD b.inst.toNat top0
 let r:=if less then h9 (y.price b.side) (x.price a.side)else u7 (x.price a.side) (y.price b.side)
 if x.has a.side && y.has b.side && r.2 then[⟨r.1,min (x.qty a.side) (y.qty b.side),a,b⟩]else[]
structure MkI where
 tops:List Top
 out:List Quote
 a:Int
 b:Int
 less:Bool
@[reducible] def vI (l:List Top):Prop:=l.length<=1000000/\∀t∈l,yV t.p1/\yV t.p2
def MkU (x:List Top×List Quote):Nat->AObj
 |0=> .cells [.own 1,.own 2] 307
 |1=> .fro 6 (x.1.map z5)
 |2=> .own 259 6 (x.2.map zJ)
 |_=> .gone
@[reducible] def MkR (tops:List Top) (out:List Quote):List AObj:=[MkU (tops,out) 0,MkU (tops,out) 1,MkU (tops,out) 2]
@[reducible] def MkP (tops:List Top) (out:List Quote):List AObj:=[.cells [.own 1,.own 3] 307,MkU (tops,out) 1,.gone,MkU (tops,out) 2]
def mkC (sa sb:Int):Con:=con1 MkI (λi=>[.nm 0 0,.agg [zA i.a,zA sa],.agg [zA i.b,zA sb],yX i.less]) (λi=>MkR i.tops i.out)
 (λi=>0<=i.a/\i.a<i.tops.length/\0<=i.b/\i.b<i.tops.length/\vI i.tops/\i.out.length<=1000) (λ_=>mQ) (λi=>MkP i.tops (i.out++mkq i.tops ⟨i.a,sa⟩ ⟨i.b,sb⟩ i.less))
def mk11:Con:=mkC 1 1
def mk12:Con:=mkC 1 2
def mk21:Con:=mkC 2 1
def mk22:Con:=mkC 2 2
def yPs (n:Int):Prop:=
 ∃(o:Unit),3-n=ao.wrap (3-n)/\True
def yDi (i:I3'):Prop:=
 cnd (i.side==1) (∃(o:Unit),btr i.side i.x i.y=decide (i.x>i.y)/\True) (∃(o:Unit),btr i.side i.x i.y=decide (i.x<i.y)/\True)
def zAd (a:MkI):=(a.out++mkq a.tops (Leg.mk a.a 1) (Leg.mk a.b 1) a.less)
def nQ (a:MkI):Prop:=∃(b:Unit),ag 6 (aa z5 a.tops)=MkU (a.tops,a.out) 1/\aa zJ (zAd a)=aa zJ a.out/\True
def jH (a:I2):Prop:=((-9223372036854775808)<=a.x/\a.x<=9223372036854775807)/\(-9223372036854775808)<=a.y/\a.y<=9223372036854775807
def qP (a:MkI):=(↑(aa z5 a.tops).length:Int)
def x9 (a:MkI):Prop:=(0<=a.b/\a.b<(qP a))/\rE a.b.toNat
def jE (a:MkI):Prop:=(0<=a.a/\a.a<(qP a))/\rE a.a.toNat
def jG (a:MkI):=((aa zJ a.out).length+1)
def zMy (a:MkI) (b:Bool) (c:Bool) (d:Int) (e:Int) (f:Int) (g:Int):Prop:=True/\(x9 a)/\a.b=a.b/\True/\True/\(jE a)/\a.a=a.a/\True/\True/\(x9 a)/\a.b=a.b/\True/\True/\(jE a)/\a.a=a.a/\True/\True/\(x9 a)/\a.b=a.b/\True/\cnd (!b) (nQ a) (cnd (!c) (nQ a) (∃(h:I2),h.x=d/\h.y=e/\(jH h)/\∀(j:Unit),True->cnd a.less (∃(k:I2),k.x=e/\k.y=d/\(jH k)/\∀(l:Unit),True->cnd (h9 k.x k.y).snd (True/\(jG a)*(48:Nat)<=(140737488355328:Nat)/\∃(m:Unit),ag 6 (aa z5 a.tops)=MkU (a.tops,a.out) 1/\aa zJ (zAd a)=aa zJ a.out++[[dI ((h9 k.x k.y).fst),dI (min f g),dI a.a,dI 1,dI a.b,dI 1]]/\True) (nQ a)) (cnd (u7 h.x h.y).snd (True/\(jG a)*(48:Nat)<=(140737488355328:Nat)/\∃(k:Unit),ag 6 (aa z5 a.tops)=MkU (a.tops,a.out) 1/\aa zJ (zAd a)=aa zJ a.out++[[dI ((u7 h.x h.y).fst),dI (min f g),dI a.a,dI 1,dI a.b,dI 1]]/\True) (nQ a))))
def yRp (i:MkI):Prop:=
 (0<=i.a/\i.a<(qP i))/\∃(a:Bool),∃(b:Bool),∃(c:Int),∃(d:Int),∃(e:Int),∃(f:Int),zE (aa z5 i.tops) i.a.toNat 0 6=az [D.v (.bool a),D.v (.bool b),dI c,dI d,dI e,dI f]/\(0<=i.b/\i.b<(qP i))/\∃(g:Bool),∃(h:Bool),∃(j:Int),∃(k:Int),∃(l:Int),∃(m:Int),zE (aa z5 i.tops) i.b.toNat 0 6=az [D.v (.bool g),D.v (.bool h),dI j,dI k,dI l,dI m]/\(zMy i a g c j e l)/\zMy i a g c j e l
def zBg (a:MkI):=(a.out++mkq a.tops (Leg.mk a.a 1) (Leg.mk a.b 2) a.less)
def nV (a:MkI):Prop:=∃(b:Unit),ag 6 (aa z5 a.tops)=MkU (a.tops,a.out) 1/\aa zJ (zBg a)=aa zJ a.out/\True
def zNk (a:MkI) (b:Bool) (c:Bool) (d:Int) (e:Int) (f:Int) (g:Int):Prop:=True/\(x9 a)/\a.b=a.b/\True/\True/\(jE a)/\a.a=a.a/\True/\True/\(x9 a)/\a.b=a.b/\True/\True/\(jE a)/\a.a=a.a/\True/\True/\(x9 a)/\a.b=a.b/\True/\cnd (!b) (nV a) (cnd (!c) (nV a) (∃(h:I2),h.x=d/\h.y=e/\(jH h)/\∀(j:Unit),True->cnd a.less (∃(k:I2),k.x=e/\k.y=d/\(jH k)/\∀(l:Unit),True->cnd (h9 k.x k.y).snd (True/\(jG a)*(48:Nat)<=(140737488355328:Nat)/\∃(m:Unit),ag 6 (aa z5 a.tops)=MkU (a.tops,a.out) 1/\aa zJ (zBg a)=aa zJ a.out++[[dI ((h9 k.x k.y).fst),dI (min f g),dI a.a,dI 1,dI a.b,dI 2]]/\True) (nV a)) (cnd (u7 h.x h.y).snd (True/\(jG a)*(48:Nat)<=(140737488355328:Nat)/\∃(k:Unit),ag 6 (aa z5 a.tops)=MkU (a.tops,a.out) 1/\aa zJ (zBg a)=aa zJ a.out++[[dI ((u7 h.x h.y).fst),dI (min f g),dI a.a,dI 1,dI a.b,dI 2]]/\True) (nV a))))
def yRa (i:MkI):Prop:=
 (0<=i.a/\i.a<(qP i))/\∃(a:Bool),∃(b:Bool),∃(c:Int),∃(d:Int),∃(e:Int),∃(f:Int),zE (aa z5 i.tops) i.a.toNat 0 6=az [D.v (.bool a),D.v (.bool b),dI c,dI d,dI e,dI f]/\(0<=i.b/\i.b<(qP i))/\∃(g:Bool),∃(h:Bool),∃(j:Int),∃(k:Int),∃(l:Int),∃(m:Int),zE (aa z5 i.tops) i.b.toNat 0 6=az [D.v (.bool g),D.v (.bool h),dI j,dI k,dI l,dI m]/\(zNk i a h c k e m)/\zNk i a h c k e m
def zBi (a:MkI):=(a.out++mkq a.tops (Leg.mk a.a 2) (Leg.mk a.b 1) a.less)
def pA (a:MkI):Prop:=∃(b:Unit),ag 6 (aa z5 a.tops)=MkU (a.tops,a.out) 1/\aa zJ (zBi a)=aa zJ a.out/\True
def zMf (a:MkI) (b:Bool) (c:Bool) (d:Int) (e:Int) (f:Int) (g:Int):Prop:=True/\(x9 a)/\a.b=a.b/\True/\True/\(jE a)/\a.a=a.a/\True/\True/\(x9 a)/\a.b=a.b/\True/\True/\(jE a)/\a.a=a.a/\True/\True/\(x9 a)/\a.b=a.b/\True/\cnd (!b) (pA a) (cnd (!c) (pA a) (∃(h:I2),h.x=d/\h.y=e/\(jH h)/\∀(j:Unit),True->cnd a.less (∃(k:I2),k.x=e/\k.y=d/\(jH k)/\∀(l:Unit),True->cnd (h9 k.x k.y).snd (True/\(jG a)*(48:Nat)<=(140737488355328:Nat)/\∃(m:Unit),ag 6 (aa z5 a.tops)=MkU (a.tops,a.out) 1/\aa zJ (zBi a)=aa zJ a.out++[[dI ((h9 k.x k.y).fst),dI (min f g),dI a.a,dI 2,dI a.b,dI 1]]/\True) (pA a)) (cnd (u7 h.x h.y).snd (True/\(jG a)*(48:Nat)<=(140737488355328:Nat)/\∃(k:Unit),ag 6 (aa z5 a.tops)=MkU (a.tops,a.out) 1/\aa zJ (zBi a)=aa zJ a.out++[[dI ((u7 h.x h.y).fst),dI (min f g),dI a.a,dI 2,dI a.b,dI 1]]/\True) (pA a))))
def yQm (i:MkI):Prop:=
 (0<=i.a/\i.a<(qP i))/\∃(a:Bool),∃(b:Bool),∃(c:Int),∃(d:Int),∃(e:Int),∃(f:Int),zE (aa z5 i.tops) i.a.toNat 0 6=az [D.v (.bool a),D.v (.bool b),dI c,dI d,dI e,dI f]/\(0<=i.b/\i.b<(qP i))/\∃(g:Bool),∃(h:Bool),∃(j:Int),∃(k:Int),∃(l:Int),∃(m:Int),zE (aa z5 i.tops) i.b.toNat 0 6=az [D.v (.bool g),D.v (.bool h),dI j,dI k,dI l,dI m]/\(zMf i b g d j f l)/\zMf i b g d j f l
def lU (a:MkI):=(a.out++mkq a.tops (Leg.mk a.a 2) (Leg.mk a.b 2) a.less)
def pP (a:MkI):Prop:=∃(b:Unit),ag 6 (aa z5 a.tops)=MkU (a.tops,a.out) 1/\aa zJ (lU a)=aa zJ a.out/\True
def zNa (a:MkI) (b:Bool) (c:Bool) (d:Int) (e:Int) (f:Int) (g:Int):Prop:=True/\(x9 a)/\a.b=a.b/\True/\True/\(jE a)/\a.a=a.a/\True/\True/\(x9 a)/\a.b=a.b/\True/\True/\(jE a)/\a.a=a.a/\True/\True/\(x9 a)/\a.b=a.b/\True/\cnd (!b) (pP a) (cnd (!c) (pP a) (∃(h:I2),h.x=d/\h.y=e/\(jH h)/\∀(j:Unit),True->cnd a.less (∃(k:I2),k.x=e/\k.y=d/\(jH k)/\∀(l:Unit),True->cnd (h9 k.x k.y).snd (True/\(jG a)*(48:Nat)<=(140737488355328:Nat)/\∃(m:Unit),ag 6 (aa z5 a.tops)=MkU (a.tops,a.out) 1/\aa zJ (lU a)=aa zJ a.out++[[dI ((h9 k.x k.y).fst),dI (min f g),dI a.a,dI 2,dI a.b,dI 2]]/\True) (pP a)) (cnd (u7 h.x h.y).snd (True/\(jG a)*(48:Nat)<=(140737488355328:Nat)/\∃(k:Unit),ag 6 (aa z5 a.tops)=MkU (a.tops,a.out) 1/\aa zJ (lU a)=aa zJ a.out++[[dI ((u7 h.x h.y).fst),dI (min f g),dI a.a,dI 2,dI a.b,dI 2]]/\True) (pP a))))
def yQw (i:MkI):Prop:=
 (0<=i.a/\i.a<(qP i))/\∃(a:Bool),∃(b:Bool),∃(c:Int),∃(d:Int),∃(e:Int),∃(f:Int),zE (aa z5 i.tops) i.a.toNat 0 6=az [D.v (.bool a),D.v (.bool b),dI c,dI d,dI e,dI f]/\(0<=i.b/\i.b<(qP i))/\∃(g:Bool),∃(h:Bool),∃(j:Int),∃(k:Int),∃(l:Int),∃(m:Int),zE (aa z5 i.tops) i.b.toNat 0 6=az [D.v (.bool g),D.v (.bool h),dI j,dI k,dI l,dI m]/\(zNa i b h d k f m)/\zNa i b h d k f m
def zRi:iotherC.ok Tryz.prog 197:=okw (V:=yPs) mixed gok0 0 (λ_=>[]) (λ_=>[]) [] Tryz.func197 λ(n:Int) h=>by
 have h:n=1\/n=2:=h;refine⟨(),?_,trivial⟩;rw[w64 (by omega)]
def z4m:ibetterC.ok Tryz.prog 195:=okw (V:=yDi) mixed gok0 0 (λ_=>[]) (λ_=>[]) [] Tryz.func195 λ(i:I3') _=>by
 refine Cv.cnd.mk (λe=>⟨(),?_,trivial⟩) (λe=>⟨(),?_,trivial⟩)
 ·have e:i.side=1:=by simpa using e
  simp[btr,e]
 ·have e:i.side≠1:=by simpa using e
  simp[btr,e]
def yLv (a b:Int):(if b<a then b else a)=min a b:=by split<;>omega
def yZe (i:MkI) (h:mk11.cnd i):yRp i:=by
 obtain⟨a0,a1,b0,b1,⟨ht,hp⟩,ho⟩:0<=i.a/\i.a<i.tops.length/\0<=i.b/\i.b<i.tops.length/\vI i.tops/\i.out.length<=1000:=h;obtain⟨x,hx⟩:=yE (l:=i.tops) (i:=i.a.toNat) oM;obtain⟨y,hy⟩:=yE (l:=i.tops) (i:=i.b.toNat) oM;obtain⟨⟨px1,px2⟩,px3,px4⟩:=hp x (y5m hx);obtain⟨⟨py1,py2⟩,py3,py4⟩:=hp y (y5m hy);have e0:mkq i.tops ⟨i.a,1⟩ ⟨i.b,1⟩ i.less=if x.has1 && y.has1 && (if i.less then h9 y.p1 x.p1 else u7 x.p1 y.p1).2 then[⟨(if i.less then h9 y.p1 x.p1 else u7 x.p1 y.p1).1,min x.q1 y.q1,⟨i.a,1⟩,⟨i.b,1⟩⟩]else[]:=by
  simp only[mkq,y5k,hx,hy,y7n];rfl
 unfold yRp zMy jG jE x9 qP jH nQ zAd dI;simp only[y5c];refine⟨⟨oM,oM⟩,x.has1,x.has2,x.p1,x.p2,x.q1,x.q2,elA hx (by simp[z5]) rfl,⟨oM,oM⟩,y.has1,y.has2,y.p1,y.p2,y.q1,y.q2,elA hy (by simp[z5]) rfl,?_⟩;rw[e0]
 (repeat'(first|exact rfl|exact trivial|assumption|apply au|refineλ(_:Unit) (_:True)=>?_|refine ar () ?_|omega|(dsimp only;omega)))
 all_goals
  refine Cv.cnd.mk (λc1=> ?_) (λc1=>Cv.cnd.mk (λc2=> ?_) (λc2=> ?_))
  ·have c1:x.has1=aq:=by simpa using c1
   simp only[c1,y8m,y5v,if_false,y5y];exact kp
  ·have c2:y.has1=aq:=by simpa using c2
   simp only[c2,xAf,y8m,y5v,if_false,y5y];exact kp
  ·have c1:x.has1=ap:=by simpa using c1
   have c2:y.has1=ap:=by simpa using c2
   simp only[c1,c2,y7y,yLv];refine⟨⟨x.p1,y.p1⟩,?_⟩
   (repeat'(first|exact rfl|exact trivial|assumption|apply au|refineλ(_:Unit) (_:True)=>?_|refine ar () ?_|omega|(dsimp only;omega)))
   refine Cv.cnd.mk (λc3=> ?_) (λc3=> ?_)
   ·have c3:i.less=ap:=c3;simp only[c3,if_true];refine⟨⟨y.p1,x.p1⟩,?_⟩
    (repeat'(first|exact rfl|exact trivial|assumption|apply au|refineλ(_:Unit) (_:True)=>?_|refine ar () ?_|omega|(dsimp only;omega)))
    refine Cv.cnd.mk (λc4=> ?_) (λc4=> ?_)
    ·have c4:(h9 y.p1 x.p1).2=ap:=c4;simp only[c4,if_true,y5l];exact kp
    ·have c4:(h9 y.p1 x.p1).2=aq:=c4;simp only[c4,y5v,if_false,y5y];exact kp
   ·have c3:i.less=aq:=c3;simp only[c3,y5v,if_false];refine Cv.cnd.mk (λc4=> ?_) (λc4=> ?_)
    ·have c4:(u7 x.p1 y.p1).2=ap:=c4;simp only[c4,if_true,y5l];exact kp
    ·have c4:(u7 x.p1 y.p1).2=aq:=c4;simp only[c4,y5v,if_false,y5y];exact kp
def yMu:mk11.ok Tryz.prog 198:=okw mixed (gokc zTt (gokc zUo gok0)) 0 (λ_=>[]) (λ_=>[]) [] Tryz.func198 yZe
def y1g (i:MkI) (h:mk12.cnd i):yRa i:=by
 obtain⟨a0,a1,b0,b1,⟨ht,hp⟩,ho⟩:0<=i.a/\i.a<i.tops.length/\0<=i.b/\i.b<i.tops.length/\vI i.tops/\i.out.length<=1000:=h;obtain⟨x,hx⟩:=yE (l:=i.tops) (i:=i.a.toNat) oM;obtain⟨y,hy⟩:=yE (l:=i.tops) (i:=i.b.toNat) oM;obtain⟨⟨px1,px2⟩,px3,px4⟩:=hp x (y5m hx);obtain⟨⟨py1,py2⟩,py3,py4⟩:=hp y (y5m hy);have e0:mkq i.tops ⟨i.a,1⟩ ⟨i.b,2⟩ i.less=if x.has1 && y.has2 && (if i.less then h9 y.p2 x.p1 else u7 x.p1 y.p2).2 then[⟨(if i.less then h9 y.p2 x.p1 else u7 x.p1 y.p2).1,min x.q1 y.q2,⟨i.a,1⟩,⟨i.b,2⟩⟩]else[]:=by
  simp only[mkq,y5k,hx,hy,y7n];rfl
 unfold yRa zNk nV zBg jG jE x9 jH qP dI;simp only[y5c];refine⟨⟨oM,oM⟩,x.has1,x.has2,x.p1,x.p2,x.q1,x.q2,elA hx (by simp[z5]) rfl,⟨oM,oM⟩,y.has1,y.has2,y.p1,y.p2,y.q1,y.q2,elA hy (by simp[z5]) rfl,?_⟩;rw[e0]
 (repeat'(first|exact rfl|exact trivial|assumption|apply au|refineλ(_:Unit) (_:True)=>?_|refine ar () ?_|omega|(dsimp only;omega)))
 all_goals
  refine Cv.cnd.mk (λc1=> ?_) (λc1=>Cv.cnd.mk (λc2=> ?_) (λc2=> ?_))
  ·have c1:x.has1=aq:=by simpa using c1
   simp only[c1,y8m,y5v,if_false,y5y];exact kp
  ·have c2:y.has2=aq:=by simpa using c2
   simp only[c2,xAf,y8m,y5v,if_false,y5y];exact kp
  ·have c1:x.has1=ap:=by simpa using c1
   have c2:y.has2=ap:=by simpa using c2
   simp only[c1,c2,y7y,yLv];refine⟨⟨x.p1,y.p2⟩,?_⟩
   (repeat'(first|exact rfl|exact trivial|assumption|apply au|refineλ(_:Unit) (_:True)=>?_|refine ar () ?_|omega|(dsimp only;omega)))
   refine Cv.cnd.mk (λc3=> ?_) (λc3=> ?_)
   ·have c3:i.less=ap:=c3;simp only[c3,if_true];refine⟨⟨y.p2,x.p1⟩,?_⟩
    (repeat'(first|exact rfl|exact trivial|assumption|apply au|refineλ(_:Unit) (_:True)=>?_|refine ar () ?_|omega|(dsimp only;omega)))
    refine Cv.cnd.mk (λc4=> ?_) (λc4=> ?_)
    ·have c4:(h9 y.p2 x.p1).2=ap:=c4;simp only[c4,if_true,y5l];exact kp
    ·have c4:(h9 y.p2 x.p1).2=aq:=c4;simp only[c4,y5v,if_false,y5y];exact kp
   ·have c3:i.less=aq:=c3;simp only[c3,y5v,if_false];refine Cv.cnd.mk (λc4=> ?_) (λc4=> ?_)
    ·have c4:(u7 x.p1 y.p2).2=ap:=c4;simp only[c4,if_true,y5l];exact kp
    ·have c4:(u7 x.p1 y.p2).2=aq:=c4;simp only[c4,y5v,if_false,y5y];exact kp
def yMl:mk12.ok Tryz.prog 198:=okw mixed (gokc zTt (gokc zUo gok0)) 0 (λ_=>[]) (λ_=>[]) [] Tryz.func198 y1g
def y1t (i:MkI) (h:mk21.cnd i):yQm i:=by
 obtain⟨a0,a1,b0,b1,⟨ht,hp⟩,ho⟩:0<=i.a/\i.a<i.tops.length/\0<=i.b/\i.b<i.tops.length/\vI i.tops/\i.out.length<=1000:=h;obtain⟨x,hx⟩:=yE (l:=i.tops) (i:=i.a.toNat) oM;obtain⟨y,hy⟩:=yE (l:=i.tops) (i:=i.b.toNat) oM;obtain⟨⟨px1,px2⟩,px3,px4⟩:=hp x (y5m hx);obtain⟨⟨py1,py2⟩,py3,py4⟩:=hp y (y5m hy);have e0:mkq i.tops ⟨i.a,2⟩ ⟨i.b,1⟩ i.less=if x.has2 && y.has1 && (if i.less then h9 y.p1 x.p2 else u7 x.p2 y.p1).2 then[⟨(if i.less then h9 y.p1 x.p2 else u7 x.p2 y.p1).1,min x.q2 y.q1,⟨i.a,2⟩,⟨i.b,1⟩⟩]else[]:=by
  simp only[mkq,y5k,hx,hy,y7n];rfl
 unfold yQm zMf pA zBi jG jE x9 jH qP dI;simp only[y5c];refine⟨⟨oM,oM⟩,x.has1,x.has2,x.p1,x.p2,x.q1,x.q2,elA hx (by simp[z5]) rfl,⟨oM,oM⟩,y.has1,y.has2,y.p1,y.p2,y.q1,y.q2,elA hy (by simp[z5]) rfl,?_⟩;rw[e0]
 (repeat'(first|exact rfl|exact trivial|assumption|apply au|refineλ(_:Unit) (_:True)=>?_|refine ar () ?_|omega|(dsimp only;omega)))
 all_goals
  refine Cv.cnd.mk (λc1=> ?_) (λc1=>Cv.cnd.mk (λc2=> ?_) (λc2=> ?_))
  ·have c1:x.has2=aq:=by simpa using c1
   simp only[c1,y8m,y5v,if_false,y5y];exact kp
  ·have c2:y.has1=aq:=by simpa using c2
   simp only[c2,xAf,y8m,y5v,if_false,y5y];exact kp
  ·have c1:x.has2=ap:=by simpa using c1
   have c2:y.has1=ap:=by simpa using c2
   simp only[c1,c2,y7y,yLv];refine⟨⟨x.p2,y.p1⟩,?_⟩
   (repeat'(first|exact rfl|exact trivial|assumption|apply au|refineλ(_:Unit) (_:True)=>?_|refine ar () ?_|omega|(dsimp only;omega)))
   refine Cv.cnd.mk (λc3=> ?_) (λc3=> ?_)
   ·have c3:i.less=ap:=c3;simp only[c3,if_true];refine⟨⟨y.p1,x.p2⟩,?_⟩
    (repeat'(first|exact rfl|exact trivial|assumption|apply au|refineλ(_:Unit) (_:True)=>?_|refine ar () ?_|omega|(dsimp only;omega)))
    refine Cv.cnd.mk (λc4=> ?_) (λc4=> ?_)
    ·have c4:(h9 y.p1 x.p2).2=ap:=c4;simp only[c4,if_true,y5l];exact kp
    ·have c4:(h9 y.p1 x.p2).2=aq:=c4;simp only[c4,y5v,if_false,y5y];exact kp
   ·have c3:i.less=aq:=c3;simp only[c3,y5v,if_false];refine Cv.cnd.mk (λc4=> ?_) (λc4=> ?_)
    ·have c4:(u7 x.p2 y.p1).2=ap:=c4;simp only[c4,if_true,y5l];exact kp
    ·have c4:(u7 x.p2 y.p1).2=aq:=c4;simp only[c4,y5v,if_false,y5y];exact kp
def yNg:mk21.ok Tryz.prog 198:=okw mixed (gokc zTt (gokc zUo gok0)) 0 (λ_=>[]) (λ_=>[]) [] Tryz.func198 y1t
def yZk (i:MkI) (h:mk22.cnd i):yQw i:=by
 obtain⟨a0,a1,b0,b1,⟨ht,hp⟩,ho⟩:0<=i.a/\i.a<i.tops.length/\0<=i.b/\i.b<i.tops.length/\vI i.tops/\i.out.length<=1000:=h;obtain⟨x,hx⟩:=yE (l:=i.tops) (i:=i.a.toNat) oM;obtain⟨y,hy⟩:=yE (l:=i.tops) (i:=i.b.toNat) oM;obtain⟨⟨px1,px2⟩,px3,px4⟩:=hp x (y5m hx);obtain⟨⟨py1,py2⟩,py3,py4⟩:=hp y (y5m hy);have e0:mkq i.tops ⟨i.a,2⟩ ⟨i.b,2⟩ i.less=if x.has2 && y.has2 && (if i.less then h9 y.p2 x.p2 else u7 x.p2 y.p2).2 then[⟨(if i.less then h9 y.p2 x.p2 else u7 x.p2 y.p2).1,min x.q2 y.q2,⟨i.a,2⟩,⟨i.b,2⟩⟩]else[]:=by
  simp only[mkq,y5k,hx,hy,y7n];rfl
 unfold yQw zNa pP lU jG jE x9 jH qP dI;simp only[y5c];refine⟨⟨oM,oM⟩,x.has1,x.has2,x.p1,x.p2,x.q1,x.q2,elA hx (by simp[z5]) rfl,⟨oM,oM⟩,y.has1,y.has2,y.p1,y.p2,y.q1,y.q2,elA hy (by simp[z5]) rfl,?_⟩;rw[e0]
 (repeat'(first|exact rfl|exact trivial|assumption|apply au|refineλ(_:Unit) (_:True)=>?_|refine ar () ?_|omega|(dsimp only;omega)))
 all_goals
  refine Cv.cnd.mk (λc1=> ?_) (λc1=>Cv.cnd.mk (λc2=> ?_) (λc2=> ?_))
  ·have c1:x.has2=aq:=by simpa using c1
   simp only[c1,y8m,y5v,if_false,y5y];exact kp
  ·have c2:y.has2=aq:=by simpa using c2
   simp only[c2,xAf,y8m,y5v,if_false,y5y];exact kp
  ·have c1:x.has2=ap:=by simpa using c1
   have c2:y.has2=ap:=by simpa using c2
   simp only[c1,c2,y7y,yLv];refine⟨⟨x.p2,y.p2⟩,?_⟩
   (repeat'(first|exact rfl|exact trivial|assumption|apply au|refineλ(_:Unit) (_:True)=>?_|refine ar () ?_|omega|(dsimp only;omega)))
   refine Cv.cnd.mk (λc3=> ?_) (λc3=> ?_)
   ·have c3:i.less=ap:=c3;simp only[c3,if_true];refine⟨⟨y.p2,x.p2⟩,?_⟩
    (repeat'(first|exact rfl|exact trivial|assumption|apply au|refineλ(_:Unit) (_:True)=>?_|refine ar () ?_|omega|(dsimp only;omega)))
    refine Cv.cnd.mk (λc4=> ?_) (λc4=> ?_)
    ·have c4:(h9 y.p2 x.p2).2=ap:=c4;simp only[c4,if_true,y5l];exact kp
    ·have c4:(h9 y.p2 x.p2).2=aq:=c4;simp only[c4,y5v,if_false,y5y];exact kp
   ·have c3:i.less=aq:=c3;simp only[c3,y5v,if_false];refine Cv.cnd.mk (λc4=> ?_) (λc4=> ?_)
    ·have c4:(u7 x.p2 y.p2).2=ap:=c4;simp only[c4,if_true,y5l];exact kp
    ·have c4:(u7 x.p2 y.p2).2=aq:=c4;simp only[c4,y5v,if_false,y5y];exact kp
def yMm:mk22.ok Tryz.prog 198:=okw mixed (gokc zTt (gokc zUo gok0)) 0 (λ_=>[]) (λ_=>[]) [] Tryz.func198 yZk
structure MkJ where
 i:MkI
 sa:Bool
 sb:Bool
def mkAnyC:Con:=con1 MkJ (λj=>[.nm 0 0,.agg [zA j.i.a,zA (zC j.sa)],.agg [zA j.i.b,zA (zC j.sb)],yX j.i.less]) (λj=>MkR j.i.tops j.i.out)
 (λj=>0<=j.i.a/\j.i.a<j.i.tops.length/\0<=j.i.b/\j.i.b<j.i.tops.length/\vI j.i.tops/\j.i.out.length<=1000) (λ_=>mQ) (λj=>MkP j.i.tops (j.i.out++mkq j.i.tops ⟨j.i.a,zC j.sa⟩ ⟨j.i.b,zC j.sb⟩ j.i.less))
def zWr:mkAnyC.ok Tryz.prog 198:=λj=>match j with
 |⟨i,aq,aq⟩=>yMu i
 |⟨i,aq,ap⟩=>yMl i
 |⟨i,ap,aq⟩=>yNg i
 |⟨i,ap,ap⟩=>yMm i
structure dZ where
 p:Prd
 tops:List Top
 inst:Int
def jB (i:dZ) (s:Int) (k:Nat):List Quote:=(af k).flatMap λ(k:Nat)=>mkq i.tops ⟨(i.p.spread i.inst (i.inst+1+k)).1,s⟩ ⟨i.inst+1+k,s⟩ aq
def wI (i:dZ) (s:Int) (k:Nat):List Quote:=(af k).flatMap λ(k:Nat)=>mkq i.tops ⟨(i.p.spread k i.inst).1,3-s⟩ ⟨k,s⟩ ap
def yP (i:dZ) (s:Int):List Quote:=mkq i.tops ⟨(i.p.legs i.inst).2.1,3-s⟩ ⟨(i.p.legs i.inst).1,s⟩ ap
def cY (i:dZ) (s:Int) (q:Quote):Quote:={q with a:=⟨(i.p.legs i.inst).1,s⟩,b:=⟨(i.p.legs i.inst).2.1,3-s⟩}
def kI (i:dZ) (s:Int):List Quote:=
 if i.p.count=0\/(i.tops.length:Int)≠i.p.count\/i.inst<0\/(i.p.count:Int)<=i.inst then[]
 else if(i.p.legs i.inst).2.2 then(yP i s).map (cY i s)
 else jB i s (i.p.months.length-(i.inst.toNat+1))++wI i s i.inst.toNat
def yRt (s:Int):Con:=con1 dZ (λi=>[prdV i.p,roV 6 (i.tops.map z5),zA i.inst,zA s]) (λ_=>[]) (λi=>i.p.small/\vI i.tops) (λ_=> .own 0) (λi=>[.own 259 6 ((kI i s).map zJ)])
def all1C:Con:=yRt 1
def all2C:Con:=yRt 2
def yYt (i:dZ) (s:Int):List SAnn:=[
 {ι:=Nat,slots:=λk=>[(10,.nm 0 0),(77,zA k)],rows:=λk=>(af 3).map (MkU (i.tops,((yP i s).take k).map (cY i s)++(yP i s).drop k))},
 {ι:=Nat,slots:=λk=>[(10,.nm 0 0),(17,zA (i.inst+1+k))],rows:=λk=>MkR i.tops (jB i s k)},
 {ι:=Nat,slots:=λk=>[(10,.nm 0 0),(120,zA k)],rows:=λk=>MkR i.tops (jB i s (i.p.months.length-(i.inst.toNat+1))++wI i s k)}]
structure lH where
 i:dZ
 s:Bool
def allC:Con:=con1 lH (λj=>[prdV j.i.p,roV 6 (j.i.tops.map z5),zA j.i.inst,zA (zC j.s)]) (λ_=>[]) (λj=>j.i.p.small/\vI j.i.tops) (λ_=> .own 0) (λj=>[.own 259 6 ((kI j.i (zC j.s)).map zJ)])
def xZ (i:dZ) (s:Int):List Quote:=(kI i s).filter λq=>decide (i.p.price i.inst q.price=0)
def quotesC:Con:=con1 lH (λj=>[prdV j.i.p,roV 6 (j.i.tops.map z5),zA j.i.inst,zA (zC j.s)]) (λ_=>[]) (λj=>j.i.p.small/\vI j.i.tops) (λ_=> .own 0) (λj=>[.own 259 6 ((xZ j.i (zC j.s)).map zJ)])
def yLc (j:lH):List SAnn:=[{ι:=Nat,slots:=λk=>[(9,.own 0),(18,zA k)],rows:=λk=>[.own 259 6 ((((kI j.i (zC j.s)).take k).filter λq=>decide (j.i.p.price j.i.inst q.price=0)).map zJ)]}]
structure BsI where
 l:List Quote
 s:Int
def zU (l:List Quote) (s:Int):Quote×Bool:=match l with
 |[]=>(yUi,aq)
 |q::r=>(r.foldl (λb q=>if btr s q.price b.price then q else b) q,ap)
def bestQC:Con:=con1 BsI (λi=>[roV 6 (i.l.map zJ),zA i.s]) (λ_=>[]) (λi=>(i.s=1\/i.s=2)/\i.l.length<=1000000) (λi=> .tup [zUl (zU i.l i.s).1,yX (zU i.l i.s).2]) (λ_=>[])
def yUk (i:BsI):List SAnn:=[{ι:=Nat,slots:=λk=>[(6,.nm 0 0),(26,zA k)],rows:=λk=>[.cells (zUl (zU (i.l.take (max k 1)) i.s).1).cl 259]}]
def pE (a:dZ):Prop:=ag 6 (aa z5 a.tops)=ag 6 (aa z5 a.tops)/\rE (ak [V.d (D.v (be (sb a.p.code))),V.own 0,V.d (dI a.p.tick),V.d (dI a.p.low),V.d (dI a.p.high),V.d (dI a.p.wide),V.d (dI a.p.rule),V.d (dI a.p.top),V.d (dI a.p.least),V.d (dI a.p.part),V.own 1] 25)/\rE (ag 1 (iE a.p.settle))/\rE (ag 1 (iE a.p.months))
def zEo (a:Nat->Prop) (b:Nat) (c:Nat->Nat) (d:Nat) (e:dZ):Prop:=a b/\c b<c d/\rE (ag 6 (aa z5 e.tops))/\pE e
def zFh (a:Nat->Prop) (b:Nat) (c:Nat->Nat) (d:Nat) (e:dZ):Prop:=a b/\c b<c d/\pE e
def fD (a:Top):Prop:=((-9223372036854775808)<=a.p1/\a.p1<=9223372036854775807)/\(-9223372036854775808)<=a.p2/\a.p2<=9223372036854775807
def gZ (a:MkJ):Prop:=0<=a.i.a/\a.i.a<(↑a.i.tops.length:Int)/\0<=a.i.b/\a.i.b<(↑a.i.tops.length:Int)/\(a.i.tops.length<=1000000/\∀(b:Top),b∈a.i.tops->fD b)/\a.i.out.length<=1000
def uJ (a:MkJ):=(a.i.out++mkq a.i.tops (Leg.mk a.i.a (zC a.sa)) (Leg.mk a.i.b (zC a.sb)) a.i.less)
def zAx (a:Nat) (b:MkJ):=(decide ((↑a:Int)<(↑(aa zJ (uJ b)).length:Int)))
def x7 (a:tO):Prop:=a.p.code.length<=1099511627776/\a.p.months.length<=1099511627776/\a.p.settle.length<=1099511627776
def jI (a:cL):Prop:=a.p.code.length<=1099511627776/\a.p.months.length<=1099511627776/\a.p.settle.length<=1099511627776
def nN (a:dZ) (b:Nat):=(aa (cY a 1) (ab b (yP a 1))++ac b (yP a 1))
def l7 (a:dZ) (b:Nat):=(aa zJ (nN a b))
def pW (a:dZ) (b:Nat):=(jB a 1 (a.p.months.length-(a.inst.toNat+1))++wI a 1 b)
def vD (a:cL):=((a.p.legs a.n).snd.fst)
def yRl (i:dZ):Prop:=
 ∃(a:Prd),sb a.code=sb i.p.code/\iE a.months=iE i.p.months/\a.tick=i.p.tick/\a.low=i.p.low/\a.high=i.p.high/\a.wide=i.p.wide/\a.rule=i.p.rule/\a.top=i.p.top/\a.least=i.p.least/\a.part=i.p.part/\iE a.settle=iE i.p.settle/\(yD a)/\∀(b:Unit),True->cnd ((↑a.count:Int)==0) (∃(c:Unit),aa zJ (kI i 1)=[]/\True) (cnd ((↑(aa z5 i.tops).length:Int) !=(↑a.count:Int)) (∃(c:Unit),aa zJ (kI i 1)=[]/\True) (cnd (decide (i.inst<0)) (∃(c:Unit),aa zJ (kI i 1)=[]/\True) (cnd (decide (i.inst>=(↑a.count:Int))) (∃(c:Unit),aa zJ (kI i 1)=[]/\True) (∃(c:cL),sb c.p.code=sb i.p.code/\iE c.p.months=iE i.p.months/\c.p.tick=i.p.tick/\c.p.low=i.p.low/\c.p.high=i.p.high/\c.p.wide=i.p.wide/\c.p.rule=i.p.rule/\c.p.top=i.p.top/\c.p.least=i.p.least/\c.p.part=i.p.part/\iE c.p.settle=iE i.p.settle/\c.n=i.inst/\(jI c)/\∀(d:Unit),True->cnd (c.p.legs c.n).snd.snd (∃(e:Int),e=1/\(e=1\/e=2)/\∀(f:Unit),True->∃(g:MkJ),g.i.a=(c.p.legs c.n).snd.fst/\zC g.sa=3-e/\g.i.b=(c.p.legs c.n).fst/\zC g.sb=1/\g.i.less=ap/\ag 6 (aa z5 g.i.tops)=ag 6 (aa z5 i.tops)/\aa zJ g.i.out=[]/\(gZ g)/\∀(h:Unit),True->∃(j:Nat),(↑j:Int)=0/\ag 6 (aa z5 i.tops)=ag 6 (aa z5 g.i.tops)/\aa zJ (nN i j)=aa zJ (uJ g)/\∃(k:Nat->Prop),∃(l:Nat->Nat),k j/\∀(m:Nat),k m->cnd (zAx m g) ((0<=(↑m:Int)/\(↑m:Int)<(↑(l7 i m).length:Int))/\(↑m:Int).toNat<(l7 i m).length/\∃(n:Nat),(↑n:Int)=ao.wrap ((↑m:Int)+1)/\rE (ag 6 (aa z5 i.tops))/\aa zJ (nN i n)=zV (l7 i m) (↑m:Int).toNat 2 [dI ((c.p.legs c.n).fst),dI 1,dI (vD c),dI (3-e)]/\k n/\l n<l m/\rE (ag 6 (aa z5 g.i.tops))/\rE (ak [V.d (dI (vD c)),V.d (dI (3-e))] 256)/\rE (ak [V.d (dI ((c.p.legs c.n).fst)),V.d (dI 1)] 256)/\pE i) (∃(n:Unit),aa zJ (kI i 1)=aa zJ (nN i m)/\True)) (∃(e:Nat),i.inst+1+(↑e:Int)=ao.wrap (i.inst+1)/\rE (ag 6 (aa z5 i.tops))/\aa zJ (jB i 1 e)=[]/\∃(f:Nat->Prop),∃(g:Nat->Nat),f e/\∀(h:Nat),f h->cnd (decide (i.inst+1+(↑h:Int)<(↑(iE i.p.months).length:Int))) (∃(j:tO),sb j.p.code=sb i.p.code/\iE j.p.months=iE i.p.months/\j.p.tick=i.p.tick/\j.p.low=i.p.low/\j.p.high=i.p.high/\j.p.wide=i.p.wide/\j.p.rule=i.p.rule/\j.p.top=i.p.top/\j.p.least=i.p.least/\j.p.part=i.p.part/\iE j.p.settle=iE i.p.settle/\j.a=i.inst/\j.b=i.inst+1+(↑h:Int)/\(x7 j)/\∀(k:Unit),True->∃(l:MkJ),l.i.a=(j.p.spread j.a j.b).fst/\zC l.sa=1/\l.i.b=i.inst+1+(↑h:Int)/\zC l.sb=1/\l.i.less=aq/\ag 6 (aa z5 l.i.tops)=ag 6 (aa z5 i.tops)/\aa zJ l.i.out=aa zJ (jB i 1 h)/\(gZ l)/\∀(m:Unit),True->∃(n:Nat),i.inst+1+(↑n:Int)=ao.wrap (i.inst+1+(↑h:Int)+1)/\ag 6 (aa z5 i.tops)=ag 6 (aa z5 l.i.tops)/\aa zJ (jB i 1 n)=aa zJ (uJ l)/\zFh f n g h i) (∃(j:Nat),(↑j:Int)=0/\rE (ag 6 (aa z5 i.tops))/\aa zJ (pW i j)=aa zJ (jB i 1 h)/\∃(k:Nat->Prop),∃(l:Nat->Nat),k j/\∀(m:Nat),k m->cnd (decide ((↑m:Int)<i.inst)) (∃(n:tO),sb n.p.code=sb i.p.code/\iE n.p.months=iE i.p.months/\n.p.tick=i.p.tick/\n.p.low=i.p.low/\n.p.high=i.p.high/\n.p.wide=i.p.wide/\n.p.rule=i.p.rule/\n.p.top=i.p.top/\n.p.least=i.p.least/\n.p.part=i.p.part/\iE n.p.settle=iE i.p.settle/\n.a=(↑m:Int)/\n.b=i.inst/\(x7 n)/\∀(p:Unit),True->∃(q:Int),q=1/\(q=1\/q=2)/\∀(r:Unit),True->∃(s:MkJ),s.i.a=(n.p.spread n.a n.b).fst/\zC s.sa=3-q/\s.i.b=(↑m:Int)/\zC s.sb=1/\s.i.less=ap/\ag 6 (aa z5 s.i.tops)=ag 6 (aa z5 i.tops)/\aa zJ s.i.out=aa zJ (pW i m)/\(gZ s)/\∀(t:Unit),True->∃(u:Nat),(↑u:Int)=ao.wrap ((↑m:Int)+1)/\ag 6 (aa z5 i.tops)=ag 6 (aa z5 s.i.tops)/\aa zJ (pW i u)=aa zJ (uJ s)/\zEo k u l m i) (∃(n:Unit),aa zJ (kI i 1)=aa zJ (pW i m)/\True)))))))
def nT (a:dZ) (b:Nat):=(aa (cY a 2) (ab b (yP a 2))++ac b (yP a 2))
def zBe (a:dZ) (b:Nat):=(aa zJ (nT a b))
def nO (a:dZ) (b:Nat):=(jB a 2 (a.p.months.length-(a.inst.toNat+1))++wI a 2 b)
def yRk (i:dZ):Prop:=
 ∃(a:Prd),sb a.code=sb i.p.code/\iE a.months=iE i.p.months/\a.tick=i.p.tick/\a.low=i.p.low/\a.high=i.p.high/\a.wide=i.p.wide/\a.rule=i.p.rule/\a.top=i.p.top/\a.least=i.p.least/\a.part=i.p.part/\iE a.settle=iE i.p.settle/\(yD a)/\∀(b:Unit),True->cnd ((↑a.count:Int)==0) (∃(c:Unit),aa zJ (kI i 2)=[]/\True) (cnd ((↑(aa z5 i.tops).length:Int) !=(↑a.count:Int)) (∃(c:Unit),aa zJ (kI i 2)=[]/\True) (cnd (decide (i.inst<0)) (∃(c:Unit),aa zJ (kI i 2)=[]/\True) (cnd (decide (i.inst>=(↑a.count:Int))) (∃(c:Unit),aa zJ (kI i 2)=[]/\True) (∃(c:cL),sb c.p.code=sb i.p.code/\iE c.p.months=iE i.p.months/\c.p.tick=i.p.tick/\c.p.low=i.p.low/\c.p.high=i.p.high/\c.p.wide=i.p.wide/\c.p.rule=i.p.rule/\c.p.top=i.p.top/\c.p.least=i.p.least/\c.p.part=i.p.part/\iE c.p.settle=iE i.p.settle/\c.n=i.inst/\(jI c)/\∀(d:Unit),True->cnd (c.p.legs c.n).snd.snd (∃(e:Int),e=2/\(e=1\/e=2)/\∀(f:Unit),True->∃(g:MkJ),g.i.a=(c.p.legs c.n).snd.fst/\zC g.sa=3-e/\g.i.b=(c.p.legs c.n).fst/\zC g.sb=2/\g.i.less=ap/\ag 6 (aa z5 g.i.tops)=ag 6 (aa z5 i.tops)/\aa zJ g.i.out=[]/\(gZ g)/\∀(h:Unit),True->∃(j:Nat),(↑j:Int)=0/\ag 6 (aa z5 i.tops)=ag 6 (aa z5 g.i.tops)/\aa zJ (nT i j)=aa zJ (uJ g)/\∃(k:Nat->Prop),∃(l:Nat->Nat),k j/\∀(m:Nat),k m->cnd (zAx m g) ((0<=(↑m:Int)/\(↑m:Int)<(↑(zBe i m).length:Int))/\(↑m:Int).toNat<(zBe i m).length/\∃(n:Nat),(↑n:Int)=ao.wrap ((↑m:Int)+1)/\rE (ag 6 (aa z5 i.tops))/\aa zJ (nT i n)=zV (zBe i m) (↑m:Int).toNat 2 [dI ((c.p.legs c.n).fst),dI 2,dI (vD c),dI (3-e)]/\k n/\l n<l m/\rE (ag 6 (aa z5 g.i.tops))/\rE (ak [V.d (dI (vD c)),V.d (dI (3-e))] 256)/\rE (ak [V.d (dI ((c.p.legs c.n).fst)),V.d (dI 2)] 256)/\pE i) (∃(n:Unit),aa zJ (kI i 2)=aa zJ (nT i m)/\True)) (∃(e:Nat),i.inst+1+(↑e:Int)=ao.wrap (i.inst+1)/\rE (ag 6 (aa z5 i.tops))/\aa zJ (jB i 2 e)=[]/\∃(f:Nat->Prop),∃(g:Nat->Nat),f e/\∀(h:Nat),f h->cnd (decide (i.inst+1+(↑h:Int)<(↑(iE i.p.months).length:Int))) (∃(j:tO),sb j.p.code=sb i.p.code/\iE j.p.months=iE i.p.months/\j.p.tick=i.p.tick/\j.p.low=i.p.low/\j.p.high=i.p.high/\j.p.wide=i.p.wide/\j.p.rule=i.p.rule/\j.p.top=i.p.top/\j.p.least=i.p.least/\j.p.part=i.p.part/\iE j.p.settle=iE i.p.settle/\j.a=i.inst/\j.b=i.inst+1+(↑h:Int)/\(x7 j)/\∀(k:Unit),True->∃(l:MkJ),l.i.a=(j.p.spread j.a j.b).fst/\zC l.sa=2/\l.i.b=i.inst+1+(↑h:Int)/\zC l.sb=2/\l.i.less=aq/\ag 6 (aa z5 l.i.tops)=ag 6 (aa z5 i.tops)/\aa zJ l.i.out=aa zJ (jB i 2 h)/\(gZ l)/\∀(m:Unit),True->∃(n:Nat),i.inst+1+(↑n:Int)=ao.wrap (i.inst+1+(↑h:Int)+1)/\ag 6 (aa z5 i.tops)=ag 6 (aa z5 l.i.tops)/\aa zJ (jB i 2 n)=aa zJ (uJ l)/\zFh f n g h i) (∃(j:Nat),(↑j:Int)=0/\rE (ag 6 (aa z5 i.tops))/\aa zJ (nO i j)=aa zJ (jB i 2 h)/\∃(k:Nat->Prop),∃(l:Nat->Nat),k j/\∀(m:Nat),k m->cnd (decide ((↑m:Int)<i.inst)) (∃(n:tO),sb n.p.code=sb i.p.code/\iE n.p.months=iE i.p.months/\n.p.tick=i.p.tick/\n.p.low=i.p.low/\n.p.high=i.p.high/\n.p.wide=i.p.wide/\n.p.rule=i.p.rule/\n.p.top=i.p.top/\n.p.least=i.p.least/\n.p.part=i.p.part/\iE n.p.settle=iE i.p.settle/\n.a=(↑m:Int)/\n.b=i.inst/\(x7 n)/\∀(p:Unit),True->∃(q:Int),q=2/\(q=1\/q=2)/\∀(r:Unit),True->∃(s:MkJ),s.i.a=(n.p.spread n.a n.b).fst/\zC s.sa=3-q/\s.i.b=(↑m:Int)/\zC s.sb=2/\s.i.less=ap/\ag 6 (aa z5 s.i.tops)=ag 6 (aa z5 i.tops)/\aa zJ s.i.out=aa zJ (nO i m)/\(gZ s)/\∀(t:Unit),True->∃(u:Nat),(↑u:Int)=ao.wrap ((↑m:Int)+1)/\ag 6 (aa z5 i.tops)=ag 6 (aa z5 s.i.tops)/\aa zJ (nO i u)=aa zJ (uJ s)/\zEo k u l m i) (∃(n:Unit),aa zJ (kI i 2)=aa zJ (nO i m)/\True)))))))
def jP (a:lH):=(aa zJ (kI a.i (zC a.s)))
def zDn (a:Nat->Prop) (b:Nat) (c:Nat->Nat) (d:Nat) (e:lH) (f:lH):Prop:=a b/\c b<c d/\rE (am 259 6 (jP e))/\rE (ak [V.d (D.v (be (sb f.i.p.code))),V.own 0,V.d (dI f.i.p.tick),V.d (dI f.i.p.low),V.d (dI f.i.p.high),V.d (dI f.i.p.wide),V.d (dI f.i.p.rule),V.d (dI f.i.p.top),V.d (dI f.i.p.least),V.d (dI f.i.p.part),V.own 1] 25)/\rE (ag 1 (iE f.i.p.settle))/\rE (ag 1 (iE f.i.p.months))
def kF (a:lH):Prop:=(a.i.p.code.length<=1099511627776/\a.i.p.months.length<=1099511627776/\a.i.p.settle.length<=1099511627776)/\a.i.tops.length<=1000000/\∀(b:Top),b∈a.i.tops->fD b
def fE (a:lH):=(↑(jP a).length:Int)
def z5d (j:lH):Prop:=
 ∃(a:lH),sb a.i.p.code=sb j.i.p.code/\iE a.i.p.months=iE j.i.p.months/\a.i.p.tick=j.i.p.tick/\a.i.p.low=j.i.p.low/\a.i.p.high=j.i.p.high/\a.i.p.wide=j.i.p.wide/\a.i.p.rule=j.i.p.rule/\a.i.p.top=j.i.p.top/\a.i.p.least=j.i.p.least/\a.i.p.part=j.i.p.part/\iE a.i.p.settle=iE j.i.p.settle/\aa z5 a.i.tops=aa z5 j.i.tops/\a.i.inst=j.i.inst/\zC a.s=zC j.s/\(kF a)/\∀(b:Unit),True->∃(c:Nat),(↑c:Int)=0/\aa zJ (ae (λ(q:Sx.Quote) ↦ decide (j.i.p.price j.i.inst q.price=0)) (ab c (kI j.i (zC j.s))))=[]/\∃(d:Nat->Prop),∃(e:Nat->Nat),d c/\∀(f:Nat),d f->cnd (decide ((↑f:Int)<(fE a))) ((0<=(↑f:Int)/\(↑f:Int)<(fE a))/\∃(g:Int),∃(h:Int),∃(k:Int),∃(l:Int),∃(m:Int),∃(n:Int),zE (jP a) (↑f:Int).toNat 0 6=az [dI g,dI h,dI k,dI l,dI m,dI n]/\∃(p:tO),sb p.p.code=sb j.i.p.code/\iE p.p.months=iE j.i.p.months/\p.p.tick=j.i.p.tick/\p.p.low=j.i.p.low/\p.p.high=j.i.p.high/\p.p.wide=j.i.p.wide/\p.p.rule=j.i.p.rule/\p.p.top=j.i.p.top/\p.p.least=j.i.p.least/\p.p.part=j.i.p.part/\iE p.p.settle=iE j.i.p.settle/\p.a=j.i.inst/\p.b=g/\(x7 p)/\∀(q:Unit),True->cnd (p.p.price p.a p.b==0) (((aa zJ (ae (λ(q:Sx.Quote) ↦ decide (j.i.p.price j.i.inst q.price=0)) (ab f (kI j.i (zC j.s))))).length+1)*(48:Nat)<=(140737488355328:Nat)/\∃(r:Nat),(↑r:Int)=ao.wrap ((↑f:Int)+1)/\aa zJ (ae (λ(q:Sx.Quote) ↦ decide (j.i.p.price j.i.inst q.price=0)) (ab r (kI j.i (zC j.s))))=aa zJ (ae (λ(q:Sx.Quote) ↦ decide (j.i.p.price j.i.inst q.price=0)) (ab f (kI j.i (zC j.s))))++[[dI g,dI h,dI k,dI l,dI m,dI n]]/\zDn d r e f a j) (∃(r:Nat),(↑r:Int)=ao.wrap ((↑f:Int)+1)/\aa zJ (ae (λ(q:Sx.Quote) ↦ decide (j.i.p.price j.i.inst q.price=0)) (ab r (kI j.i (zC j.s))))=aa zJ (ae (λ(q:Sx.Quote) ↦ decide (j.i.p.price j.i.inst q.price=0)) (ab f (kI j.i (zC j.s))))/\zDn d r e f a j)) (∃(g:Unit),aa zJ (xZ j.i (zC j.s))=aa zJ (ae (λ(q:Sx.Quote) ↦ decide (j.i.p.price j.i.inst q.price=0)) (ab f (kI j.i (zC j.s))))/\True)
def zCv (a:Nat->Prop) (b:Nat) (c:Nat->Nat) (d:Nat):Prop:=a b/\c b<c d/\rE (ak (Sx.V.agg [V.d (dI 0),V.d (dI 0),V.d (dI 0),V.d (dI 0),V.d (dI 0),V.d (dI 0)]).cl 259)
def yB (a:Nat) (b:BsI):=(zU (ab (max a 1) b.l) b.s)
def vV (a:BsI):=(↑(aa zJ a.l).length:Int)
def zGu (a:BsI):Prop:=((0:Int)<=(0:Int)/\0<(vV a))/\∃(b:Int),∃(c:Int),∃(d:Int),∃(e:Int),∃(f:Int),∃(g:Int),zE (aa zJ a.l) (Int.toNat 0) 0 6=az [dI b,dI c,dI d,dI e,dI f,dI g]/\∃(h:Nat),(↑h:Int)=0/\(yB h a).fst.price=b/\(yB h a).fst.qty=c/\(yB h a).fst.a.inst=d/\(yB h a).fst.a.side=e/\(yB h a).fst.b.inst=f/\(yB h a).fst.b.side=g/\∃(j:Nat->Prop),∃(k:Nat->Nat),j h/\∀(l:Nat),j l->cnd (decide ((↑l:Int)<(vV a))) ((0<=(↑l:Int)/\(↑l:Int)<(vV a))/\∃(m:Int),∃(n:Int),∃(p:Int),∃(q:Int),∃(r:Int),∃(s:Int),zE (aa zJ a.l) (↑l:Int).toNat 0 6=az [dI m,dI n,dI p,dI q,dI r,dI s]/\∃(t:I3'),t.side=a.s/\t.x=m/\t.y=(yB l a).fst.price/\True/\∀(u:Unit),True->cnd (btr t.side t.x t.y) (∃(v:Nat),(↑v:Int)=ao.wrap ((↑l:Int)+1)/\(yB v a).fst.price=m/\(yB v a).fst.qty=n/\(yB v a).fst.a.inst=p/\(yB v a).fst.a.side=q/\(yB v a).fst.b.inst=r/\(yB v a).fst.b.side=s/\zCv j v k l) (∃(v:Nat),(↑v:Int)=ao.wrap ((↑l:Int)+1)/\(yB v a).fst.price=(yB l a).fst.price/\(yB v a).fst.qty=(yB l a).fst.qty/\(yB v a).fst.a.inst=(yB l a).fst.a.inst/\(yB v a).fst.a.side=(yB l a).fst.a.side/\(yB v a).fst.b.inst=(yB l a).fst.b.inst/\(yB v a).fst.b.side=(yB l a).fst.b.side/\zCv j v k l)) (∃(m:Unit),(zU a.l a.s).fst.price=(yB l a).fst.price/\(zU a.l a.s).fst.qty=(yB l a).fst.qty/\(zU a.l a.s).fst.a.inst=(yB l a).fst.a.inst/\(zU a.l a.s).fst.a.side=(yB l a).fst.a.side/\(zU a.l a.s).fst.b.inst=(yB l a).fst.b.inst/\(zU a.l a.s).fst.b.side=(yB l a).fst.b.side/\(zU a.l a.s).snd=ap/\True)
def zCh (a:BsI):Prop:=∃(b:Unit),(zU a.l a.s).fst.price=0/\(zU a.l a.s).fst.qty=0/\(zU a.l a.s).fst.a.inst=0/\(zU a.l a.s).fst.a.side=0/\(zU a.l a.s).fst.b.inst=0/\(zU a.l a.s).fst.b.side=0/\(zU a.l a.s).snd=aq/\True
def yKp (i:BsI):Prop:=
 cnd ((vV i)==0) (zCh i) (cnd (i.s !=1) (cnd (i.s !=2) (zCh i) (zGu i)) (zGu i))
def z4u {l:List Quote} {q:Quote} (s:Int) (h:l[0]? =az q):(zU (l.take (max 0 1)) s).1=q:=by
 cases l with
 |nil=>simp at h
 |cons a l=>simp at h;subst h;rfl
def z1x {l:List Quote} {j:Nat} {q:Quote} (s:Int) (h:l[j]? =az q):
 (zU (l.take (max (j+1) 1)) s).1=if btr s q.price (zU (l.take (max j 1)) s).1.price then q else(zU (l.take (max j 1)) s).1:=by
 cases l with
 |nil=>simp at h
 |cons a l=>
  cases j with
  |zero=>simp at h;subst h;simp[zU]
  |succ m=>
   simp only[y6y]at h;rw[show max (m+1+1) 1=(m+1)+1 by omega,show max (m+1) 1=m+1 by omega,y6m,y6m,y6k,h];simp only[zU,y8e,y9x];rfl
def yAt {l:List Quote} (s:Int) (h:l≠[]):(zU l s).2=ap:=by
 cases l with
 |nil=>exact absurd rfl h
 |cons a l=>rfl
def yVx (i:BsI) (h:bestQC.cnd i):yKp i:=by
 obtain⟨hs,hl⟩:(i.s=1\/i.s=2)/\i.l.length<=1000000:=h;unfold yKp zCh zGu vV yB zCv dI;simp only[y5c];refine Cv.cnd.mk (λc=> ?_) (λc=> ?_)
 ·have e:i.l=[]:=y6c (by have:(i.l.length:Int)=0:=(by simpa using c);omega);rw[e];exact kp
 have h0:0<i.l.length:=by
  rcases Nat.eq_zero_or_pos i.l.length with h|h
  ·rw[h]at c;exact absurd c Z8
  ·exact h
 have hne:i.l≠[]:=by intro e;rw[e]at h0;simp at h0
 have two:=yAt i.s hne;obtain⟨q,hq⟩:=yE h0;have b0:=z4u i.s hq;have fin:(zU (i.l.take (max i.l.length 1)) i.s).1=(zU i.l i.s).1:=by
  rw[y5n (by omega)]
 have step:∀j:Nat,j<i.l.length->∀x:Quote,i.l[j]? =az x->(btr i.s x.price (zU (i.l.take (max j 1)) i.s).1.price=ap->(zU (i.l.take (max (j+1) 1)) i.s).1=x)/\(btr i.s x.price (zU (i.l.take (max j 1)) i.s).1.price=aq->(zU (i.l.take (max (j+1) 1)) i.s).1=(zU (i.l.take (max j 1)) i.s).1):=λj hj x hx=>by
  have:=z1x i.s hx;constructor
  ·intro e;rw[this,y5d e]
  ·intro e;rw[this,y5b (by rw[e];simp)]
 refine Cv.cnd.mk (λc1=>Cv.cnd.mk (λc2=> ?_) (λc2=> ?_)) (λc1=> ?_)
 ·exfalso;have c1:i.s≠1:=by simpa using c1
  have c2:i.s≠2:=by simpa using c2
  omega
 all_goals
  refine⟨⟨oM,oM⟩,q.price,q.qty,q.a.inst,q.a.side,q.b.inst,q.b.side,elA hq (by simp[zJ]) rfl,0,?_⟩;rw[b0]
  (repeat'(first|exact rfl|exact trivial|assumption|apply au|refineλ(_:Unit) (_:True)=>?_|refine ar () ?_|omega|(dsimp only;omega)))
  refine⟨λj=>j<=i.l.length,λj=>i.l.length-j,oM,λj hj=>zH (λhlt=> ?_) (λhlt=> ?_)⟩
  ·have hj':j<i.l.length:=by omega
   obtain⟨x,hx⟩:=yE hj';obtain⟨st,sf⟩:=step j hj' x hx;refine⟨⟨oM,oM⟩,x.price,x.qty,x.a.inst,x.a.side,x.b.inst,x.b.side,elA hx (by simp[zJ]) rfl,⟨i.s,x.price,_⟩,rF3 ⟨trivial,λ_ _=>Cv.cnd.mk (λe=>⟨j+1,by rw[w64 (by omega)];rfl,?_⟩) (λe=>⟨j+1,by rw[w64 (by omega)];rfl,?_⟩)⟩⟩
   ·rw[st e];exact kp
   ·rw[sf e];exact kp
  ·have hj:j<=i.l.length:=hj;obtain rfl:j=i.l.length:=by omega
   rw[fin,two];exact kp
def zXz:bestQC.ok Tryz.prog 159:=okw mixed (gokc z4m gok0) 0 (λ_=>[]) (λi=>yUk i) [] Tryz.func159 yVx
def zGf (tops:List Top) (a b:Leg) (less:Bool):(mkq tops a b less).length<=1:=by
 unfold mkq;dsimp only;split<;>split<;>simp
def zVu {α:Type} {f:Nat->List α} (h:∀k,(f k).length<=1):∀n,((af n).flatMap f).length<=n
 |0=>by simp
 |n+1=>by
  rw[y9w,y7a,y5a];have:=zVu h n;have:=h n;simp only[y6w,xAg,y5y];omega
def zCd (i:dZ) (s:Int) (k:Nat):(jB i s k).length<=k:=zVu (λ_=>zGf _ _ _ _) k
def sU (i:dZ) (s:Int) (k:Nat):(wI i s k).length<=k:=zVu (λ_=>zGf _ _ _ _) k
def zEe (i:dZ) (s:Int):(kI i s).length<=100:=by
 unfold kI;split
 ·simp
 ·rename_i h;have hc:=xS i.p;have m6:=(kA (lN (p:=i.p) oM)).m6;split
  ·rw[y5c];have:=zGf i.tops ⟨(i.p.legs i.inst).2.1,3-s⟩ ⟨(i.p.legs i.inst).1,s⟩ ap;have e:(yP i s).length<=1:=this;omega
  ·rw[y5a];have h1:=zCd i s (i.p.months.length-(i.inst.toNat+1));have h2:=sU i s i.inst.toNat;omega
def yNn (j:lH) (h:quotesC.cnd j):z5d j:=by
 unfold z5d zDn fE jP kF fD x7 dI;obtain⟨hp,ht,hr⟩:j.i.p.small/\vI j.i.tops:=h;obtain⟨h1,h2,h3⟩:=hp;have hl:=zEe j.i (zC j.s);refine⟨j,?_⟩;simp only[y5c]
 (repeat'(first|exact rfl|exact trivial|assumption|apply au|refineλ(_:Unit) (_:True)=>?_|refine ar () ?_|omega|(dsimp only;omega)))
 refine⟨0,rfl,rfl,λk=>k<=(kI j.i (zC j.s)).length,λk=>(kI j.i (zC j.s)).length-k,oM,λk hk=>zH (λhlt=> ?_) (λhlt=> ?_)⟩
 ·have hk':k<(kI j.i (zC j.s)).length:=by omega
  obtain⟨q,hq⟩:=yE hk';have hf:(ae (λq=>decide (j.i.p.price j.i.inst q.price=0)) (ab k (kI j.i (zC j.s)))).length<=100:=by
   have:=y8n (λq:Quote=>decide (j.i.p.price j.i.inst q.price=0)) (ab k (kI j.i (zC j.s)));rw[y5t]at this;omega
  refine⟨⟨oM,oM⟩,q.price,q.qty,q.a.inst,q.a.side,q.b.inst,q.b.side,elA hq (by simp[zJ]) rfl,⟨j.i.p,j.i.inst,q.price⟩,?_⟩
  (repeat'(first|exact rfl|exact trivial|assumption|apply au|refineλ(_:Unit) (_:True)=>?_|refine ar () ?_|omega|(dsimp only;omega)))
  refine Cv.cnd.mk (λc=>⟨oM,k+1,by rw[w64 (by omega)];rfl,?_⟩) (λc=>⟨k+1,by rw[w64 (by omega)];rfl,?_⟩)
  ·have c:j.i.p.price j.i.inst q.price=0:=by simpa using c
   rw[y6k,hq,y8e,y9e,y9z (by simpa using c),y5l];exact kp
  ·have c:¬j.i.p.price j.i.inst q.price=0:=by simpa using c
   rw[y6k,hq,y8e,y9e,xAa (by simpa using c),List.filter_nil,y5y];exact kp
 ·have hk:k<=(kI j.i (zC j.s)).length:=hk;obtain rfl:k=(kI j.i (zC j.s)).length:=by omega
  rw[y5n (y5x _)];exact kp
def yAg:∀n≤6,∀a<n,∀b<n,a<b->0<=(yJ n a:Int)+b-a-1/\(yJ n a:Int)+b-a-1<((n+n*(n-1) / 2:Nat):Int):=by decide
def b7 {p:Prd} (hc:p.check=0) {a b:Nat} (hab:a<b) (hb:b<p.months.length):0<=(p.spread a b).1/\(p.spread a b).1<p.count:=by
 have m6:=(kA hc).m6;have:=yAg p.months.length m6 a oM b hb hab;rw[Prd.spread,y5b (by omega),Prd.count,y5d hc];simpa using this
def yMa:∀n≤6,∀k<n+n*(n-1) / 2,n<=k->(kK n k n 0).2.2=ap/\0<=(kK n k n 0).1/\(kK n k n 0).1<n/\0<=(kK n k n 0).2.1/\(kK n k n 0).2.1<n:=by decide
def gU {p:Prd} (hc:p.check=0) {k:Nat} (hk:k<p.count):((p.legs k).2.2=ap/\0<=(p.legs k).1/\(p.legs k).1<p.months.length/\0<=(p.legs k).2.1/\(p.legs k).2.1<p.months.length)\/((p.legs k).2.2=aq/\k<p.months.length):=by
 have m6:=(kA hc).m6;have hk':=hk;rw[Prd.count,y5d hc]at hk';by_cases h:k<p.months.length
 ·right;rw[Prd.legs,y5b (by omega),y5d (by omega)];exact⟨rfl,h⟩
 ·left;rw[Prd.legs,y5b (by omega),y5b (by omega)];exact yMa p.months.length m6 k hk' oM
def zFg {p:Prd} (hc:p.check=0):p.months.length<=p.count:=by
 rw[Prd.count,y5d hc];omega
def zXd {i:dZ} {s:Int} {k:Nat} (hk:k<(yP i s).length):aa zJ (aa (cY i s) (ab (k+1) (yP i s))++ac (k+1) (yP i s))=
 zV (aa zJ (aa (cY i s) (ab k (yP i s))++ac k (yP i s))) k (0+2) [D.v (.int .i64 (i.p.legs i.inst).1),D.v (.int .i64 s),D.v (.int .i64 (i.p.legs i.inst).2.1),D.v (.int .i64 (3-s))]:=by
 obtain⟨q,hq⟩:=yE hk;rw[zRw (a:=aa zJ (aa (cY i s) (ab k (yP i s)))) (b:=aa zJ (ac (k+1) (yP i s))) (x:=zJ q) (y:=zJ (cY i s q)) (by
  rw[y5l,y7k hk,(y5f.1 hq).2,y5q]) (by simp;omega) rfl]
 rw[y6k,hq,y8e,y5l,y5l,y5l,y5q,y8t,y5q,y8t,y5i];rfl
def yZl (i:dZ) (h:all1C.cnd i):yRl i:=by
 unfold yRl yD zFh zEo pE vD pW l7 nN jI x7 zAx uJ gZ fD dI;obtain⟨⟨h1,h2,h3⟩,ht,hr⟩:i.p.small/\vI i.tops:=h;have hto:vI i.tops:=⟨ht,hr⟩
 refine⟨i.p,?_⟩;simp only[y5c,y3]
 (repeat'(first|exact rfl|exact trivial|assumption|apply au|refineλ(_:Unit) (_:True)=>?_|refine ar () ?_|omega|(dsimp only;omega)))
 have bad (hb:i.p.count=0\/(i.tops.length:Int)≠i.p.count\/i.inst<0\/(i.p.count:Int)<=i.inst):∃(o:Unit),aa zJ (kI i 1)=[]/\True:=⟨(),by rw[kI,y5d hb];rfl,trivial⟩
 refine Cv.cnd.mk (λc1=>bad (.inl (by have c1:(i.p.count:Int)=0:=(by simpa using c1);omega))) λc1=>Cv.cnd.mk (λc2=>bad (.inr (.inl (by simpa using c2)))) λc2=>zH (λc3=>bad oM) λc3=>zH (λc4=>bad oM) λc4=>⟨⟨i.p,i.inst⟩,?_⟩
 have c1:i.p.count≠0:=by
  have c1:¬(i.p.count:Int)=0:=(by simpa using c1)
  omega
 have c2:(i.tops.length:Int)=i.p.count:=by simpa using c2
 have c4:i.inst<(i.p.count:Int):=by
  have c4:¬i.inst>=(i.p.count:Int):=c4;omega
 have hc:=lN c1;have hm:=zFg hc;have e0:kI i 1=if(i.p.legs i.inst).2.2 then(yP i 1).map (cY i 1)else jB i 1 (i.p.months.length-(i.inst.toNat+1))++wI i 1 i.inst.toNat:=by
  rw[kI,y5b (by omega)]
 obtain⟨k,hk⟩:∃k:Nat,i.inst=k:=⟨i.inst.toNat,oM⟩
 have hl:=gU hc (k:=k) oM;rw[<- hk]at hl
 (repeat'(first|exact rfl|exact trivial|assumption|apply au|refineλ(_:Unit) (_:True)=>?_|refine ar () ?_|omega|(dsimp only;omega)))
 refine Cv.cnd.mk (λc5=> ?_) (λc5=> ?_)
 ·have c5:(i.p.legs i.inst).2.2=ap:=c5;rw[e0,y5d c5];rcases hl with⟨_,l1,l2,l3,l4⟩|⟨l1,_⟩
  ·have hsl:(yP i 1).length<=1:=zGf _ _ _ _;refine⟨1,rfl,oM,λ_ _=>⟨⟨⟨i.tops,[],(i.p.legs i.inst).2.1,(i.p.legs i.inst).1,ap⟩,ap,aq⟩,rF7 ⟨⟨l3,Z9,l1,Z9,hto,by simp⟩,λ_ _=>⟨0,rF3 ⟨λj=>j<=(yP i 1).length,λj=>(yP i 1).length-j,oM,?_⟩⟩⟩⟩⟩;intro j hj;have hj:j<=(yP i 1).length:=hj;have hL:(aa (cY i 1) (ab j (yP i 1))++ac j (yP i 1)).length=(yP i 1).length:=by simp;omega
   refine zH (λhlt=> ?_) (λhlt=> ?_)
   ·have hlt:(j:Int)<((yP i 1).length:Int):=hlt;refine⟨⟨oM,by rw[hL];omega⟩,by rw[hL];omega,j+1,by rw[w64 (by omega)];rfl,kp,?_,?_⟩
    ·exact zXd (i:=i) (s:=1) oM
    ·exact kp
   ·have hlt:¬(j:Int)<((yP i 1).length:Int):=hlt;obtain rfl:j=(yP i 1).length:=by omega
    rw[y5n (y5x _),List.drop_length,y5y];exact kp
  ·rw[c5]at l1;cases l1
 ·have c5:(i.p.legs i.inst).2.2=aq:=c5;rw[e0,y5b (by rw[c5];simp)];rcases hl with⟨l1,_⟩|⟨_,l2⟩
  ·rw[c5]at l1;cases l1
  have m6:=(kA hc).m6;have e1:i.inst.toNat=k:=by omega
  rw[e1];refine⟨0,by rw[w64 (by omega)];omega,kp,rfl,λj=>j<=i.p.months.length-(k+1),λj=>i.p.months.length-(k+1)-j,oM,?_⟩;intro j hj;have hj:j<=i.p.months.length-(k+1):=hj;have hq:=zCd i 1 j;refine zH (λhlt=> ?_) (λhlt=> ?_)
  ·obtain⟨b1,b2⟩:=b7 hc (a:=k) (b:=k+1+j) oM oM;have eb:((k+1+j:Nat):Int)=i.inst+1+j:=by omega
   rw[eb,<- hk]at b1 b2;refine⟨⟨i.p,i.inst,i.inst+1+j⟩,?_⟩
   (repeat'(first|exact rfl|exact trivial|assumption|apply au|refineλ(_:Unit) (_:True)=>?_|refine ar () ?_|omega|(dsimp only;omega)))
   refine⟨⟨⟨i.tops,jB i 1 j,(i.p.spread i.inst (i.inst+1+j)).1,i.inst+1+j,aq⟩,aq,aq⟩,rF5 ⟨kp,rfl,⟨b1,Z9,Z9,Z9,hto,Z9⟩,λ_ _=>⟨j+1,by rw[w64 (by omega)];omega,kp,?_,?_⟩⟩⟩
   ·rw[jB,y9w,y7a];simp only[y6w,xAg,y5y];rfl
   ·exact kp
  ·obtain rfl:j=i.p.months.length-(k+1):=by omega
   refine⟨0,rfl,kp,by rw[wI];simp,λj=>j<=k,λj=>k-j,oM,?_⟩;intro j hj;have hj:j<=k:=hj;have hq2:=sU i 1 j;refine zH (λhlt2=> ?_) (λhlt2=> ?_)
   ·obtain⟨b1,b2⟩:=b7 hc (a:=j) (b:=k) oM oM;rw[<- hk]at b1 b2;refine⟨⟨i.p,j,i.inst⟩,?_⟩
    (repeat'(first|exact rfl|exact trivial|assumption|apply au|refineλ(_:Unit) (_:True)=>?_|refine ar () ?_|omega|(dsimp only;omega)))
    refine⟨1,rfl,oM,λ_ _=>⟨⟨⟨i.tops,jB i 1 (i.p.months.length-(k+1))++wI i 1 j,(i.p.spread j i.inst).1,j,ap⟩,ap,aq⟩,rF5 ⟨kp,rfl,⟨b1,Z9,Z9,Z9,hto,by dsimp only;rw[y5a];omega⟩,λ_ _=>⟨j+1,by rw[w64 (by omega)];omega,kp,?_,?_⟩⟩⟩⟩
    ·rw[wI,y9w,y7a];simp only[y6w,xAg,y5y,y5i];rfl
    ·exact kp
   ·obtain rfl:j=k:=by omega
    exact kp
def yNp:all1C.ok Tryz.prog 160:=okw mixed (gokc bZ (gokc zAz (gokc zQz (gokc zRi (gokc zWr gok0))))) 0 (λ_=>[]) (λi=>yYt i 1) [] Tryz.func160 yZl
def y1j (i:dZ) (h:all2C.cnd i):yRk i:=by
 unfold yRk yD nO zBe nT zFh zEo pE vD jI x7 zAx uJ gZ fD dI;obtain⟨⟨h1,h2,h3⟩,ht,hr⟩:i.p.small/\vI i.tops:=h;have hto:vI i.tops:=⟨ht,hr⟩
 refine⟨i.p,?_⟩;simp only[y5c,y3]
 (repeat'(first|exact rfl|exact trivial|assumption|apply au|refineλ(_:Unit) (_:True)=>?_|refine ar () ?_|omega|(dsimp only;omega)))
 have bad (hb:i.p.count=0\/(i.tops.length:Int)≠i.p.count\/i.inst<0\/(i.p.count:Int)<=i.inst):∃(o:Unit),aa zJ (kI i 2)=[]/\True:=⟨(),by rw[kI,y5d hb];rfl,trivial⟩
 refine Cv.cnd.mk (λc1=>bad (.inl (by have c1:(i.p.count:Int)=0:=(by simpa using c1);omega))) λc1=>Cv.cnd.mk (λc2=>bad (.inr (.inl (by simpa using c2)))) λc2=>zH (λc3=>bad oM) λc3=>zH (λc4=>bad oM) λc4=>⟨⟨i.p,i.inst⟩,?_⟩
 have c1:i.p.count≠0:=by
  have c1:¬(i.p.count:Int)=0:=(by simpa using c1)
  omega
 have c2:(i.tops.length:Int)=i.p.count:=by simpa using c2
 have c4:i.inst<(i.p.count:Int):=by
  have c4:¬i.inst>=(i.p.count:Int):=c4;omega
 have hc:=lN c1;have hm:=zFg hc;have e0:kI i 2=if(i.p.legs i.inst).2.2 then(yP i 2).map (cY i 2)else jB i 2 (i.p.months.length-(i.inst.toNat+1))++wI i 2 i.inst.toNat:=by
  rw[kI,y5b (by omega)]
 obtain⟨k,hk⟩:∃k:Nat,i.inst=k:=⟨i.inst.toNat,oM⟩
 have hl:=gU hc (k:=k) oM;rw[<- hk]at hl
 (repeat'(first|exact rfl|exact trivial|assumption|apply au|refineλ(_:Unit) (_:True)=>?_|refine ar () ?_|omega|(dsimp only;omega)))
 refine Cv.cnd.mk (λc5=> ?_) (λc5=> ?_)
 ·have c5:(i.p.legs i.inst).2.2=ap:=c5;rw[e0,y5d c5];rcases hl with⟨_,l1,l2,l3,l4⟩|⟨l1,_⟩
  ·have hsl:(yP i 2).length<=1:=zGf _ _ _ _;refine⟨2,rfl,oM,λ_ _=>⟨⟨⟨i.tops,[],(i.p.legs i.inst).2.1,(i.p.legs i.inst).1,ap⟩,aq,ap⟩,rF7 ⟨⟨l3,Z9,l1,Z9,hto,by simp⟩,λ_ _=>⟨0,rF3 ⟨λj=>j<=(yP i 2).length,λj=>(yP i 2).length-j,oM,?_⟩⟩⟩⟩⟩;intro j hj;have hj:j<=(yP i 2).length:=hj;have hL:(aa (cY i 2) (ab j (yP i 2))++ac j (yP i 2)).length=(yP i 2).length:=by simp;omega
   refine zH (λhlt=> ?_) (λhlt=> ?_)
   ·have hlt:(j:Int)<((yP i 2).length:Int):=hlt;refine⟨⟨oM,by rw[hL];omega⟩,by rw[hL];omega,j+1,by rw[w64 (by omega)];rfl,kp,?_,?_⟩
    ·exact zXd (i:=i) (s:=2) oM
    ·exact kp
   ·have hlt:¬(j:Int)<((yP i 2).length:Int):=hlt;obtain rfl:j=(yP i 2).length:=by omega
    rw[y5n (y5x _),List.drop_length,y5y];exact kp
  ·rw[c5]at l1;cases l1
 ·have c5:(i.p.legs i.inst).2.2=aq:=c5;rw[e0,y5b (by rw[c5];simp)];rcases hl with⟨l1,_⟩|⟨_,l2⟩
  ·rw[c5]at l1;cases l1
  have m6:=(kA hc).m6;have e1:i.inst.toNat=k:=by omega
  rw[e1];refine⟨0,by rw[w64 (by omega)];omega,kp,rfl,λj=>j<=i.p.months.length-(k+1),λj=>i.p.months.length-(k+1)-j,oM,?_⟩;intro j hj;have hj:j<=i.p.months.length-(k+1):=hj;have hq:=zCd i 2 j;refine zH (λhlt=> ?_) (λhlt=> ?_)
  ·obtain⟨b1,b2⟩:=b7 hc (a:=k) (b:=k+1+j) oM oM;have eb:((k+1+j:Nat):Int)=i.inst+1+j:=by omega
   rw[eb,<- hk]at b1 b2;refine⟨⟨i.p,i.inst,i.inst+1+j⟩,?_⟩
   (repeat'(first|exact rfl|exact trivial|assumption|apply au|refineλ(_:Unit) (_:True)=>?_|refine ar () ?_|omega|(dsimp only;omega)))
   refine⟨⟨⟨i.tops,jB i 2 j,(i.p.spread i.inst (i.inst+1+j)).1,i.inst+1+j,aq⟩,ap,ap⟩,rF5 ⟨kp,rfl,⟨b1,Z9,Z9,Z9,hto,Z9⟩,λ_ _=>⟨j+1,by rw[w64 (by omega)];omega,kp,?_,?_⟩⟩⟩
   ·rw[jB,y9w,y7a];simp only[y6w,xAg,y5y];rfl
   ·exact kp
  ·obtain rfl:j=i.p.months.length-(k+1):=by omega
   refine⟨0,rfl,kp,by rw[wI];simp,λj=>j<=k,λj=>k-j,oM,?_⟩;intro j hj;have hj:j<=k:=hj;have hq2:=sU i 2 j;refine zH (λhlt2=> ?_) (λhlt2=> ?_)
   ·obtain⟨b1,b2⟩:=b7 hc (a:=j) (b:=k) oM oM;rw[<- hk]at b1 b2;refine⟨⟨i.p,j,i.inst⟩,?_⟩
    (repeat'(first|exact rfl|exact trivial|assumption|apply au|refineλ(_:Unit) (_:True)=>?_|refine ar () ?_|omega|(dsimp only;omega)))
    refine⟨2,rfl,oM,λ_ _=>⟨⟨⟨i.tops,jB i 2 (i.p.months.length-(k+1))++wI i 2 j,(i.p.spread j i.inst).1,j,ap⟩,aq,ap⟩,rF5 ⟨kp,rfl,⟨b1,Z9,Z9,Z9,hto,by dsimp only;rw[y5a];omega⟩,λ_ _=>⟨j+1,by rw[w64 (by omega)];omega,kp,?_,?_⟩⟩⟩⟩
    ·rw[wI,y9w,y7a];simp only[y6w,xAg,y5y,y5i];rfl
    ·exact kp
   ·obtain rfl:j=k:=by omega
    exact kp
def yMx:all2C.ok Tryz.prog 160:=okw mixed (gokc bZ (gokc zAz (gokc zQz (gokc zRi (gokc zWr gok0))))) 0 (λ_=>[]) (λi=>yYt i 2) [] Tryz.func160 y1j
def yHs:allC.ok Tryz.prog 160:=λj=>match j with
 |⟨i,aq⟩=>yNp i
 |⟨i,ap⟩=>yMx i
def zSh:quotesC.ok Tryz.prog 109:=okw mixed (gokc yHs (gokc lO gok0)) 0 (λ_=>[]) (λj=>yLc j) [] Tryz.func109 yNn
def zKf (i:dZ) (s:Int):(xZ i s).length<=100:=y7x (y8n _ _) (zEe i s)
structure Mkt where
 p:Prd
 s:MSt
 used:List Int
def zX (l:List Int):List (bo×List D):=l.map λx=>(.int .i64 x,[.v (.bool ap)])
def yU (m:Mkt):Nat->AObj
 |0=> .cells [sV m.p.code,.own 3,zA m.p.tick,zA m.p.low,zA m.p.high,zA m.p.wide,zA m.p.rule,zA m.p.top,zA m.p.least,zA m.p.part,.own 4,.nm 1 0,.mp 2] 179
 |1=>zD m.s
 |2=> .map (zX m.used)
 |3=> .fro 1 (iE m.p.months)
 |4=> .fro 1 (iE m.p.settle)
 |_=> .gone
def jU (m:Mkt):AObj:= .adt Mkt 5 yU m
def newMC:Con where
 ι:=Prd
 pat:=λp=>[prdV p]
 pre:=λ_=>[]
 cnd:=λp=>p.small
 alts:=λp=>[{o:=Unit,res:=λ_=> .tup [.nm 0 0,zA 0],post:=λ_=>[jU ⟨p,mM p,[]⟩],rel:=λ_=>p.check=0},{o:=Unit,res:=λ_=> .tup [.d (.v (.pointer ba)),zA p.check],post:=λ_=>[],rel:=λ_=>p.check≠0}]
def zIr (a:Prd) (b:Prd) (c:Unit):Prop:=True/\(0+(iE a.settle).length)*(8:Nat)<=(140737488355328:Nat)/\((∃(d:Unit),rE ((0:Int))/\rE (sb a.code)/\rE a.tick/\rE a.low/\rE a.high/\rE a.wide/\rE a.rule/\rE a.top/\rE a.least/\rE a.part/\zD (mM a)=zD (mM b)/\zX []=[]/\iE a.months=[]++iE a.months/\iE a.settle=[]++iE a.settle/\a.check=0)\/∃(c:Unit),False)
def zIu (a:Prd) (b:Prd) (c:Unit):Prop:=True/\True/\(0+(iE a.months).length)*(8:Nat)<=(140737488355328:Nat)/\zIr a b c
def zGl (a:Prd) (b:Unit):Prop:=True/\(0+(iE a.settle).length)*(8:Nat)<=(140737488355328:Nat)/\((∃(c:Unit),rE ((0:Int))/\rE (sb a.code)/\rE a.tick/\rE a.low/\rE a.high/\rE a.wide/\rE a.rule/\rE a.top/\rE a.least/\rE a.part/\False)\/∃(b:Unit),False)
def zHw (a:Prd) (b:Unit):Prop:=True/\True/\(0+(iE a.months).length)*(8:Nat)<=(140737488355328:Nat)/\zGl a b
def yQz (p:Prd):Prop:=
 ∃(a:Prd),sb a.code=sb p.code/\iE a.months=iE p.months/\a.tick=p.tick/\a.low=p.low/\a.high=p.high/\a.wide=p.wide/\a.rule=p.rule/\a.top=p.top/\a.least=p.least/\a.part=p.part/\iE a.settle=iE p.settle/\(yD a)/\(∀(b:Unit),a.check=0->(True/\True/\((0+(iE p.months).length)*(8:Nat)<=(140737488355328:Nat)/\True/\zIr p a b)/\zIu p a b)/\True/\True/\zIu p a b)/\∀(b:Unit),a.check≠0->cnd (a.check !=0) ((∃(c:Unit),False)\/∃(b:Unit),True/\p.check=a.check/\(p.check=0->False)) ((True/\True/\((0+(iE p.months).length)*(8:Nat)<=(140737488355328:Nat)/\True/\zGl p b)/\zHw p b)/\True/\True/\zHw p b)
def y0r (p:Prd) (h:newMC.cnd p):yQz p:=by
 unfold yQz zHw zGl zIu zIr yD;obtain⟨h1,h2,h3⟩:p.small:=h;refine⟨p,?_⟩;simp only[y3]
 (repeat'(first|exact rfl|exact trivial|assumption|apply au|refineλ(_:Unit) (_:True)=>?_|refine ar () ?_|omega|(dsimp only;omega)))
 ·intro _ c
  (repeat'(first|exact rfl|exact trivial|assumption|apply au|refineλ(_:Unit) (_:True)=>?_|refine ar () ?_|omega|(dsimp only;omega)))
  all_goals(refine .inl ⟨(),?_⟩;(repeat'(first|exact rfl|exact trivial|assumption|apply au|refineλ(_:Unit) (_:True)=>?_|refine ar () ?_|omega|(dsimp only;omega))))
 ·intro _ c;refine Cv.cnd.mk (λe=> .inr ⟨(),trivial,kp,c⟩) (λe=>absurd (by simpa using e) c)
def yPv:newMC.ok Tryz.prog 47:=okw mixed (gokc yPb gok0) 0 (λ_=>[]) (λ_=>[]) [] Tryz.func47 y0r
def clIntRC:Con:=con1 (List Int) (λl=>[iV l]) (λ_=>[]) (λl=>l.length<=1000000) (λl=>iV l) (λ_=>[])
structure WiI where
 n:Int
 lo:Int
 hi:Int
def zF (n lo hi:Int):Int:=lo+n % (hi-lo+1)
def withinC:Con:=con1 WiI (λi=>[zA i.n,zA i.lo,zA i.hi]) (λ_=>[]) (λi=>yV i.n/\-1000000<=i.lo/\i.lo<=i.hi/\i.hi<=1000000) (λi=>zA (zF i.n i.lo i.hi)) (λ_=>[])
def mX (rule:Int):Prd:=⟨[67,76],[320,321,323],5,0,1000,200,rule,4,2,40,[500,505,490]⟩
def threeC:Con:=con1 Int (λn=>[zA n]) (λ_=>[]) (λ_=>True) (λn=>prdV (mX n)) (λ_=>[])
def yOv (l:List Int):Prop:=
 ∀(b:Bool),(b=ap->iE l=[])->cnd b (∃(o:Unit),iE l=[]/\True) ((0+(iE l).length)*(8:Nat)<=(140737488355328:Nat)/\∃(o:Unit),iE l=[]++iE l/\True)
def yAd (l:List Int):Prop:=
 ∀(b:Bool),(b=ap->iE l=[])->cnd b (∃(o:Unit),iE l=[]/\True) ((0+(iE l).length)*(8:Nat)<=(140737488355328:Nat)/\∃(o:Unit),iE l=[]++iE l/\True)
def mY (a:WiI):=(ao.wrap (ao.wrap (a.hi-a.lo)+1))
def z8v (i:WiI):Prop:=
 ao=ao/\ao.wrap (ao.wrap (i.hi-i.lo)+1)≠0/\cnd (decide (i.n.tmod (mY i)<0)) (∃(a:Unit),zF i.n i.lo i.hi=ao.wrap (i.lo+ao.wrap (ao.wrap (ao.wrap (i.n.tmod (mY i)+i.hi)-i.lo)+1))/\True) (∃(a:Unit),zF i.n i.lo i.hi=ao.wrap (i.lo+i.n.tmod (mY i))/\True)
def yJp (n:Int):Prop:=
 ∃(a:Unit),sb [(67:UInt8),(76:UInt8)]=ByteArray.mk #[(67:UInt8),(76:UInt8)]/\iE [(320:Int),(321:Int),(323:Int)]=[[dI 320],[dI 321],[dI 323]]/\rE ((5:Int))/\rE ((0:Int))/\rE ((1000:Int))/\rE ((200:Int))/\n=n/\rE ((4:Int))/\rE ((2:Int))/\rE ((40:Int))/\iE [(500:Int),(505:Int),(490:Int)]=[[dI 500],[dI 505],[dI 490]]/\True
def yCj:clIntRC.ok Tryz.prog 88:=okw (V:=yOv) mixed gok0 0 (λ_=>[]) (λ_=>[]) [] Tryz.func88 λ(l:List Int) h=>by
 have h:l.length<=1000000:=h;exactλb hb=>Cv.cnd.mk (λe=>⟨(),hb e,trivial⟩) (λ_=>⟨by rw[y6b,y3];omega,(),rfl,trivial⟩)
def z0l:clIntRC.ok Tryz.prog 89:=okw (V:=yAd) mixed gok0 0 (λ_=>[]) (λ_=>[]) [] Tryz.func89 λ(l:List Int) h=>by
 have h:l.length<=1000000:=h;exactλb hb=>Cv.cnd.mk (λe=>⟨(),hb e,trivial⟩) (λ_=>⟨by rw[y6b,y3];omega,(),rfl,trivial⟩)
def yKm:threeC.ok Tryz.prog 60:=okw (V:=yJp) mixed gok0 0 (λ_=>[]) (λ_=>[]) [] Tryz.func60 λ(n:Int) _=>by
 unfold yJp dI;exact kp
def yMd (i:WiI) (h:withinC.cnd i):z8v i:=by
 obtain⟨⟨a1,a2⟩,a3,a4,a5⟩:yV i.n/\-1000000<=i.lo/\i.lo<=i.hi/\i.hi<=1000000:=h;unfold z8v mY;rw[w64 (x:=i.hi-i.lo) (by omega),w64 (x:=i.hi-i.lo+1) (by omega)];obtain⟨d,hd⟩:∃d:Int,i.hi-i.lo+1=d:=⟨_,rfl⟩
 rw[hd];have h1:i.n.tmod d=if 0<=i.n then i.n % d else-((-i.n) % d):=by
  split
  ·rename_i h;rw[cd h]
  ·rename_i h;have:i.n= -(-i.n):=by omega
   conv=>lhs;rw[this]
   rw[Int.neg_tmod,cd (by omega)]
 have hb1:=xBb i.n (show d≠0 by omega);have hb2:=xBc i.n (show 0<d by omega);have hb3:=xBb (-i.n) (show d≠0 by omega);have hb4:=xBc (-i.n) (show 0<d by omega);have key:i.n.tmod d<0->i.n % d=i.n.tmod d+d:=λhneg=>by
  have:=Int.emod_eq_of_lt (a:=i.n.tmod d+d) (b:=d) (by rw[h1]at hneg ⊢;split at hneg<;>split<;>omega) oM;rw[<- this,Int.add_emod_right];have e:=Int.tmod_add_mul_tdiv i.n d
  conv=>lhs;rw[<- e]
  rw[ce]
 have key2:¬i.n.tmod d<0->i.n % d=i.n.tmod d:=λhneg=>by
  have hlt:i.n.tmod d<d:=by rw[h1];split<;>omega
  have:=Int.emod_eq_of_lt (a:=i.n.tmod d) (b:=d) oM hlt;rw[<- this];have e:=Int.tmod_add_mul_tdiv i.n d
  conv=>lhs;rw[<- e]
  rw[ce]
 refine⟨rfl,oM,zH (λc=>⟨(),?_,trivial⟩) (λc=>⟨(),?_,trivial⟩)⟩
 ·have k:=key c;rw[zF,hd,k];rw[w64 (x:=i.n.tmod d+i.hi) (by omega),w64 (x:=i.n.tmod d+i.hi-i.lo) (by omega),w64 (x:=i.n.tmod d+i.hi-i.lo+1) (by omega),w64 (by omega)];omega
 ·have k:=key2 c;rw[zF,hd,k,w64 (by omega)]
def within_ok:withinC.ok Tryz.prog 14:=okw mixed gok0 0 (λ_=>[]) (λ_=>[]) [] Tryz.func14 yMd
def zBx (l:List (Int×Int)) (k:Int):Option Int:=(l.find? λx=>decide (x.1=k)).map (·.2)
def yHb (l:List (Int×Int)) (k:Int):∀p∈yO l,like (bc ao k) p.1=ap:=by
 intro p hp;obtain⟨x,_,rfl⟩:=y6n.1 hp;rfl
def pD (k:Int):∀l:List (Int×Int),kH (bc ao k) (yO l)=(zBx l k).map λv=>[D.v (.int .i64 v)]
 |[]=>rfl
 |(a,v)::l=>by
  have ih:=pD k l;show(bif (keq .i64 .i64 && decide (k=a))then _ else kH _ (yO l))=_;by_cases h:k=a
  ·subst h;simp[zBx,keq]
  ·have h':¬a=k:=λe=>h e.symm
   rw[show(keq .i64 .i64 && decide (k=a))=aq by simp[h],cond_false,ih];simp[zBx,xBe,h']
structure Rep where
 kind:Int
 id:Int
 inst:Int
 side:Int
 price:Int
 qty:Int
 left:Int
 why:Int
 deriving DecidableEq
@[reducible] def y4a (r:Rep):V:= .agg [zA r.kind,zA r.id,zA r.inst,zA r.side,zA r.price,zA r.qty,zA r.left,zA r.why]
def xU (r:Rep):List D:=[.v (.int .i64 r.kind),.v (.int .i64 r.id),.v (.int .i64 r.inst),.v (.int .i64 r.side),.v (.int .i64 r.price),.v (.int .i64 r.qty),.v (.int .i64 r.left),.v (.int .i64 r.why)]
def zYx (k v:Int):List (Int×Int)->List (Int×Int)
 |[]=>[(k,v)]
 |(a,b)::l=>if k=a then(a,v)::l else(a,b)::zYx k v l
def z2p (k:Int):List (Int×Int)->List (Int×Int)
 |[]=>[]
 |(a,b)::l=>if k=a then l else(a,b)::z2p k l
def bj (t:Nat):SAnn:={ι:=Bool,slots:=λb=>[(t,yX b)],rows:=λ_=>[]}
def ij (t:Nat):SAnn:={ι:=Int,slots:=λn=>[(t,zA n)],rows:=λ_=>[]}
def dX (l:List (Int×Int)) (k:Int):∀(p:bo×List D),p∈yO l->like (bc ao k) p.1=ap:=λp hp=>yHb l k p hp
def z0a (k v:Int):∀l,uN (bc ao k) [D.v (.int .i64 v)] (yO l)=yO (zYx k v l)
 |[]=>rfl
 |(a,b)::l=>by
  have ih:=z0a k v l;show(bif (keq .i64 .i64 && decide (k=a))then _ else _::uN _ _ (yO l))=_;rw[ih,zYx];by_cases h:k=a
  ·subst h;simp[keq,yO]
  ·simp[h,yO]
def z0z (k:Int):∀l,zBn (bc ao k) (yO l)=yO (z2p k l)
 |[]=>rfl
 |(a,b)::l=>by
  have ih:=z0z k l;show(bif (keq .i64 .i64 && decide (k=a))then yO l else _::zBn _ (yO l))=_;rw[ih,z2p];by_cases h:k=a
  ·subst h;simp[keq]
  ·simp[h,yO]
def yTb (l:List (Int×Int)) (k:Int):kH (bc ao k) (yO l)=az [D.v (.int .i64 ((zBx l k).getD 0))]/\(zBx l k).isSome=ap\/kH (bc ao k) (yO l)=ba/\[D.v (.int .i64 ((zBx l k).getD 0))]=[D.v (.int .i64 0)]/\(zBx l k).isSome=aq:=by
 rw[pD];cases zBx l k with
 |none=>exact .inr ⟨rfl,rfl,rfl⟩
 |some v=>exact .inl ⟨rfl,rfl⟩
def zZh (a b:Int):(a==b)=decide (a=b):=by
 by_cases h:a=b
 ·subst h;simp
 ·simp[h]
def zZx:(mX 1).check=0:=by decide+kernel
def zZg (n:Int):(mX n).small:=⟨by simp[mX],by simp[mX],by simp[mX]⟩
def yQ {n lo hi:Int} (h:lo<=hi):lo<=zF n lo hi/\zF n lo hi<=hi:=by
 rw[zF];have h1:=xBb n (show hi-lo+1≠0 by omega);have h2:=xBc n (show 0<hi-lo+1 by omega);omega
open Go Go.RowKit Cv
def zBf {P:bu} {dT sT ty e sz by_:Nat} {z:Array bo} (hi:vZ P dT=az (e,sz,by_,z)) {w:bg} {g o dLen dCap b so sLen sCap n:Nat} {cur src:List bo} {T T':TypeId} {fr:Nat×Nat}
 (hg:w.heap[g]? =az (.cells cur.toArray T (0,0))) (hs:w.heap[b]? =az (.cells src.toArray T' fr)) (hn:Nat.min sLen dLen=n) (h1:so+n*sz<=src.length) (h2:o+n*sz<=cur.length)
 (hone:∀v∈(src.drop so).take (n*sz),v.oneC=ap):
 u9 P (aw #[dT,sT] ty #[.slice (az ⟨g,o,ba⟩) dLen dCap,.slice (az ⟨b,so,ba⟩) sLen sCap]) w (.int .i64 n) (World.setB w g (.cells (spl cur o ((src.drop so).take (n*sz))).toArray T (0,0))):=by
 obtain⟨i,zv,q1,q2,rfl,rfl,q5,rfl⟩:=kG hi;have hl:((src.drop so).take (n*i.size)).length=n*i.size:=by rw[y5t,y5z];omega
 have hst:=wH (P:=P) ((src.drop so).take (n*i.size)) 0 o cur w hg (by rw[hl];omega) hone;simp only[y9k]at hst;unfold u9 aw;simp only[y7c,y7h,y6y,bind,pure,run_bind,Sem.bind,Sem.run,Cv.run_underlying q1,Cv.run_sizeOf q2,Builtin.lenOf,hn,ax,hJ hs h1,hst];rfl
def Hp.apart {k:Ko} {w:bg} {b c:Nat} {o o':Obj} {L:List HP} (H:Hp k w (pt b o::pt c o'::L)):b≠c:=by
 obtain⟨hk,hs,hh⟩:=H;cases hh with
 |cons ha hsub hd hr=>
  cases hr with
  |cons hb hsub2 hd2 hr2=>
   intro e;subst e;have:=hd _ y5h b;rw[show _=one b o from ha,show _=one b o' from hb]at this;simp[one]at this
def yXf (P:bu) (tS tI sz fO fR:Nat) (s:Option bv) (sn sk:Nat) (i:Int) (v:Option bv) (vn vk:Nat) (w:bg) (R:Ending->bg->Prop):Prop:=
slN s sn sk (az i) ba sz λa1 na1 ka1=>
cnd (((vn:Int):Int)==0) (
R (.returned (.slice s sn sk)) w) (
cnd ((i:Int)==(sn:Int)) (
∃(a2:Option bv) (na2 ka2:Nat),∃w3:bg,u9 P (ay #[tS,tS] tS #[.slice s sn sk,.slice v vn vk]) w (.slice a2 na2 ka2) w3/\
R (.returned (.slice a2 na2 ka2)) w3) (
cnd (decide ((ao.wrap ((sn:Int)+(vn:Int)):Int)>(sk:Int))) (
slN s sn sk ba (az i) sz λa4 na4 ka4=>
∃(a5:Option bv) (na5 ka5:Nat),∃w6:bg,u9 P (ay #[tS,tI] tS #[.slice a4 na4 ka4,.int .i64 (ao.wrap (ao.wrap ((sn:Int)+(vn:Int))-i))]) w (.slice a5 na5 ka5) w6/\
slN a5 na5 ka5 (az i) ba sz λa7 na7 ka7=>
∃x8:Int,∃w9:bg,u9 P (aw #[tS,tS] tI #[.slice a7 na7 ka7,.slice v vn vk]) w6 (.int .i64 x8) w9/\
z8k w9 λw10=>
slN a5 na5 ka5 (az (ao.wrap (i+(vn:Int)))) ba sz λa11 na11 ka11=>
slN s sn sk (az i) ba sz λa12 na12 ka12=>
∃x13:Int,∃w14:bg,u9 P (aw #[tS,tS] tI #[.slice a11 na11 ka11,.slice a12 na12 ka12]) w10 (.int .i64 x13) w14/\
R (.returned (.slice a5 na5 ka5)) w14) (
slN s sn sk ba (az (ao.wrap ((sn:Int)+(vn:Int)))) sz λa15 na15 ka15=>
slN a15 na15 ka15 (az (ao.wrap (i+(vn:Int)))) ba sz λa16 na16 ka16=>
∃c17:Bool,∃w18:bg,Cv.Ext P fO #[.slice v vn vk,.slice a16 na16 ka16] w (.bool c17) w18/\
cnd (!c17) (
z8k w18 λw19=>
slN a15 na15 ka15 (az (ao.wrap (i+(vn:Int)))) ba sz λa20 na20 ka20=>
slN a15 na15 ka15 (az i) ba sz λa21 na21 ka21=>
∃x22:Int,∃w23:bg,u9 P (aw #[tS,tS] tI #[.slice a20 na20 ka20,.slice a21 na21 ka21]) w19 (.int .i64 x22) w23/\
slN a15 na15 ka15 (az i) ba sz λa24 na24 ka24=>
∃x25:Int,∃w26:bg,u9 P (aw #[tS,tS] tI #[.slice a24 na24 ka24,.slice v vn vk]) w23 (.int .i64 x25) w26/\
R (.returned (.slice a15 na15 ka15)) w26) (
slN a15 na15 ka15 (az (sn:Int)) ba sz λa27 na27 ka27=>
∃x28:Int,∃w29:bg,u9 P (aw #[tS,tS] tI #[.slice a27 na27 ka27,.slice v vn vk]) w18 (.int .i64 x28) w29/\
slN a15 na15 ka15 (az i) ba sz λa30 na30 ka30=>
Calls P fR #[.slice a30 na30 ka30,.int .i64 (vn:Int)] w29 λe32 w31=>e32= .returned (.tuple #[])/\
R (.returned (.slice a15 na15 ka15)) w31))))
def z9q {α:Type} {l m:Nat} {xs r ys:List α} (hl:l<=xs.length) (hy:ys.length=m) (hr:m<=r.length):
 ((xs++r).take (l+m)++xs.drop l++(xs++r).drop (l+m+(xs.drop l).length)).take l++ys++((xs++r).take (l+m)++xs.drop l++(xs++r).drop (l+m+(xs.drop l).length)).drop (l+ys.length)=(xs.take l++ys++xs.drop l)++r.drop m:=by
 have e1:(xs++r).drop (l+m+(xs.drop l).length)=r.drop m:=by
  rw[y5z,show l+m+(xs.length-l)=xs.length+m by omega,xAe];simp
 have e2:((xs++r).take (l+m)++xs.drop l++r.drop m).take l=xs.take l:=by
  rw[y5i,y6e (by rw[y5t,y5a];omega),List.take_take,y9a (by omega),y6e hl]
 have e3:((xs++r).take (l+m)++xs.drop l++r.drop m).drop (l+ys.length)=xs.drop l++r.drop m:=by
  have:((xs++r).take (l+m)).length=l+m:=by rw[y5t,y5a];omega
  rw[y5i,hy,xAe,this,xAp,y8q,y8j (by omega),y7r]
 rw[e1,e2,e3];simp
def zTx (A Z Y:List bo):spl (A++Z) A.length Y=A++Y++Z.drop Y.length:=by
 simp only[spl];rw[xBh,xAe];simp
def zHy {b o n c i:Nat} (h:c≠i):(if c=i then(az ⟨b,o,ba⟩:Option bv)else(az ⟨b,o,ba⟩:Option bv).map (·.add n))=az ⟨b,o+n,ba⟩:=by
 rw[y5b h,y7e,vR]
def zUt (P:bu) (fO:Nat):Prop:=∀(w:bg) (va sb so la ca lb cb:Nat) (c c':Array bo) (T T':TypeId),va≠sb->w.heap[va]?=az (.cells c T (0,0))->w.heap[sb]?=az (.cells c' T' (0,0))->c'.size≠0->
 Cv.Ext P fO #[.slice (az ⟨va,0,ba⟩) la ca,.slice (az ⟨sb,so,ba⟩) lb cb] w (.bool aq) w
def yPm {P : Program} {fO tS tB e sz by_ : Nat} {z : Array Value} {fn : Func} (hf : P.funcs[fO]? = some fn) (hname : (fn.name == "runtime.NumGoroutine") = false) (hb : fn.body.isNone = true) (hn : Extern.findNext fn = none) (he : Extern.find fn = some (Extern.SlicesOverlaps.overlaps #[tS, tS] #[tB]))
 (hi:vZ P tS=az (e,sz,by_,z)):zUt P fO:=by
 obtain⟨i,zv,q1,q2,rfl,rfl,q5,rfl⟩:=kG hi;intro w va sb so la ca lb cb c c' T T' hne h1 h2 h3;unfold Cv.Ext;rw[run_callFunc_extern hf hname hb hn he,Lib.run_overlaps_apart w tS tB e q1 i.size (λw=>Cv.run_sizeOf q2 w) ⟨va,0,ba⟩ ⟨sb,so,ba⟩ la ca lb cb hne T T' c.size c'.size (by simp[World.shape?,h1]) (by simp[World.shape?,h2]) h3 (by simp[World.frozen?,h1]) (by simp[World.frozen?,h1])];rfl
def y4m {P:bu} {tS tI e sz by_ fO fR:Nat} {z:Array bo} (hi:vZ P tS=az (e,sz,by_,z)) (hz:z.size=sz) (hby:0<by_) (hsz:0<sz) (h2:z2n P tS=ap) (hti:P.underlying tI=az (.int .i64)) (hov:zUt P fO)
 {k:Ko} {w:bg} {L:List HP} {s v:Option bv} {sn sk vn vk i:Nat} {xs ys:List bo} (H:Hp k w (slO e sz s sn sk xs::slO e sz v vn vk ys::L)) (h1:∀u∈xs,u.oneC=ap) (hy:∀u∈ys,u.oneC=ap) (hin:i<=sn) (hv:0<vn)
 (hb:(sn+vn)*by_<=140737488355328):
 yXf P tS tI sz fO fR s sn sk i v vn vk w λen w'=>∃a kk,en= .returned (.slice a (sn+vn) kk)/\Hp k w' (slO e sz a (sn+vn) kk (xs.take (i*sz)++ys++xs.drop (i*sz))::slO e sz v vn vk ys::L):=by
 obtain⟨hxl,hnk⟩:=H.len;obtain⟨hyl,hvk⟩:=H.swap.len;have hnm:sn+vn<=140737488355328:=y7x (Nat.le_mul_of_pos_right _ hby) hb;have w1:ao.wrap ((sn:Int)+(vn:Int))=((sn+vn:Nat):Int):=by rw[Cv.wrap_i64 (by omega) (by omega)];simp
 have w2:ao.wrap ((i:Int)+(vn:Int))=((i+vn:Nat):Int):=by rw[Cv.wrap_i64 (by omega) (by omega)];simp
 have w3:ao.wrap (((sn+vn:Nat):Int)-(i:Int))=((sn+vn-i:Nat):Int):=by rw[Cv.wrap_i64 (by omega) (by omega)];omega
 have hle:i*sz<=xs.length:=by rw[hxl];exact y6o _ hin
 have htl:(xs.take (i*sz)).length=i*sz:=by rw[y5t];omega
 have hdl:(xs.drop (i*sz)).length=(sn-i)*sz:=by rw[y5z,hxl,Nat.sub_mul]
 have hsum:(i+vn)*sz=i*sz+vn*sz:=y8d _ _ _;have hsum2:(sn+vn)*sz=i*sz+vn*sz+(sn-i)*sz:=by rw[<- y8d,<- y8d];congr 1;omega
 have hfin:(xs.take (i*sz)++ys++xs.drop (i*sz)).length=(sn+vn)*sz:=by
  rw[y5a,y5a,htl,hyl,hdl,hsum2]
 unfold yXf;simp only[slN,w1,w2,w3,y5u];refine⟨⟨oM,oM,hnk⟩,Cv.cnd.mk (λc=>absurd c (by simp;omega)) λ_=>Cv.cnd.mk (λc=> ?_) λc=>Cv.cnd.mk (λhc=> ?_) λhc=> ?_⟩
 ·have c:i=sn:=by have:(i:Int)=(sn:Int):=by simpa using c
                  omega
  subst c;obtain⟨a',c',w',r1,r2⟩:=H.append (rt:=tS) hi h2 (x:= .slice v vn vk) (m:=vn) (ys:=ys) (.inl ⟨v,vk,rfl,H.swap.satR⟩) hy hz hby hb;refine⟨a',_,c',w',r1,a',c',rfl,?_⟩;rw[y5n (by omega),y8j (by omega),y5y];exact r2
 ·have c:i<sn:=by have:¬(i:Int)=(sn:Int):=by simpa using c
                  omega
  have hc:sk<sn+vn:=by have:=y6a hc;omega
  obtain⟨inf,zv,q1,q2,q3,q4,q5,q6⟩:=kG hi;subst q3 q4 q6;rcases H.slcases with⟨_,e0,_⟩|⟨b,r,rfl,g1,g2,g3,H0⟩
  ·omega
  rcases H0.swap.slcases with⟨_,e0,_⟩|⟨vb,rv,rfl,g4,g5,g6,H1⟩
  ·omega
  have hold:(ax inf.size i (.slice (az ⟨b,0,ba⟩) i sk)).run P w.drew= .ok (xs.take (i*inf.size)).toArray w.drew:=by
   have hbk:=(H1.drew).swap.get;have:=hJ (P:=P) (o:=0) (n:=i*inf.size) hbk (by rw[y5a];omega);unfold ax;rw[this,y8q,y6e hle]
  have hfit2:=zNu (need:=sn+vn) (cap:=sk) oM;have hfit3:=y6o inf.bytes hfit2;have e2:2*(sn+vn)*inf.bytes=2*((sn+vn)*inf.bytes):=by rw[Nat.mul_assoc]
  have hkb:(sn+vn-i)*inf.bytes<=(sn+vn)*inf.bytes:=y6o _ oM;have hgr:=Lib.run_append_grow_zeros (P:=P) w tS tI tS e inf zv .i64 .i64 q1 hti q2 q5 (az ⟨b,0,ba⟩) i sk (xs.take (i*inf.size)) hold (sn+vn-i) oM hsz oM oM oM (by rw[show i+(sn+vn-i)=sn+vn by omega];omega);rw[show i+(sn+vn-i)=sn+vn by omega]at hgr;have hG:sn+vn<=grownCap w (sn+vn) sk e:=grownCap_ge w (sn+vn) sk e;generalize grownCap w (sn+vn) sk e=G at hgr hG;have harr:(xs.take (i*inf.size)).toArray++av zv.cells (sn+vn-i)++av zv.cells (G-(sn+vn))=(xs.take (i*inf.size)++((av zv.cells (sn+vn-i)).toList++(av zv.cells (G-(sn+vn))).toList)).toArray:=by
   apply Array.ext';simp
  rw[harr]at hgr;have hZl:((av zv.cells (sn+vn-i)).toList++(av zv.cells (G-(sn+vn))).toList).length=(sn+vn-i)*inf.size+(G-(sn+vn))*inf.size:=by
   rw[y5a,y8z,y8z,bz,bz,hz]
  generalize (av zv.cells (sn+vn-i)).toList++(av zv.cells (G-(sn+vn))).toList=Z at hgr hZl;have hZ2:(sn+vn-i)*inf.size=vn*inf.size+(sn-i)*inf.size:=by rw[<- y8d];congr 1;omega
  have H2:=(H1.drew).new (.cells (xs.take (i*inf.size)++Z).toArray e);have hB:w.drew.heap.size=w.heap.size:=rfl;rw[hB]at H2;have hc1:=zBf (P:=P) (sT:=tS) (ty:=tI) hi (g:=w.heap.size) (o:=0+i*inf.size) (dLen:=sn+vn-i) (dCap:=G-i) (b:=vb) (so:=0) (sLen:=vn) (sCap:=vk) (n:=vn) H2.get H2.swap.get (y9a oM) (by rw[y5a];omega) (by rw[y5a,htl,hZl];omega) (by
   rw[y8q,y6e (by omega),y5n (by omega)];exact hy)
  rw[y8q,y6e (by omega),y5n (show ys.length<=vn*inf.size by omega),y6b]at hc1;have es1:spl (xs.take (i*inf.size)++Z) (i*inf.size) ys=xs.take (i*inf.size)++ys++Z.drop ys.length:=by
   have:=zTx (xs.take (i*inf.size)) Z ys;rwa [htl]at this
  rw[es1]at hc1;have H3:=(H2.upd (.cells (xs.take (i*inf.size)++ys++Z.drop ys.length).toArray e)).drew;have hg4:(xs++r).drop (i*inf.size)=xs.drop (i*inf.size)++r:=y7u hle;have hc2:=zBf (P:=P) (sT:=tS) (ty:=tI) hi (g:=w.heap.size) (o:=0+(i+vn)*inf.size) (dLen:=sn+vn-(i+vn)) (dCap:=G-(i+vn)) (b:=b) (so:=0+i*inf.size) (sLen:=sn-i) (sCap:=sk-i) (n:=sn-i) H3.get H3.swap.drop.swap.get (y9a oM) (by rw[y5a,hxl,y6b,<- y8d];exact y7x (y6o _ oM) (Nat.le_add_right _ _)) (by
   rw[y5a,y5a,htl,hyl,y5z,hZl];omega) (by
   rw[y6b,hg4,y6e (by omega),y5n (by omega)];exactλu hu=>h1 u (y8w hu))
  rw[y6b,y6b,hg4,y6e (by omega),y5n (show(xs.drop (i*inf.size)).length<=(sn-i)*inf.size by omega)]at hc2;have es2:spl (xs.take (i*inf.size)++ys++Z.drop ys.length) ((i+vn)*inf.size) (xs.drop (i*inf.size))=xs.take (i*inf.size)++ys++xs.drop (i*inf.size)++(Z.drop ys.length).drop (xs.drop (i*inf.size)).length:=by
   have:=zTx (xs.take (i*inf.size)++ys) (Z.drop ys.length) (xs.drop (i*inf.size));rwa [show(xs.take (i*inf.size)++ys).length=(i+vn)*inf.size by rw[y5a,htl,hyl,hsum]]at this
  rw[es2]at hc2;refine⟨⟨oM,oM⟩,_,_,_,_,hgr,?_⟩;rw[zHy (show G≠i by omega),y6b];refine⟨⟨oM,oM,hG⟩,_,_,hc1,?_⟩;rintro _ rfl;rw[zHy (show G≠i+vn by omega),zHy (show sk≠i by omega),y6b,y6b];refine⟨⟨oM,oM,hG⟩,⟨oM,oM,hnk⟩,_,_,hc2,_,_,rfl,?_⟩;have H4:=H3.upd (.cells (xs.take (i*inf.size)++ys++xs.drop (i*inf.size)++(Z.drop ys.length).drop (xs.drop (i*inf.size)).length).toArray e);have H5:=H4.slmk (n:=sn+vn) (c:=G) (sz:=inf.size) hfin (by
   rw[y5a,hfin,y5z,y5z,hZl,hyl,hdl];have:G*inf.size=(sn+vn)*inf.size+(G-(sn+vn))*inf.size:=by rw[<- y8d];congr 1;omega
   omega) hG
  have H6:=H5.swap.slmk (n:=vn) (c:=vk) (sz:=inf.size) g4 g5 g6;exact(H6.swap.perm (List.Perm.trans ((List.Perm.swap _ _ _).cons _) (List.Perm.swap _ _ _))).drop
 ·have c:i<sn:=by have:¬(i:Int)=(sn:Int):=by simpa using c
                  omega
  have hc:sn+vn<=sk:=by have:=y9q hc;omega
  rcases H.slcases with⟨_,e0,_⟩|⟨b,r,rfl,g1,g2,g3,H0⟩
  ·omega
  rcases H0.swap.slcases with⟨_,e0,_⟩|⟨vb,rv,rfl,g4,g5,g6,H1⟩
  ·omega
  have hrl:vn*sz<=r.length:=by
   have e1:(sn+vn)*sz<=sk*sz:=y6o _ hc;rw[y5a,g1]at g2;rw[y8d]at e1;omega
  have H2:=H1.swap;have hne:vb≠b:=Hp.apart H1;have hg4:(xs++r).drop (i*sz)=xs.drop (i*sz)++r:=y7u hle;have hex:=hov w vb b (0+(i+vn)*sz) vn vk (sn+vn-(i+vn)) (sk-(i+vn)) (ys++rv).toArray (xs++r).toArray e e hne H1.get H2.get (by
   rw[y9h,y5a,g1];have:=Nat.mul_pos (show 0<sn by omega) hsz;omega)
  have H3:=H2.drew;have hc1:=zBf (P:=P) (sT:=tS) (ty:=tI) hi (g:=b) (o:=0+(i+vn)*sz) (dLen:=sn+vn-(i+vn)) (dCap:=sk-(i+vn)) (b:=b) (so:=0+i*sz) (sLen:=sn+vn-i) (sCap:=sk-i) (n:=sn-i) H3.get H3.get (by rw[show sn+vn-(i+vn)=sn-i by omega];exact Nat.min_eq_right oM) (by
   rw[y5a,g1,y6b,<- y8d];exact y7x (y6o _ oM) (Nat.le_add_right _ _)) (by
   rw[y5a,g1,y6b,<- y8d,show i+vn+(sn-i)=sn+vn by omega,y8d];omega) (by
   rw[y6b,hg4,y6e (by omega),y5n (by omega)];exactλu hu=>h1 u (y8w hu))
  rw[y6b,y6b,hg4,y6e (by omega),y5n (show(xs.drop (i*sz)).length<=(sn-i)*sz by omega)]at hc1;have H4:=H3.upd (.cells (spl (xs++r) ((i+vn)*sz) (xs.drop (i*sz))).toArray e);have hcl:(spl (xs++r) ((i+vn)*sz) (xs.drop (i*sz))).length=(xs++r).length:=by
   simp only[spl,y5a,y5t,hdl];rw[y5z,y5a,g1,hsum];have:sn*sz=i*sz+(sn-i)*sz:=by rw[<- y8d];congr 1;omega
   omega
  have hc2:=zBf (P:=P) (sT:=tS) (ty:=tI) hi (g:=b) (o:=0+i*sz) (dLen:=sn+vn-i) (dCap:=sk-i) (b:=vb) (so:=0) (sLen:=vn) (sCap:=vk) (n:=vn) H4.get H4.swap.get (y9a oM) (by rw[y5a];omega) (by
   rw[hcl,y5a,y6b];omega) (by
   rw[y8q,y6e (by omega),y5n (by omega)];exact hy)
  rw[y8q,y6e (by omega),y5n (show ys.length<=vn*sz by omega),y6b]at hc2;have es:spl (spl (xs++r) ((i+vn)*sz) (xs.drop (i*sz))) (i*sz) ys=(xs.take (i*sz)++ys++xs.drop (i*sz))++r.drop (vn*sz):=by
   have:=z9q (l:=i*sz) (m:=vn*sz) (xs:=xs) (r:=r) (ys:=ys) hle hyl hrl;simp only[spl,hsum];exact this
  rw[es]at hc2;refine⟨⟨oM,oM⟩,⟨oM,oM,oM⟩,aq,w,?_,Cv.cnd.mk (λ_=> ?_) (λc=>absurd c Z8)⟩
  ·rw[zHy (show sk≠i+vn by omega)];exact hex
  rintro _ rfl;rw[zHy (show sk≠i+vn by omega),zHy (show sk≠i by omega),y6b,y6b];refine⟨⟨oM,oM,oM⟩,⟨oM,oM,oM⟩,_,_,hc1,⟨oM,oM,oM⟩,_,_,hc2,_,_,rfl,?_⟩;have H5:=H4.upd (.cells (xs.take (i*sz)++ys++xs.drop (i*sz)++r.drop (vn*sz)).toArray e);have H6:=H5.slmk (n:=sn+vn) (c:=sk) (sz:=sz) hfin (by
   rw[y5a,hfin,y5z,<- g2,y5a,g1,y8d];omega) hc
  exact(H6.swap.slmk (n:=vn) (c:=vk) (sz:=sz) g4 g5 g6).swap
structure yAk where
 els:List (List D)
 el:List D
 i:Nat
def yLo (e sz by_:Nat):Con where
 ι:=yAk
 pat:=λi=>[.own 0,.d (.v (.int .i64 i.i)),.own 1]
 pre:=λi=>[.own e sz i.els,.own e sz [i.el]]
 cnd:=λi=>i.i<=i.els.length/\(i.els.length+1)*by_<=140737488355328
 alts:=λi=>[{o:=Unit,res:=λ_=> .own 2,post:=λ_=>[.gone,.gone,.own e sz (i.els.take i.i++i.el::i.els.drop i.i)],rel:=λ_=>True}]
def insX_ok {P:bu} (hm:P.follows .mixedOrders=ap) {tS tI e sz by_ fI fO fR:Nat} {z:Array bo} {fn:Func} {c:Code} (hf:P.funcs[fI]? =az fn) (hb:fn.body=az c) (hbd:uT P fI=ap) (hok:okC fn.ntmps c=ap) (hfx:okF [] c=ap) (hsz3:Nat.ble 3 fn.ntmps=ap)
 (hi:vZ P tS=az (e,sz,by_,z)) (hz:z.size=sz) (hby:0<by_) (hsz:0<sz) (h2:z2n P tS=ap) (hti:P.underlying tI=az (.int .i64)) (hov:zUt P fO)
 (heq:∀(s:Option bv) (sn sk:Nat) (i:Int) (v:Option bv) (vn vk:Nat) (w:bg) (R:Ending->bg->Prop),yXf P tS tI sz fO fR s sn sk i v vn vk w R=cwp P [] c (zUh P fn R) (uR [.slice s sn sk,.int .i64 i,.slice v vn vk]) w):
 (yLo e sz by_).ok P fI:=by
 intro i hc k L E w ys R hv;obtain⟨c1,c2⟩:i.i<=i.els.length/\(i.els.length+1)*by_<=140737488355328:=hc;simp only[yLo,VRL,VR,DR]at hv;obtain⟨y0,_,rfl,⟨l0,e0,_⟩,y1,_,rfl,⟨rfl,_⟩,y2,_,rfl,⟨l2,e2,_⟩,rfl⟩:=hv;obtain⟨s,sk,xs,sub0,g1,hxs,hu,H⟩:=R.ownOpen (n:=0) (t:=e) (sz:=sz) (els:=i.els) rfl;rw[e0]at g1;cases g1;have hk2:∃v vk zs,y2= .slice v 1 vk/\DRL E.F i.el zs/\i.el.length=sz/\Hp k w (slO e sz s i.els.length sk xs::slO e sz v 1 vk zs::fz E.F::L):=by
  obtain⟨hk,hs,hh⟩:=H;cases hh with
  |cons ha hsub hd hr=>
   simp only[yLo,u0,wY,y5q,y8t,y6t,y7r]at hr;cases hr with
   |cons hb2 hsub2 hd2 hr2=>
    rcases hb2 with⟨q,_⟩|⟨⟨hv2,sub2⟩,q1,q2⟩
    ·cases q
    ·simp only at q1;rw[e2]at q1;cases q1;simp only[rowHP]at q2;obtain⟨a,kk,zs,rfl,q3,q4,q5⟩:=q2;simp only[y7o,List.flatten_nil,y5y]at q3;exact⟨a,kk,zs,rfl,q3,q4 _ y5h,hk,_,.cons ha hsub hd (.cons q5 hsub2 hd2 hr2)⟩
 obtain⟨v,vk,zs,rfl,hzs,hel,H2⟩:=hk2;have hv:=y4m (fR:=fR) (fO:=fO) hi hz hby hsz h2 hti hov (i:=i.i) H2 hxs.one hzs.one c1 oM c2;have hcall:=zKb (args:=[.slice s i.els.length sk,.int .i64 i.i,.slice v 1 vk]) hm hf hb [] hok hfx hsz3 (heq s i.els.length sk i.i v 1 vk w _) hv;refine aI hbd (hcall.mono ?_);rintro en w' ⟨a,kk,rfl,H3⟩;have H4:Hp k w' (slO e sz a (i.els.take i.i++i.el::i.els.drop i.i).length kk (xs.take (i.i*sz)++zs++xs.drop (i.i*sz))::(([]:List (Nat×AObj)).map (rHP E)++fz E.F::L)):=by
  have:(i.els.take i.i++i.el::i.els.drop i.i).length=i.els.length+1:=by
   rw[y5a,y5g,y5t,y5z];omega
  rw[this];exact H3.swap.drop
 obtain⟨E',r1,r2,r3⟩:=cM (nx:=2) R.nx (by
  rw[xAb,y7o,<- pO i.i hu,<- pM i.i hu,<- y5i];exact((hxs.take _).append hzs).append (hxs.drop _)) (λx hx=>by
   rcases y6g.1 hx with hx|hx
   ·exact hu x (y9v hx)
   ·rcases y5w.1 hx with rfl|hx
    ·exact hel
    ·exact hu x (y8w hx)) H4
 have hl:(i.els.take i.i++i.el::i.els.drop i.i).length=i.els.length+1:=by
  rw[y5a,y5g,y5t,y5z];omega
 rw[hl]at r3;refine⟨_,rfl,_,y6r.2 rfl,(),trivial,E',r1,r3,⟨r2.nx,?_⟩⟩;have q1:=((@uP k w' True _).2 ⟨trivial,r2.hp⟩).imp (B:=rHP E' (1,.gone)) λx hx=> .inl ⟨rfl,hx.2⟩
 have q2:=((@uP k w' True _).2 ⟨trivial,q1⟩).imp (B:=rHP E' (0,.gone)) λx hx=> .inl ⟨rfl,hx.2⟩
 exact q2
def bbetterC:Con:=con1 I3' (λi=>[zA i.side,zA i.x,zA i.y]) (λ_=>[]) (λ_=>True) (λi=>yX (btr i.side i.x i.y)) (λ_=>[])
@[reducible] def yZm (s:Slot):V:= .agg [yX s.used,zA s.n,zA s.id,zA s.qty,yX s.top,zA s.queue,zA s.ahead,zA s.back]
def pushFC:Con:=con1 Slot (λs=>[yZm s]) (λ_=>[]) (λ_=>True) (λs=>yX (!s.used)) (λ_=>[])
def kT (l:List Slot):Int:=zKd (l.findIdx? λs=> !s.used)
def idxSlotC:Con:=con1 (List Slot) (λ_=>[.own 0,.fn 293 [] []]) (λl=>[.own 362 8 (l.map zQ)]) (λl=>l.length<=1000000) (λl=>zA (kT l)) (λl=>[.own 362 8 (l.map zQ)])
def yHh (l:List Slot):List SAnn:=[{ι:=Nat,slots:=λj=>[(8,zA j)],rows:=λ_=>[]}]
def aY:cJ:=⟨-1,-1,0,0⟩
def Arena.openQ (a:Arena):Arena:={a with queues:=a.queues++[aY]}
def aopenC:Con:=con1 Arena (λ_=>[.nm 0 0]) (λa=>[jX a]) (λa=>a.queues.length<=1000000) (λa=>zA a.queues.length) (λa=>[jX a.openQ])
structure yAc where
 a:Arena
 n:Int
 t:Bool
def Arena.usedAt (a:Arena) (n:Int):Bool:=decide (0<=n) && (decide (n<a.slots.length) && (a.slots.getD n.toNat slot0).used)
def Arena.topF (a:Arena) (n:Int) (t:Bool):Arena:=if a.usedAt n=ap then{a with slots:=a.slots.modify n.toNat λs=>{s with top:=t}}else a
def atopC:Con:=con1 yAc (λi=>[.nm 0 0,zA i.n,yX i.t]) (λi=>[jX i.a]) (λi=>i.a.slots.length<=1000000) (λi=>zA (if i.a.usedAt i.n=ap then 0 else 26)) (λi=>[jX (i.a.topF i.n i.t)])
structure PuI where
 a:Arena
 n:Int
 id:Int
 qty:Int
 top:Bool
def Arena.put (a:Arena) (n id qty:Int) (top:Bool):Arena:=
 let q:=a.queues.getD n.toNat aY
 let k:=kT a.slots
 let sl:=a.slots.set k.toNat ⟨ap,k,id,qty,top,n,q.last,-1⟩
 ⟨if q.last= -1 then sl else sl.modify q.last.toNat λs=>{s with back:=k},a.queues.set n.toNat ⟨if q.last= -1 then k else q.first,k,ao.wrap (q.total+qty),ao.wrap (q.count+1)⟩,ao.wrap (a.free-1)⟩
def Arena.push (a:Arena) (n id qty:Int) (top:Bool):Arena×Int×Int:=
 if n<0\/a.queues.length<=n then(a,0,26)else if qty<1\/1000000<qty then(a,0,24)else if a.free=0 then(a,0,13)else(a.put n id qty top,kT a.slots,0)
def Arena.fit (a:Arena):Prop:=a.slots.length<=1000000/\(a.free≠0->∃s∈a.slots,s.used=aq)/\∀q∈a.queues,q.last= -1\/(0<=q.last/\q.last<a.slots.length)
def apushC:Con:=con1 PuI (λi=>[.nm 0 0,zA i.n,zA i.id,zA i.qty,yX i.top]) (λi=>[jX i.a]) (λi=>i.a.fit) (λi=> .tup [zA (i.a.push i.n i.id i.qty i.top).2.1,zA (i.a.push i.n i.id i.qty i.top).2.2]) (λi=>[jX (i.a.push i.n i.id i.qty i.top).1])
@[reducible] def zJk (b:Book):List AObj:=[zP b 0,zP b 1,zP b 2,zP b 3,zP b 4,zP b 5]
structure BkP where
 b:Book
 price:Int
def zY (s:Int) (l:List xK) (price:Int):Nat:=(l.takeWhile λr=>btr s r.price price).length
def kV (s:Int) (l:List xK) (price:Int):Bool:=match l[zY s l price]? with
 |some r=>decide (r.price=price)
 |none=>aq
def Book.rungs (b:Book) (s:Int):List xK:=if s=1 then b.buys else b.sells
def yHa (s:Int):Con:=con1 BkP (λi=>[.nm 0 0,zA s,zA i.price]) (λi=>zJk i.b) (λi=>i.b.small) (λi=> .tup [zA (zY s (i.b.rungs s) i.price),yX (kV s (i.b.rungs s) i.price)]) (λi=>zJk i.b)
def find1C:Con:=yHa 1
def find2C:Con:=yHa 2
def ySa:List SAnn:=[{ι:=Nat,slots:=λj=>[(9,zA j)],rows:=λ_=>[]}]
def pget (l:List (Int×Place)) (k:Int):Option Place:=(l.find? λx=>decide (x.1=k)).map (·.2)
def sY (k:Int) (v:Place):List (Int×Place)->List (Int×Place)
 |[]=>[(k,v)]
 |(a,b)::l=>if k=a then(a,v)::l else(a,b)::sY k v l
structure LdI where
 b:Book
 id:Int
def Book.hasF (b:Book) (s:Int):Bool:=if s=1 then b.has1 else b.has2
def Book.topI (b:Book) (s:Int):Int:=if s=1 then b.top1 else b.top2
def Book.untop (b:Book) (s:Int):Arena:=if b.hasF s=ap then(match pget b.at_ (b.topI s)with
 |some o=>if o.side=s then b.a.topF o.slot aq else b.a
 |none=>b.a)else b.a
def Book.leadF (b:Book) (id s:Int):Book:=if s=1 then{b with a:=b.untop s,top1:=id,has1:=ap}else{b with a:=b.untop s,top2:=id,has2:=ap}
def yGb (s:Int):Con:=con1 LdI (λi=>[.nm 0 0,zA i.id,zA s]) (λi=>zJk i.b) (λi=>i.b.small) (λ_=>mQ) (λi=>zJk (i.b.leadF i.id s))
def lead1C:Con:=yGb 1
def lead2C:Con:=yGb 2
def Book.newQ (b:Book):Int×List Int×Arena:=if b.spare.length=0 then(b.a.queues.length,b.spare,b.a.openQ)else(b.spare.getD (b.spare.length-1) 0,b.spare.take (b.spare.length-1),b.a)
def Book.ins (b:Book) (s price:Int):List xK:=(b.rungs s).take (zY s (b.rungs s) price)++⟨price,b.newQ.1⟩::(b.rungs s).drop (zY s (b.rungs s) price)
def Book.queueF (b:Book) (s price:Int):Book×Int:=
 if kV s (b.rungs s) price=ap then(b,((b.rungs s).getD (zY s (b.rungs s) price) ⟨0,0⟩).queue)
 else(if s=1 then{b with a:=b.newQ.2.2,buys:=b.ins s price,spare:=b.newQ.2.1}else{b with a:=b.newQ.2.2,sells:=b.ins s price,spare:=b.newQ.2.1},b.newQ.1)
def yMy (b:Book):AObj:= .cells [.nm 1 0,.own 6,.own 3,.mp 4,zA b.top1,zA b.top2,.own 7,yX b.has1,yX b.has2] 299
def yPc (b:Book):AObj:= .cells [.nm 1 0,.own 2,.own 6,.mp 4,zA b.top1,zA b.top2,.own 7,yX b.has1,yX b.has2] 299
@[reducible] def yWf (b:Book):List AObj:=[yMy b,zP b 1,.gone,zP b 3,zP b 4,.gone,zP b 2,zP b 5]
@[reducible] def yTo (b:Book):List AObj:=[yPc b,zP b 1,zP b 2,.gone,zP b 4,.gone,zP b 3,zP b 5]
@[reducible] def Book.fit (b:Book):Prop:=b.a.fit/\b.a.queues.length<=100000/\b.buys.length<=100000/\b.sells.length<=100000/\b.spare.length<=100000
def queue1C:Con:=con1 BkP (λi=>[.nm 0 0,zA 1,zA i.price]) (λi=>zJk i.b) (λi=>i.b.fit) (λi=>zA (i.b.queueF 1 i.price).2) (λi=>yWf (i.b.queueF 1 i.price).1)
def queue2C:Con:=con1 BkP (λi=>[.nm 0 0,zA 2,zA i.price]) (λi=>zJk i.b) (λi=>i.b.fit) (λi=>zA (i.b.queueF 2 i.price).2) (λi=>yTo (i.b.queueF 2 i.price).1)
def insRC:Con:=yLo 304 2 16
def zYm (i:I3'):Prop:=
 cnd (i.side==1) (∃(a:Unit),btr i.side i.x i.y=decide (i.x>i.y)/\True) (∃(a:Unit),btr i.side i.x i.y=decide (i.x<i.y)/\True)
def yIi (s:Slot):Prop:=
 ∃(a:Unit),(!s.used)=!s.used/\True
def zZw (l:List Slot):Prop:=
 ∃(a:Nat),(↑a:Int)=0/\∃(b:Nat->Prop),∃(c:Nat->Nat),b a/\∀(d:Nat),b d->cnd (decide ((↑d:Int)<(↑(aa zQ l).length:Int))) ((0<=(↑d:Int)/\(↑d:Int)<(↑(aa zQ l).length:Int))/\∃(e:Bool),∃(f:Int),∃(g:Int),∃(h:Int),∃(j:Bool),∃(k:Int),∃(m:Int),∃(n:Int),zE (aa zQ l) (↑d:Int).toNat 0 8=az [D.v (.bool e),dI f,dI g,dI h,D.v (.bool j),dI k,dI m,dI n]/\∃(p:Slot),p.used=e/\p.n=f/\p.id=g/\p.qty=h/\p.top=j/\p.queue=k/\p.ahead=m/\p.back=n/\True/\∀(q:Unit),True->cnd (!p.used) (∃(r:Unit),kT l=(↑d:Int)/\rE (aa zQ l)/\True) (∃(r:Nat),(↑r:Int)=ao.wrap ((↑d:Int)+1)/\b r/\c r<c d/\rE (am 362 8 (aa zQ l)))) (∃(e:Unit),kT l=(-1)/\rE (aa zQ l)/\True)
def yEy (a:Arena):Prop:=
 ((aa zO a.queues).length+1)*(32:Nat)<=(140737488355328:Nat)/\∃(b:Unit),(↑a.queues.length:Int)=ao.wrap ((↑(aa zO a.queues++[[dI (-1),dI (-1),dI 0,dI 0]]).length:Int)-1)/\rE a.free/\rE (aa zQ a.slots)/\aa zO (a.queues++[aY])=aa zO a.queues++[[dI (-1),dI (-1),dI 0,dI 0]]/\True
def zBj (a:yAc):Prop:=∃(b:Unit),(if a.a.usedAt a.n=ap then(0:Int)else(26:Int))=26/\(a.a.topF a.n a.t).free=a.a.free/\aa zQ (a.a.topF a.n a.t).slots=aa zQ a.a.slots/\aa zO (a.a.topF a.n a.t).queues=aa zO a.a.queues/\True
def yRu (i:yAc):Prop:=
 cnd (decide (i.n<0)) (zBj i) (cnd (decide (i.n>=(↑(aa zQ i.a.slots).length:Int))) (zBj i) ((0<=i.n/\i.n<(↑(aa zQ i.a.slots).length:Int))/\∃(a:Bool),zE (aa zQ i.a.slots) i.n.toNat 0 1=az [D.v (.bool a)]/\cnd (!a) (zBj i) ((0<=i.n/\i.n<(↑(aa zQ i.a.slots).length:Int))/\i.n.toNat<(aa zQ i.a.slots).length/\∃(b:Unit),(if i.a.usedAt i.n=ap then(0:Int)else(26:Int))=0/\(i.a.topF i.n i.t).free=i.a.free/\aa zQ (i.a.topF i.n i.t).slots=zV (aa zQ i.a.slots) i.n.toNat 4 [D.v (.bool i.t)]/\aa zO (i.a.topF i.n i.t).queues=aa zO i.a.queues/\True)))
def yH (a:PuI):=(a.a.push a.n a.id a.qty a.top)
def sE (a:PuI):Prop:=(yH a).fst.free=a.a.free/\aa zQ (yH a).fst.slots=aa zQ a.a.slots/\aa zO (yH a).fst.queues=aa zO a.a.queues/\True
def zCm (a:PuI):Prop:=∃(b:Unit),(yH a).snd.fst=0/\(yH a).snd.snd=26/\sE a
def zBw (a:PuI):Prop:=∃(b:Unit),(yH a).snd.fst=0/\(yH a).snd.snd=24/\sE a
def rV (a:PuI) (b:List Slot):=(zV (zV (aa zO a.a.queues) a.n.toNat 0 [dI (kT b)]) a.n.toNat 1 [dI (kT b)])
def sF (a:PuI) (b:List Slot) (c:Int):=(zV (rV a b) a.n.toNat 2 [dI (ao.wrap (c+a.qty))])
def pY (a:PuI) (b:List Slot):=(zV (aa zO a.a.queues) a.n.toNat 1 [dI (kT b)])
def rC (a:PuI) (b:List Slot) (c:Int):=(zV (pY a b) a.n.toNat 2 [dI (ao.wrap (c+a.qty))])
def yIu (i:PuI):Prop:=
 cnd (decide (i.n>=0)) (cnd (!decide (i.n<(↑(aa zO i.a.queues).length:Int))) (zCm i) (cnd (decide (i.qty<1)) (zBw i) (cnd (decide (i.qty>1000000)) (zBw i) (cnd (i.a.free==0) (∃(a:Unit),(yH i).snd.fst=0/\(yH i).snd.snd=13/\sE i) (∃(a:List Slot),aa zQ a=aa zQ i.a.slots/\a.length<=1000000/\∀(b:Unit),True->(0<=i.n/\i.n<(↑(aa zO i.a.queues).length:Int))/\∃(c:Int),zE (aa zO i.a.queues) i.n.toNat 1 1=az [dI c]/\(0<=kT a/\kT a<(↑(aa zQ a).length:Int))/\(kT a).toNat<(aa zQ a).length/\∃(d:Int),zE (aa zO i.a.queues) i.n.toNat 1 1=az [dI d]/\cnd (d==(-1)) (i.n.toNat<(aa zO i.a.queues).length/\i.n.toNat<(zV (aa zO i.a.queues) i.n.toNat 0 [dI (kT a)]).length/\∃(e:Int),zE (rV i a) i.n.toNat 2 1=az [dI e]/\i.n.toNat<(rV i a).length/\∃(f:Int),zE (sF i a e) i.n.toNat 3 1=az [dI f]/\i.n.toNat<(sF i a e).length/\∃(g:Unit),(yH i).snd.fst=kT a/\(yH i).snd.snd=0/\(yH i).fst.free=ao.wrap (i.a.free-1)/\aa zQ (yH i).fst.slots=zV (aa zQ a) (kT a).toNat 0 [D.v (.bool ap),dI (kT a),dI i.id,dI i.qty,D.v (.bool i.top),dI i.n,dI c,dI (-1)]/\aa zO (yH i).fst.queues=zV (sF i a e) i.n.toNat 3 [dI (ao.wrap (f+1))]/\True) (∃(e:Int),zE (aa zO i.a.queues) i.n.toNat 1 1=az [dI e]/\(0<=e/\e<(↑(zV (aa zQ a) (kT a).toNat 0 [D.v (.bool ap),dI (kT a),dI i.id,dI i.qty,D.v (.bool i.top),dI i.n,dI c,dI (-1)]).length:Int))/\e.toNat<(zV (aa zQ a) (kT a).toNat 0 [D.v (.bool ap),dI (kT a),dI i.id,dI i.qty,D.v (.bool i.top),dI i.n,dI c,dI (-1)]).length/\i.n.toNat<(aa zO i.a.queues).length/\∃(f:Int),zE (pY i a) i.n.toNat 2 1=az [dI f]/\i.n.toNat<(pY i a).length/\∃(g:Int),zE (rC i a f) i.n.toNat 3 1=az [dI g]/\i.n.toNat<(rC i a f).length/\∃(h:Unit),(yH i).snd.fst=kT a/\(yH i).snd.snd=0/\(yH i).fst.free=ao.wrap (i.a.free-1)/\aa zQ (yH i).fst.slots=zV (zV (aa zQ a) (kT a).toNat 0 [D.v (.bool ap),dI (kT a),dI i.id,dI i.qty,D.v (.bool i.top),dI i.n,dI c,dI (-1)]) e.toNat 7 [dI (kT a)]/\aa zO (yH i).fst.queues=zV (rC i a f) i.n.toNat 3 [dI (ao.wrap (g+1))]/\True)))))) (zCm i)
def xW (a:BkP):=(↑(zY 1 (a.b.rungs 1) a.price):Int)
def vY (a:BkP):=(↑(aa zB a.b.buys).length:Int)
def dR (a:BkP):Prop:=a.b.top1=a.b.top1/\rE a.b.top2/\rE a.b.has1/\rE a.b.has2/\aj Arena 3 zG a.b.a=zP a.b 1/\rE (aa zB a.b.buys)/\rE (aa zB a.b.sells)/\rE (atE a.b.at_)/\rE (iE a.b.spare)/\True
def zJg (a:Nat) (b:BkP):Prop:=(0<=(↑a:Int)/\(↑a:Int)<(vY b))/\∃(c:Int),zE (aa zB b.b.buys) (↑a:Int).toNat 0 1=az [dI c]/\∃(d:Unit),(xW b)=(↑a:Int)/\kV 1 (b.b.rungs 1) b.price=(c==b.price)/\dR b
def zCr (a:BkP) (b:Nat):Prop:=∃(c:Unit),(xW a)=(↑b:Int)/\kV 1 (a.b.rungs 1) a.price=aq/\dR a
def tJ (a:Nat) (b:Nat->Prop) (c:Nat->Nat) (d:BkP):Prop:=∃(e:Nat),(↑e:Int)=ao.wrap ((↑a:Int)+1)/\b e/\c e<c a/\rE (zP d.b 0)/\rE (zP d.b 1)/\rE (zP d.b 2)/\rE (zP d.b 3)/\rE (zP d.b 4)/\rE (zP d.b 5)
def rF (a:Nat) (b:BkP):=(decide ((↑a:Int)<(vY b)))
def yIm (i:BkP):Prop:=
 ∃(a:Nat),(↑a:Int)=0/\∃(b:Nat->Prop),∃(c:Nat->Nat),b a/\∀(d:Nat),b d->cnd (rF d i) ((0<=(↑d:Int)/\(↑d:Int)<(vY i))/\∃(e:Int),zE (aa zB i.b.buys) (↑d:Int).toNat 0 1=az [dI e]/\∃(f:I3'),f.side=1/\f.x=e/\f.y=i.price/\True/\∀(g:Unit),True->cnd (btr f.side f.x f.y) (tJ d b c i) (cnd (rF d i) (zJg d i) (zCr i d))) (cnd (rF d i) (zJg d i) (zCr i d))
def xX (a:BkP):=(↑(zY 2 (a.b.rungs 2) a.price):Int)
def vS (a:BkP):=(↑(aa zB a.b.sells).length:Int)
def zIg (a:Nat) (b:BkP):Prop:=(0<=(↑a:Int)/\(↑a:Int)<(vS b))/\∃(c:Int),zE (aa zB b.b.sells) (↑a:Int).toNat 0 1=az [dI c]/\∃(d:Unit),(xX b)=(↑a:Int)/\kV 2 (b.b.rungs 2) b.price=(c==b.price)/\dR b
def zDd (a:BkP) (b:Nat):Prop:=∃(c:Unit),(xX a)=(↑b:Int)/\kV 2 (a.b.rungs 2) a.price=aq/\dR a
def rU (a:Nat) (b:BkP):=(decide ((↑a:Int)<(vS b)))
def yKg (i:BkP):Prop:=
 ∃(a:Nat),(↑a:Int)=0/\∃(b:Nat->Prop),∃(c:Nat->Nat),b a/\∀(d:Nat),b d->cnd (rU d i) ((0<=(↑d:Int)/\(↑d:Int)<(vS i))/\∃(e:Int),zE (aa zB i.b.sells) (↑d:Int).toNat 0 1=az [dI e]/\∃(f:I3'),f.side=2/\f.x=e/\f.y=i.price/\True/\∀(g:Unit),True->cnd (btr f.side f.x f.y) (tJ d b c i) (cnd (rU d i) (zIg d i) (zDd i d))) (cnd (rU d i) (zIg d i) (zDd i d))
def dN (a:LdI):Prop:=aa zB a.b.buys=aa zB a.b.buys/\rE (aa zB a.b.sells)/\rE (atE a.b.at_)/\rE (iE a.b.spare)/\True
def sA (a:LdI):Prop:=∃(b:Unit),rE a.id/\rE a.b.top2/\ap=ap/\rE a.b.has2/\aj Arena 3 zG (a.b.untop 1)=zP a.b 1/\dN a
def zCa (a:LdI) (b:Int) (c:Int) (d:Int) (e:Bool):Prop:=kH (bc ao a.b.top1) (atE a.b.at_)=az [dI b,dI c,dI d]/\e=ap\/kH (bc ao a.b.top1) (atE a.b.at_)=ba/\[dI b,dI c,dI d]=[dI 0,dI 0,dI 0]/\e=aq
def zDs (a:LdI):Prop:=∀(b:bo×List D),b∈atE a.b.at_->like (bc ao a.b.top1) b.fst=ap
def yCv (i:LdI):Prop:=
 cnd i.b.has1 ((zDs i)/\∃(a:Bool),∃(b:Int),∃(c:Int),∃(d:Int),(zCa i b c d a)/\((zDs i)/\∃(e:Bool),∃(f:Int),∃(g:Int),∃(h:Int),(zCa i f g h e)/\(f=b/\g=c/\h=d/\True)/\e=a/\True)/\rE i.b.top1/\True/\cnd a (cnd (b==1) (∃(e:yAc),e.n=d/\e.t=aq/\aj Arena 3 zG e.a=zP i.b 1/\e.a.slots.length<=1000000/\∀(f:Unit),True->∃(g:Unit),rE i.id/\rE i.b.top2/\ap=ap/\rE i.b.has2/\aj Arena 3 zG (i.b.untop 1)=aj Arena 3 zG (e.a.topF e.n e.t)/\dN i) (sA i)) (sA i)) (sA i)
def rW (a:LdI):Prop:=∃(b:Unit),rE a.b.top1/\rE a.id/\rE a.b.has1/\ap=ap/\aj Arena 3 zG (a.b.untop 2)=zP a.b 1/\dN a
def zCo (a:LdI) (b:Int) (c:Int) (d:Int) (e:Bool):Prop:=kH (bc ao a.b.top2) (atE a.b.at_)=az [dI b,dI c,dI d]/\e=ap\/kH (bc ao a.b.top2) (atE a.b.at_)=ba/\[dI b,dI c,dI d]=[dI 0,dI 0,dI 0]/\e=aq
def zCb (a:LdI):Prop:=∀(b:bo×List D),b∈atE a.b.at_->like (bc ao a.b.top2) b.fst=ap
def yCx (i:LdI):Prop:=
 cnd i.b.has2 ((zCb i)/\∃(a:Bool),∃(b:Int),∃(c:Int),∃(d:Int),(zCo i b c d a)/\((zCb i)/\∃(e:Bool),∃(f:Int),∃(g:Int),∃(h:Int),(zCo i f g h e)/\(f=b/\g=c/\h=d/\True)/\e=a/\True)/\rE i.b.top2/\True/\cnd a (cnd (b==2) (∃(e:yAc),e.n=d/\e.t=aq/\aj Arena 3 zG e.a=zP i.b 1/\e.a.slots.length<=1000000/\∀(f:Unit),True->∃(g:Unit),rE i.b.top1/\rE i.id/\rE i.b.has1/\ap=ap/\aj Arena 3 zG (i.b.untop 2)=aj Arena 3 zG (e.a.topF e.n e.t)/\dN i) (rW i)) (rW i)) (rW i)
def qA (a:BkP):Prop:=(a.b.a.slots.length<=1000000/\a.b.a.queues.length<=1000000)/\a.b.buys.length<=1000000/\a.b.sells.length<=1000000/\a.b.spare.length<=1000000
def gR (a:BkP):Prop:=0<=(xW a)/\(xW a)<(vY a)
def vT (a:BkP):=((↑(iE a.b.spare).length:Int)-1)
def m3 (a:BkP):Prop:=0<=ao.wrap (vT a)/\ao.wrap (vT a)<=(↑(iE a.b.spare).length:Int)
def mW (a:BkP):Prop:=0<=ao.wrap (vT a)/\ao.wrap (vT a)<(↑(iE a.b.spare).length:Int)
def g9 (a:yAk):Prop:=a.i<=a.els.length/\(a.els.length+1)*(16:Nat)<=(140737488355328:Nat)
def gV (a:BkP):=(ao.wrap (vT a))
def zM (a:BkP):=(a.b.queueF 1 a.price)
def z7n (i:BkP):Prop:=
 ∃(a:BkP),rE ((1:Int))/\a.price=i.price/\a.b.top1=i.b.top1/\a.b.top2=i.b.top2/\a.b.has1=i.b.has1/\a.b.has2=i.b.has2/\aj Arena 3 zG a.b.a=zP i.b 1/\aa zB a.b.buys=aa zB i.b.buys/\aa zB a.b.sells=aa zB i.b.sells/\atE a.b.at_=atE i.b.at_/\iE a.b.spare=iE i.b.spare/\(qA a)/\∀(b:Unit),True->cnd (kV 1 (a.b.rungs 1) a.price) ((gR a)/\∃(c:Int),zE (aa zB a.b.buys) (xW a).toNat 1 1=az [dI c]/\∃(d:Unit),(zM i).snd=c/\(zM i).fst.top1=a.b.top1/\(zM i).fst.top2=a.b.top2/\(zM i).fst.has1=a.b.has1/\(zM i).fst.has2=a.b.has2/\aj Arena 3 zG (zM i).fst.a=aj Arena 3 zG a.b.a/\aa zB (zM i).fst.sells=aa zB a.b.sells/\atE (zM i).fst.at_=atE a.b.at_/\aa zB (zM i).fst.buys=aa zB a.b.buys/\iE (zM i).fst.spare=iE a.b.spare/\True) (cnd (decide ((↑(iE a.b.spare).length:Int)>0)) ((mW a)/\∃(c:Int),zE (iE a.b.spare) (gV a).toNat 0 1=az [dI c]/\(m3 a)/\True/\∃(d:yAk),(↑d.i:Int)=(xW a)/\d.els=aa zB a.b.buys/\[d.el]=[[dI i.price,dI c]]/\(g9 d)/\∀(e:Unit),True->∃(f:Unit),(zM i).snd=c/\(zM i).fst.top1=a.b.top1/\(zM i).fst.top2=a.b.top2/\(zM i).fst.has1=a.b.has1/\(zM i).fst.has2=a.b.has2/\aj Arena 3 zG (zM i).fst.a=aj Arena 3 zG a.b.a/\aa zB (zM i).fst.sells=aa zB a.b.sells/\atE (zM i).fst.at_=atE a.b.at_/\aa zB (zM i).fst.buys=ab d.i d.els++d.el::ac d.i d.els/\iE (zM i).fst.spare=ab (gV a).toNat (iE a.b.spare)/\True) (∃(c:Arena),aj Arena 3 zG c=aj Arena 3 zG a.b.a/\c.queues.length<=1000000/\∀(d:Unit),True->True/\∃(e:yAk),(↑e.i:Int)=(xW a)/\e.els=aa zB a.b.buys/\[e.el]=[[dI i.price,dI (↑c.queues.length:Int)]]/\(g9 e)/\∀(f:Unit),True->∃(g:Unit),(zM i).snd=(↑c.queues.length:Int)/\(zM i).fst.top1=a.b.top1/\(zM i).fst.top2=a.b.top2/\(zM i).fst.has1=a.b.has1/\(zM i).fst.has2=a.b.has2/\aj Arena 3 zG (zM i).fst.a=aj Arena 3 zG c.openQ/\aa zB (zM i).fst.sells=aa zB a.b.sells/\atE (zM i).fst.at_=atE a.b.at_/\aa zB (zM i).fst.buys=ab e.i e.els++e.el::ac e.i e.els/\iE (zM i).fst.spare=iE a.b.spare/\True))
def gY (a:BkP):Prop:=0<=(xX a)/\(xX a)<(vS a)
def zN (a:BkP):=(a.b.queueF 2 a.price)
def z5r (i:BkP):Prop:=
 ∃(a:BkP),rE ((2:Int))/\a.price=i.price/\a.b.top1=i.b.top1/\a.b.top2=i.b.top2/\a.b.has1=i.b.has1/\a.b.has2=i.b.has2/\aj Arena 3 zG a.b.a=zP i.b 1/\aa zB a.b.buys=aa zB i.b.buys/\aa zB a.b.sells=aa zB i.b.sells/\atE a.b.at_=atE i.b.at_/\iE a.b.spare=iE i.b.spare/\(qA a)/\∀(b:Unit),True->cnd (kV 2 (a.b.rungs 2) a.price) ((gY a)/\∃(c:Int),zE (aa zB a.b.sells) (xX a).toNat 1 1=az [dI c]/\∃(d:Unit),(zN i).snd=c/\(zN i).fst.top1=a.b.top1/\(zN i).fst.top2=a.b.top2/\(zN i).fst.has1=a.b.has1/\(zN i).fst.has2=a.b.has2/\aj Arena 3 zG (zN i).fst.a=aj Arena 3 zG a.b.a/\aa zB (zN i).fst.buys=aa zB a.b.buys/\atE (zN i).fst.at_=atE a.b.at_/\aa zB (zN i).fst.sells=aa zB a.b.sells/\iE (zN i).fst.spare=iE a.b.spare/\True) (cnd (decide ((↑(iE a.b.spare).length:Int)>0)) ((mW a)/\∃(c:Int),zE (iE a.b.spare) (gV a).toNat 0 1=az [dI c]/\(m3 a)/\True/\∃(d:yAk),(↑d.i:Int)=(xX a)/\d.els=aa zB a.b.sells/\[d.el]=[[dI i.price,dI c]]/\(g9 d)/\∀(e:Unit),True->∃(f:Unit),(zN i).snd=c/\(zN i).fst.top1=a.b.top1/\(zN i).fst.top2=a.b.top2/\(zN i).fst.has1=a.b.has1/\(zN i).fst.has2=a.b.has2/\aj Arena 3 zG (zN i).fst.a=aj Arena 3 zG a.b.a/\aa zB (zN i).fst.buys=aa zB a.b.buys/\atE (zN i).fst.at_=atE a.b.at_/\aa zB (zN i).fst.sells=ab d.i d.els++d.el::ac d.i d.els/\iE (zN i).fst.spare=ab (gV a).toNat (iE a.b.spare)/\True) (∃(c:Arena),aj Arena 3 zG c=aj Arena 3 zG a.b.a/\c.queues.length<=1000000/\∀(d:Unit),True->True/\∃(e:yAk),(↑e.i:Int)=(xX a)/\e.els=aa zB a.b.sells/\[e.el]=[[dI i.price,dI (↑c.queues.length:Int)]]/\(g9 e)/\∀(f:Unit),True->∃(g:Unit),(zN i).snd=(↑c.queues.length:Int)/\(zN i).fst.top1=a.b.top1/\(zN i).fst.top2=a.b.top2/\(zN i).fst.has1=a.b.has1/\(zN i).fst.has2=a.b.has2/\aj Arena 3 zG (zN i).fst.a=aj Arena 3 zG c.openQ/\aa zB (zN i).fst.buys=aa zB a.b.buys/\atE (zN i).fst.at_=atE a.b.at_/\aa zB (zN i).fst.sells=ab e.i e.els++e.el::ac e.i e.els/\iE (zN i).fst.spare=iE a.b.spare/\True))
end Sx
