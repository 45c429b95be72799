/- Texts of ours. No condition. -/
import Derived.Laws.AppendOwn
import Derived.Lib.AppendZerosOnto
import Derived.Lib.Overlaps
import Derived.Test.YthkofaanekmpmaaGreatR4
set_option linter.all false
open List renaming map->aa,take->ab,drop->ac,filter->ae,range->af
open Sx.AObj renaming fro->ag,adt->aj,cells->ak,own->am
open Go.IntKind renaming i64->ao
open Bool renaming true->ap,false->aq
open Exists renaming intro->ar
open And renaming intro->au
open Go.Builtin renaming zeroCells->av,copy_->aw,firstCells->ax,append_->ay
open Option renaming some->az,none->ba
open Go.Value renaming int->bc,string->be
open Go renaming World->bg,Value->bo,Program->bu,Addr->bv,size_zeroCells->bz
open Int renaming tmod_eq_emod_of_nonneg->cd,add_mul_emod_self_left->ce
namespace Sx
set_option maxRecDepth 100000
open Go Cv Go.Proofs
def elA {α:Type} {f:α->List D} {l:List α} {i g n:Nat} {x:α} {r:List D} (h:l[i]? =az x) (hn:g+n<=(f x).length) (hr:((f x).drop g).take n=r):zE (l.map f) i g n=az r:=by
 unfold zE;rw[y6v,h];simp only[y7i,Nat.ble_eq_true_of_le hn,cond_true,hr]
def zXb {a:Arena} {n:Int} {q:cI} (h0:0<=n) (h:a.queues[n.toNat]? =az q):a.qAt n=q:=by
 have:=(y5i.1 h).1;rw[Arena.qAt,y5g ⟨h0,by omega⟩,y5n,h];rfl
def zLe {a:Arena} {n:Int} (h:¬(0<=n/\n<a.queues.length)):a.qAt n=⟨0,0,0,0⟩:=by rw[Arena.qAt,y5e h]
def zIz:atotalC.ok Tryz.prog 228:=okw (V:=z5n) mixed gok0 1 (λ_=>[]) (λ_=>[]) [0] Tryz.func228 λ(i:ArN) _=>by
 unfold z5n gW eH jK dI;simp only[y5f];refine zH (λc=>Cv.cnd.mk (λd=> ?_) (λd=> ?_)) (λc=> ?_)
 ·have d:¬i.n<(i.a.queues.length:Int):=by simpa using d
  rw[zLe (by omega)];exact kp
 ·have d:i.n<(i.a.queues.length:Int):=by simpa using d
  obtain⟨q,hq⟩:=yD (l:=i.a.queues) (i:=i.n.toNat) oM;rw[zXb (by omega) hq];refine⟨⟨oM,oM⟩,q.total,elA hq (by simp[zO]) rfl,?_⟩;exact kp
 ·rw[zLe (by omega)];exact kp
def pP:acountC.ok Tryz.prog 229:=okw (V:=z5z) mixed gok0 1 (λ_=>[]) (λ_=>[]) [0] Tryz.func229 λ(i:ArN) _=>by
 unfold z5z gW eZ jK dI;simp only[y5f];refine zH (λc=>Cv.cnd.mk (λd=> ?_) (λd=> ?_)) (λc=> ?_)
 ·have d:¬i.n<(i.a.queues.length:Int):=by simpa using d
  rw[zLe (by omega)];exact kp
 ·have d:i.n<(i.a.queues.length:Int):=by simpa using d
  obtain⟨q,hq⟩:=yD (l:=i.a.queues) (i:=i.n.toNat) oM;rw[zXb (by omega) hq];refine⟨⟨oM,oM⟩,q.count,elA hq (by simp[zO]) rfl,?_⟩;exact kp
 ·rw[zLe (by omega)];exact kp
def lJ:bisC.ok Tryz.prog 193:=okw (V:=y2m) mixed gok0 0 (λ_=>[]) (λ_=>[]) [] Tryz.func193 λ(n:Int) _=>by
 unfold y2m;refine Cv.cnd.mk (λc=>⟨(),?_,trivial⟩) (λc=>⟨(),?_,trivial⟩)
 all_goals simp at c
 ·simp[c]
 ·by_cases h:n=2<;>simp[c,h]
def z7f:toldC.ok Tryz.prog 194:=okw (V:=y1m) mixed (gokc zIz (gokc pP gok0)) 0 (λ_=>[]) (λ_=>[]) [0] Tryz.func194 λ(i:BkR) h=>by
 refine⟨⟨i.b.a,i.r.queue⟩,?_⟩;(repeat'(first|exact rfl|exact trivial|assumption|apply au|refineλ(_:Unit) (_:True)=>?_|refine ar () ?_|omega|(dsimp only;omega)));refine⟨⟨i.b.a,i.r.queue⟩,?_⟩;exact kp
def yGf:best1C.ok Tryz.prog 156:=okw (V:=yVz) mixed (gokc lJ (gokc z7f gok0)) 0 (λ_=>[]) (λ_=>[]) [0] Tryz.func156 λ(b:Book) h=>by
 have h:b.cntOk:=h;refine⟨1,rfl,trivial,λ_ _=>Cv.cnd.mk (λc=>absurd c Z8) λ_=> ?_⟩;simp only[y5f];refine Cv.cnd.mk (λc=> ?_) (λc=> ?_)
 ·have hl:b.buys=[]:=y6f (by have:(b.buys.length:Int)=0:=(by simpa using c);omega);have e:b.best b.buys=(⟨0,0,0⟩,aq):=by rw[hl];rfl
  rw[e];exact kp
 ·obtain⟨r,l,hl⟩:∃r l,b.buys=r::l:=by
   cases hb:b.buys with
   |nil=>rw[hb]at c;exact absurd c Z8
   |cons r l=>exact⟨r,l,rfl⟩
  have e:b.best b.buys=(b.told r,ap):=by rw[hl];rfl
  rw[e];refine⟨⟨oM,by rw[hl,y5j];omega⟩,r.price,r.queue,elA (x:=r) (by rw[hl];rfl) (by simp[zB]) rfl,⟨b,r⟩,?_⟩;exact kp
def yDx:best2C.ok Tryz.prog 156:=okw (V:=ySl) mixed (gokc lJ (gokc z7f gok0)) 0 (λ_=>[]) (λ_=>[]) [0] Tryz.func156 λ(b:Book) h=>by
 have h:b.cntOk:=h;refine⟨2,rfl,trivial,λ_ _=>Cv.cnd.mk (λc=>absurd c Z8) λ_=> ?_⟩;simp only[y5f];refine Cv.cnd.mk (λc=> ?_) (λc=> ?_)
 ·have hl:b.sells=[]:=y6f (by have:(b.sells.length:Int)=0:=(by simpa using c);omega);have e:b.best b.sells=(⟨0,0,0⟩,aq):=by rw[hl];rfl
  rw[e];exact kp
 ·obtain⟨r,l,hl⟩:∃r l,b.sells=r::l:=by
   cases hb:b.sells with
   |nil=>rw[hb]at c;exact absurd c Z8
   |cons r l=>exact⟨r,l,rfl⟩
  have e:b.best b.sells=(b.told r,ap):=by rw[hl];rfl
  rw[e];refine⟨⟨oM,by rw[hl,y5j];omega⟩,r.price,r.queue,elA (x:=r) (by rw[hl];rfl) (by simp[zB]) rfl,⟨b,r⟩,?_⟩;exact kp
def zLp:bestC.ok Tryz.prog 156:=λi=>match i with
 |⟨aq,b⟩=>yGf b
 |⟨ap,b⟩=>yDx b
def zOx {α:Type} (f:α->α) (x:α) (b:List α):∀a:List α,(a++x::b).modify a.length f=a++f x::b
 |[]=>rfl
 |y::a=>by
  show y::(a++x::b).modify a.length f=_;rw[zOx f x b a];rfl
def zRj {els:List (List D)} {a b:List (List D)} {x y ds:List D} {j f:Nat} (h:els=a++x::b) (hl:a.length=j) (hy:x.take f++(ds++x.drop (f+ds.length))=y):zV els j f ds=a++y::b:=by
 rw[zV,h,<- hl,zOx,hy]
def qX {s:MSt} {j:Nat} {x y:Top} {f:Nat} {ds:List D} (hj:j<s.books.length) (hy:(z5 x).take f++(ds++(z5 x).drop (f+ds.length))=z5 y):
 zV (aa z5 (xV s j x)) j f ds=aa z5 (xV s j y):=by
 rw[zRj (a:=(s.tops.take j).map z5) (b:=(List.replicate (s.books.length-j-1) top0).map z5) (by rw[xV,y5o,y5t]) (by
  rw[y5f,y5w,MSt.tops,y5f];omega) hy,xV,y5o,y5t]
def zOy {s:MSt} {j:Nat} {x:Top} (hj:j<s.books.length):(xV s j x).length=s.books.length:=by
 rw[xV,y5d,y5j,y5w,MSt.tops,y5f,y8j];omega
def zJw {s:MSt} {j:Nat} (hj:j<s.books.length):xV s j top0=x6 s j:=by
 rw[xV,x6];obtain⟨m,hm⟩:∃m,s.books.length-j=m+1:=⟨s.books.length-j-1,oM⟩
 rw[hm,y9l];rfl
def zKk {s:MSt} {j:Nat} {b:Book} (hb:s.books[j]? =az b):xV s j b.top=x6 s (j+1):=by
 have hj:=(y5i.1 hb).1;rw[xV,x6,y6n,show s.tops[j]? =az b.top by rw[MSt.tops,y6v,hb];rfl];simp only[y8h,y5l,y6w,y7u];rw[show s.books.length-j-1=s.books.length-(j+1)by omega]
def fL {α:Type} {l:List α} {j:Nat} {x:α} (h:l[j]? =az x):l.set j x=l:=by
 obtain⟨hj,rfl⟩:=y5i.1 h;exact List.set_getElem_self hj
def y2o (s:MSt) (h:topsC.cnd s):yRk s:=by
 obtain⟨h1,h2⟩:s.cntOk:=h;unfold yRk zNo zGe fB uQ qP vB gY bS aB zIw zAu zBg dJ b6 zAt dQ dE zX bU uV dI;have p48:(2:Int) ^ (48:Nat)=281474976710656:=by decide
 refine⟨⟨oM,oM,oM,by rw[p48];omega⟩,0,rfl,?_,λj=>j<=s.books.length,λj=>s.books.length-j,oM,λj hj=>zH (λhlt=> ?_) (λhlt=> ?_)⟩
 ·rw[x6,y5o,List.map_replicate];rfl
 ·have hj':j<s.books.length:=by omega
  obtain⟨b,hb⟩:=yD hj';have hc:=h2 b (y5p hb);simp only[y5x];have ha:∀x,(aa z5 (xV s j x)).length=s.books.length:=λx=>by rw[y5f,zOy hj']
  have w1:ao.wrap (0+1)=1:=by decide
  have w2:(0+1) % ((2:Int) ^ ao.bits).natAbs=1:=by decide
  refine⟨⟨oM,oM⟩,oM,(j,top0),by rw[zJw hj'],λx=>x=(j,top0.buy (b.best b.buys)),⟨⟨Z8,Z8⟩,1,rfl,b,hb,⟨aq,b⟩,rfl,rfl,hc,λ_ _=>⟨b,rfl,kp,oM,?_⟩⟩,?_⟩
  ·refine Cv.cnd.mk (λc=> ?_) (λc=> ?_)
   ·have c:(b.best b.buys).2=ap:=c;have e1:=qX (s:=s) hj' (x:=top0) (y:={top0 with has1:=ap}) (f:=0+0+0*1) (ds:=[D.v (.bool ap)]) rfl;have e2:=qX (s:=s) hj' (x:={top0 with has1:=ap}) (y:={top0 with has1:=ap,p1:=(b.best b.buys).1.price}) (f:=0+2+0*1) (ds:=[D.v (.int .i64 (b.best b.buys).1.price)]) rfl;have e3:=qX (s:=s) hj' (x:={top0 with has1:=ap,p1:=(b.best b.buys).1.price}) (y:={top0 with has1:=ap,p1:=(b.best b.buys).1.price,q1:=(b.best b.buys).1.qty}) (f:=0+4+0*1) (ds:=[D.v (.int .i64 (b.best b.buys).1.qty)]) rfl;dsimp only;simp only[show b.side aq=b.buys from rfl,e1,e2,e3,ha]
    (repeat'(first|exact rfl|exact trivial|assumption|apply au|refineλ(_:Unit) (_:True)=>?_|refine ar () ?_|omega|(dsimp only;omega)))
    refine⟨(j,{top0 with has1:=ap,p1:=(b.best b.buys).1.price,q1:=(b.best b.buys).1.qty}),rfl,?_,?_⟩
    ·rw[Top.buy,y5g c]
    ·(repeat'(first|exact rfl|exact trivial|assumption|apply au|refineλ(_:Unit) (_:True)=>?_|refine ar () ?_|omega|(dsimp only;omega)))
     rw[fL hb]
   ·have c:(b.best b.buys).2=aq:=c;refine⟨(j,top0),rfl,?_,?_⟩
    ·rw[Top.buy,y5e (by rw[c];simp)]
    ·(repeat'(first|exact rfl|exact trivial|assumption|apply au|refineλ(_:Unit) (_:True)=>?_|refine ar () ?_|omega|(dsimp only;omega)))
     rw[fL hb]
  ·rintro _ rfl;rw[w1];generalize hx:top0.buy (b.best b.buys)=x;have hx2:b.top=x.sell (b.best b.sells):=by rw[Book.top,hx]
   refine⟨(j,x),rfl,λy=>y=(j,b.top),⟨⟨Z8,Z8⟩,2,rfl,b,hb,⟨ap,b⟩,rfl,rfl,hc,λ_ _=>⟨b,rfl,kp,oM,?_⟩⟩,?_⟩
   ·refine Cv.cnd.mk (λc=> ?_) (λc=> ?_)
    ·have c:(b.best b.sells).2=ap:=c;have e1:=qX (s:=s) hj' (x:=x) (y:={x with has2:=ap}) (f:=0+0+1*1) (ds:=[D.v (.bool ap)]) rfl;have e2:=qX (s:=s) hj' (x:={x with has2:=ap}) (y:={x with has2:=ap,p2:=(b.best b.sells).1.price}) (f:=0+2+1*1) (ds:=[D.v (.int .i64 (b.best b.sells).1.price)]) rfl;have e3:=qX (s:=s) hj' (x:={x with has2:=ap,p2:=(b.best b.sells).1.price}) (y:={x with has2:=ap,p2:=(b.best b.sells).1.price,q2:=(b.best b.sells).1.qty}) (f:=0+4+1*1) (ds:=[D.v (.int .i64 (b.best b.sells).1.qty)]) rfl;dsimp only;simp only[w2,show b.side ap=b.sells from rfl,e1,e2,e3,ha]
     (repeat'(first|exact rfl|exact trivial|assumption|apply au|refineλ(_:Unit) (_:True)=>?_|refine ar () ?_|omega|(dsimp only;omega)))
     refine⟨(j,{x with has2:=ap,p2:=(b.best b.sells).1.price,q2:=(b.best b.sells).1.qty}),rfl,?_,?_⟩
     ·rw[hx2,Top.sell,y5g c]
     ·(repeat'(first|exact rfl|exact trivial|assumption|apply au|refineλ(_:Unit) (_:True)=>?_|refine ar () ?_|omega|(dsimp only;omega)))
      rw[fL hb]
    ·have c:(b.best b.sells).2=aq:=c;refine⟨(j,x),rfl,?_,?_⟩
     ·rw[hx2,Top.sell,y5e (by rw[c];simp)]
     ·(repeat'(first|exact rfl|exact trivial|assumption|apply au|refineλ(_:Unit) (_:True)=>?_|refine ar () ?_|omega|(dsimp only;omega)))
      rw[fL hb]
   ·rintro _ rfl;refine⟨j+1,by rw[w64 (by omega)];rfl,?_⟩;refine⟨by dsimp only;rw[zKk hb],?_⟩;exact kp
 ·have hj:j<=s.books.length:=hj;obtain rfl:j=s.books.length:=by omega
  have e:x6 s s.books.length=s.tops:=by
   rw[x6,xAl,List.replicate_zero,y6b,y5q (by rw[MSt.tops,y5f];omega)]
  rw[e];exact kp
def yPi:topsC.ok Tryz.prog 105:=okw mixed (gokc zLp gok0) 0 (λs=>yQu s) (λs=>yRl s) [0] Tryz.func105 y2o
def zPk:copySC.ok Tryz.prog 110:=okw (V:=ySh) mixed (gokc yOp (gokc yKz gok0)) 0 (λ_=>[]) (λs=>yTa s) [0] Tryz.func110 λ(s:MSt) h=>by
 obtain⟨h1,h2⟩:s.small:=h;refine⟨yO s.wh,?_⟩;(repeat'(first|exact rfl|exact trivial|assumption|apply au|refineλ(_:Unit) (_:True)=>?_|refine ar () ?_|omega|(dsimp only;omega)));refine⟨0,?_⟩;(repeat'(first|exact rfl|exact trivial|assumption|apply au|refineλ(_:Unit) (_:True)=>?_|refine ar () ?_|omega|(dsimp only;omega)));refine⟨λj=>j<=s.books.length,λj=>s.books.length-j,oM,λj hj=>zH (λhlt=> ?_) (λhlt=> ?_)⟩
 ·obtain⟨b,hb⟩:=yD (l:=s.books) (i:=j) oM;have hs:=h2 b (y5p hb);simp only[y5x];refine⟨⟨oM,oM⟩,oM,b,hb,b,rfl,hs,λ_ _=>⟨b,rfl,kp,oM,trivial,trivial,s.books.take j,rfl,?_,j+1,?_⟩⟩
  ·rw[y5w];omega
  ·rw[w64 (by omega),y6n,hb]
   (repeat'(first|exact rfl|exact trivial|assumption|apply au|refineλ(_:Unit) (_:True)=>?_|refine ar () ?_|omega|(dsimp only;omega)))
   rw[fL hb]
 ·have hj:j<=s.books.length:=hj;obtain rfl:j=s.books.length:=by omega
  rw[y5q (y6a _)];exact kp
structure Leg where
 inst:Int
 side:Int
 deriving DecidableEq
structure Quote where
 price:Int
 qty:Int
 a:Leg
 b:Leg
 deriving DecidableEq
def zJ (q:Quote):List D:=[.v (.int .i64 q.price),.v (.int .i64 q.qty),.v (.int .i64 q.a.inst),.v (.int .i64 q.a.side),.v (.int .i64 q.b.inst),.v (.int .i64 q.b.side)]
@[reducible] def zUp (q:Quote):V:= .agg [zA q.price,zA q.qty,zA q.a.inst,zA q.a.side,zA q.b.inst,zA q.b.side]
def yVw:Quote:=⟨0,0,⟨0,0⟩,⟨0,0⟩⟩
structure I3' where
 side:Int
 x:Int
 y:Int
def btr (side x y:Int):Bool:=if side=1 then decide (y<x)else decide (x<y)
def iotherC:Con:=con1 Int (λn=>[zA n]) (λ_=>[]) (λn=>n=1\/n=2) (λn=>zA (3-n)) (λ_=>[])
def ibetterC:Con:=con1 I3' (λi=>[zA i.side,zA i.x,zA i.y]) (λ_=>[]) (λ_=>True) (λi=>yR (btr i.side i.x i.y)) (λ_=>[])
def Top.has (t:Top) (s:Int):Bool:=if s=1 then t.has1 else t.has2
def Top.price (t:Top) (s:Int):Int:=if s=1 then t.p1 else t.p2
def Top.qty (t:Top) (s:Int):Int:=if s=1 then t.q1 else t.q2
def mkq (tops:List Top) (a b:Leg) (less:Bool):List Quote:=
 let x:=tops.getD a.inst.toNat top0
 let y:=tops.getD b.inst.toNat top0
 let r:=if less then gC (y.price b.side) (x.price a.side)else h9 (x.price a.side) (y.price b.side)
 if x.has a.side && y.has b.side && r.2 then[⟨r.1,min (x.qty a.side) (y.qty b.side),a,b⟩]else[]
structure MkI where
 tops:List Top
 out:List Quote
 a:Int
 b:Int
 less:Bool
@[reducible] def vJ (l:List Top):Prop:=l.length<=1000000/\∀t∈l,yW t.p1/\yW t.p2
def MkU (x:List Top×List Quote):Nat->AObj
 |0=> .cells [.own 1,.own 2] 307
 |1=> .fro 6 (x.1.map z5)
 |2=> .own 259 6 (x.2.map zJ)
 |_=> .gone
@[reducible] def MkR (tops:List Top) (out:List Quote):List AObj:=[MkU (tops,out) 0,MkU (tops,out) 1,MkU (tops,out) 2]
@[reducible] def MkP (tops:List Top) (out:List Quote):List AObj:=[.cells [.own 1,.own 3] 307,MkU (tops,out) 1,.gone,MkU (tops,out) 2]
def mkC (sa sb:Int):Con:=con1 MkI (λi=>[.nm 0 0,.agg [zA i.a,zA sa],.agg [zA i.b,zA sb],yR i.less]) (λi=>MkR i.tops i.out)
 (λi=>0<=i.a/\i.a<i.tops.length/\0<=i.b/\i.b<i.tops.length/\vJ i.tops/\i.out.length<=1000) (λ_=>mR) (λi=>MkP i.tops (i.out++mkq i.tops ⟨i.a,sa⟩ ⟨i.b,sb⟩ i.less))
def mk11:Con:=mkC 1 1
def mk12:Con:=mkC 1 2
def mk21:Con:=mkC 2 1
def mk22:Con:=mkC 2 2
def yPz (n:Int):Prop:=
 ∃(o:Unit),3-n=ao.wrap (3-n)/\True
def yHw (i:I3'):Prop:=
 cnd (i.side==1) (∃(o:Unit),btr i.side i.x i.y=decide (i.x>i.y)/\True) (∃(o:Unit),btr i.side i.x i.y=decide (i.x<i.y)/\True)
def zAy (a:MkI):=(a.out++mkq a.tops (Leg.mk a.a 1) (Leg.mk a.b 1) a.less)
def nP (a:MkI):Prop:=∃(b:Unit),ag 6 (aa z5 a.tops)=MkU (a.tops,a.out) 1/\aa zJ (zAy a)=aa zJ a.out/\True
def jI (a:I2):Prop:=((-9223372036854775808)<=a.x/\a.x<=9223372036854775807)/\(-9223372036854775808)<=a.y/\a.y<=9223372036854775807
def qR (a:MkI):=(↑(aa z5 a.tops).length:Int)
def x9 (a:MkI):Prop:=(0<=a.b/\a.b<(qR a))/\dh a.b.toNat
def jG (a:MkI):Prop:=(0<=a.a/\a.a<(qR a))/\dh a.a.toNat
def jE (a:MkI):=((aa zJ a.out).length+1)
def zNp (a:MkI) (b:Bool) (c:Bool) (d:Int) (e:Int) (f:Int) (g:Int):Prop:=True/\(x9 a)/\a.b=a.b/\True/\True/\(jG a)/\a.a=a.a/\True/\True/\(x9 a)/\a.b=a.b/\True/\True/\(jG a)/\a.a=a.a/\True/\True/\(x9 a)/\a.b=a.b/\True/\cnd (!b) (nP a) (cnd (!c) (nP a) (∃(h:I2),h.x=d/\h.y=e/\(jI h)/\∀(j:Unit),True->cnd a.less (∃(k:I2),k.x=e/\k.y=d/\(jI k)/\∀(l:Unit),True->cnd (gC k.x k.y).snd (True/\(jE a)*(48:Nat)<=(140737488355328:Nat)/\∃(m:Unit),ag 6 (aa z5 a.tops)=MkU (a.tops,a.out) 1/\aa zJ (zAy a)=aa zJ a.out++[[dI ((gC k.x k.y).fst),dI (min f g),dI a.a,dI 1,dI a.b,dI 1]]/\True) (nP a)) (cnd (h9 h.x h.y).snd (True/\(jE a)*(48:Nat)<=(140737488355328:Nat)/\∃(k:Unit),ag 6 (aa z5 a.tops)=MkU (a.tops,a.out) 1/\aa zJ (zAy a)=aa zJ a.out++[[dI ((h9 h.x h.y).fst),dI (min f g),dI a.a,dI 1,dI a.b,dI 1]]/\True) (nP a))))
def yRo (i:MkI):Prop:=
 (0<=i.a/\i.a<(qR i))/\∃(a:Bool),∃(b:Bool),∃(c:Int),∃(d:Int),∃(e:Int),∃(f:Int),zE (aa z5 i.tops) i.a.toNat 0 6=az [D.v (.bool a),D.v (.bool b),dI c,dI d,dI e,dI f]/\(0<=i.b/\i.b<(qR i))/\∃(g:Bool),∃(h:Bool),∃(j:Int),∃(k:Int),∃(l:Int),∃(m:Int),zE (aa z5 i.tops) i.b.toNat 0 6=az [D.v (.bool g),D.v (.bool h),dI j,dI k,dI l,dI m]/\(zNp i a g c j e l)/\zNp i a g c j e l
def l8 (a:MkI):=(a.out++mkq a.tops (Leg.mk a.a 1) (Leg.mk a.b 2) a.less)
def pH (a:MkI):Prop:=∃(b:Unit),ag 6 (aa z5 a.tops)=MkU (a.tops,a.out) 1/\aa zJ (l8 a)=aa zJ a.out/\True
def zOd (a:MkI) (b:Bool) (c:Bool) (d:Int) (e:Int) (f:Int) (g:Int):Prop:=True/\(x9 a)/\a.b=a.b/\True/\True/\(jG a)/\a.a=a.a/\True/\True/\(x9 a)/\a.b=a.b/\True/\True/\(jG a)/\a.a=a.a/\True/\True/\(x9 a)/\a.b=a.b/\True/\cnd (!b) (pH a) (cnd (!c) (pH a) (∃(h:I2),h.x=d/\h.y=e/\(jI h)/\∀(j:Unit),True->cnd a.less (∃(k:I2),k.x=e/\k.y=d/\(jI k)/\∀(l:Unit),True->cnd (gC k.x k.y).snd (True/\(jE a)*(48:Nat)<=(140737488355328:Nat)/\∃(m:Unit),ag 6 (aa z5 a.tops)=MkU (a.tops,a.out) 1/\aa zJ (l8 a)=aa zJ a.out++[[dI ((gC k.x k.y).fst),dI (min f g),dI a.a,dI 1,dI a.b,dI 2]]/\True) (pH a)) (cnd (h9 h.x h.y).snd (True/\(jE a)*(48:Nat)<=(140737488355328:Nat)/\∃(k:Unit),ag 6 (aa z5 a.tops)=MkU (a.tops,a.out) 1/\aa zJ (l8 a)=aa zJ a.out++[[dI ((h9 h.x h.y).fst),dI (min f g),dI a.a,dI 1,dI a.b,dI 2]]/\True) (pH a))))
def yQn (i:MkI):Prop:=
 (0<=i.a/\i.a<(qR i))/\∃(a:Bool),∃(b:Bool),∃(c:Int),∃(d:Int),∃(e:Int),∃(f:Int),zE (aa z5 i.tops) i.a.toNat 0 6=az [D.v (.bool a),D.v (.bool b),dI c,dI d,dI e,dI f]/\(0<=i.b/\i.b<(qR i))/\∃(g:Bool),∃(h:Bool),∃(j:Int),∃(k:Int),∃(l:Int),∃(m:Int),zE (aa z5 i.tops) i.b.toNat 0 6=az [D.v (.bool g),D.v (.bool h),dI j,dI k,dI l,dI m]/\(zOd i a h c k e m)/\zOd i a h c k e m
def zBb (a:MkI):=(a.out++mkq a.tops (Leg.mk a.a 2) (Leg.mk a.b 1) a.less)
def pM (a:MkI):Prop:=∃(b:Unit),ag 6 (aa z5 a.tops)=MkU (a.tops,a.out) 1/\aa zJ (zBb a)=aa zJ a.out/\True
def zPd (a:MkI) (b:Bool) (c:Bool) (d:Int) (e:Int) (f:Int) (g:Int):Prop:=True/\(x9 a)/\a.b=a.b/\True/\True/\(jG a)/\a.a=a.a/\True/\True/\(x9 a)/\a.b=a.b/\True/\True/\(jG a)/\a.a=a.a/\True/\True/\(x9 a)/\a.b=a.b/\True/\cnd (!b) (pM a) (cnd (!c) (pM a) (∃(h:I2),h.x=d/\h.y=e/\(jI h)/\∀(j:Unit),True->cnd a.less (∃(k:I2),k.x=e/\k.y=d/\(jI k)/\∀(l:Unit),True->cnd (gC k.x k.y).snd (True/\(jE a)*(48:Nat)<=(140737488355328:Nat)/\∃(m:Unit),ag 6 (aa z5 a.tops)=MkU (a.tops,a.out) 1/\aa zJ (zBb a)=aa zJ a.out++[[dI ((gC k.x k.y).fst),dI (min f g),dI a.a,dI 2,dI a.b,dI 1]]/\True) (pM a)) (cnd (h9 h.x h.y).snd (True/\(jE a)*(48:Nat)<=(140737488355328:Nat)/\∃(k:Unit),ag 6 (aa z5 a.tops)=MkU (a.tops,a.out) 1/\aa zJ (zBb a)=aa zJ a.out++[[dI ((h9 h.x h.y).fst),dI (min f g),dI a.a,dI 2,dI a.b,dI 1]]/\True) (pM a))))
def yQc (i:MkI):Prop:=
 (0<=i.a/\i.a<(qR i))/\∃(a:Bool),∃(b:Bool),∃(c:Int),∃(d:Int),∃(e:Int),∃(f:Int),zE (aa z5 i.tops) i.a.toNat 0 6=az [D.v (.bool a),D.v (.bool b),dI c,dI d,dI e,dI f]/\(0<=i.b/\i.b<(qR i))/\∃(g:Bool),∃(h:Bool),∃(j:Int),∃(k:Int),∃(l:Int),∃(m:Int),zE (aa z5 i.tops) i.b.toNat 0 6=az [D.v (.bool g),D.v (.bool h),dI j,dI k,dI l,dI m]/\(zPd i b g d j f l)/\zPd i b g d j f l
def zAn (a:MkI):=(a.out++mkq a.tops (Leg.mk a.a 2) (Leg.mk a.b 2) a.less)
def pN (a:MkI):Prop:=∃(b:Unit),ag 6 (aa z5 a.tops)=MkU (a.tops,a.out) 1/\aa zJ (zAn a)=aa zJ a.out/\True
def zPt (a:MkI) (b:Bool) (c:Bool) (d:Int) (e:Int) (f:Int) (g:Int):Prop:=True/\(x9 a)/\a.b=a.b/\True/\True/\(jG a)/\a.a=a.a/\True/\True/\(x9 a)/\a.b=a.b/\True/\True/\(jG a)/\a.a=a.a/\True/\True/\(x9 a)/\a.b=a.b/\True/\cnd (!b) (pN a) (cnd (!c) (pN a) (∃(h:I2),h.x=d/\h.y=e/\(jI h)/\∀(j:Unit),True->cnd a.less (∃(k:I2),k.x=e/\k.y=d/\(jI k)/\∀(l:Unit),True->cnd (gC k.x k.y).snd (True/\(jE a)*(48:Nat)<=(140737488355328:Nat)/\∃(m:Unit),ag 6 (aa z5 a.tops)=MkU (a.tops,a.out) 1/\aa zJ (zAn a)=aa zJ a.out++[[dI ((gC k.x k.y).fst),dI (min f g),dI a.a,dI 2,dI a.b,dI 2]]/\True) (pN a)) (cnd (h9 h.x h.y).snd (True/\(jE a)*(48:Nat)<=(140737488355328:Nat)/\∃(k:Unit),ag 6 (aa z5 a.tops)=MkU (a.tops,a.out) 1/\aa zJ (zAn a)=aa zJ a.out++[[dI ((h9 h.x h.y).fst),dI (min f g),dI a.a,dI 2,dI a.b,dI 2]]/\True) (pN a))))
def yQv (i:MkI):Prop:=
 (0<=i.a/\i.a<(qR i))/\∃(a:Bool),∃(b:Bool),∃(c:Int),∃(d:Int),∃(e:Int),∃(f:Int),zE (aa z5 i.tops) i.a.toNat 0 6=az [D.v (.bool a),D.v (.bool b),dI c,dI d,dI e,dI f]/\(0<=i.b/\i.b<(qR i))/\∃(g:Bool),∃(h:Bool),∃(j:Int),∃(k:Int),∃(l:Int),∃(m:Int),zE (aa z5 i.tops) i.b.toNat 0 6=az [D.v (.bool g),D.v (.bool h),dI j,dI k,dI l,dI m]/\(zPt i b h d k f m)/\zPt i b h d k f m
def zSa:iotherC.ok Tryz.prog 197:=okw (V:=yPz) mixed gok0 0 (λ_=>[]) (λ_=>[]) [] Tryz.func197 λ(n:Int) h=>by
 have h:n=1\/n=2:=h;refine⟨(),?_,trivial⟩;rw[w64 (by omega)]
def z3x:ibetterC.ok Tryz.prog 195:=okw (V:=yHw) mixed gok0 0 (λ_=>[]) (λ_=>[]) [] Tryz.func195 λ(i:I3') _=>by
 refine Cv.cnd.mk (λe=>⟨(),?_,trivial⟩) (λe=>⟨(),?_,trivial⟩)
 ·have e:i.side=1:=by simpa using e
  simp[btr,e]
 ·have e:i.side≠1:=by simpa using e
  simp[btr,e]
def yNt (a b:Int):(if b<a then b else a)=min a b:=by split<;>omega
def y2c (i:MkI) (h:mk11.cnd i):yRo i:=by
 obtain⟨a0,a1,b0,b1,⟨ht,hp⟩,ho⟩:0<=i.a/\i.a<i.tops.length/\0<=i.b/\i.b<i.tops.length/\vJ i.tops/\i.out.length<=1000:=h;obtain⟨x,hx⟩:=yD (l:=i.tops) (i:=i.a.toNat) oM;obtain⟨y,hy⟩:=yD (l:=i.tops) (i:=i.b.toNat) oM;obtain⟨⟨px1,px2⟩,px3,px4⟩:=hp x (y5p hx);obtain⟨⟨py1,py2⟩,py3,py4⟩:=hp y (y5p hy);have e0:mkq i.tops ⟨i.a,1⟩ ⟨i.b,1⟩ i.less=if x.has1 && y.has1 && (if i.less then gC y.p1 x.p1 else h9 x.p1 y.p1).2 then[⟨(if i.less then gC y.p1 x.p1 else h9 x.p1 y.p1).1,min x.q1 y.q1,⟨i.a,1⟩,⟨i.b,1⟩⟩]else[]:=by
  simp only[mkq,y5n,hx,hy,y7q];rfl
 unfold yRo zNp jE jG x9 qR jI nP zAy dI;simp only[y5f];refine⟨⟨oM,oM⟩,x.has1,x.has2,x.p1,x.p2,x.q1,x.q2,elA hx (by simp[z5]) rfl,⟨oM,oM⟩,y.has1,y.has2,y.p1,y.p2,y.q1,y.q2,elA hy (by simp[z5]) rfl,?_⟩;rw[e0]
 (repeat'(first|exact rfl|exact trivial|assumption|apply au|refineλ(_:Unit) (_:True)=>?_|refine ar () ?_|omega|(dsimp only;omega)))
 all_goals
  refine Cv.cnd.mk (λc1=> ?_) (λc1=>Cv.cnd.mk (λc2=> ?_) (λc2=> ?_))
  ·have c1:x.has1=aq:=by simpa using c1
   simp only[c1,y8p,y5y,if_false,y6b];exact kp
  ·have c2:y.has1=aq:=by simpa using c2
   simp only[c2,xAi,y8p,y5y,if_false,y6b];exact kp
  ·have c1:x.has1=ap:=by simpa using c1
   have c2:y.has1=ap:=by simpa using c2
   simp only[c1,c2,y8b,yNt];refine⟨⟨x.p1,y.p1⟩,?_⟩
   (repeat'(first|exact rfl|exact trivial|assumption|apply au|refineλ(_:Unit) (_:True)=>?_|refine ar () ?_|omega|(dsimp only;omega)))
   refine Cv.cnd.mk (λc3=> ?_) (λc3=> ?_)
   ·have c3:i.less=ap:=c3;simp only[c3,if_true];refine⟨⟨y.p1,x.p1⟩,?_⟩
    (repeat'(first|exact rfl|exact trivial|assumption|apply au|refineλ(_:Unit) (_:True)=>?_|refine ar () ?_|omega|(dsimp only;omega)))
    refine Cv.cnd.mk (λc4=> ?_) (λc4=> ?_)
    ·have c4:(gC y.p1 x.p1).2=ap:=c4;simp only[c4,if_true,y5o];exact kp
    ·have c4:(gC y.p1 x.p1).2=aq:=c4;simp only[c4,y5y,if_false,y6b];exact kp
   ·have c3:i.less=aq:=c3;simp only[c3,y5y,if_false];refine Cv.cnd.mk (λc4=> ?_) (λc4=> ?_)
    ·have c4:(h9 x.p1 y.p1).2=ap:=c4;simp only[c4,if_true,y5o];exact kp
    ·have c4:(h9 x.p1 y.p1).2=aq:=c4;simp only[c4,y5y,if_false,y6b];exact kp
def yPo:mk11.ok Tryz.prog 198:=okw mixed (gokc zVh (gokc zVt gok0)) 0 (λ_=>[]) (λ_=>[]) [] Tryz.func198 y2c
def yYi (i:MkI) (h:mk12.cnd i):yQn i:=by
 obtain⟨a0,a1,b0,b1,⟨ht,hp⟩,ho⟩:0<=i.a/\i.a<i.tops.length/\0<=i.b/\i.b<i.tops.length/\vJ i.tops/\i.out.length<=1000:=h;obtain⟨x,hx⟩:=yD (l:=i.tops) (i:=i.a.toNat) oM;obtain⟨y,hy⟩:=yD (l:=i.tops) (i:=i.b.toNat) oM;obtain⟨⟨px1,px2⟩,px3,px4⟩:=hp x (y5p hx);obtain⟨⟨py1,py2⟩,py3,py4⟩:=hp y (y5p hy);have e0:mkq i.tops ⟨i.a,1⟩ ⟨i.b,2⟩ i.less=if x.has1 && y.has2 && (if i.less then gC y.p2 x.p1 else h9 x.p1 y.p2).2 then[⟨(if i.less then gC y.p2 x.p1 else h9 x.p1 y.p2).1,min x.q1 y.q2,⟨i.a,1⟩,⟨i.b,2⟩⟩]else[]:=by
  simp only[mkq,y5n,hx,hy,y7q];rfl
 unfold yQn zOd pH l8 jE jG x9 jI qR dI;simp only[y5f];refine⟨⟨oM,oM⟩,x.has1,x.has2,x.p1,x.p2,x.q1,x.q2,elA hx (by simp[z5]) rfl,⟨oM,oM⟩,y.has1,y.has2,y.p1,y.p2,y.q1,y.q2,elA hy (by simp[z5]) rfl,?_⟩;rw[e0]
 (repeat'(first|exact rfl|exact trivial|assumption|apply au|refineλ(_:Unit) (_:True)=>?_|refine ar () ?_|omega|(dsimp only;omega)))
 all_goals
  refine Cv.cnd.mk (λc1=> ?_) (λc1=>Cv.cnd.mk (λc2=> ?_) (λc2=> ?_))
  ·have c1:x.has1=aq:=by simpa using c1
   simp only[c1,y8p,y5y,if_false,y6b];exact kp
  ·have c2:y.has2=aq:=by simpa using c2
   simp only[c2,xAi,y8p,y5y,if_false,y6b];exact kp
  ·have c1:x.has1=ap:=by simpa using c1
   have c2:y.has2=ap:=by simpa using c2
   simp only[c1,c2,y8b,yNt];refine⟨⟨x.p1,y.p2⟩,?_⟩
   (repeat'(first|exact rfl|exact trivial|assumption|apply au|refineλ(_:Unit) (_:True)=>?_|refine ar () ?_|omega|(dsimp only;omega)))
   refine Cv.cnd.mk (λc3=> ?_) (λc3=> ?_)
   ·have c3:i.less=ap:=c3;simp only[c3,if_true];refine⟨⟨y.p2,x.p1⟩,?_⟩
    (repeat'(first|exact rfl|exact trivial|assumption|apply au|refineλ(_:Unit) (_:True)=>?_|refine ar () ?_|omega|(dsimp only;omega)))
    refine Cv.cnd.mk (λc4=> ?_) (λc4=> ?_)
    ·have c4:(gC y.p2 x.p1).2=ap:=c4;simp only[c4,if_true,y5o];exact kp
    ·have c4:(gC y.p2 x.p1).2=aq:=c4;simp only[c4,y5y,if_false,y6b];exact kp
   ·have c3:i.less=aq:=c3;simp only[c3,y5y,if_false];refine Cv.cnd.mk (λc4=> ?_) (λc4=> ?_)
    ·have c4:(h9 x.p1 y.p2).2=ap:=c4;simp only[c4,if_true,y5o];exact kp
    ·have c4:(h9 x.p1 y.p2).2=aq:=c4;simp only[c4,y5y,if_false,y6b];exact kp
def yNz:mk12.ok Tryz.prog 198:=okw mixed (gokc zVh (gokc zVt gok0)) 0 (λ_=>[]) (λ_=>[]) [] Tryz.func198 yYi
def y1i (i:MkI) (h:mk21.cnd i):yQc i:=by
 obtain⟨a0,a1,b0,b1,⟨ht,hp⟩,ho⟩:0<=i.a/\i.a<i.tops.length/\0<=i.b/\i.b<i.tops.length/\vJ i.tops/\i.out.length<=1000:=h;obtain⟨x,hx⟩:=yD (l:=i.tops) (i:=i.a.toNat) oM;obtain⟨y,hy⟩:=yD (l:=i.tops) (i:=i.b.toNat) oM;obtain⟨⟨px1,px2⟩,px3,px4⟩:=hp x (y5p hx);obtain⟨⟨py1,py2⟩,py3,py4⟩:=hp y (y5p hy);have e0:mkq i.tops ⟨i.a,2⟩ ⟨i.b,1⟩ i.less=if x.has2 && y.has1 && (if i.less then gC y.p1 x.p2 else h9 x.p2 y.p1).2 then[⟨(if i.less then gC y.p1 x.p2 else h9 x.p2 y.p1).1,min x.q2 y.q1,⟨i.a,2⟩,⟨i.b,1⟩⟩]else[]:=by
  simp only[mkq,y5n,hx,hy,y7q];rfl
 unfold yQc zPd pM zBb jE jG x9 jI qR dI;simp only[y5f];refine⟨⟨oM,oM⟩,x.has1,x.has2,x.p1,x.p2,x.q1,x.q2,elA hx (by simp[z5]) rfl,⟨oM,oM⟩,y.has1,y.has2,y.p1,y.p2,y.q1,y.q2,elA hy (by simp[z5]) rfl,?_⟩;rw[e0]
 (repeat'(first|exact rfl|exact trivial|assumption|apply au|refineλ(_:Unit) (_:True)=>?_|refine ar () ?_|omega|(dsimp only;omega)))
 all_goals
  refine Cv.cnd.mk (λc1=> ?_) (λc1=>Cv.cnd.mk (λc2=> ?_) (λc2=> ?_))
  ·have c1:x.has2=aq:=by simpa using c1
   simp only[c1,y8p,y5y,if_false,y6b];exact kp
  ·have c2:y.has1=aq:=by simpa using c2
   simp only[c2,xAi,y8p,y5y,if_false,y6b];exact kp
  ·have c1:x.has2=ap:=by simpa using c1
   have c2:y.has1=ap:=by simpa using c2
   simp only[c1,c2,y8b,yNt];refine⟨⟨x.p2,y.p1⟩,?_⟩
   (repeat'(first|exact rfl|exact trivial|assumption|apply au|refineλ(_:Unit) (_:True)=>?_|refine ar () ?_|omega|(dsimp only;omega)))
   refine Cv.cnd.mk (λc3=> ?_) (λc3=> ?_)
   ·have c3:i.less=ap:=c3;simp only[c3,if_true];refine⟨⟨y.p1,x.p2⟩,?_⟩
    (repeat'(first|exact rfl|exact trivial|assumption|apply au|refineλ(_:Unit) (_:True)=>?_|refine ar () ?_|omega|(dsimp only;omega)))
    refine Cv.cnd.mk (λc4=> ?_) (λc4=> ?_)
    ·have c4:(gC y.p1 x.p2).2=ap:=c4;simp only[c4,if_true,y5o];exact kp
    ·have c4:(gC y.p1 x.p2).2=aq:=c4;simp only[c4,y5y,if_false,y6b];exact kp
   ·have c3:i.less=aq:=c3;simp only[c3,y5y,if_false];refine Cv.cnd.mk (λc4=> ?_) (λc4=> ?_)
    ·have c4:(h9 x.p2 y.p1).2=ap:=c4;simp only[c4,if_true,y5o];exact kp
    ·have c4:(h9 x.p2 y.p1).2=aq:=c4;simp only[c4,y5y,if_false,y6b];exact kp
def yOy:mk21.ok Tryz.prog 198:=okw mixed (gokc zVh (gokc zVt gok0)) 0 (λ_=>[]) (λ_=>[]) [] Tryz.func198 y1i
def y1b (i:MkI) (h:mk22.cnd i):yQv i:=by
 obtain⟨a0,a1,b0,b1,⟨ht,hp⟩,ho⟩:0<=i.a/\i.a<i.tops.length/\0<=i.b/\i.b<i.tops.length/\vJ i.tops/\i.out.length<=1000:=h;obtain⟨x,hx⟩:=yD (l:=i.tops) (i:=i.a.toNat) oM;obtain⟨y,hy⟩:=yD (l:=i.tops) (i:=i.b.toNat) oM;obtain⟨⟨px1,px2⟩,px3,px4⟩:=hp x (y5p hx);obtain⟨⟨py1,py2⟩,py3,py4⟩:=hp y (y5p hy);have e0:mkq i.tops ⟨i.a,2⟩ ⟨i.b,2⟩ i.less=if x.has2 && y.has2 && (if i.less then gC y.p2 x.p2 else h9 x.p2 y.p2).2 then[⟨(if i.less then gC y.p2 x.p2 else h9 x.p2 y.p2).1,min x.q2 y.q2,⟨i.a,2⟩,⟨i.b,2⟩⟩]else[]:=by
  simp only[mkq,y5n,hx,hy,y7q];rfl
 unfold yQv zPt pN zAn jE jG x9 jI qR dI;simp only[y5f];refine⟨⟨oM,oM⟩,x.has1,x.has2,x.p1,x.p2,x.q1,x.q2,elA hx (by simp[z5]) rfl,⟨oM,oM⟩,y.has1,y.has2,y.p1,y.p2,y.q1,y.q2,elA hy (by simp[z5]) rfl,?_⟩;rw[e0]
 (repeat'(first|exact rfl|exact trivial|assumption|apply au|refineλ(_:Unit) (_:True)=>?_|refine ar () ?_|omega|(dsimp only;omega)))
 all_goals
  refine Cv.cnd.mk (λc1=> ?_) (λc1=>Cv.cnd.mk (λc2=> ?_) (λc2=> ?_))
  ·have c1:x.has2=aq:=by simpa using c1
   simp only[c1,y8p,y5y,if_false,y6b];exact kp
  ·have c2:y.has2=aq:=by simpa using c2
   simp only[c2,xAi,y8p,y5y,if_false,y6b];exact kp
  ·have c1:x.has2=ap:=by simpa using c1
   have c2:y.has2=ap:=by simpa using c2
   simp only[c1,c2,y8b,yNt];refine⟨⟨x.p2,y.p2⟩,?_⟩
   (repeat'(first|exact rfl|exact trivial|assumption|apply au|refineλ(_:Unit) (_:True)=>?_|refine ar () ?_|omega|(dsimp only;omega)))
   refine Cv.cnd.mk (λc3=> ?_) (λc3=> ?_)
   ·have c3:i.less=ap:=c3;simp only[c3,if_true];refine⟨⟨y.p2,x.p2⟩,?_⟩
    (repeat'(first|exact rfl|exact trivial|assumption|apply au|refineλ(_:Unit) (_:True)=>?_|refine ar () ?_|omega|(dsimp only;omega)))
    refine Cv.cnd.mk (λc4=> ?_) (λc4=> ?_)
    ·have c4:(gC y.p2 x.p2).2=ap:=c4;simp only[c4,if_true,y5o];exact kp
    ·have c4:(gC y.p2 x.p2).2=aq:=c4;simp only[c4,y5y,if_false,y6b];exact kp
   ·have c3:i.less=aq:=c3;simp only[c3,y5y,if_false];refine Cv.cnd.mk (λc4=> ?_) (λc4=> ?_)
    ·have c4:(h9 x.p2 y.p2).2=ap:=c4;simp only[c4,if_true,y5o];exact kp
    ·have c4:(h9 x.p2 y.p2).2=aq:=c4;simp only[c4,y5y,if_false,y6b];exact kp
def yMk:mk22.ok Tryz.prog 198:=okw mixed (gokc zVh (gokc zVt gok0)) 0 (λ_=>[]) (λ_=>[]) [] Tryz.func198 y1b
structure MkJ where
 i:MkI
 sa:Bool
 sb:Bool
def mkAnyC:Con:=con1 MkJ (λj=>[.nm 0 0,.agg [zA j.i.a,zA (zC j.sa)],.agg [zA j.i.b,zA (zC j.sb)],yR j.i.less]) (λj=>MkR j.i.tops j.i.out)
 (λj=>0<=j.i.a/\j.i.a<j.i.tops.length/\0<=j.i.b/\j.i.b<j.i.tops.length/\vJ j.i.tops/\j.i.out.length<=1000) (λ_=>mR) (λj=>MkP j.i.tops (j.i.out++mkq j.i.tops ⟨j.i.a,zC j.sa⟩ ⟨j.i.b,zC j.sb⟩ j.i.less))
def z0k:mkAnyC.ok Tryz.prog 198:=λj=>match j with
 |⟨i,aq,aq⟩=>yPo i
 |⟨i,aq,ap⟩=>yNz i
 |⟨i,ap,aq⟩=>yOy i
 |⟨i,ap,ap⟩=>yMk i
structure dL where
 p:Prd
 tops:List Top
 inst:Int
def jC (i:dL) (s:Int) (k:Nat):List Quote:=(af k).flatMap λ(k:Nat)=>mkq i.tops ⟨(i.p.spread i.inst (i.inst+1+k)).1,s⟩ ⟨i.inst+1+k,s⟩ aq
def wF (i:dL) (s:Int) (k:Nat):List Quote:=(af k).flatMap λ(k:Nat)=>mkq i.tops ⟨(i.p.spread k i.inst).1,3-s⟩ ⟨k,s⟩ ap
def yP (i:dL) (s:Int):List Quote:=mkq i.tops ⟨(i.p.legs i.inst).2.1,3-s⟩ ⟨(i.p.legs i.inst).1,s⟩ ap
def cY (i:dL) (s:Int) (q:Quote):Quote:={q with a:=⟨(i.p.legs i.inst).1,s⟩,b:=⟨(i.p.legs i.inst).2.1,3-s⟩}
def kL (i:dL) (s:Int):List Quote:=
 if i.p.count=0\/(i.tops.length:Int)≠i.p.count\/i.inst<0\/(i.p.count:Int)<=i.inst then[]
 else if(i.p.legs i.inst).2.2 then(yP i s).map (cY i s)
 else jC i s (i.p.months.length-(i.inst.toNat+1))++wF i s i.inst.toNat
def yRv (s:Int):Con:=con1 dL (λi=>[prdV i.p,roV 6 (i.tops.map z5),zA i.inst,zA s]) (λ_=>[]) (λi=>i.p.small/\vJ i.tops) (λ_=> .own 0) (λi=>[.own 259 6 ((kL i s).map zJ)])
def all1C:Con:=yRv 1
def all2C:Con:=yRv 2
def yZr (i:dL) (s:Int):List SAnn:=[
 {ι:=Nat,slots:=λk=>[(10,.nm 0 0),(77,zA k)],rows:=λk=>(af 3).map (MkU (i.tops,((yP i s).take k).map (cY i s)++(yP i s).drop k))},
 {ι:=Nat,slots:=λk=>[(10,.nm 0 0),(17,zA (i.inst+1+k))],rows:=λk=>MkR i.tops (jC i s k)},
 {ι:=Nat,slots:=λk=>[(10,.nm 0 0),(120,zA k)],rows:=λk=>MkR i.tops (jC i s (i.p.months.length-(i.inst.toNat+1))++wF i s k)}]
structure eA where
 i:dL
 s:Bool
def allC:Con:=con1 eA (λj=>[prdV j.i.p,roV 6 (j.i.tops.map z5),zA j.i.inst,zA (zC j.s)]) (λ_=>[]) (λj=>j.i.p.small/\vJ j.i.tops) (λ_=> .own 0) (λj=>[.own 259 6 ((kL j.i (zC j.s)).map zJ)])
def xY (i:dL) (s:Int):List Quote:=(kL i s).filter λq=>decide (i.p.price i.inst q.price=0)
def quotesC:Con:=con1 eA (λj=>[prdV j.i.p,roV 6 (j.i.tops.map z5),zA j.i.inst,zA (zC j.s)]) (λ_=>[]) (λj=>j.i.p.small/\vJ j.i.tops) (λ_=> .own 0) (λj=>[.own 259 6 ((xY j.i (zC j.s)).map zJ)])
def yLk (j:eA):List SAnn:=[{ι:=Nat,slots:=λk=>[(9,.own 0),(18,zA k)],rows:=λk=>[.own 259 6 ((((kL j.i (zC j.s)).take k).filter λq=>decide (j.i.p.price j.i.inst q.price=0)).map zJ)]}]
structure BsI where
 l:List Quote
 s:Int
def zU (l:List Quote) (s:Int):Quote×Bool:=match l with
 |[]=>(yVw,aq)
 |q::r=>(r.foldl (λb q=>if btr s q.price b.price then q else b) q,ap)
def bestQC:Con:=con1 BsI (λi=>[roV 6 (i.l.map zJ),zA i.s]) (λ_=>[]) (λi=>(i.s=1\/i.s=2)/\i.l.length<=1000000) (λi=> .tup [zUp (zU i.l i.s).1,yR (zU i.l i.s).2]) (λ_=>[])
def yWa (i:BsI):List SAnn:=[{ι:=Nat,slots:=λk=>[(6,.nm 0 0),(26,zA k)],rows:=λk=>[.cells (zUp (zU (i.l.take (max k 1)) i.s).1).cl 259]}]
def nX (a:dL):Prop:=ag 6 (aa z5 a.tops)=ag 6 (aa z5 a.tops)/\dh (ak [V.d (D.v (be (sb a.p.code))),V.own 0,V.d (dI a.p.tick),V.d (dI a.p.low),V.d (dI a.p.high),V.d (dI a.p.wide),V.d (dI a.p.rule),V.d (dI a.p.top),V.d (dI a.p.least),V.d (dI a.p.part),V.own 1] 25)/\dh (ag 1 (iE a.p.settle))/\dh (ag 1 (iE a.p.months))
def zFq (a:Nat->Prop) (b:Nat) (c:Nat->Nat) (d:Nat) (e:dL):Prop:=a b/\c b<c d/\dh (ag 6 (aa z5 e.tops))/\nX e
def zEl (a:Nat->Prop) (b:Nat) (c:Nat->Nat) (d:Nat) (e:dL):Prop:=a b/\c b<c d/\nX e
def g7 (a:Top):Prop:=((-9223372036854775808)<=a.p1/\a.p1<=9223372036854775807)/\(-9223372036854775808)<=a.p2/\a.p2<=9223372036854775807
def fE (a:MkJ):Prop:=0<=a.i.a/\a.i.a<(↑a.i.tops.length:Int)/\0<=a.i.b/\a.i.b<(↑a.i.tops.length:Int)/\(a.i.tops.length<=1000000/\∀(b:Top),b∈a.i.tops->g7 b)/\a.i.out.length<=1000
def uI (a:MkJ):=(a.i.out++mkq a.i.tops (Leg.mk a.i.a (zC a.sa)) (Leg.mk a.i.b (zC a.sb)) a.i.less)
def zAz (a:Nat) (b:MkJ):=(decide ((↑a:Int)<(↑(aa zJ (uI b)).length:Int)))
def x7 (a:tU):Prop:=a.p.code.length<=1099511627776/\a.p.months.length<=1099511627776/\a.p.settle.length<=1099511627776
def jF (a:cL):Prop:=a.p.code.length<=1099511627776/\a.p.months.length<=1099511627776/\a.p.settle.length<=1099511627776
def nS (a:dL) (b:Nat):=(aa (cY a 1) (ab b (yP a 1))++ac b (yP a 1))
def l5 (a:dL) (b:Nat):=(aa zJ (nS a b))
def pE (a:dL) (b:Nat):=(jC a 1 (a.p.months.length-(a.inst.toNat+1))++wF a 1 b)
def vC (a:cL):=((a.p.legs a.n).snd.fst)
def yRc (i:dL):Prop:=
 ∃(a:Prd),sb a.code=sb i.p.code/\iE a.months=iE i.p.months/\a.tick=i.p.tick/\a.low=i.p.low/\a.high=i.p.high/\a.wide=i.p.wide/\a.rule=i.p.rule/\a.top=i.p.top/\a.least=i.p.least/\a.part=i.p.part/\iE a.settle=iE i.p.settle/\(z6 a)/\∀(b:Unit),True->cnd ((↑a.count:Int)==0) (∃(c:Unit),aa zJ (kL i 1)=[]/\True) (cnd ((↑(aa z5 i.tops).length:Int) !=(↑a.count:Int)) (∃(c:Unit),aa zJ (kL i 1)=[]/\True) (cnd (decide (i.inst<0)) (∃(c:Unit),aa zJ (kL i 1)=[]/\True) (cnd (decide (i.inst>=(↑a.count:Int))) (∃(c:Unit),aa zJ (kL i 1)=[]/\True) (∃(c:cL),sb c.p.code=sb i.p.code/\iE c.p.months=iE i.p.months/\c.p.tick=i.p.tick/\c.p.low=i.p.low/\c.p.high=i.p.high/\c.p.wide=i.p.wide/\c.p.rule=i.p.rule/\c.p.top=i.p.top/\c.p.least=i.p.least/\c.p.part=i.p.part/\iE c.p.settle=iE i.p.settle/\c.n=i.inst/\(jF c)/\∀(d:Unit),True->cnd (c.p.legs c.n).snd.snd (∃(e:Int),e=1/\(e=1\/e=2)/\∀(f:Unit),True->∃(g:MkJ),g.i.a=(c.p.legs c.n).snd.fst/\zC g.sa=3-e/\g.i.b=(c.p.legs c.n).fst/\zC g.sb=1/\g.i.less=ap/\ag 6 (aa z5 g.i.tops)=ag 6 (aa z5 i.tops)/\aa zJ g.i.out=[]/\(fE g)/\∀(h:Unit),True->∃(j:Nat),(↑j:Int)=0/\ag 6 (aa z5 i.tops)=ag 6 (aa z5 g.i.tops)/\aa zJ (nS i j)=aa zJ (uI g)/\∃(k:Nat->Prop),∃(l:Nat->Nat),k j/\∀(m:Nat),k m->cnd (zAz m g) ((0<=(↑m:Int)/\(↑m:Int)<(↑(l5 i m).length:Int))/\(↑m:Int).toNat<(l5 i m).length/\∃(n:Nat),(↑n:Int)=ao.wrap ((↑m:Int)+1)/\dh (ag 6 (aa z5 i.tops))/\aa zJ (nS i n)=zV (l5 i m) (↑m:Int).toNat 2 [dI ((c.p.legs c.n).fst),dI 1,dI (vC c),dI (3-e)]/\k n/\l n<l m/\dh (ag 6 (aa z5 g.i.tops))/\dh (ak [V.d (dI (vC c)),V.d (dI (3-e))] 256)/\dh (ak [V.d (dI ((c.p.legs c.n).fst)),V.d (dI 1)] 256)/\nX i) (∃(n:Unit),aa zJ (kL i 1)=aa zJ (nS i m)/\True)) (∃(e:Nat),i.inst+1+(↑e:Int)=ao.wrap (i.inst+1)/\dh (ag 6 (aa z5 i.tops))/\aa zJ (jC i 1 e)=[]/\∃(f:Nat->Prop),∃(g:Nat->Nat),f e/\∀(h:Nat),f h->cnd (decide (i.inst+1+(↑h:Int)<(↑(iE i.p.months).length:Int))) (∃(j:tU),sb j.p.code=sb i.p.code/\iE j.p.months=iE i.p.months/\j.p.tick=i.p.tick/\j.p.low=i.p.low/\j.p.high=i.p.high/\j.p.wide=i.p.wide/\j.p.rule=i.p.rule/\j.p.top=i.p.top/\j.p.least=i.p.least/\j.p.part=i.p.part/\iE j.p.settle=iE i.p.settle/\j.a=i.inst/\j.b=i.inst+1+(↑h:Int)/\(x7 j)/\∀(k:Unit),True->∃(l:MkJ),l.i.a=(j.p.spread j.a j.b).fst/\zC l.sa=1/\l.i.b=i.inst+1+(↑h:Int)/\zC l.sb=1/\l.i.less=aq/\ag 6 (aa z5 l.i.tops)=ag 6 (aa z5 i.tops)/\aa zJ l.i.out=aa zJ (jC i 1 h)/\(fE l)/\∀(m:Unit),True->∃(n:Nat),i.inst+1+(↑n:Int)=ao.wrap (i.inst+1+(↑h:Int)+1)/\ag 6 (aa z5 i.tops)=ag 6 (aa z5 l.i.tops)/\aa zJ (jC i 1 n)=aa zJ (uI l)/\zEl f n g h i) (∃(j:Nat),(↑j:Int)=0/\dh (ag 6 (aa z5 i.tops))/\aa zJ (pE i j)=aa zJ (jC i 1 h)/\∃(k:Nat->Prop),∃(l:Nat->Nat),k j/\∀(m:Nat),k m->cnd (decide ((↑m:Int)<i.inst)) (∃(n:tU),sb n.p.code=sb i.p.code/\iE n.p.months=iE i.p.months/\n.p.tick=i.p.tick/\n.p.low=i.p.low/\n.p.high=i.p.high/\n.p.wide=i.p.wide/\n.p.rule=i.p.rule/\n.p.top=i.p.top/\n.p.least=i.p.least/\n.p.part=i.p.part/\iE n.p.settle=iE i.p.settle/\n.a=(↑m:Int)/\n.b=i.inst/\(x7 n)/\∀(p:Unit),True->∃(q:Int),q=1/\(q=1\/q=2)/\∀(r:Unit),True->∃(s:MkJ),s.i.a=(n.p.spread n.a n.b).fst/\zC s.sa=3-q/\s.i.b=(↑m:Int)/\zC s.sb=1/\s.i.less=ap/\ag 6 (aa z5 s.i.tops)=ag 6 (aa z5 i.tops)/\aa zJ s.i.out=aa zJ (pE i m)/\(fE s)/\∀(t:Unit),True->∃(u:Nat),(↑u:Int)=ao.wrap ((↑m:Int)+1)/\ag 6 (aa z5 i.tops)=ag 6 (aa z5 s.i.tops)/\aa zJ (pE i u)=aa zJ (uI s)/\zFq k u l m i) (∃(n:Unit),aa zJ (kL i 1)=aa zJ (pE i m)/\True)))))))
def pX (a:dL) (b:Nat):=(aa (cY a 2) (ab b (yP a 2))++ac b (yP a 2))
def zBm (a:dL) (b:Nat):=(aa zJ (pX a b))
def nM (a:dL) (b:Nat):=(jC a 2 (a.p.months.length-(a.inst.toNat+1))++wF a 2 b)
def yQj (i:dL):Prop:=
 ∃(a:Prd),sb a.code=sb i.p.code/\iE a.months=iE i.p.months/\a.tick=i.p.tick/\a.low=i.p.low/\a.high=i.p.high/\a.wide=i.p.wide/\a.rule=i.p.rule/\a.top=i.p.top/\a.least=i.p.least/\a.part=i.p.part/\iE a.settle=iE i.p.settle/\(z6 a)/\∀(b:Unit),True->cnd ((↑a.count:Int)==0) (∃(c:Unit),aa zJ (kL i 2)=[]/\True) (cnd ((↑(aa z5 i.tops).length:Int) !=(↑a.count:Int)) (∃(c:Unit),aa zJ (kL i 2)=[]/\True) (cnd (decide (i.inst<0)) (∃(c:Unit),aa zJ (kL i 2)=[]/\True) (cnd (decide (i.inst>=(↑a.count:Int))) (∃(c:Unit),aa zJ (kL i 2)=[]/\True) (∃(c:cL),sb c.p.code=sb i.p.code/\iE c.p.months=iE i.p.months/\c.p.tick=i.p.tick/\c.p.low=i.p.low/\c.p.high=i.p.high/\c.p.wide=i.p.wide/\c.p.rule=i.p.rule/\c.p.top=i.p.top/\c.p.least=i.p.least/\c.p.part=i.p.part/\iE c.p.settle=iE i.p.settle/\c.n=i.inst/\(jF c)/\∀(d:Unit),True->cnd (c.p.legs c.n).snd.snd (∃(e:Int),e=2/\(e=1\/e=2)/\∀(f:Unit),True->∃(g:MkJ),g.i.a=(c.p.legs c.n).snd.fst/\zC g.sa=3-e/\g.i.b=(c.p.legs c.n).fst/\zC g.sb=2/\g.i.less=ap/\ag 6 (aa z5 g.i.tops)=ag 6 (aa z5 i.tops)/\aa zJ g.i.out=[]/\(fE g)/\∀(h:Unit),True->∃(j:Nat),(↑j:Int)=0/\ag 6 (aa z5 i.tops)=ag 6 (aa z5 g.i.tops)/\aa zJ (pX i j)=aa zJ (uI g)/\∃(k:Nat->Prop),∃(l:Nat->Nat),k j/\∀(m:Nat),k m->cnd (zAz m g) ((0<=(↑m:Int)/\(↑m:Int)<(↑(zBm i m).length:Int))/\(↑m:Int).toNat<(zBm i m).length/\∃(n:Nat),(↑n:Int)=ao.wrap ((↑m:Int)+1)/\dh (ag 6 (aa z5 i.tops))/\aa zJ (pX i n)=zV (zBm i m) (↑m:Int).toNat 2 [dI ((c.p.legs c.n).fst),dI 2,dI (vC c),dI (3-e)]/\k n/\l n<l m/\dh (ag 6 (aa z5 g.i.tops))/\dh (ak [V.d (dI (vC c)),V.d (dI (3-e))] 256)/\dh (ak [V.d (dI ((c.p.legs c.n).fst)),V.d (dI 2)] 256)/\nX i) (∃(n:Unit),aa zJ (kL i 2)=aa zJ (pX i m)/\True)) (∃(e:Nat),i.inst+1+(↑e:Int)=ao.wrap (i.inst+1)/\dh (ag 6 (aa z5 i.tops))/\aa zJ (jC i 2 e)=[]/\∃(f:Nat->Prop),∃(g:Nat->Nat),f e/\∀(h:Nat),f h->cnd (decide (i.inst+1+(↑h:Int)<(↑(iE i.p.months).length:Int))) (∃(j:tU),sb j.p.code=sb i.p.code/\iE j.p.months=iE i.p.months/\j.p.tick=i.p.tick/\j.p.low=i.p.low/\j.p.high=i.p.high/\j.p.wide=i.p.wide/\j.p.rule=i.p.rule/\j.p.top=i.p.top/\j.p.least=i.p.least/\j.p.part=i.p.part/\iE j.p.settle=iE i.p.settle/\j.a=i.inst/\j.b=i.inst+1+(↑h:Int)/\(x7 j)/\∀(k:Unit),True->∃(l:MkJ),l.i.a=(j.p.spread j.a j.b).fst/\zC l.sa=2/\l.i.b=i.inst+1+(↑h:Int)/\zC l.sb=2/\l.i.less=aq/\ag 6 (aa z5 l.i.tops)=ag 6 (aa z5 i.tops)/\aa zJ l.i.out=aa zJ (jC i 2 h)/\(fE l)/\∀(m:Unit),True->∃(n:Nat),i.inst+1+(↑n:Int)=ao.wrap (i.inst+1+(↑h:Int)+1)/\ag 6 (aa z5 i.tops)=ag 6 (aa z5 l.i.tops)/\aa zJ (jC i 2 n)=aa zJ (uI l)/\zEl f n g h i) (∃(j:Nat),(↑j:Int)=0/\dh (ag 6 (aa z5 i.tops))/\aa zJ (nM i j)=aa zJ (jC i 2 h)/\∃(k:Nat->Prop),∃(l:Nat->Nat),k j/\∀(m:Nat),k m->cnd (decide ((↑m:Int)<i.inst)) (∃(n:tU),sb n.p.code=sb i.p.code/\iE n.p.months=iE i.p.months/\n.p.tick=i.p.tick/\n.p.low=i.p.low/\n.p.high=i.p.high/\n.p.wide=i.p.wide/\n.p.rule=i.p.rule/\n.p.top=i.p.top/\n.p.least=i.p.least/\n.p.part=i.p.part/\iE n.p.settle=iE i.p.settle/\n.a=(↑m:Int)/\n.b=i.inst/\(x7 n)/\∀(p:Unit),True->∃(q:Int),q=2/\(q=1\/q=2)/\∀(r:Unit),True->∃(s:MkJ),s.i.a=(n.p.spread n.a n.b).fst/\zC s.sa=3-q/\s.i.b=(↑m:Int)/\zC s.sb=2/\s.i.less=ap/\ag 6 (aa z5 s.i.tops)=ag 6 (aa z5 i.tops)/\aa zJ s.i.out=aa zJ (nM i m)/\(fE s)/\∀(t:Unit),True->∃(u:Nat),(↑u:Int)=ao.wrap ((↑m:Int)+1)/\ag 6 (aa z5 i.tops)=ag 6 (aa z5 s.i.tops)/\aa zJ (nM i u)=aa zJ (uI s)/\zFq k u l m i) (∃(n:Unit),aa zJ (kL i 2)=aa zJ (nM i m)/\True)))))))
def jT (a:eA):=(aa zJ (kL a.i (zC a.s)))
def zBz (a:Nat->Prop) (b:Nat) (c:Nat->Nat) (d:Nat) (e:eA) (f:eA):Prop:=a b/\c b<c d/\dh (am 259 6 (jT e))/\dh (ak [V.d (D.v (be (sb f.i.p.code))),V.own 0,V.d (dI f.i.p.tick),V.d (dI f.i.p.low),V.d (dI f.i.p.high),V.d (dI f.i.p.wide),V.d (dI f.i.p.rule),V.d (dI f.i.p.top),V.d (dI f.i.p.least),V.d (dI f.i.p.part),V.own 1] 25)/\dh (ag 1 (iE f.i.p.settle))/\dh (ag 1 (iE f.i.p.months))
def kJ (a:eA):Prop:=(a.i.p.code.length<=1099511627776/\a.i.p.months.length<=1099511627776/\a.i.p.settle.length<=1099511627776)/\a.i.tops.length<=1000000/\∀(b:Top),b∈a.i.tops->g7 b
def gT (a:eA):=(↑(jT a).length:Int)
def z9j (j:eA):Prop:=
 ∃(a:eA),sb a.i.p.code=sb j.i.p.code/\iE a.i.p.months=iE j.i.p.months/\a.i.p.tick=j.i.p.tick/\a.i.p.low=j.i.p.low/\a.i.p.high=j.i.p.high/\a.i.p.wide=j.i.p.wide/\a.i.p.rule=j.i.p.rule/\a.i.p.top=j.i.p.top/\a.i.p.least=j.i.p.least/\a.i.p.part=j.i.p.part/\iE a.i.p.settle=iE j.i.p.settle/\aa z5 a.i.tops=aa z5 j.i.tops/\a.i.inst=j.i.inst/\zC a.s=zC j.s/\(kJ a)/\∀(b:Unit),True->∃(c:Nat),(↑c:Int)=0/\aa zJ (ae (λ(q:Sx.Quote) ↦ decide (j.i.p.price j.i.inst q.price=0)) (ab c (kL j.i (zC j.s))))=[]/\∃(d:Nat->Prop),∃(e:Nat->Nat),d c/\∀(f:Nat),d f->cnd (decide ((↑f:Int)<(gT a))) ((0<=(↑f:Int)/\(↑f:Int)<(gT a))/\∃(g:Int),∃(h:Int),∃(k:Int),∃(l:Int),∃(m:Int),∃(n:Int),zE (jT a) (↑f:Int).toNat 0 6=az [dI g,dI h,dI k,dI l,dI m,dI n]/\∃(p:tU),sb p.p.code=sb j.i.p.code/\iE p.p.months=iE j.i.p.months/\p.p.tick=j.i.p.tick/\p.p.low=j.i.p.low/\p.p.high=j.i.p.high/\p.p.wide=j.i.p.wide/\p.p.rule=j.i.p.rule/\p.p.top=j.i.p.top/\p.p.least=j.i.p.least/\p.p.part=j.i.p.part/\iE p.p.settle=iE j.i.p.settle/\p.a=j.i.inst/\p.b=g/\(x7 p)/\∀(q:Unit),True->cnd (p.p.price p.a p.b==0) (((aa zJ (ae (λ(q:Sx.Quote) ↦ decide (j.i.p.price j.i.inst q.price=0)) (ab f (kL j.i (zC j.s))))).length+1)*(48:Nat)<=(140737488355328:Nat)/\∃(r:Nat),(↑r:Int)=ao.wrap ((↑f:Int)+1)/\aa zJ (ae (λ(q:Sx.Quote) ↦ decide (j.i.p.price j.i.inst q.price=0)) (ab r (kL j.i (zC j.s))))=aa zJ (ae (λ(q:Sx.Quote) ↦ decide (j.i.p.price j.i.inst q.price=0)) (ab f (kL j.i (zC j.s))))++[[dI g,dI h,dI k,dI l,dI m,dI n]]/\zBz d r e f a j) (∃(r:Nat),(↑r:Int)=ao.wrap ((↑f:Int)+1)/\aa zJ (ae (λ(q:Sx.Quote) ↦ decide (j.i.p.price j.i.inst q.price=0)) (ab r (kL j.i (zC j.s))))=aa zJ (ae (λ(q:Sx.Quote) ↦ decide (j.i.p.price j.i.inst q.price=0)) (ab f (kL j.i (zC j.s))))/\zBz d r e f a j)) (∃(g:Unit),aa zJ (xY j.i (zC j.s))=aa zJ (ae (λ(q:Sx.Quote) ↦ decide (j.i.p.price j.i.inst q.price=0)) (ab f (kL j.i (zC j.s))))/\True)
def zCk (a:Nat->Prop) (b:Nat) (c:Nat->Nat) (d:Nat):Prop:=a b/\c b<c d/\dh (ak (Sx.V.agg [V.d (dI 0),V.d (dI 0),V.d (dI 0),V.d (dI 0),V.d (dI 0),V.d (dI 0)]).cl 259)
def yE (a:Nat) (b:BsI):=(zU (ab (max a 1) b.l) b.s)
def vW (a:BsI):=(↑(aa zJ a.l).length:Int)
def zQa (a:BsI):Prop:=((0:Int)<=(0:Int)/\0<(vW a))/\∃(b:Int),∃(c:Int),∃(d:Int),∃(e:Int),∃(f:Int),∃(g:Int),zE (aa zJ a.l) (Int.toNat 0) 0 6=az [dI b,dI c,dI d,dI e,dI f,dI g]/\∃(h:Nat),(↑h:Int)=0/\(yE h a).fst.price=b/\(yE h a).fst.qty=c/\(yE h a).fst.a.inst=d/\(yE h a).fst.a.side=e/\(yE h a).fst.b.inst=f/\(yE h a).fst.b.side=g/\∃(j:Nat->Prop),∃(k:Nat->Nat),j h/\∀(l:Nat),j l->cnd (decide ((↑l:Int)<(vW a))) ((0<=(↑l:Int)/\(↑l:Int)<(vW a))/\∃(m:Int),∃(n:Int),∃(p:Int),∃(q:Int),∃(r:Int),∃(s:Int),zE (aa zJ a.l) (↑l:Int).toNat 0 6=az [dI m,dI n,dI p,dI q,dI r,dI s]/\∃(t:I3'),t.side=a.s/\t.x=m/\t.y=(yE l a).fst.price/\True/\∀(u:Unit),True->cnd (btr t.side t.x t.y) (∃(v:Nat),(↑v:Int)=ao.wrap ((↑l:Int)+1)/\(yE v a).fst.price=m/\(yE v a).fst.qty=n/\(yE v a).fst.a.inst=p/\(yE v a).fst.a.side=q/\(yE v a).fst.b.inst=r/\(yE v a).fst.b.side=s/\zCk j v k l) (∃(v:Nat),(↑v:Int)=ao.wrap ((↑l:Int)+1)/\(yE v a).fst.price=(yE l a).fst.price/\(yE v a).fst.qty=(yE l a).fst.qty/\(yE v a).fst.a.inst=(yE l a).fst.a.inst/\(yE v a).fst.a.side=(yE l a).fst.a.side/\(yE v a).fst.b.inst=(yE l a).fst.b.inst/\(yE v a).fst.b.side=(yE l a).fst.b.side/\zCk j v k l)) (∃(m:Unit),(zU a.l a.s).fst.price=(yE l a).fst.price/\(zU a.l a.s).fst.qty=(yE l a).fst.qty/\(zU a.l a.s).fst.a.inst=(yE l a).fst.a.inst/\(zU a.l a.s).fst.a.side=(yE l a).fst.a.side/\(zU a.l a.s).fst.b.inst=(yE l a).fst.b.inst/\(zU a.l a.s).fst.b.side=(yE l a).fst.b.side/\(zU a.l a.s).snd=ap/\True)
def zDa (a:BsI):Prop:=∃(b:Unit),(zU a.l a.s).fst.price=0/\(zU a.l a.s).fst.qty=0/\(zU a.l a.s).fst.a.inst=0/\(zU a.l a.s).fst.a.side=0/\(zU a.l a.s).fst.b.inst=0/\(zU a.l a.s).fst.b.side=0/\(zU a.l a.s).snd=aq/\True
def yEz (i:BsI):Prop:=
 cnd ((vW i)==0) (zDa i) (cnd (i.s !=1) (cnd (i.s !=2) (zDa i) (zQa i)) (zQa i))
def z4i {l:List Quote} {q:Quote} (s:Int) (h:l[0]? =az q):(zU (l.take (max 0 1)) s).1=q:=by
 cases l with
 |nil=>simp at h
 |cons a l=>simp at h;subst h;rfl
def z4m {l:List Quote} {j:Nat} {q:Quote} (s:Int) (h:l[j]? =az q):
 (zU (l.take (max (j+1) 1)) s).1=if btr s q.price (zU (l.take (max j 1)) s).1.price then q else(zU (l.take (max j 1)) s).1:=by
 cases l with
 |nil=>simp at h
 |cons a l=>
  cases j with
  |zero=>simp at h;subst h;simp[zU]
  |succ m=>
   simp only[y7d]at h;rw[show max (m+1+1) 1=(m+1)+1 by omega,show max (m+1) 1=m+1 by omega,y6p,y6p,y6n,h];simp only[zU,y8h,xAa];rfl
def yCb {l:List Quote} (s:Int) (h:l≠[]):(zU l s).2=ap:=by
 cases l with
 |nil=>exact absurd rfl h
 |cons a l=>rfl
def yUd (i:BsI) (h:bestQC.cnd i):yEz i:=by
 obtain⟨hs,hl⟩:(i.s=1\/i.s=2)/\i.l.length<=1000000:=h;unfold yEz zQa yE zCk vW zDa dI;simp only[y5f];refine Cv.cnd.mk (λc=> ?_) (λc=> ?_)
 ·have e:i.l=[]:=y6f (by have:(i.l.length:Int)=0:=(by simpa using c);omega);rw[e];exact kp
 have h0:0<i.l.length:=by
  rcases Nat.eq_zero_or_pos i.l.length with h|h
  ·rw[h]at c;exact absurd c Z8
  ·exact h
 have hne:i.l≠[]:=by intro e;rw[e]at h0;simp at h0
 have two:=yCb i.s hne;obtain⟨q,hq⟩:=yD h0;have b0:=z4i i.s hq;have fin:(zU (i.l.take (max i.l.length 1)) i.s).1=(zU i.l i.s).1:=by
  rw[y5q (by omega)]
 have step:∀j:Nat,j<i.l.length->∀x:Quote,i.l[j]? =az x->(btr i.s x.price (zU (i.l.take (max j 1)) i.s).1.price=ap->(zU (i.l.take (max (j+1) 1)) i.s).1=x)/\(btr i.s x.price (zU (i.l.take (max j 1)) i.s).1.price=aq->(zU (i.l.take (max (j+1) 1)) i.s).1=(zU (i.l.take (max j 1)) i.s).1):=λj hj x hx=>by
  have:=z4m i.s hx;constructor
  ·intro e;rw[this,y5g e]
  ·intro e;rw[this,y5e (by rw[e];simp)]
 refine Cv.cnd.mk (λc1=>Cv.cnd.mk (λc2=> ?_) (λc2=> ?_)) (λc1=> ?_)
 ·exfalso;have c1:i.s≠1:=by simpa using c1
  have c2:i.s≠2:=by simpa using c2
  omega
 all_goals
  refine⟨⟨oM,oM⟩,q.price,q.qty,q.a.inst,q.a.side,q.b.inst,q.b.side,elA hq (by simp[zJ]) rfl,0,?_⟩;rw[b0]
  (repeat'(first|exact rfl|exact trivial|assumption|apply au|refineλ(_:Unit) (_:True)=>?_|refine ar () ?_|omega|(dsimp only;omega)))
  refine⟨λj=>j<=i.l.length,λj=>i.l.length-j,oM,λj hj=>zH (λhlt=> ?_) (λhlt=> ?_)⟩
  ·have hj':j<i.l.length:=by omega
   obtain⟨x,hx⟩:=yD hj';obtain⟨st,sf⟩:=step j hj' x hx;refine⟨⟨oM,oM⟩,x.price,x.qty,x.a.inst,x.a.side,x.b.inst,x.b.side,elA hx (by simp[zJ]) rfl,⟨i.s,x.price,_⟩,rfl,rfl,rfl,trivial,λ_ _=>Cv.cnd.mk (λe=>⟨j+1,by rw[w64 (by omega)];rfl,?_⟩) (λe=>⟨j+1,by rw[w64 (by omega)];rfl,?_⟩)⟩
   ·rw[st e];exact kp
   ·rw[sf e];exact kp
  ·have hj:j<=i.l.length:=hj;obtain rfl:j=i.l.length:=by omega
   rw[fin,two];exact kp
def zXk:bestQC.ok Tryz.prog 159:=okw mixed (gokc z3x gok0) 0 (λ_=>[]) (λi=>yWa i) [] Tryz.func159 yUd
def zGa (tops:List Top) (a b:Leg) (less:Bool):(mkq tops a b less).length<=1:=by
 unfold mkq;dsimp only;split<;>split<;>simp
def zWs {α:Type} {f:Nat->List α} (h:∀k,(f k).length<=1):∀n,((af n).flatMap f).length<=n
 |0=>by simp
 |n+1=>by
  rw[y9z,y7c,y5d];have:=zWs h n;have:=h n;simp only[y6z,xAj,y6b];omega
def zDu (i:dL) (s:Int) (k:Nat):(jC i s k).length<=k:=zWs (λ_=>zGa _ _ _ _) k
def rW (i:dL) (s:Int) (k:Nat):(wF i s k).length<=k:=zWs (λ_=>zGa _ _ _ _) k
def zGm (i:dL) (s:Int):(kL i s).length<=100:=by
 unfold kL;split
 ·simp
 ·rename_i h;have hc:=xS i.p;have m6:=(kE (eB (p:=i.p) oM)).m6;split
  ·rw[y5f];have:=zGa i.tops ⟨(i.p.legs i.inst).2.1,3-s⟩ ⟨(i.p.legs i.inst).1,s⟩ ap;have e:(yP i s).length<=1:=this;omega
  ·rw[y5d];have h1:=zDu i s (i.p.months.length-(i.inst.toNat+1));have h2:=rW i s i.inst.toNat;omega
def yPw (j:eA) (h:quotesC.cnd j):z9j j:=by
 unfold z9j zBz gT jT kJ g7 x7 dI;obtain⟨hp,ht,hr⟩:j.i.p.small/\vJ j.i.tops:=h;obtain⟨h1,h2,h3⟩:=hp;have hl:=zGm j.i (zC j.s);refine⟨j,?_⟩;simp only[y5f]
 (repeat'(first|exact rfl|exact trivial|assumption|apply au|refineλ(_:Unit) (_:True)=>?_|refine ar () ?_|omega|(dsimp only;omega)))
 refine⟨0,rfl,rfl,λk=>k<=(kL j.i (zC j.s)).length,λk=>(kL j.i (zC j.s)).length-k,oM,λk hk=>zH (λhlt=> ?_) (λhlt=> ?_)⟩
 ·have hk':k<(kL j.i (zC j.s)).length:=by omega
  obtain⟨q,hq⟩:=yD hk';have hf:(ae (λq=>decide (j.i.p.price j.i.inst q.price=0)) (ab k (kL j.i (zC j.s)))).length<=100:=by
   have:=y8q (λq:Quote=>decide (j.i.p.price j.i.inst q.price=0)) (ab k (kL j.i (zC j.s)));rw[y5w]at this;omega
  refine⟨⟨oM,oM⟩,q.price,q.qty,q.a.inst,q.a.side,q.b.inst,q.b.side,elA hq (by simp[zJ]) rfl,⟨j.i.p,j.i.inst,q.price⟩,?_⟩
  (repeat'(first|exact rfl|exact trivial|assumption|apply au|refineλ(_:Unit) (_:True)=>?_|refine ar () ?_|omega|(dsimp only;omega)))
  refine Cv.cnd.mk (λc=>⟨oM,k+1,by rw[w64 (by omega)];rfl,?_⟩) (λc=>⟨k+1,by rw[w64 (by omega)];rfl,?_⟩)
  ·have c:j.i.p.price j.i.inst q.price=0:=by simpa using c
   rw[y6n,hq,y8h,y9h,xAc (by simpa using c),y5o];exact kp
  ·have c:¬j.i.p.price j.i.inst q.price=0:=by simpa using c
   rw[y6n,hq,y8h,y9h,xAd (by simpa using c),List.filter_nil,y6b];exact kp
 ·have hk:k<=(kL j.i (zC j.s)).length:=hk;obtain rfl:k=(kL j.i (zC j.s)).length:=by omega
  rw[y5q (y6a _)];exact kp
def yDc:∀n≤6,∀a<n,∀b<n,a<b->0<=(yJ n a:Int)+b-a-1/\(yJ n a:Int)+b-a-1<((n+n*(n-1) / 2:Nat):Int):=by decide
def b9 {p:Prd} (hc:p.check=0) {a b:Nat} (hab:a<b) (hb:b<p.months.length):0<=(p.spread a b).1/\(p.spread a b).1<p.count:=by
 have m6:=(kE hc).m6;have:=yDc p.months.length m6 a oM b hb hab;rw[Prd.spread,y5e (by omega),Prd.count,y5g hc];simpa using this
def yNy:∀n≤6,∀k<n+n*(n-1) / 2,n<=k->(kV n k n 0).2.2=ap/\0<=(kV n k n 0).1/\(kV n k n 0).1<n/\0<=(kV n k n 0).2.1/\(kV n k n 0).2.1<n:=by decide
def g8 {p:Prd} (hc:p.check=0) {k:Nat} (hk:k<p.count):((p.legs k).2.2=ap/\0<=(p.legs k).1/\(p.legs k).1<p.months.length/\0<=(p.legs k).2.1/\(p.legs k).2.1<p.months.length)\/((p.legs k).2.2=aq/\k<p.months.length):=by
 have m6:=(kE hc).m6;have hk':=hk;rw[Prd.count,y5g hc]at hk';by_cases h:k<p.months.length
 ·right;rw[Prd.legs,y5e (by omega),y5g (by omega)];exact⟨rfl,h⟩
 ·left;rw[Prd.legs,y5e (by omega),y5e (by omega)];exact yNy p.months.length m6 k hk' oM
def zGq {p:Prd} (hc:p.check=0):p.months.length<=p.count:=by
 rw[Prd.count,y5g hc];omega
def zZz {i:dL} {s:Int} {k:Nat} (hk:k<(yP i s).length):aa zJ (aa (cY i s) (ab (k+1) (yP i s))++ac (k+1) (yP i s))=
 zV (aa zJ (aa (cY i s) (ab k (yP i s))++ac k (yP i s))) k (0+2) [D.v (.int .i64 (i.p.legs i.inst).1),D.v (.int .i64 s),D.v (.int .i64 (i.p.legs i.inst).2.1),D.v (.int .i64 (3-s))]:=by
 obtain⟨q,hq⟩:=yD hk;rw[zRj (a:=aa zJ (aa (cY i s) (ab k (yP i s)))) (b:=aa zJ (ac (k+1) (yP i s))) (x:=zJ q) (y:=zJ (cY i s q)) (by
  rw[y5o,y7m hk,(y5i.1 hq).2,y5t]) (by simp;omega) rfl]
 rw[y6n,hq,y8h,y5o,y5o,y5o,y5t,y8w,y5t,y8w,y5l];rfl
def y0p (i:dL) (h:all1C.cnd i):yRc i:=by
 unfold yRc z6 zEl zFq nX vC pE l5 nS jF x7 zAz uI fE g7 dI;obtain⟨⟨h1,h2,h3⟩,ht,hr⟩:i.p.small/\vJ i.tops:=h;have hto:vJ i.tops:=⟨ht,hr⟩
 refine⟨i.p,?_⟩;simp only[y5f,yZ]
 (repeat'(first|exact rfl|exact trivial|assumption|apply au|refineλ(_:Unit) (_:True)=>?_|refine ar () ?_|omega|(dsimp only;omega)))
 have bad (hb:i.p.count=0\/(i.tops.length:Int)≠i.p.count\/i.inst<0\/(i.p.count:Int)<=i.inst):∃(o:Unit),aa zJ (kL i 1)=[]/\True:=⟨(),by rw[kL,y5g hb];rfl,trivial⟩
 refine Cv.cnd.mk (λc1=>bad (.inl (by have c1:(i.p.count:Int)=0:=(by simpa using c1);omega))) λc1=>Cv.cnd.mk (λc2=>bad (.inr (.inl (by simpa using c2)))) λc2=>zH (λc3=>bad oM) λc3=>zH (λc4=>bad oM) λc4=>⟨⟨i.p,i.inst⟩,?_⟩
 have c1:i.p.count≠0:=by
  have c1:¬(i.p.count:Int)=0:=(by simpa using c1)
  omega
 have c2:(i.tops.length:Int)=i.p.count:=by simpa using c2
 have c4:i.inst<(i.p.count:Int):=by
  have c4:¬i.inst>=(i.p.count:Int):=c4;omega
 have hc:=eB c1;have hm:=zGq hc;have e0:kL i 1=if(i.p.legs i.inst).2.2 then(yP i 1).map (cY i 1)else jC i 1 (i.p.months.length-(i.inst.toNat+1))++wF i 1 i.inst.toNat:=by
  rw[kL,y5e (by omega)]
 obtain⟨k,hk⟩:∃k:Nat,i.inst=k:=⟨i.inst.toNat,oM⟩
 have hl:=g8 hc (k:=k) oM;rw[<- hk]at hl
 (repeat'(first|exact rfl|exact trivial|assumption|apply au|refineλ(_:Unit) (_:True)=>?_|refine ar () ?_|omega|(dsimp only;omega)))
 refine Cv.cnd.mk (λc5=> ?_) (λc5=> ?_)
 ·have c5:(i.p.legs i.inst).2.2=ap:=c5;rw[e0,y5g c5];rcases hl with⟨_,l1,l2,l3,l4⟩|⟨l1,_⟩
  ·have hsl:(yP i 1).length<=1:=zGa _ _ _ _;refine⟨1,rfl,oM,λ_ _=>⟨⟨⟨i.tops,[],(i.p.legs i.inst).2.1,(i.p.legs i.inst).1,ap⟩,ap,aq⟩,rF6 ⟨rfl,⟨l3,Z9,l1,Z9,hto,by simp⟩,λ_ _=>⟨0,rfl,rfl,rfl,λj=>j<=(yP i 1).length,λj=>(yP i 1).length-j,oM,?_⟩⟩⟩⟩;intro j hj;have hj:j<=(yP i 1).length:=hj;have hL:(aa (cY i 1) (ab j (yP i 1))++ac j (yP i 1)).length=(yP i 1).length:=by simp;omega
   refine zH (λhlt=> ?_) (λhlt=> ?_)
   ·have hlt:(j:Int)<((yP i 1).length:Int):=hlt;refine⟨⟨oM,by rw[hL];omega⟩,by rw[hL];omega,j+1,by rw[w64 (by omega)];rfl,kp,?_,?_⟩
    ·exact zZz (i:=i) (s:=1) oM
    ·exact kp
   ·have hlt:¬(j:Int)<((yP i 1).length:Int):=hlt;obtain rfl:j=(yP i 1).length:=by omega
    rw[y5q (y6a _),List.drop_length,y6b];exact kp
  ·rw[c5]at l1;cases l1
 ·have c5:(i.p.legs i.inst).2.2=aq:=c5;rw[e0,y5e (by rw[c5];simp)];rcases hl with⟨l1,_⟩|⟨_,l2⟩
  ·rw[c5]at l1;cases l1
  have m6:=(kE hc).m6;have e1:i.inst.toNat=k:=by omega
  rw[e1];refine⟨0,by rw[w64 (by omega)];omega,kp,rfl,λj=>j<=i.p.months.length-(k+1),λj=>i.p.months.length-(k+1)-j,oM,?_⟩;intro j hj;have hj:j<=i.p.months.length-(k+1):=hj;have hq:=zDu i 1 j;refine zH (λhlt=> ?_) (λhlt=> ?_)
  ·obtain⟨b1,b2⟩:=b9 hc (a:=k) (b:=k+1+j) oM oM;have eb:((k+1+j:Nat):Int)=i.inst+1+j:=by omega
   rw[eb,<- hk]at b1 b2;refine⟨⟨i.p,i.inst,i.inst+1+j⟩,?_⟩
   (repeat'(first|exact rfl|exact trivial|assumption|apply au|refineλ(_:Unit) (_:True)=>?_|refine ar () ?_|omega|(dsimp only;omega)))
   refine⟨⟨⟨i.tops,jC i 1 j,(i.p.spread i.inst (i.inst+1+j)).1,i.inst+1+j,aq⟩,aq,aq⟩,rF4 ⟨rfl,kp,rfl,⟨b1,Z9,Z9,Z9,hto,Z9⟩,λ_ _=>⟨j+1,by rw[w64 (by omega)];omega,kp,?_,?_⟩⟩⟩
   ·rw[jC,y9z,y7c];simp only[y6z,xAj,y6b];rfl
   ·exact kp
  ·obtain rfl:j=i.p.months.length-(k+1):=by omega
   refine⟨0,rfl,kp,by rw[wF];simp,λj=>j<=k,λj=>k-j,oM,?_⟩;intro j hj;have hj:j<=k:=hj;have hq2:=rW i 1 j;refine zH (λhlt2=> ?_) (λhlt2=> ?_)
   ·obtain⟨b1,b2⟩:=b9 hc (a:=j) (b:=k) oM oM;rw[<- hk]at b1 b2;refine⟨⟨i.p,j,i.inst⟩,?_⟩
    (repeat'(first|exact rfl|exact trivial|assumption|apply au|refineλ(_:Unit) (_:True)=>?_|refine ar () ?_|omega|(dsimp only;omega)))
    refine⟨1,rfl,oM,λ_ _=>⟨⟨⟨i.tops,jC i 1 (i.p.months.length-(k+1))++wF i 1 j,(i.p.spread j i.inst).1,j,ap⟩,ap,aq⟩,rF4 ⟨rfl,kp,rfl,⟨b1,Z9,Z9,Z9,hto,by dsimp only;rw[y5d];omega⟩,λ_ _=>⟨j+1,by rw[w64 (by omega)];omega,kp,?_,?_⟩⟩⟩⟩
    ·rw[wF,y9z,y7c];simp only[y6z,xAj,y6b,y5l];rfl
    ·exact kp
   ·obtain rfl:j=k:=by omega
    exact kp
def yMb:all1C.ok Tryz.prog 160:=okw mixed (gokc b7 (gokc lU (gokc zTi (gokc zSa (gokc z0k gok0))))) 0 (λ_=>[]) (λi=>yZr i 1) [] Tryz.func160 y0p
def yZl (i:dL) (h:all2C.cnd i):yQj i:=by
 unfold yQj z6 nM zBm pX zEl zFq nX vC jF x7 zAz uI fE g7 dI;obtain⟨⟨h1,h2,h3⟩,ht,hr⟩:i.p.small/\vJ i.tops:=h;have hto:vJ i.tops:=⟨ht,hr⟩
 refine⟨i.p,?_⟩;simp only[y5f,yZ]
 (repeat'(first|exact rfl|exact trivial|assumption|apply au|refineλ(_:Unit) (_:True)=>?_|refine ar () ?_|omega|(dsimp only;omega)))
 have bad (hb:i.p.count=0\/(i.tops.length:Int)≠i.p.count\/i.inst<0\/(i.p.count:Int)<=i.inst):∃(o:Unit),aa zJ (kL i 2)=[]/\True:=⟨(),by rw[kL,y5g hb];rfl,trivial⟩
 refine Cv.cnd.mk (λc1=>bad (.inl (by have c1:(i.p.count:Int)=0:=(by simpa using c1);omega))) λc1=>Cv.cnd.mk (λc2=>bad (.inr (.inl (by simpa using c2)))) λc2=>zH (λc3=>bad oM) λc3=>zH (λc4=>bad oM) λc4=>⟨⟨i.p,i.inst⟩,?_⟩
 have c1:i.p.count≠0:=by
  have c1:¬(i.p.count:Int)=0:=(by simpa using c1)
  omega
 have c2:(i.tops.length:Int)=i.p.count:=by simpa using c2
 have c4:i.inst<(i.p.count:Int):=by
  have c4:¬i.inst>=(i.p.count:Int):=c4;omega
 have hc:=eB c1;have hm:=zGq hc;have e0:kL i 2=if(i.p.legs i.inst).2.2 then(yP i 2).map (cY i 2)else jC i 2 (i.p.months.length-(i.inst.toNat+1))++wF i 2 i.inst.toNat:=by
  rw[kL,y5e (by omega)]
 obtain⟨k,hk⟩:∃k:Nat,i.inst=k:=⟨i.inst.toNat,oM⟩
 have hl:=g8 hc (k:=k) oM;rw[<- hk]at hl
 (repeat'(first|exact rfl|exact trivial|assumption|apply au|refineλ(_:Unit) (_:True)=>?_|refine ar () ?_|omega|(dsimp only;omega)))
 refine Cv.cnd.mk (λc5=> ?_) (λc5=> ?_)
 ·have c5:(i.p.legs i.inst).2.2=ap:=c5;rw[e0,y5g c5];rcases hl with⟨_,l1,l2,l3,l4⟩|⟨l1,_⟩
  ·have hsl:(yP i 2).length<=1:=zGa _ _ _ _;refine⟨2,rfl,oM,λ_ _=>⟨⟨⟨i.tops,[],(i.p.legs i.inst).2.1,(i.p.legs i.inst).1,ap⟩,aq,ap⟩,rF6 ⟨rfl,⟨l3,Z9,l1,Z9,hto,by simp⟩,λ_ _=>⟨0,rfl,rfl,rfl,λj=>j<=(yP i 2).length,λj=>(yP i 2).length-j,oM,?_⟩⟩⟩⟩;intro j hj;have hj:j<=(yP i 2).length:=hj;have hL:(aa (cY i 2) (ab j (yP i 2))++ac j (yP i 2)).length=(yP i 2).length:=by simp;omega
   refine zH (λhlt=> ?_) (λhlt=> ?_)
   ·have hlt:(j:Int)<((yP i 2).length:Int):=hlt;refine⟨⟨oM,by rw[hL];omega⟩,by rw[hL];omega,j+1,by rw[w64 (by omega)];rfl,kp,?_,?_⟩
    ·exact zZz (i:=i) (s:=2) oM
    ·exact kp
   ·have hlt:¬(j:Int)<((yP i 2).length:Int):=hlt;obtain rfl:j=(yP i 2).length:=by omega
    rw[y5q (y6a _),List.drop_length,y6b];exact kp
  ·rw[c5]at l1;cases l1
 ·have c5:(i.p.legs i.inst).2.2=aq:=c5;rw[e0,y5e (by rw[c5];simp)];rcases hl with⟨l1,_⟩|⟨_,l2⟩
  ·rw[c5]at l1;cases l1
  have m6:=(kE hc).m6;have e1:i.inst.toNat=k:=by omega
  rw[e1];refine⟨0,by rw[w64 (by omega)];omega,kp,rfl,λj=>j<=i.p.months.length-(k+1),λj=>i.p.months.length-(k+1)-j,oM,?_⟩;intro j hj;have hj:j<=i.p.months.length-(k+1):=hj;have hq:=zDu i 2 j;refine zH (λhlt=> ?_) (λhlt=> ?_)
  ·obtain⟨b1,b2⟩:=b9 hc (a:=k) (b:=k+1+j) oM oM;have eb:((k+1+j:Nat):Int)=i.inst+1+j:=by omega
   rw[eb,<- hk]at b1 b2;refine⟨⟨i.p,i.inst,i.inst+1+j⟩,?_⟩
   (repeat'(first|exact rfl|exact trivial|assumption|apply au|refineλ(_:Unit) (_:True)=>?_|refine ar () ?_|omega|(dsimp only;omega)))
   refine⟨⟨⟨i.tops,jC i 2 j,(i.p.spread i.inst (i.inst+1+j)).1,i.inst+1+j,aq⟩,ap,ap⟩,rF4 ⟨rfl,kp,rfl,⟨b1,Z9,Z9,Z9,hto,Z9⟩,λ_ _=>⟨j+1,by rw[w64 (by omega)];omega,kp,?_,?_⟩⟩⟩
   ·rw[jC,y9z,y7c];simp only[y6z,xAj,y6b];rfl
   ·exact kp
  ·obtain rfl:j=i.p.months.length-(k+1):=by omega
   refine⟨0,rfl,kp,by rw[wF];simp,λj=>j<=k,λj=>k-j,oM,?_⟩;intro j hj;have hj:j<=k:=hj;have hq2:=rW i 2 j;refine zH (λhlt2=> ?_) (λhlt2=> ?_)
   ·obtain⟨b1,b2⟩:=b9 hc (a:=j) (b:=k) oM oM;rw[<- hk]at b1 b2;refine⟨⟨i.p,j,i.inst⟩,?_⟩
    (repeat'(first|exact rfl|exact trivial|assumption|apply au|refineλ(_:Unit) (_:True)=>?_|refine ar () ?_|omega|(dsimp only;omega)))
    refine⟨2,rfl,oM,λ_ _=>⟨⟨⟨i.tops,jC i 2 (i.p.months.length-(k+1))++wF i 2 j,(i.p.spread j i.inst).1,j,ap⟩,aq,ap⟩,rF4 ⟨rfl,kp,rfl,⟨b1,Z9,Z9,Z9,hto,by dsimp only;rw[y5d];omega⟩,λ_ _=>⟨j+1,by rw[w64 (by omega)];omega,kp,?_,?_⟩⟩⟩⟩
    ·rw[wF,y9z,y7c];simp only[y6z,xAj,y6b,y5l];rfl
    ·exact kp
   ·obtain rfl:j=k:=by omega
    exact kp
def yNo:all2C.ok Tryz.prog 160:=okw mixed (gokc b7 (gokc lU (gokc zTi (gokc zSa (gokc z0k gok0))))) 0 (λ_=>[]) (λi=>yZr i 2) [] Tryz.func160 yZl
def yIh:allC.ok Tryz.prog 160:=λj=>match j with
 |⟨i,aq⟩=>yMb i
 |⟨i,ap⟩=>yNo i
def zSm:quotesC.ok Tryz.prog 109:=okw mixed (gokc yIh (gokc eK gok0)) 0 (λ_=>[]) (λj=>yLk j) [] Tryz.func109 yPw
def zKn (i:dL) (s:Int):(xY i s).length<=100:=y8a (y8q _ _) (zGm i s)
structure Mkt where
 p:Prd
 s:MSt
 used:List Int
def zW (l:List Int):List (bo×List D):=l.map λx=>(.int .i64 x,[.v (.bool ap)])
def yX (m:Mkt):Nat->AObj
 |0=> .cells [sV m.p.code,.own 3,zA m.p.tick,zA m.p.low,zA m.p.high,zA m.p.wide,zA m.p.rule,zA m.p.top,zA m.p.least,zA m.p.part,.own 4,.nm 1 0,.mp 2] 179
 |1=>zD m.s
 |2=> .map (zW m.used)
 |3=> .fro 1 (iE m.p.months)
 |4=> .fro 1 (iE m.p.settle)
 |_=> .gone
def jR (m:Mkt):AObj:= .adt Mkt 5 yX m
def newMC:Con where
 ι:=Prd
 pat:=λp=>[prdV p]
 pre:=λ_=>[]
 cnd:=λp=>p.small
 alts:=λp=>[{o:=Unit,res:=λ_=> .tup [.nm 0 0,zA 0],post:=λ_=>[jR ⟨p,cV p,[]⟩],rel:=λ_=>p.check=0},{o:=Unit,res:=λ_=> .tup [.d (.v (.pointer ba)),zA p.check],post:=λ_=>[],rel:=λ_=>p.check≠0}]
def zJl (a:Prd) (b:Prd) (c:Unit):Prop:=True/\(0+(iE a.settle).length)*(8:Nat)<=(140737488355328:Nat)/\((∃(d:Unit),dh ((0:Int))/\dh (sb a.code)/\dh a.tick/\dh a.low/\dh a.high/\dh a.wide/\dh a.rule/\dh a.top/\dh a.least/\dh a.part/\zD (cV a)=zD (cV b)/\zW []=[]/\iE a.months=[]++iE a.months/\iE a.settle=[]++iE a.settle/\a.check=0)\/∃(c:Unit),False)
def zIa (a:Prd) (b:Prd) (c:Unit):Prop:=True/\True/\(0+(iE a.months).length)*(8:Nat)<=(140737488355328:Nat)/\zJl a b c
def zIh (a:Prd) (b:Unit):Prop:=True/\(0+(iE a.settle).length)*(8:Nat)<=(140737488355328:Nat)/\((∃(c:Unit),dh ((0:Int))/\dh (sb a.code)/\dh a.tick/\dh a.low/\dh a.high/\dh a.wide/\dh a.rule/\dh a.top/\dh a.least/\dh a.part/\False)\/∃(b:Unit),False)
def zHj (a:Prd) (b:Unit):Prop:=True/\True/\(0+(iE a.months).length)*(8:Nat)<=(140737488355328:Nat)/\zIh a b
def yRy (p:Prd):Prop:=
 ∃(a:Prd),sb a.code=sb p.code/\iE a.months=iE p.months/\a.tick=p.tick/\a.low=p.low/\a.high=p.high/\a.wide=p.wide/\a.rule=p.rule/\a.top=p.top/\a.least=p.least/\a.part=p.part/\iE a.settle=iE p.settle/\(z6 a)/\(∀(b:Unit),a.check=0->(True/\True/\((0+(iE p.months).length)*(8:Nat)<=(140737488355328:Nat)/\True/\zJl p a b)/\zIa p a b)/\True/\True/\zIa p a b)/\∀(b:Unit),a.check≠0->cnd (a.check !=0) ((∃(c:Unit),False)\/∃(b:Unit),True/\p.check=a.check/\(p.check=0->False)) ((True/\True/\((0+(iE p.months).length)*(8:Nat)<=(140737488355328:Nat)/\True/\zIh p b)/\zHj p b)/\True/\True/\zHj p b)
def y1x (p:Prd) (h:newMC.cnd p):yRy p:=by
 unfold yRy zHj zIh zIa zJl z6;obtain⟨h1,h2,h3⟩:p.small:=h;refine⟨p,?_⟩;simp only[yZ]
 (repeat'(first|exact rfl|exact trivial|assumption|apply au|refineλ(_:Unit) (_:True)=>?_|refine ar () ?_|omega|(dsimp only;omega)))
 ·intro _ c
  (repeat'(first|exact rfl|exact trivial|assumption|apply au|refineλ(_:Unit) (_:True)=>?_|refine ar () ?_|omega|(dsimp only;omega)))
  all_goals(refine .inl ⟨(),?_⟩;(repeat'(first|exact rfl|exact trivial|assumption|apply au|refineλ(_:Unit) (_:True)=>?_|refine ar () ?_|omega|(dsimp only;omega))))
 ·intro _ c;refine Cv.cnd.mk (λe=> .inr ⟨(),trivial,kp,c⟩) (λe=>absurd (by simpa using e) c)
def yNs:newMC.ok Tryz.prog 47:=okw mixed (gokc yMa gok0) 0 (λ_=>[]) (λ_=>[]) [] Tryz.func47 y1x
def clIntRC:Con:=con1 (List Int) (λl=>[iV l]) (λ_=>[]) (λl=>l.length<=1000000) (λl=>iV l) (λ_=>[])
structure WiI where
 n:Int
 lo:Int
 hi:Int
def zF (n lo hi:Int):Int:=lo+n % (hi-lo+1)
def withinC:Con:=con1 WiI (λi=>[zA i.n,zA i.lo,zA i.hi]) (λ_=>[]) (λi=>yW i.n/\-1000000<=i.lo/\i.lo<=i.hi/\i.hi<=1000000) (λi=>zA (zF i.n i.lo i.hi)) (λ_=>[])
def mT (rule:Int):Prd:=⟨[67,76],[320,321,323],5,0,1000,200,rule,4,2,40,[500,505,490]⟩
def threeC:Con:=con1 Int (λn=>[zA n]) (λ_=>[]) (λ_=>True) (λn=>prdV (mT n)) (λ_=>[])
def yPl (l:List Int):Prop:=
 ∀(b:Bool),(b=ap->iE l=[])->cnd b (∃(o:Unit),iE l=[]/\True) ((0+(iE l).length)*(8:Nat)<=(140737488355328:Nat)/\∃(o:Unit),iE l=[]++iE l/\True)
def yBv (l:List Int):Prop:=
 ∀(b:Bool),(b=ap->iE l=[])->cnd b (∃(o:Unit),iE l=[]/\True) ((0+(iE l).length)*(8:Nat)<=(140737488355328:Nat)/\∃(o:Unit),iE l=[]++iE l/\True)
def nA (a:WiI):=(ao.wrap (ao.wrap (a.hi-a.lo)+1))
def z7m (i:WiI):Prop:=
 ao=ao/\ao.wrap (ao.wrap (i.hi-i.lo)+1)≠0/\cnd (decide (i.n.tmod (nA i)<0)) (∃(a:Unit),zF i.n i.lo i.hi=ao.wrap (i.lo+ao.wrap (ao.wrap (ao.wrap (i.n.tmod (nA i)+i.hi)-i.lo)+1))/\True) (∃(a:Unit),zF i.n i.lo i.hi=ao.wrap (i.lo+i.n.tmod (nA i))/\True)
def yIx (n:Int):Prop:=
 ∃(a:Unit),sb [(67:UInt8),(76:UInt8)]=ByteArray.mk #[(67:UInt8),(76:UInt8)]/\iE [(320:Int),(321:Int),(323:Int)]=[[dI 320],[dI 321],[dI 323]]/\dh ((5:Int))/\dh ((0:Int))/\dh ((1000:Int))/\dh ((200:Int))/\n=n/\dh ((4:Int))/\dh ((2:Int))/\dh ((40:Int))/\iE [(500:Int),(505:Int),(490:Int)]=[[dI 500],[dI 505],[dI 490]]/\True
def yBn:clIntRC.ok Tryz.prog 88:=okw (V:=yPl) mixed gok0 0 (λ_=>[]) (λ_=>[]) [] Tryz.func88 λ(l:List Int) h=>by
 have h:l.length<=1000000:=h;exactλb hb=>Cv.cnd.mk (λe=>⟨(),hb e,trivial⟩) (λ_=>⟨by rw[y6e,yZ];omega,(),rfl,trivial⟩)
def zZw:clIntRC.ok Tryz.prog 89:=okw (V:=yBv) mixed gok0 0 (λ_=>[]) (λ_=>[]) [] Tryz.func89 λ(l:List Int) h=>by
 have h:l.length<=1000000:=h;exactλb hb=>Cv.cnd.mk (λe=>⟨(),hb e,trivial⟩) (λ_=>⟨by rw[y6e,yZ];omega,(),rfl,trivial⟩)
def yKq:threeC.ok Tryz.prog 60:=okw (V:=yIx) mixed gok0 0 (λ_=>[]) (λ_=>[]) [] Tryz.func60 λ(n:Int) _=>by
 unfold yIx dI;exact kp
def yMu (i:WiI) (h:withinC.cnd i):z7m i:=by
 obtain⟨⟨a1,a2⟩,a3,a4,a5⟩:yW i.n/\-1000000<=i.lo/\i.lo<=i.hi/\i.hi<=1000000:=h;unfold z7m nA;rw[w64 (x:=i.hi-i.lo) (by omega),w64 (x:=i.hi-i.lo+1) (by omega)];obtain⟨d,hd⟩:∃d:Int,i.hi-i.lo+1=d:=⟨_,rfl⟩
 rw[hd];have h1:i.n.tmod d=if 0<=i.n then i.n % d else-((-i.n) % d):=by
  split
  ·rename_i h;rw[cd h]
  ·rename_i h;have:i.n= -(-i.n):=by omega
   conv=>lhs;rw[this]
   rw[Int.neg_tmod,cd (by omega)]
 have hb1:=xBe i.n (show d≠0 by omega);have hb2:=xBf i.n (show 0<d by omega);have hb3:=xBe (-i.n) (show d≠0 by omega);have hb4:=xBf (-i.n) (show 0<d by omega);have key:i.n.tmod d<0->i.n % d=i.n.tmod d+d:=λhneg=>by
  have:=Int.emod_eq_of_lt (a:=i.n.tmod d+d) (b:=d) (by rw[h1]at hneg ⊢;split at hneg<;>split<;>omega) oM;rw[<- this,Int.add_emod_right];have e:=Int.tmod_add_mul_tdiv i.n d
  conv=>lhs;rw[<- e]
  rw[ce]
 have key2:¬i.n.tmod d<0->i.n % d=i.n.tmod d:=λhneg=>by
  have hlt:i.n.tmod d<d:=by rw[h1];split<;>omega
  have:=Int.emod_eq_of_lt (a:=i.n.tmod d) (b:=d) oM hlt;rw[<- this];have e:=Int.tmod_add_mul_tdiv i.n d
  conv=>lhs;rw[<- e]
  rw[ce]
 refine⟨rfl,oM,zH (λc=>⟨(),?_,trivial⟩) (λc=>⟨(),?_,trivial⟩)⟩
 ·have k:=key c;rw[zF,hd,k];rw[w64 (x:=i.n.tmod d+i.hi) (by omega),w64 (x:=i.n.tmod d+i.hi-i.lo) (by omega),w64 (x:=i.n.tmod d+i.hi-i.lo+1) (by omega),w64 (by omega)];omega
 ·have k:=key2 c;rw[zF,hd,k,w64 (by omega)]
def within_ok:withinC.ok Tryz.prog 14:=okw mixed gok0 0 (λ_=>[]) (λ_=>[]) [] Tryz.func14 yMu
def zDo (l:List (Int×Int)) (k:Int):Option Int:=(l.find? λx=>decide (x.1=k)).map (·.2)
def yIv (l:List (Int×Int)) (k:Int):∀p∈yO l,like (bc ao k) p.1=ap:=by
 intro p hp;obtain⟨x,_,rfl⟩:=y6q.1 hp;rfl
def pW (k:Int):∀l:List (Int×Int),kK (bc ao k) (yO l)=(zDo l k).map λv=>[D.v (.int .i64 v)]
 |[]=>rfl
 |(a,v)::l=>by
  have ih:=pW k l;show(bif (keq .i64 .i64 && decide (k=a))then _ else kK _ (yO l))=_;by_cases h:k=a
  ·subst h;simp[zDo,keq]
  ·have h':¬a=k:=λe=>h e.symm
   rw[show(keq .i64 .i64 && decide (k=a))=aq by simp[h],cond_false,ih];simp[zDo,xBh,h']
structure Rep where
 kind:Int
 id:Int
 inst:Int
 side:Int
 price:Int
 qty:Int
 left:Int
 why:Int
 deriving DecidableEq
@[reducible] def y3r (r:Rep):V:= .agg [zA r.kind,zA r.id,zA r.inst,zA r.side,zA r.price,zA r.qty,zA r.left,zA r.why]
def xR (r:Rep):List D:=[.v (.int .i64 r.kind),.v (.int .i64 r.id),.v (.int .i64 r.inst),.v (.int .i64 r.side),.v (.int .i64 r.price),.v (.int .i64 r.qty),.v (.int .i64 r.left),.v (.int .i64 r.why)]
def zZm (k v:Int):List (Int×Int)->List (Int×Int)
 |[]=>[(k,v)]
 |(a,b)::l=>if k=a then(a,v)::l else(a,b)::zZm k v l
def z2m (k:Int):List (Int×Int)->List (Int×Int)
 |[]=>[]
 |(a,b)::l=>if k=a then l else(a,b)::z2m k l
def bj (t:Nat):SAnn:={ι:=Bool,slots:=λb=>[(t,yR b)],rows:=λ_=>[]}
def ij (t:Nat):SAnn:={ι:=Int,slots:=λn=>[(t,zA n)],rows:=λ_=>[]}
def dY (l:List (Int×Int)) (k:Int):∀(p:bo×List D),p∈yO l->like (bc ao k) p.1=ap:=λp hp=>yIv l k p hp
def zYx (k v:Int):∀l,uH (bc ao k) [D.v (.int .i64 v)] (yO l)=yO (zZm k v l)
 |[]=>rfl
 |(a,b)::l=>by
  have ih:=zYx k v l;show(bif (keq .i64 .i64 && decide (k=a))then _ else _::uH _ _ (yO l))=_;rw[ih,zZm];by_cases h:k=a
  ·subst h;simp[keq,yO]
  ·simp[h,yO]
def zZl (k:Int):∀l,zBn (bc ao k) (yO l)=yO (z2m k l)
 |[]=>rfl
 |(a,b)::l=>by
  have ih:=zZl k l;show(bif (keq .i64 .i64 && decide (k=a))then yO l else _::zBn _ (yO l))=_;rw[ih,z2m];by_cases h:k=a
  ·subst h;simp[keq]
  ·simp[h,yO]
def yVt (l:List (Int×Int)) (k:Int):kK (bc ao k) (yO l)=az [D.v (.int .i64 ((zDo l k).getD 0))]/\(zDo l k).isSome=ap\/kK (bc ao k) (yO l)=ba/\[D.v (.int .i64 ((zDo l k).getD 0))]=[D.v (.int .i64 0)]/\(zDo l k).isSome=aq:=by
 rw[pW];cases zDo l k with
 |none=>exact .inr ⟨rfl,rfl,rfl⟩
 |some v=>exact .inl ⟨rfl,rfl⟩
def z0h (a b:Int):(a==b)=decide (a=b):=by
 by_cases h:a=b
 ·subst h;simp
 ·simp[h]
def z0z:(mT 1).check=0:=by decide+kernel
def zYt (n:Int):(mT n).small:=⟨by simp[mT],by simp[mT],by simp[mT]⟩
def yQ {n lo hi:Int} (h:lo<=hi):lo<=zF n lo hi/\zF n lo hi<=hi:=by
 rw[zF];have h1:=xBe n (show hi-lo+1≠0 by omega);have h2:=xBf n (show 0<hi-lo+1 by omega);omega
open Go Go.RowKit Cv
def l7 {P:bu} {dT sT ty e sz by_:Nat} {z:Array bo} (hi:vX P dT=az (e,sz,by_,z)) {w:bg} {g o dLen dCap b so sLen sCap n:Nat} {cur src:List bo} {T T':TypeId} {fr:Nat×Nat}
 (hg:w.heap[g]? =az (.cells cur.toArray T (0,0))) (hs:w.heap[b]? =az (.cells src.toArray T' fr)) (hn:Nat.min sLen dLen=n) (h1:so+n*sz<=src.length) (h2:o+n*sz<=cur.length)
 (hone:∀v∈(src.drop so).take (n*sz),v.oneC=ap):
 hJ P (aw #[dT,sT] ty #[.slice (az ⟨g,o,ba⟩) dLen dCap,.slice (az ⟨b,so,ba⟩) sLen sCap]) w (.int .i64 n) (World.setB w g (.cells (spl cur o ((src.drop so).take (n*sz))).toArray T (0,0))):=by
 obtain⟨i,zv,q1,q2,rfl,rfl,q5,rfl⟩:=kG hi;have hl:((src.drop so).take (n*i.size)).length=n*i.size:=by rw[y5w,y6c];omega
 have hst:=wC (P:=P) ((src.drop so).take (n*i.size)) 0 o cur w hg (by rw[hl];omega) hone;simp only[y9n]at hst;unfold hJ aw;simp only[y7g,y7p,y7d,bind,pure,run_bind,Sem.bind,Sem.run,Cv.run_underlying q1,Cv.run_sizeOf q2,Builtin.lenOf,hn,ax,u9 hs h1,hst];rfl
def Hp.apart {k:Ko} {w:bg} {b c:Nat} {o o':Obj} {L:List HP} (H:Hp k w (pt b o::pt c o'::L)):b≠c:=by
 obtain⟨hk,hs,hh⟩:=H;cases hh with
 |cons ha hsub hd hr=>
  cases hr with
  |cons hb hsub2 hd2 hr2=>
   intro e;subst e;have:=hd _ y5k b;rw[show _=one b o from ha,show _=one b o' from hb]at this;simp[one]at this
def yXy (P:bu) (tS tI sz fO fR:Nat) (s:Option bv) (sn sk:Nat) (i:Int) (v:Option bv) (vn vk:Nat) (w:bg) (R:Ending->bg->Prop):Prop:=
slN s sn sk (az i) ba sz λa1 na1 ka1=>
cnd (((vn:Int):Int)==0) (
R (.returned (.slice s sn sk)) w) (
cnd ((i:Int)==(sn:Int)) (
∃(a2:Option bv) (na2 ka2:Nat),∃w3:bg,hJ P (ay #[tS,tS] tS #[.slice s sn sk,.slice v vn vk]) w (.slice a2 na2 ka2) w3/\
R (.returned (.slice a2 na2 ka2)) w3) (
cnd (decide ((ao.wrap ((sn:Int)+(vn:Int)):Int)>(sk:Int))) (
slN s sn sk ba (az i) sz λa4 na4 ka4=>
∃(a5:Option bv) (na5 ka5:Nat),∃w6:bg,hJ P (ay #[tS,tI] tS #[.slice a4 na4 ka4,.int .i64 (ao.wrap (ao.wrap ((sn:Int)+(vn:Int))-i))]) w (.slice a5 na5 ka5) w6/\
slN a5 na5 ka5 (az i) ba sz λa7 na7 ka7=>
∃x8:Int,∃w9:bg,hJ P (aw #[tS,tS] tI #[.slice a7 na7 ka7,.slice v vn vk]) w6 (.int .i64 x8) w9/\
z9v w9 λw10=>
slN a5 na5 ka5 (az (ao.wrap (i+(vn:Int)))) ba sz λa11 na11 ka11=>
slN s sn sk (az i) ba sz λa12 na12 ka12=>
∃x13:Int,∃w14:bg,hJ P (aw #[tS,tS] tI #[.slice a11 na11 ka11,.slice a12 na12 ka12]) w10 (.int .i64 x13) w14/\
R (.returned (.slice a5 na5 ka5)) w14) (
slN s sn sk ba (az (ao.wrap ((sn:Int)+(vn:Int)))) sz λa15 na15 ka15=>
slN a15 na15 ka15 (az (ao.wrap (i+(vn:Int)))) ba sz λa16 na16 ka16=>
∃c17:Bool,∃w18:bg,Cv.Ext P fO #[.slice v vn vk,.slice a16 na16 ka16] w (.bool c17) w18/\
cnd (!c17) (
z9v w18 λw19=>
slN a15 na15 ka15 (az (ao.wrap (i+(vn:Int)))) ba sz λa20 na20 ka20=>
slN a15 na15 ka15 (az i) ba sz λa21 na21 ka21=>
∃x22:Int,∃w23:bg,hJ P (aw #[tS,tS] tI #[.slice a20 na20 ka20,.slice a21 na21 ka21]) w19 (.int .i64 x22) w23/\
slN a15 na15 ka15 (az i) ba sz λa24 na24 ka24=>
∃x25:Int,∃w26:bg,hJ P (aw #[tS,tS] tI #[.slice a24 na24 ka24,.slice v vn vk]) w23 (.int .i64 x25) w26/\
R (.returned (.slice a15 na15 ka15)) w26) (
slN a15 na15 ka15 (az (sn:Int)) ba sz λa27 na27 ka27=>
∃x28:Int,∃w29:bg,hJ P (aw #[tS,tS] tI #[.slice a27 na27 ka27,.slice v vn vk]) w18 (.int .i64 x28) w29/\
slN a15 na15 ka15 (az i) ba sz λa30 na30 ka30=>
Calls P fR #[.slice a30 na30 ka30,.int .i64 (vn:Int)] w29 λe32 w31=>e32= .returned (.tuple #[])/\
R (.returned (.slice a15 na15 ka15)) w31))))
def yCe {α:Type} {l m:Nat} {xs r ys:List α} (hl:l<=xs.length) (hy:ys.length=m) (hr:m<=r.length):
 ((xs++r).take (l+m)++xs.drop l++(xs++r).drop (l+m+(xs.drop l).length)).take l++ys++((xs++r).take (l+m)++xs.drop l++(xs++r).drop (l+m+(xs.drop l).length)).drop (l+ys.length)=(xs.take l++ys++xs.drop l)++r.drop m:=by
 have e1:(xs++r).drop (l+m+(xs.drop l).length)=r.drop m:=by
  rw[y6c,show l+m+(xs.length-l)=xs.length+m by omega,xAh];simp
 have e2:((xs++r).take (l+m)++xs.drop l++r.drop m).take l=xs.take l:=by
  rw[y5l,y6h (by rw[y5w,y5d];omega),List.take_take,y9d (by omega),y6h hl]
 have e3:((xs++r).take (l+m)++xs.drop l++r.drop m).drop (l+ys.length)=xs.drop l++r.drop m:=by
  have:((xs++r).take (l+m)).length=l+m:=by rw[y5w,y5d];omega
  rw[y5l,hy,xAh,this,xAl,y8t,y8m (by omega),y7u]
 rw[e1,e2,e3];simp
def zUg (A Z Y:List bo):spl (A++Z) A.length Y=A++Y++Z.drop Y.length:=by
 simp only[spl];rw[xBk,xAh];simp
def zHi {b o n c i:Nat} (h:c≠i):(if c=i then(az ⟨b,o,ba⟩:Option bv)else(az ⟨b,o,ba⟩:Option bv).map (·.add n))=az ⟨b,o+n,ba⟩:=by
 rw[y5e h,y7i,vT]
def zVe (P:bu) (fO:Nat):Prop:=∀(w:bg) (va sb so la ca lb cb:Nat) (c c':Array bo) (T T':TypeId),va≠sb->w.heap[va]?=az (.cells c T (0,0))->w.heap[sb]?=az (.cells c' T' (0,0))->c'.size≠0->
 Cv.Ext P fO #[.slice (az ⟨va,0,ba⟩) la ca,.slice (az ⟨sb,so,ba⟩) lb cb] w (.bool aq) w
def yMh {P : Program} {fO tS tB e sz by_ : Nat} {z : Array Value} {fn : Func} (hf : P.funcs[fO]? = some fn) (hname : (fn.name == "runtime.NumGoroutine") = false) (hb : fn.body.isNone = true) (hn : Extern.findNext fn = none) (he : Extern.find fn = some (Extern.SlicesOverlaps.overlaps #[tS, tS] #[tB]))
 (hi:vX P tS=az (e,sz,by_,z)):zVe P fO:=by
 obtain⟨i,zv,q1,q2,rfl,rfl,q5,rfl⟩:=kG hi;intro w va sb so la ca lb cb c c' T T' hne h1 h2 h3;unfold Cv.Ext;rw[run_callFunc_extern hf hname hb hn he,Lib.run_overlaps_apart w tS tB e q1 i.size (λw=>Cv.run_sizeOf q2 w) ⟨va,0,ba⟩ ⟨sb,so,ba⟩ la ca lb cb hne T T' c.size c'.size (by simp[World.shape?,h1]) (by simp[World.shape?,h2]) h3 (by simp[World.frozen?,h1]) (by simp[World.frozen?,h1])];rfl
def y3g {P:bu} {tS tI e sz by_ fO fR:Nat} {z:Array bo} (hi:vX P tS=az (e,sz,by_,z)) (hz:z.size=sz) (hby:0<by_) (hsz:0<sz) (h2:z3r P tS=ap) (hti:P.underlying tI=az (.int .i64)) (hov:zVe P fO)
 {k:Ko} {w:bg} {L:List HP} {s v:Option bv} {sn sk vn vk i:Nat} {xs ys:List bo} (H:Hp k w (slO e sz s sn sk xs::slO e sz v vn vk ys::L)) (h1:∀u∈xs,u.oneC=ap) (hy:∀u∈ys,u.oneC=ap) (hin:i<=sn) (hv:0<vn)
 (hb:(sn+vn)*by_<=140737488355328):
 yXy P tS tI sz fO fR s sn sk i v vn vk w λen w'=>∃a kk,en= .returned (.slice a (sn+vn) kk)/\Hp k w' (slO e sz a (sn+vn) kk (xs.take (i*sz)++ys++xs.drop (i*sz))::slO e sz v vn vk ys::L):=by
 obtain⟨hxl,hnk⟩:=H.len;obtain⟨hyl,hvk⟩:=H.swap.len;have hnm:sn+vn<=140737488355328:=y8a (Nat.le_mul_of_pos_right _ hby) hb;have w1:ao.wrap ((sn:Int)+(vn:Int))=((sn+vn:Nat):Int):=by rw[Cv.wrap_i64 (by omega) (by omega)];simp
 have w2:ao.wrap ((i:Int)+(vn:Int))=((i+vn:Nat):Int):=by rw[Cv.wrap_i64 (by omega) (by omega)];simp
 have w3:ao.wrap (((sn+vn:Nat):Int)-(i:Int))=((sn+vn-i:Nat):Int):=by rw[Cv.wrap_i64 (by omega) (by omega)];omega
 have hle:i*sz<=xs.length:=by rw[hxl];exact y6s _ hin
 have htl:(xs.take (i*sz)).length=i*sz:=by rw[y5w];omega
 have hdl:(xs.drop (i*sz)).length=(sn-i)*sz:=by rw[y6c,hxl,Nat.sub_mul]
 have hsum:(i+vn)*sz=i*sz+vn*sz:=y8g _ _ _;have hsum2:(sn+vn)*sz=i*sz+vn*sz+(sn-i)*sz:=by rw[<- y8g,<- y8g];congr 1;omega
 have hfin:(xs.take (i*sz)++ys++xs.drop (i*sz)).length=(sn+vn)*sz:=by
  rw[y5d,y5d,htl,hyl,hdl,hsum2]
 unfold yXy;simp only[slN,w1,w2,w3,y5x];refine⟨⟨oM,oM,hnk⟩,Cv.cnd.mk (λc=>absurd c (by simp;omega)) λ_=>Cv.cnd.mk (λc=> ?_) λc=>Cv.cnd.mk (λhc=> ?_) λhc=> ?_⟩
 ·have c:i=sn:=by have:(i:Int)=(sn:Int):=by simpa using c
                  omega
  subst c;obtain⟨a',c',w',r1,r2⟩:=H.append (rt:=tS) hi h2 (x:= .slice v vn vk) (m:=vn) (ys:=ys) (.inl ⟨v,vk,rfl,H.swap.satR⟩) hy hz hby hb;refine⟨a',_,c',w',r1,a',c',rfl,?_⟩;rw[y5q (by omega),y8m (by omega),y6b];exact r2
 ·have c:i<sn:=by have:¬(i:Int)=(sn:Int):=by simpa using c
                  omega
  have hc:sk<sn+vn:=by have:=y6d hc;omega
  obtain⟨inf,zv,q1,q2,q3,q4,q5,q6⟩:=kG hi;subst q3 q4 q6;rcases H.slcases with⟨_,e0,_⟩|⟨b,r,rfl,g1,g2,g3,H0⟩
  ·omega
  rcases H0.swap.slcases with⟨_,e0,_⟩|⟨vb,rv,rfl,g4,g5,g6,H1⟩
  ·omega
  have hold:(ax inf.size i (.slice (az ⟨b,0,ba⟩) i sk)).run P w.drew= .ok (xs.take (i*inf.size)).toArray w.drew:=by
   have hbk:=(H1.drew).swap.get;have:=u9 (P:=P) (o:=0) (n:=i*inf.size) hbk (by rw[y5d];omega);unfold ax;rw[this,y8t,y6h hle]
  have hfit2:=zMj (need:=sn+vn) (cap:=sk) oM;have hfit3:=y6s inf.bytes hfit2;have e2:2*(sn+vn)*inf.bytes=2*((sn+vn)*inf.bytes):=by rw[Nat.mul_assoc]
  have hkb:(sn+vn-i)*inf.bytes<=(sn+vn)*inf.bytes:=y6s _ oM;have hgr:=Lib.run_append_grow_zeros (P:=P) w tS tI tS e inf zv .i64 .i64 q1 hti q2 q5 (az ⟨b,0,ba⟩) i sk (xs.take (i*inf.size)) hold (sn+vn-i) oM hsz oM oM oM (by rw[show i+(sn+vn-i)=sn+vn by omega];omega);rw[show i+(sn+vn-i)=sn+vn by omega]at hgr;have hG:sn+vn<=grownCap w (sn+vn) sk e:=grownCap_ge w (sn+vn) sk e;generalize grownCap w (sn+vn) sk e=G at hgr hG;have harr:(xs.take (i*inf.size)).toArray++av zv.cells (sn+vn-i)++av zv.cells (G-(sn+vn))=(xs.take (i*inf.size)++((av zv.cells (sn+vn-i)).toList++(av zv.cells (G-(sn+vn))).toList)).toArray:=by
   apply Array.ext';simp
  rw[harr]at hgr;have hZl:((av zv.cells (sn+vn-i)).toList++(av zv.cells (G-(sn+vn))).toList).length=(sn+vn-i)*inf.size+(G-(sn+vn))*inf.size:=by
   rw[y5d,y9c,y9c,bz,bz,hz]
  generalize (av zv.cells (sn+vn-i)).toList++(av zv.cells (G-(sn+vn))).toList=Z at hgr hZl;have hZ2:(sn+vn-i)*inf.size=vn*inf.size+(sn-i)*inf.size:=by rw[<- y8g];congr 1;omega
  have H2:=(H1.drew).new (.cells (xs.take (i*inf.size)++Z).toArray e);have hB:w.drew.heap.size=w.heap.size:=rfl;rw[hB]at H2;have hc1:=l7 (P:=P) (sT:=tS) (ty:=tI) hi (g:=w.heap.size) (o:=0+i*inf.size) (dLen:=sn+vn-i) (dCap:=G-i) (b:=vb) (so:=0) (sLen:=vn) (sCap:=vk) (n:=vn) H2.get H2.swap.get (y9d oM) (by rw[y5d];omega) (by rw[y5d,htl,hZl];omega) (by
   rw[y8t,y6h (by omega),y5q (by omega)];exact hy)
  rw[y8t,y6h (by omega),y5q (show ys.length<=vn*inf.size by omega),y6e]at hc1;have es1:spl (xs.take (i*inf.size)++Z) (i*inf.size) ys=xs.take (i*inf.size)++ys++Z.drop ys.length:=by
   have:=zUg (xs.take (i*inf.size)) Z ys;rwa [htl]at this
  rw[es1]at hc1;have H3:=(H2.upd (.cells (xs.take (i*inf.size)++ys++Z.drop ys.length).toArray e)).drew;have hg4:(xs++r).drop (i*inf.size)=xs.drop (i*inf.size)++r:=y7x hle;have hc2:=l7 (P:=P) (sT:=tS) (ty:=tI) hi (g:=w.heap.size) (o:=0+(i+vn)*inf.size) (dLen:=sn+vn-(i+vn)) (dCap:=G-(i+vn)) (b:=b) (so:=0+i*inf.size) (sLen:=sn-i) (sCap:=sk-i) (n:=sn-i) H3.get H3.swap.drop.swap.get (y9d oM) (by rw[y5d,hxl,y6e,<- y8g];exact y8a (y6s _ oM) (Nat.le_add_right _ _)) (by
   rw[y5d,y5d,htl,hyl,y6c,hZl];omega) (by
   rw[y6e,hg4,y6h (by omega),y5q (by omega)];exactλu hu=>h1 u (y8z hu))
  rw[y6e,y6e,hg4,y6h (by omega),y5q (show(xs.drop (i*inf.size)).length<=(sn-i)*inf.size by omega)]at hc2;have es2:spl (xs.take (i*inf.size)++ys++Z.drop ys.length) ((i+vn)*inf.size) (xs.drop (i*inf.size))=xs.take (i*inf.size)++ys++xs.drop (i*inf.size)++(Z.drop ys.length).drop (xs.drop (i*inf.size)).length:=by
   have:=zUg (xs.take (i*inf.size)++ys) (Z.drop ys.length) (xs.drop (i*inf.size));rwa [show(xs.take (i*inf.size)++ys).length=(i+vn)*inf.size by rw[y5d,htl,hyl,hsum]]at this
  rw[es2]at hc2;refine⟨⟨oM,oM⟩,_,_,_,_,hgr,?_⟩;rw[zHi (show G≠i by omega),y6e];refine⟨⟨oM,oM,hG⟩,_,_,hc1,?_⟩;rintro _ rfl;rw[zHi (show G≠i+vn by omega),zHi (show sk≠i by omega),y6e,y6e];refine⟨⟨oM,oM,hG⟩,⟨oM,oM,hnk⟩,_,_,hc2,_,_,rfl,?_⟩;have H4:=H3.upd (.cells (xs.take (i*inf.size)++ys++xs.drop (i*inf.size)++(Z.drop ys.length).drop (xs.drop (i*inf.size)).length).toArray e);have H5:=H4.slmk (n:=sn+vn) (c:=G) (sz:=inf.size) hfin (by
   rw[y5d,hfin,y6c,y6c,hZl,hyl,hdl];have:G*inf.size=(sn+vn)*inf.size+(G-(sn+vn))*inf.size:=by rw[<- y8g];congr 1;omega
   omega) hG
  have H6:=H5.swap.slmk (n:=vn) (c:=vk) (sz:=inf.size) g4 g5 g6;exact(H6.swap.perm (List.Perm.trans ((List.Perm.swap _ _ _).cons _) (List.Perm.swap _ _ _))).drop
 ·have c:i<sn:=by have:¬(i:Int)=(sn:Int):=by simpa using c
                  omega
  have hc:sn+vn<=sk:=by have:=y9t hc;omega
  rcases H.slcases with⟨_,e0,_⟩|⟨b,r,rfl,g1,g2,g3,H0⟩
  ·omega
  rcases H0.swap.slcases with⟨_,e0,_⟩|⟨vb,rv,rfl,g4,g5,g6,H1⟩
  ·omega
  have hrl:vn*sz<=r.length:=by
   have e1:(sn+vn)*sz<=sk*sz:=y6s _ hc;rw[y5d,g1]at g2;rw[y8g]at e1;omega
  have H2:=H1.swap;have hne:vb≠b:=Hp.apart H1;have hg4:(xs++r).drop (i*sz)=xs.drop (i*sz)++r:=y7x hle;have hex:=hov w vb b (0+(i+vn)*sz) vn vk (sn+vn-(i+vn)) (sk-(i+vn)) (ys++rv).toArray (xs++r).toArray e e hne H1.get H2.get (by
   rw[y9k,y5d,g1];have:=Nat.mul_pos (show 0<sn by omega) hsz;omega)
  have H3:=H2.drew;have hc1:=l7 (P:=P) (sT:=tS) (ty:=tI) hi (g:=b) (o:=0+(i+vn)*sz) (dLen:=sn+vn-(i+vn)) (dCap:=sk-(i+vn)) (b:=b) (so:=0+i*sz) (sLen:=sn+vn-i) (sCap:=sk-i) (n:=sn-i) H3.get H3.get (by rw[show sn+vn-(i+vn)=sn-i by omega];exact Nat.min_eq_right oM) (by
   rw[y5d,g1,y6e,<- y8g];exact y8a (y6s _ oM) (Nat.le_add_right _ _)) (by
   rw[y5d,g1,y6e,<- y8g,show i+vn+(sn-i)=sn+vn by omega,y8g];omega) (by
   rw[y6e,hg4,y6h (by omega),y5q (by omega)];exactλu hu=>h1 u (y8z hu))
  rw[y6e,y6e,hg4,y6h (by omega),y5q (show(xs.drop (i*sz)).length<=(sn-i)*sz by omega)]at hc1;have H4:=H3.upd (.cells (spl (xs++r) ((i+vn)*sz) (xs.drop (i*sz))).toArray e);have hcl:(spl (xs++r) ((i+vn)*sz) (xs.drop (i*sz))).length=(xs++r).length:=by
   simp only[spl,y5d,y5w,hdl];rw[y6c,y5d,g1,hsum];have:sn*sz=i*sz+(sn-i)*sz:=by rw[<- y8g];congr 1;omega
   omega
  have hc2:=l7 (P:=P) (sT:=tS) (ty:=tI) hi (g:=b) (o:=0+i*sz) (dLen:=sn+vn-i) (dCap:=sk-i) (b:=vb) (so:=0) (sLen:=vn) (sCap:=vk) (n:=vn) H4.get H4.swap.get (y9d oM) (by rw[y5d];omega) (by
   rw[hcl,y5d,y6e];omega) (by
   rw[y8t,y6h (by omega),y5q (by omega)];exact hy)
  rw[y8t,y6h (by omega),y5q (show ys.length<=vn*sz by omega),y6e]at hc2;have es:spl (spl (xs++r) ((i+vn)*sz) (xs.drop (i*sz))) (i*sz) ys=(xs.take (i*sz)++ys++xs.drop (i*sz))++r.drop (vn*sz):=by
   have:=yCe (l:=i*sz) (m:=vn*sz) (xs:=xs) (r:=r) (ys:=ys) hle hyl hrl;simp only[spl,hsum];exact this
  rw[es]at hc2;refine⟨⟨oM,oM⟩,⟨oM,oM,oM⟩,aq,w,?_,Cv.cnd.mk (λ_=> ?_) (λc=>absurd c Z8)⟩
  ·rw[zHi (show sk≠i+vn by omega)];exact hex
  rintro _ rfl;rw[zHi (show sk≠i+vn by omega),zHi (show sk≠i by omega),y6e,y6e];refine⟨⟨oM,oM,oM⟩,⟨oM,oM,oM⟩,_,_,hc1,⟨oM,oM,oM⟩,_,_,hc2,_,_,rfl,?_⟩;have H5:=H4.upd (.cells (xs.take (i*sz)++ys++xs.drop (i*sz)++r.drop (vn*sz)).toArray e);have H6:=H5.slmk (n:=sn+vn) (c:=sk) (sz:=sz) hfin (by
   rw[y5d,hfin,y6c,<- g2,y5d,g1,y8g];omega) hc
  exact(H6.swap.slmk (n:=vn) (c:=vk) (sz:=sz) g4 g5 g6).swap
structure yCv where
 els:List (List D)
 el:List D
 i:Nat
def yNp (e sz by_:Nat):Con where
 ι:=yCv
 pat:=λi=>[.own 0,.d (.v (.int .i64 i.i)),.own 1]
 pre:=λi=>[.own e sz i.els,.own e sz [i.el]]
 cnd:=λi=>i.i<=i.els.length/\(i.els.length+1)*by_<=140737488355328
 alts:=λi=>[{o:=Unit,res:=λ_=> .own 2,post:=λ_=>[.gone,.gone,.own e sz (i.els.take i.i++i.el::i.els.drop i.i)],rel:=λ_=>True}]
def insX_ok {P:bu} (hm:P.follows .mixedOrders=ap) {tS tI e sz by_ fI fO fR:Nat} {z:Array bo} {fn:Func} {c:Code} (hf:P.funcs[fI]? =az fn) (hb:fn.body=az c) (hbd:uP P fI=ap) (hok:okC fn.ntmps c=ap) (hfx:okF [] c=ap) (hsz3:Nat.ble 3 fn.ntmps=ap)
 (hi:vX P tS=az (e,sz,by_,z)) (hz:z.size=sz) (hby:0<by_) (hsz:0<sz) (h2:z3r P tS=ap) (hti:P.underlying tI=az (.int .i64)) (hov:zVe P fO)
 (heq:∀(s:Option bv) (sn sk:Nat) (i:Int) (v:Option bv) (vn vk:Nat) (w:bg) (R:Ending->bg->Prop),yXy P tS tI sz fO fR s sn sk i v vn vk w R=cwp P [] c (zUh P fn R) (uO [.slice s sn sk,.int .i64 i,.slice v vn vk]) w):
 (yNp e sz by_).ok P fI:=by
 intro i hc k L E w ys R hv;obtain⟨c1,c2⟩:i.i<=i.els.length/\(i.els.length+1)*by_<=140737488355328:=hc;simp only[yNp,VRL,VR,DR]at hv;obtain⟨y0,_,rfl,⟨l0,e0,_⟩,y1,_,rfl,⟨rfl,_⟩,y2,_,rfl,⟨l2,e2,_⟩,rfl⟩:=hv;obtain⟨s,sk,xs,sub0,g1,hxs,hu,H⟩:=R.ownOpen (n:=0) (t:=e) (sz:=sz) (els:=i.els) rfl;rw[e0]at g1;cases g1;have hk2:∃v vk zs,y2= .slice v 1 vk/\DRL E.F i.el zs/\i.el.length=sz/\Hp k w (slO e sz s i.els.length sk xs::slO e sz v 1 vk zs::fz E.F::L):=by
  obtain⟨hk,hs,hh⟩:=H;cases hh with
  |cons ha hsub hd hr=>
   simp only[yNp,u7,wY,y5t,y8w,y6w,y7u]at hr;cases hr with
   |cons hb2 hsub2 hd2 hr2=>
    rcases hb2 with⟨q,_⟩|⟨⟨hv2,sub2⟩,q1,q2⟩
    ·cases q
    ·simp only at q1;rw[e2]at q1;cases q1;simp only[rowHP]at q2;obtain⟨a,kk,zs,rfl,q3,q4,q5⟩:=q2;simp only[y7r,List.flatten_nil,y6b]at q3;exact⟨a,kk,zs,rfl,q3,q4 _ y5k,hk,_,.cons ha hsub hd (.cons q5 hsub2 hd2 hr2)⟩
 obtain⟨v,vk,zs,rfl,hzs,hel,H2⟩:=hk2;have hv:=y3g (fR:=fR) (fO:=fO) hi hz hby hsz h2 hti hov (i:=i.i) H2 hxs.one hzs.one c1 oM c2;have hcall:=zKg (args:=[.slice s i.els.length sk,.int .i64 i.i,.slice v 1 vk]) hm hf hb [] hok hfx hsz3 (heq s i.els.length sk i.i v 1 vk w _) hv;refine mD hbd (hcall.mono ?_);rintro en w' ⟨a,kk,rfl,H3⟩;have H4:Hp k w' (slO e sz a (i.els.take i.i++i.el::i.els.drop i.i).length kk (xs.take (i.i*sz)++zs++xs.drop (i.i*sz))::(([]:List (Nat×AObj)).map (rHP E)++fz E.F::L)):=by
  have:(i.els.take i.i++i.el::i.els.drop i.i).length=i.els.length+1:=by
   rw[y5d,y5j,y5w,y6c];omega
  rw[this];exact H3.swap.drop
 obtain⟨E',r1,r2,r3⟩:=cG (nx:=2) R.nx (by
  rw[xAe,y7r,<- nV i.i hu,<- pV i.i hu,<- y5l];exact((hxs.take _).append hzs).append (hxs.drop _)) (λx hx=>by
   rcases y6j.1 hx with hx|hx
   ·exact hu x (y9y hx)
   ·rcases y5z.1 hx with rfl|hx
    ·exact hel
    ·exact hu x (y8z hx)) H4
 have hl:(i.els.take i.i++i.el::i.els.drop i.i).length=i.els.length+1:=by
  rw[y5d,y5j,y5w,y6c];omega
 rw[hl]at r3;refine⟨_,rfl,_,y6r.2 rfl,(),trivial,E',r1,r3,⟨r2.nx,?_⟩⟩;have q1:=((@uM k w' True _).2 ⟨trivial,r2.hp⟩).imp (B:=rHP E' (1,.gone)) λx hx=> .inl ⟨rfl,hx.2⟩
 have q2:=((@uM k w' True _).2 ⟨trivial,q1⟩).imp (B:=rHP E' (0,.gone)) λx hx=> .inl ⟨rfl,hx.2⟩
 exact q2
def bbetterC:Con:=con1 I3' (λi=>[zA i.side,zA i.x,zA i.y]) (λ_=>[]) (λ_=>True) (λi=>yR (btr i.side i.x i.y)) (λ_=>[])
@[reducible] def y0f (s:Slot):V:= .agg [yR s.used,zA s.n,zA s.id,zA s.qty,yR s.top,zA s.queue,zA s.ahead,zA s.back]
def pushFC:Con:=con1 Slot (λs=>[y0f s]) (λ_=>[]) (λ_=>True) (λs=>yR (!s.used)) (λ_=>[])
def kY (l:List Slot):Int:=zKj (l.findIdx? λs=> !s.used)
def idxSlotC:Con:=con1 (List Slot) (λ_=>[.own 0,.fn 293 [] []]) (λl=>[.own 362 8 (l.map zQ)]) (λl=>l.length<=1000000) (λl=>zA (kY l)) (λl=>[.own 362 8 (l.map zQ)])
def yDh (l:List Slot):List SAnn:=[{ι:=Nat,slots:=λj=>[(8,zA j)],rows:=λ_=>[]}]
def mB:cI:=⟨-1,-1,0,0⟩
def Arena.openQ (a:Arena):Arena:={a with queues:=a.queues++[mB]}
def aopenC:Con:=con1 Arena (λ_=>[.nm 0 0]) (λa=>[jY a]) (λa=>a.queues.length<=1000000) (λa=>zA a.queues.length) (λa=>[jY a.openQ])
structure yAt where
 a:Arena
 n:Int
 t:Bool
def Arena.usedAt (a:Arena) (n:Int):Bool:=decide (0<=n) && (decide (n<a.slots.length) && (a.slots.getD n.toNat slot0).used)
def Arena.topF (a:Arena) (n:Int) (t:Bool):Arena:=if a.usedAt n=ap then{a with slots:=a.slots.modify n.toNat λs=>{s with top:=t}}else a
def atopC:Con:=con1 yAt (λi=>[.nm 0 0,zA i.n,yR i.t]) (λi=>[jY i.a]) (λi=>i.a.slots.length<=1000000) (λi=>zA (if i.a.usedAt i.n=ap then 0 else 26)) (λi=>[jY (i.a.topF i.n i.t)])
structure PuI where
 a:Arena
 n:Int
 id:Int
 qty:Int
 top:Bool
def Arena.put (a:Arena) (n id qty:Int) (top:Bool):Arena:=
 let q:=a.queues.getD n.toNat mB
 let k:=kY a.slots
 let sl:=a.slots.set k.toNat ⟨ap,k,id,qty,top,n,q.last,-1⟩
 ⟨if q.last= -1 then sl else sl.modify q.last.toNat λs=>{s with back:=k},a.queues.set n.toNat ⟨if q.last= -1 then k else q.first,k,ao.wrap (q.total+qty),ao.wrap (q.count+1)⟩,ao.wrap (a.free-1)⟩
def Arena.push (a:Arena) (n id qty:Int) (top:Bool):Arena×Int×Int:=
 if n<0\/a.queues.length<=n then(a,0,26)else if qty<1\/1000000<qty then(a,0,24)else if a.free=0 then(a,0,13)else(a.put n id qty top,kY a.slots,0)
def Arena.fit (a:Arena):Prop:=a.slots.length<=1000000/\(a.free≠0->∃s∈a.slots,s.used=aq)/\∀q∈a.queues,q.last= -1\/(0<=q.last/\q.last<a.slots.length)
def apushC:Con:=con1 PuI (λi=>[.nm 0 0,zA i.n,zA i.id,zA i.qty,yR i.top]) (λi=>[jY i.a]) (λi=>i.a.fit) (λi=> .tup [zA (i.a.push i.n i.id i.qty i.top).2.1,zA (i.a.push i.n i.id i.qty i.top).2.2]) (λi=>[jY (i.a.push i.n i.id i.qty i.top).1])
@[reducible] def zKr (b:Book):List AObj:=[zP b 0,zP b 1,zP b 2,zP b 3,zP b 4,zP b 5]
structure BkP where
 b:Book
 price:Int
def zY (s:Int) (l:List xM) (price:Int):Nat:=(l.takeWhile λr=>btr s r.price price).length
def kU (s:Int) (l:List xM) (price:Int):Bool:=match l[zY s l price]? with
 |some r=>decide (r.price=price)
 |none=>aq
def Book.rungs (b:Book) (s:Int):List xM:=if s=1 then b.buys else b.sells
def yGj (s:Int):Con:=con1 BkP (λi=>[.nm 0 0,zA s,zA i.price]) (λi=>zKr i.b) (λi=>i.b.small) (λi=> .tup [zA (zY s (i.b.rungs s) i.price),yR (kU s (i.b.rungs s) i.price)]) (λi=>zKr i.b)
def find1C:Con:=yGj 1
def find2C:Con:=yGj 2
def yQz:List SAnn:=[{ι:=Nat,slots:=λj=>[(9,zA j)],rows:=λ_=>[]}]
def pget (l:List (Int×Place)) (k:Int):Option Place:=(l.find? λx=>decide (x.1=k)).map (·.2)
def sF (k:Int) (v:Place):List (Int×Place)->List (Int×Place)
 |[]=>[(k,v)]
 |(a,b)::l=>if k=a then(a,v)::l else(a,b)::sF k v l
structure LdI where
 b:Book
 id:Int
def Book.hasF (b:Book) (s:Int):Bool:=if s=1 then b.has1 else b.has2
def Book.topI (b:Book) (s:Int):Int:=if s=1 then b.top1 else b.top2
def Book.untop (b:Book) (s:Int):Arena:=if b.hasF s=ap then(match pget b.at_ (b.topI s)with
 |some o=>if o.side=s then b.a.topF o.slot aq else b.a
 |none=>b.a)else b.a
def Book.leadF (b:Book) (id s:Int):Book:=if s=1 then{b with a:=b.untop s,top1:=id,has1:=ap}else{b with a:=b.untop s,top2:=id,has2:=ap}
def yGe (s:Int):Con:=con1 LdI (λi=>[.nm 0 0,zA i.id,zA s]) (λi=>zKr i.b) (λi=>i.b.small) (λ_=>mR) (λi=>zKr (i.b.leadF i.id s))
def lead1C:Con:=yGe 1
def lead2C:Con:=yGe 2
def Book.newQ (b:Book):Int×List Int×Arena:=if b.spare.length=0 then(b.a.queues.length,b.spare,b.a.openQ)else(b.spare.getD (b.spare.length-1) 0,b.spare.take (b.spare.length-1),b.a)
def Book.ins (b:Book) (s price:Int):List xM:=(b.rungs s).take (zY s (b.rungs s) price)++⟨price,b.newQ.1⟩::(b.rungs s).drop (zY s (b.rungs s) price)
def Book.queueF (b:Book) (s price:Int):Book×Int:=
 if kU s (b.rungs s) price=ap then(b,((b.rungs s).getD (zY s (b.rungs s) price) ⟨0,0⟩).queue)
 else(if s=1 then{b with a:=b.newQ.2.2,buys:=b.ins s price,spare:=b.newQ.2.1}else{b with a:=b.newQ.2.2,sells:=b.ins s price,spare:=b.newQ.2.1},b.newQ.1)
def yLe (b:Book):AObj:= .cells [.nm 1 0,.own 6,.own 3,.mp 4,zA b.top1,zA b.top2,.own 7,yR b.has1,yR b.has2] 299
def yQb (b:Book):AObj:= .cells [.nm 1 0,.own 2,.own 6,.mp 4,zA b.top1,zA b.top2,.own 7,yR b.has1,yR b.has2] 299
@[reducible] def yUu (b:Book):List AObj:=[yLe b,zP b 1,.gone,zP b 3,zP b 4,.gone,zP b 2,zP b 5]
@[reducible] def yVu (b:Book):List AObj:=[yQb b,zP b 1,zP b 2,.gone,zP b 4,.gone,zP b 3,zP b 5]
@[reducible] def Book.fit (b:Book):Prop:=b.a.fit/\b.a.queues.length<=100000/\b.buys.length<=100000/\b.sells.length<=100000/\b.spare.length<=100000
def queue1C:Con:=con1 BkP (λi=>[.nm 0 0,zA 1,zA i.price]) (λi=>zKr i.b) (λi=>i.b.fit) (λi=>zA (i.b.queueF 1 i.price).2) (λi=>yUu (i.b.queueF 1 i.price).1)
def queue2C:Con:=con1 BkP (λi=>[.nm 0 0,zA 2,zA i.price]) (λi=>zKr i.b) (λi=>i.b.fit) (λi=>zA (i.b.queueF 2 i.price).2) (λi=>yVu (i.b.queueF 2 i.price).1)
def insRC:Con:=yNp 304 2 16
def zYp (i:I3'):Prop:=
 cnd (i.side==1) (∃(a:Unit),btr i.side i.x i.y=decide (i.x>i.y)/\True) (∃(a:Unit),btr i.side i.x i.y=decide (i.x<i.y)/\True)
def yDq (s:Slot):Prop:=
 ∃(a:Unit),(!s.used)=!s.used/\True
def zXu (l:List Slot):Prop:=
 ∃(a:Nat),(↑a:Int)=0/\∃(b:Nat->Prop),∃(c:Nat->Nat),b a/\∀(d:Nat),b d->cnd (decide ((↑d:Int)<(↑(aa zQ l).length:Int))) ((0<=(↑d:Int)/\(↑d:Int)<(↑(aa zQ l).length:Int))/\∃(e:Bool),∃(f:Int),∃(g:Int),∃(h:Int),∃(j:Bool),∃(k:Int),∃(m:Int),∃(n:Int),zE (aa zQ l) (↑d:Int).toNat 0 8=az [D.v (.bool e),dI f,dI g,dI h,D.v (.bool j),dI k,dI m,dI n]/\∃(p:Slot),p.used=e/\p.n=f/\p.id=g/\p.qty=h/\p.top=j/\p.queue=k/\p.ahead=m/\p.back=n/\True/\∀(q:Unit),True->cnd (!p.used) (∃(r:Unit),kY l=(↑d:Int)/\dh (aa zQ l)/\True) (∃(r:Nat),(↑r:Int)=ao.wrap ((↑d:Int)+1)/\b r/\c r<c d/\dh (am 362 8 (aa zQ l)))) (∃(e:Unit),kY l=(-1)/\dh (aa zQ l)/\True)
def yJr (a:Arena):Prop:=
 ((aa zO a.queues).length+1)*(32:Nat)<=(140737488355328:Nat)/\∃(b:Unit),(↑a.queues.length:Int)=ao.wrap ((↑(aa zO a.queues++[[dI (-1),dI (-1),dI 0,dI 0]]).length:Int)-1)/\dh a.free/\dh (aa zQ a.slots)/\aa zO (a.queues++[mB])=aa zO a.queues++[[dI (-1),dI (-1),dI 0,dI 0]]/\True
def zAl (a:yAt):Prop:=∃(b:Unit),(if a.a.usedAt a.n=ap then(0:Int)else(26:Int))=26/\(a.a.topF a.n a.t).free=a.a.free/\aa zQ (a.a.topF a.n a.t).slots=aa zQ a.a.slots/\aa zO (a.a.topF a.n a.t).queues=aa zO a.a.queues/\True
def yQr (i:yAt):Prop:=
 cnd (decide (i.n<0)) (zAl i) (cnd (decide (i.n>=(↑(aa zQ i.a.slots).length:Int))) (zAl i) ((0<=i.n/\i.n<(↑(aa zQ i.a.slots).length:Int))/\∃(a:Bool),zE (aa zQ i.a.slots) i.n.toNat 0 1=az [D.v (.bool a)]/\cnd (!a) (zAl i) ((0<=i.n/\i.n<(↑(aa zQ i.a.slots).length:Int))/\i.n.toNat<(aa zQ i.a.slots).length/\∃(b:Unit),(if i.a.usedAt i.n=ap then(0:Int)else(26:Int))=0/\(i.a.topF i.n i.t).free=i.a.free/\aa zQ (i.a.topF i.n i.t).slots=zV (aa zQ i.a.slots) i.n.toNat 4 [D.v (.bool i.t)]/\aa zO (i.a.topF i.n i.t).queues=aa zO i.a.queues/\True)))
def yH (a:PuI):=(a.a.push a.n a.id a.qty a.top)
def tH (a:PuI):Prop:=(yH a).fst.free=a.a.free/\aa zQ (yH a).fst.slots=aa zQ a.a.slots/\aa zO (yH a).fst.queues=aa zO a.a.queues/\True
def zCj (a:PuI):Prop:=∃(b:Unit),(yH a).snd.fst=0/\(yH a).snd.snd=26/\tH a
def zDw (a:PuI):Prop:=∃(b:Unit),(yH a).snd.fst=0/\(yH a).snd.snd=24/\tH a
def sU (a:PuI) (b:List Slot):=(zV (zV (aa zO a.a.queues) a.n.toNat 0 [dI (kY b)]) a.n.toNat 1 [dI (kY b)])
def sC (a:PuI) (b:List Slot) (c:Int):=(zV (sU a b) a.n.toNat 2 [dI (ao.wrap (c+a.qty))])
def rA (a:PuI) (b:List Slot):=(zV (aa zO a.a.queues) a.n.toNat 1 [dI (kY b)])
def sG (a:PuI) (b:List Slot) (c:Int):=(zV (rA a b) a.n.toNat 2 [dI (ao.wrap (c+a.qty))])
def yHb (i:PuI):Prop:=
 cnd (decide (i.n>=0)) (cnd (!decide (i.n<(↑(aa zO i.a.queues).length:Int))) (zCj i) (cnd (decide (i.qty<1)) (zDw i) (cnd (decide (i.qty>1000000)) (zDw i) (cnd (i.a.free==0) (∃(a:Unit),(yH i).snd.fst=0/\(yH i).snd.snd=13/\tH i) (∃(a:List Slot),aa zQ a=aa zQ i.a.slots/\a.length<=1000000/\∀(b:Unit),True->(0<=i.n/\i.n<(↑(aa zO i.a.queues).length:Int))/\∃(c:Int),zE (aa zO i.a.queues) i.n.toNat 1 1=az [dI c]/\(0<=kY a/\kY a<(↑(aa zQ a).length:Int))/\(kY a).toNat<(aa zQ a).length/\∃(d:Int),zE (aa zO i.a.queues) i.n.toNat 1 1=az [dI d]/\cnd (d==(-1)) (i.n.toNat<(aa zO i.a.queues).length/\i.n.toNat<(zV (aa zO i.a.queues) i.n.toNat 0 [dI (kY a)]).length/\∃(e:Int),zE (sU i a) i.n.toNat 2 1=az [dI e]/\i.n.toNat<(sU i a).length/\∃(f:Int),zE (sC i a e) i.n.toNat 3 1=az [dI f]/\i.n.toNat<(sC i a e).length/\∃(g:Unit),(yH i).snd.fst=kY a/\(yH i).snd.snd=0/\(yH i).fst.free=ao.wrap (i.a.free-1)/\aa zQ (yH i).fst.slots=zV (aa zQ a) (kY a).toNat 0 [D.v (.bool ap),dI (kY a),dI i.id,dI i.qty,D.v (.bool i.top),dI i.n,dI c,dI (-1)]/\aa zO (yH i).fst.queues=zV (sC i a e) i.n.toNat 3 [dI (ao.wrap (f+1))]/\True) (∃(e:Int),zE (aa zO i.a.queues) i.n.toNat 1 1=az [dI e]/\(0<=e/\e<(↑(zV (aa zQ a) (kY a).toNat 0 [D.v (.bool ap),dI (kY a),dI i.id,dI i.qty,D.v (.bool i.top),dI i.n,dI c,dI (-1)]).length:Int))/\e.toNat<(zV (aa zQ a) (kY a).toNat 0 [D.v (.bool ap),dI (kY a),dI i.id,dI i.qty,D.v (.bool i.top),dI i.n,dI c,dI (-1)]).length/\i.n.toNat<(aa zO i.a.queues).length/\∃(f:Int),zE (rA i a) i.n.toNat 2 1=az [dI f]/\i.n.toNat<(rA i a).length/\∃(g:Int),zE (sG i a f) i.n.toNat 3 1=az [dI g]/\i.n.toNat<(sG i a f).length/\∃(h:Unit),(yH i).snd.fst=kY a/\(yH i).snd.snd=0/\(yH i).fst.free=ao.wrap (i.a.free-1)/\aa zQ (yH i).fst.slots=zV (zV (aa zQ a) (kY a).toNat 0 [D.v (.bool ap),dI (kY a),dI i.id,dI i.qty,D.v (.bool i.top),dI i.n,dI c,dI (-1)]) e.toNat 7 [dI (kY a)]/\aa zO (yH i).fst.queues=zV (sG i a f) i.n.toNat 3 [dI (ao.wrap (g+1))]/\True)))))) (zCj i)
def xX (a:BkP):=(↑(zY 1 (a.b.rungs 1) a.price):Int)
def vU (a:BkP):=(↑(aa zB a.b.buys).length:Int)
def dG (a:BkP):Prop:=a.b.top1=a.b.top1/\dh a.b.top2/\dh a.b.has1/\dh a.b.has2/\aj Arena 3 zG a.b.a=zP a.b 1/\dh (aa zB a.b.buys)/\dh (aa zB a.b.sells)/\dh (atE a.b.at_)/\dh (iE a.b.spare)/\True
def zIs (a:Nat) (b:BkP):Prop:=(0<=(↑a:Int)/\(↑a:Int)<(vU b))/\∃(c:Int),zE (aa zB b.b.buys) (↑a:Int).toNat 0 1=az [dI c]/\∃(d:Unit),(xX b)=(↑a:Int)/\kU 1 (b.b.rungs 1) b.price=(c==b.price)/\dG b
def zDk (a:BkP) (b:Nat):Prop:=∃(c:Unit),(xX a)=(↑b:Int)/\kU 1 (a.b.rungs 1) a.price=aq/\dG a
def rP (a:Nat) (b:Nat->Prop) (c:Nat->Nat) (d:BkP):Prop:=∃(e:Nat),(↑e:Int)=ao.wrap ((↑a:Int)+1)/\b e/\c e<c a/\dh (zP d.b 0)/\dh (zP d.b 1)/\dh (zP d.b 2)/\dh (zP d.b 3)/\dh (zP d.b 4)/\dh (zP d.b 5)
def rF (a:Nat) (b:BkP):=(decide ((↑a:Int)<(vU b)))
def yDl (i:BkP):Prop:=
 ∃(a:Nat),(↑a:Int)=0/\∃(b:Nat->Prop),∃(c:Nat->Nat),b a/\∀(d:Nat),b d->cnd (rF d i) ((0<=(↑d:Int)/\(↑d:Int)<(vU i))/\∃(e:Int),zE (aa zB i.b.buys) (↑d:Int).toNat 0 1=az [dI e]/\∃(f:I3'),f.side=1/\f.x=e/\f.y=i.price/\True/\∀(g:Unit),True->cnd (btr f.side f.x f.y) (rP d b c i) (cnd (rF d i) (zIs d i) (zDk i d))) (cnd (rF d i) (zIs d i) (zDk i d))
def xW (a:BkP):=(↑(zY 2 (a.b.rungs 2) a.price):Int)
def vZ (a:BkP):=(↑(aa zB a.b.sells).length:Int)
def zIu (a:Nat) (b:BkP):Prop:=(0<=(↑a:Int)/\(↑a:Int)<(vZ b))/\∃(c:Int),zE (aa zB b.b.sells) (↑a:Int).toNat 0 1=az [dI c]/\∃(d:Unit),(xW b)=(↑a:Int)/\kU 2 (b.b.rungs 2) b.price=(c==b.price)/\dG b
def zCi (a:BkP) (b:Nat):Prop:=∃(c:Unit),(xW a)=(↑b:Int)/\kU 2 (a.b.rungs 2) a.price=aq/\dG a
def tK (a:Nat) (b:BkP):=(decide ((↑a:Int)<(vZ b)))
def yJi (i:BkP):Prop:=
 ∃(a:Nat),(↑a:Int)=0/\∃(b:Nat->Prop),∃(c:Nat->Nat),b a/\∀(d:Nat),b d->cnd (tK d i) ((0<=(↑d:Int)/\(↑d:Int)<(vZ i))/\∃(e:Int),zE (aa zB i.b.sells) (↑d:Int).toNat 0 1=az [dI e]/\∃(f:I3'),f.side=2/\f.x=e/\f.y=i.price/\True/\∀(g:Unit),True->cnd (btr f.side f.x f.y) (rP d b c i) (cnd (tK d i) (zIu d i) (zCi i d))) (cnd (tK d i) (zIu d i) (zCi i d))
def dB (a:LdI):Prop:=aa zB a.b.buys=aa zB a.b.buys/\dh (aa zB a.b.sells)/\dh (atE a.b.at_)/\dh (iE a.b.spare)/\True
def rL (a:LdI):Prop:=∃(b:Unit),dh a.id/\dh a.b.top2/\ap=ap/\dh a.b.has2/\aj Arena 3 zG (a.b.untop 1)=zP a.b 1/\dB a
def zCh (a:LdI) (b:Int) (c:Int) (d:Int) (e:Bool):Prop:=kK (bc ao a.b.top1) (atE a.b.at_)=az [dI b,dI c,dI d]/\e=ap\/kK (bc ao a.b.top1) (atE a.b.at_)=ba/\[dI b,dI c,dI d]=[dI 0,dI 0,dI 0]/\e=aq
def zDz (a:LdI):Prop:=∀(b:bo×List D),b∈atE a.b.at_->like (bc ao a.b.top1) b.fst=ap
def yHe (i:LdI):Prop:=
 cnd i.b.has1 ((zDz i)/\∃(a:Bool),∃(b:Int),∃(c:Int),∃(d:Int),(zCh i b c d a)/\((zDz i)/\∃(e:Bool),∃(f:Int),∃(g:Int),∃(h:Int),(zCh i f g h e)/\(f=b/\g=c/\h=d/\True)/\e=a/\True)/\dh i.b.top1/\True/\cnd a (cnd (b==1) (∃(e:yAt),e.n=d/\e.t=aq/\aj Arena 3 zG e.a=zP i.b 1/\e.a.slots.length<=1000000/\∀(f:Unit),True->∃(g:Unit),dh i.id/\dh i.b.top2/\ap=ap/\dh i.b.has2/\aj Arena 3 zG (i.b.untop 1)=aj Arena 3 zG (e.a.topF e.n e.t)/\dB i) (rL i)) (rL i)) (rL i)
def tN (a:LdI):Prop:=∃(b:Unit),dh a.b.top1/\dh a.id/\dh a.b.has1/\ap=ap/\aj Arena 3 zG (a.b.untop 2)=zP a.b 1/\dB a
def zCt (a:LdI) (b:Int) (c:Int) (d:Int) (e:Bool):Prop:=kK (bc ao a.b.top2) (atE a.b.at_)=az [dI b,dI c,dI d]/\e=ap\/kK (bc ao a.b.top2) (atE a.b.at_)=ba/\[dI b,dI c,dI d]=[dI 0,dI 0,dI 0]/\e=aq
def zCd (a:LdI):Prop:=∀(b:bo×List D),b∈atE a.b.at_->like (bc ao a.b.top2) b.fst=ap
def yJx (i:LdI):Prop:=
 cnd i.b.has2 ((zCd i)/\∃(a:Bool),∃(b:Int),∃(c:Int),∃(d:Int),(zCt i b c d a)/\((zCd i)/\∃(e:Bool),∃(f:Int),∃(g:Int),∃(h:Int),(zCt i f g h e)/\(f=b/\g=c/\h=d/\True)/\e=a/\True)/\dh i.b.top2/\True/\cnd a (cnd (b==2) (∃(e:yAt),e.n=d/\e.t=aq/\aj Arena 3 zG e.a=zP i.b 1/\e.a.slots.length<=1000000/\∀(f:Unit),True->∃(g:Unit),dh i.b.top1/\dh i.id/\dh i.b.has1/\ap=ap/\aj Arena 3 zG (i.b.untop 2)=aj Arena 3 zG (e.a.topF e.n e.t)/\dB i) (tN i)) (tN i)) (tN i)
def qC (a:BkP):Prop:=(a.b.a.slots.length<=1000000/\a.b.a.queues.length<=1000000)/\a.b.buys.length<=1000000/\a.b.sells.length<=1000000/\a.b.spare.length<=1000000
def gS (a:BkP):Prop:=0<=(xX a)/\(xX a)<(vU a)
def uC (a:BkP):=((↑(iE a.b.spare).length:Int)-1)
def m7 (a:BkP):Prop:=0<=ao.wrap (uC a)/\ao.wrap (uC a)<=(↑(iE a.b.spare).length:Int)
def m4 (a:BkP):Prop:=0<=ao.wrap (uC a)/\ao.wrap (uC a)<(↑(iE a.b.spare).length:Int)
def g9 (a:yCv):Prop:=a.i<=a.els.length/\(a.els.length+1)*(16:Nat)<=(140737488355328:Nat)
def gR (a:BkP):=(ao.wrap (uC a))
def zM (a:BkP):=(a.b.queueF 1 a.price)
def z6h (i:BkP):Prop:=
 ∃(a:BkP),dh ((1:Int))/\a.price=i.price/\a.b.top1=i.b.top1/\a.b.top2=i.b.top2/\a.b.has1=i.b.has1/\a.b.has2=i.b.has2/\aj Arena 3 zG a.b.a=zP i.b 1/\aa zB a.b.buys=aa zB i.b.buys/\aa zB a.b.sells=aa zB i.b.sells/\atE a.b.at_=atE i.b.at_/\iE a.b.spare=iE i.b.spare/\(qC a)/\∀(b:Unit),True->cnd (kU 1 (a.b.rungs 1) a.price) ((gS a)/\∃(c:Int),zE (aa zB a.b.buys) (xX a).toNat 1 1=az [dI c]/\∃(d:Unit),(zM i).snd=c/\(zM i).fst.top1=a.b.top1/\(zM i).fst.top2=a.b.top2/\(zM i).fst.has1=a.b.has1/\(zM i).fst.has2=a.b.has2/\aj Arena 3 zG (zM i).fst.a=aj Arena 3 zG a.b.a/\aa zB (zM i).fst.sells=aa zB a.b.sells/\atE (zM i).fst.at_=atE a.b.at_/\aa zB (zM i).fst.buys=aa zB a.b.buys/\iE (zM i).fst.spare=iE a.b.spare/\True) (cnd (decide ((↑(iE a.b.spare).length:Int)>0)) ((m4 a)/\∃(c:Int),zE (iE a.b.spare) (gR a).toNat 0 1=az [dI c]/\(m7 a)/\True/\∃(d:yCv),(↑d.i:Int)=(xX a)/\d.els=aa zB a.b.buys/\[d.el]=[[dI i.price,dI c]]/\(g9 d)/\∀(e:Unit),True->∃(f:Unit),(zM i).snd=c/\(zM i).fst.top1=a.b.top1/\(zM i).fst.top2=a.b.top2/\(zM i).fst.has1=a.b.has1/\(zM i).fst.has2=a.b.has2/\aj Arena 3 zG (zM i).fst.a=aj Arena 3 zG a.b.a/\aa zB (zM i).fst.sells=aa zB a.b.sells/\atE (zM i).fst.at_=atE a.b.at_/\aa zB (zM i).fst.buys=ab d.i d.els++d.el::ac d.i d.els/\iE (zM i).fst.spare=ab (gR a).toNat (iE a.b.spare)/\True) (∃(c:Arena),aj Arena 3 zG c=aj Arena 3 zG a.b.a/\c.queues.length<=1000000/\∀(d:Unit),True->True/\∃(e:yCv),(↑e.i:Int)=(xX a)/\e.els=aa zB a.b.buys/\[e.el]=[[dI i.price,dI (↑c.queues.length:Int)]]/\(g9 e)/\∀(f:Unit),True->∃(g:Unit),(zM i).snd=(↑c.queues.length:Int)/\(zM i).fst.top1=a.b.top1/\(zM i).fst.top2=a.b.top2/\(zM i).fst.has1=a.b.has1/\(zM i).fst.has2=a.b.has2/\aj Arena 3 zG (zM i).fst.a=aj Arena 3 zG c.openQ/\aa zB (zM i).fst.sells=aa zB a.b.sells/\atE (zM i).fst.at_=atE a.b.at_/\aa zB (zM i).fst.buys=ab e.i e.els++e.el::ac e.i e.els/\iE (zM i).fst.spare=iE a.b.spare/\True))
def gZ (a:BkP):Prop:=0<=(xW a)/\(xW a)<(vZ a)
def zN (a:BkP):=(a.b.queueF 2 a.price)
def z8w (i:BkP):Prop:=
 ∃(a:BkP),dh ((2:Int))/\a.price=i.price/\a.b.top1=i.b.top1/\a.b.top2=i.b.top2/\a.b.has1=i.b.has1/\a.b.has2=i.b.has2/\aj Arena 3 zG a.b.a=zP i.b 1/\aa zB a.b.buys=aa zB i.b.buys/\aa zB a.b.sells=aa zB i.b.sells/\atE a.b.at_=atE i.b.at_/\iE a.b.spare=iE i.b.spare/\(qC a)/\∀(b:Unit),True->cnd (kU 2 (a.b.rungs 2) a.price) ((gZ a)/\∃(c:Int),zE (aa zB a.b.sells) (xW a).toNat 1 1=az [dI c]/\∃(d:Unit),(zN i).snd=c/\(zN i).fst.top1=a.b.top1/\(zN i).fst.top2=a.b.top2/\(zN i).fst.has1=a.b.has1/\(zN i).fst.has2=a.b.has2/\aj Arena 3 zG (zN i).fst.a=aj Arena 3 zG a.b.a/\aa zB (zN i).fst.buys=aa zB a.b.buys/\atE (zN i).fst.at_=atE a.b.at_/\aa zB (zN i).fst.sells=aa zB a.b.sells/\iE (zN i).fst.spare=iE a.b.spare/\True) (cnd (decide ((↑(iE a.b.spare).length:Int)>0)) ((m4 a)/\∃(c:Int),zE (iE a.b.spare) (gR a).toNat 0 1=az [dI c]/\(m7 a)/\True/\∃(d:yCv),(↑d.i:Int)=(xW a)/\d.els=aa zB a.b.sells/\[d.el]=[[dI i.price,dI c]]/\(g9 d)/\∀(e:Unit),True->∃(f:Unit),(zN i).snd=c/\(zN i).fst.top1=a.b.top1/\(zN i).fst.top2=a.b.top2/\(zN i).fst.has1=a.b.has1/\(zN i).fst.has2=a.b.has2/\aj Arena 3 zG (zN i).fst.a=aj Arena 3 zG a.b.a/\aa zB (zN i).fst.buys=aa zB a.b.buys/\atE (zN i).fst.at_=atE a.b.at_/\aa zB (zN i).fst.sells=ab d.i d.els++d.el::ac d.i d.els/\iE (zN i).fst.spare=ab (gR a).toNat (iE a.b.spare)/\True) (∃(c:Arena),aj Arena 3 zG c=aj Arena 3 zG a.b.a/\c.queues.length<=1000000/\∀(d:Unit),True->True/\∃(e:yCv),(↑e.i:Int)=(xW a)/\e.els=aa zB a.b.sells/\[e.el]=[[dI i.price,dI (↑c.queues.length:Int)]]/\(g9 e)/\∀(f:Unit),True->∃(g:Unit),(zN i).snd=(↑c.queues.length:Int)/\(zN i).fst.top1=a.b.top1/\(zN i).fst.top2=a.b.top2/\(zN i).fst.has1=a.b.has1/\(zN i).fst.has2=a.b.has2/\aj Arena 3 zG (zN i).fst.a=aj Arena 3 zG c.openQ/\aa zB (zN i).fst.buys=aa zB a.b.buys/\atE (zN i).fst.at_=atE a.b.at_/\aa zB (zN i).fst.sells=ab e.i e.els++e.el::ac e.i e.els/\iE (zN i).fst.spare=iE a.b.spare/\True))
end Sx
