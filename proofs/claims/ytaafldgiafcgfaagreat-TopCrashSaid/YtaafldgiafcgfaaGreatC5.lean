/- Texts of ours. No condition. -/
import Derived.Test.YtaafldgiafcgfaaGreatC4
set_option linter.all false
open List renaming map->aa,take->ab,filter->ac,drop->ae,range->af
open Sx.AObj renaming fro->ag,cells->aj,own->ak
open Exists renaming intro->am
open Bool renaming true->ao,false->ap
open Go.IntKind renaming i64->aq
open And renaming intro->ar
open Int renaming tmod_eq_emod_of_nonneg->au,add_mul_emod_self_left->av
open Go.Value renaming string->aw,int->ax
open Option renaming some->ay
namespace Sx
set_option maxRecDepth 100000
open Go Cv Go.Proofs
def elA {α:Type} {f:α->List D} {l:List α} {i g n:Nat} {x:α} {r:List D} (h:l[i]? =ay x) (hn:g+n<=(f x).length) (hr:((f x).drop g).take n=r):zE (l.map f) i g n=ay r:=by
 unfold zE;rw[y6q,h];simp only[y7e,Nat.ble_eq_true_of_le hn,cond_true,hr]
def zVv {a:Arena} {n:Int} {q:cJ} (h0:0<=n) (h:a.queues[n.toNat]? =ay q):a.qAt n=q:=by
 have:=(y5f.1 h).1;rw[Arena.qAt,y5d ⟨h0,by omega⟩,y5k,h];rfl
def zLj {a:Arena} {n:Int} (h:¬(0<=n/\n<a.queues.length)):a.qAt n=⟨0,0,0,0⟩:=by rw[Arena.qAt,y5b h]
def zGr:atotalC.ok Tryz.prog 175:=okw (V:=z7p) mixed gok0 1 (λ_=>[]) (λ_=>[]) [0] Tryz.func175 λ(i:ArN) _=>by
 unfold z7p gZ eA jR dI;simp only[y5c];refine zI (λc=>Cv.cnd.mk (λd=> ?_) (λd=> ?_)) (λc=> ?_)
 ·have d:¬i.n<(i.a.queues.length:Int):=by simpa using d
  rw[zLj (by omega)];exact kpp
 ·have d:i.n<(i.a.queues.length:Int):=by simpa using d
  obtain⟨q,hq⟩:=yC (l:=i.a.queues) (i:=i.n.toNat) (by omega);rw[zVv (by omega) hq];refine⟨⟨by omega,by omega⟩,q.total,elA hq (by simp[zO]) rfl,?_⟩;exact kpp
 ·rw[zLj (by omega)];exact kpp
def nX:acountC.ok Tryz.prog 176:=okw (V:=z8n) mixed gok0 1 (λ_=>[]) (λ_=>[]) [0] Tryz.func176 λ(i:ArN) _=>by
 unfold z8n gZ eY jR dI;simp only[y5c];refine zI (λc=>Cv.cnd.mk (λd=> ?_) (λd=> ?_)) (λc=> ?_)
 ·have d:¬i.n<(i.a.queues.length:Int):=by simpa using d
  rw[zLj (by omega)];exact kpp
 ·have d:i.n<(i.a.queues.length:Int):=by simpa using d
  obtain⟨q,hq⟩:=yC (l:=i.a.queues) (i:=i.n.toNat) (by omega);rw[zVv (by omega) hq];refine⟨⟨by omega,by omega⟩,q.count,elA hq (by simp[zO]) rfl,?_⟩;exact kpp
 ·rw[zLj (by omega)];exact kpp
def eL:bisC.ok Tryz.prog 154:=okw (V:=y2e) mixed gok0 0 (λ_=>[]) (λ_=>[]) [] Tryz.func154 λ(n:Int) _=>by
 unfold y2e;refine Cv.cnd.mk (λc=>⟨(),?_,trivial⟩) (λc=>⟨(),?_,trivial⟩)
 all_goals simp at c
 ·simp[c]
 ·by_cases h:n=2<;>simp[c,h]
def z8g:toldC.ok Tryz.prog 155:=okw (V:=yYt) mixed (gokc zGr (gokc nX gok0)) 0 (λ_=>[]) (λ_=>[]) [0] Tryz.func155 λ(i:BkR) h=>by
 refine⟨⟨i.b.a,i.r.queue⟩,?_⟩;(repeat'(first|exact rfl|exact trivial|assumption|apply ar|refineλ(_:Unit) (_:True)=>?_|refine am () ?_|omega|(dsimp only;omega)));refine⟨⟨i.b.a,i.r.queue⟩,?_⟩;exact kpp
def yFx:best1C.ok Tryz.prog 126:=okw (V:=yUi) mixed (gokc eL (gokc z8g gok0)) 0 (λ_=>[]) (λ_=>[]) [0] Tryz.func126 λ(b:Book) h=>by
 have h:b.cntOk:=h;refine⟨1,rfl,trivial,λ_ _=>Cv.cnd.mk (λc=>absurd c (by decide)) λ_=> ?_⟩;simp only[y5c];refine Cv.cnd.mk (λc=> ?_) (λc=> ?_)
 ·have hl:b.buys=[]:=y6d (by have:(b.buys.length:Int)=0:=(by simpa using c);omega);have e:b.best b.buys=(⟨0,0,0⟩,ap):=by rw[hl];rfl
  rw[e];exact kpp
 ·obtain⟨r,l,hl⟩:∃r l,b.buys=r::l:=by
   cases hb:b.buys with
   |nil=>rw[hb]at c;exact absurd c (by decide)
   |cons r l=>exact⟨r,l,rfl⟩
  have e:b.best b.buys=(b.told r,ao):=by rw[hl];rfl
  rw[e];refine⟨⟨by omega,by rw[hl,y5g];omega⟩,r.price,r.queue,elA (x:=r) (by rw[hl];rfl) (by simp[zB]) rfl,⟨b,r⟩,?_⟩;exact kpp
def yFq:best2C.ok Tryz.prog 126:=okw (V:=yXp) mixed (gokc eL (gokc z8g gok0)) 0 (λ_=>[]) (λ_=>[]) [0] Tryz.func126 λ(b:Book) h=>by
 have h:b.cntOk:=h;refine⟨2,rfl,trivial,λ_ _=>Cv.cnd.mk (λc=>absurd c (by decide)) λ_=> ?_⟩;simp only[y5c];refine Cv.cnd.mk (λc=> ?_) (λc=> ?_)
 ·have hl:b.sells=[]:=y6d (by have:(b.sells.length:Int)=0:=(by simpa using c);omega);have e:b.best b.sells=(⟨0,0,0⟩,ap):=by rw[hl];rfl
  rw[e];exact kpp
 ·obtain⟨r,l,hl⟩:∃r l,b.sells=r::l:=by
   cases hb:b.sells with
   |nil=>rw[hb]at c;exact absurd c (by decide)
   |cons r l=>exact⟨r,l,rfl⟩
  have e:b.best b.sells=(b.told r,ao):=by rw[hl];rfl
  rw[e];refine⟨⟨by omega,by rw[hl,y5g];omega⟩,r.price,r.queue,elA (x:=r) (by rw[hl];rfl) (by simp[zB]) rfl,⟨b,r⟩,?_⟩;exact kpp
def zKq:bestC.ok Tryz.prog 126:=λi=>match i with
 |⟨ap,b⟩=>yFx b
 |⟨ao,b⟩=>yFq b
def zOv {α:Type} (f:α->α) (x:α) (b:List α):∀a:List α,(a++x::b).modify a.length f=a++f x::b
 |[]=>rfl
 |y::a=>by
  show y::(a++x::b).modify a.length f=_;rw[zOv f x b a];rfl
def zSc {els:List (List D)} {a b:List (List D)} {x y ds:List D} {j f:Nat} (h:els=a++x::b) (hl:a.length=j) (hy:x.take f++(ds++x.drop (f+ds.length))=y):zX els j f ds=a++y::b:=by
 rw[zX,h,<- hl,zOv,hy]
def qV {s:MSt} {j:Nat} {x y:Top} {f:Nat} {ds:List D} (hj:j<s.books.length) (hy:(z6 x).take f++(ds++(z6 x).drop (f+ds.length))=z6 y):
 zX (aa z6 (xS s j x)) j f ds=aa z6 (xS s j y):=by
 rw[zSc (a:=(s.tops.take j).map z6) (b:=(List.replicate (s.books.length-j-1) top0).map z6) (by rw[xS,y5l,y5p]) (by
  rw[y5c,y5t,MSt.tops,y5c];omega) hy,xS,y5l,y5p]
def zOe {s:MSt} {j:Nat} {x:Top} (hj:j<s.books.length):(xS s j x).length=s.books.length:=by
 rw[xS,y5a,y5g,y5t,MSt.tops,y5c,y8g];omega
def zJu {s:MSt} {j:Nat} (hj:j<s.books.length):xS s j top0=x7 s j:=by
 rw[xS,x7];obtain⟨m,hm⟩:∃m,s.books.length-j=m+1:=⟨s.books.length-j-1,by omega⟩
 rw[hm,y9m];rfl
def zKb {s:MSt} {j:Nat} {b:Book} (hb:s.books[j]? =ay b):xS s j b.top=x7 s (j+1):=by
 have hj:=(y5f.1 hb).1;rw[xS,x7,y6m,show s.tops[j]? =ay b.top by rw[MSt.tops,y6q,hb];rfl];simp only[y8f,y5i,y6t,y7v];rw[show s.books.length-j-1=s.books.length-(j+1)by omega]
def fS {α:Type} {l:List α} {j:Nat} {x:α} (h:l[j]? =ay x):l.set j x=l:=by
 obtain⟨hj,rfl⟩:=y5f.1 h;exact List.set_getElem_self hj
def yYh (s:MSt) (h:topsC.cnd s):yQv s:=by
 obtain⟨h1,h2⟩:s.cntOk:=h;unfold yQv zPb zDt fF v8 qP vA fE bP bQ zIv zAw zAo cB b7 zAp dX dN zY bR uJ dI;have p48:(2:Int) ^ (48:Nat)=281474976710656:=by decide
 refine⟨⟨by omega,by omega,by omega,by rw[p48];omega⟩,0,rfl,?_,λj=>j<=s.books.length,λj=>s.books.length-j,by omega,λj hj=>zI (λhlt=> ?_) (λhlt=> ?_)⟩
 ·rw[x7,y5l,List.map_replicate];rfl
 ·have hj':j<s.books.length:=by omega
  obtain⟨b,hb⟩:=yC hj';have hc:=h2 b (y5m hb);simp only[y5u];have ha:∀x,(aa z6 (xS s j x)).length=s.books.length:=λx=>by rw[y5c,zOe hj']
  have w1:aq.wrap (0+1)=1:=by decide
  have w2:(0+1) % ((2:Int) ^ aq.bits).natAbs=1:=by decide
  refine⟨⟨by omega,by omega⟩,by omega,(j,top0),by rw[zJu hj'],λx=>x=(j,top0.buy (b.best b.buys)),⟨⟨by decide,by decide⟩,1,rfl,b,hb,⟨ap,b⟩,rfl,rfl,hc,λ_ _=>⟨b,rfl,kpp,by omega,?_⟩⟩,?_⟩
  ·refine Cv.cnd.mk (λc=> ?_) (λc=> ?_)
   ·have c:(b.best b.buys).2=ao:=c;have e1:=qV (s:=s) hj' (x:=top0) (y:={top0 with has1:=ao}) (f:=0+0+0*1) (ds:=[D.v (.bool ao)]) rfl;have e2:=qV (s:=s) hj' (x:={top0 with has1:=ao}) (y:={top0 with has1:=ao,p1:=(b.best b.buys).1.price}) (f:=0+2+0*1) (ds:=[D.v (.int .i64 (b.best b.buys).1.price)]) rfl;have e3:=qV (s:=s) hj' (x:={top0 with has1:=ao,p1:=(b.best b.buys).1.price}) (y:={top0 with has1:=ao,p1:=(b.best b.buys).1.price,q1:=(b.best b.buys).1.qty}) (f:=0+4+0*1) (ds:=[D.v (.int .i64 (b.best b.buys).1.qty)]) rfl;dsimp only;simp only[show b.side ap=b.buys from rfl,e1,e2,e3,ha]
    (repeat'(first|exact rfl|exact trivial|assumption|apply ar|refineλ(_:Unit) (_:True)=>?_|refine am () ?_|omega|(dsimp only;omega)))
    refine⟨(j,{top0 with has1:=ao,p1:=(b.best b.buys).1.price,q1:=(b.best b.buys).1.qty}),rfl,?_,?_⟩
    ·rw[Top.buy,y5d c]
    ·(repeat'(first|exact rfl|exact trivial|assumption|apply ar|refineλ(_:Unit) (_:True)=>?_|refine am () ?_|omega|(dsimp only;omega)))
     rw[fS hb]
   ·have c:(b.best b.buys).2=ap:=c;refine⟨(j,top0),rfl,?_,?_⟩
    ·rw[Top.buy,y5b (by rw[c];simp)]
    ·(repeat'(first|exact rfl|exact trivial|assumption|apply ar|refineλ(_:Unit) (_:True)=>?_|refine am () ?_|omega|(dsimp only;omega)))
     rw[fS hb]
  ·rintro _ rfl;rw[w1];generalize hx:top0.buy (b.best b.buys)=x;have hx2:b.top=x.sell (b.best b.sells):=by rw[Book.top,hx]
   refine⟨(j,x),rfl,λy=>y=(j,b.top),⟨⟨by decide,by decide⟩,2,rfl,b,hb,⟨ao,b⟩,rfl,rfl,hc,λ_ _=>⟨b,rfl,kpp,by omega,?_⟩⟩,?_⟩
   ·refine Cv.cnd.mk (λc=> ?_) (λc=> ?_)
    ·have c:(b.best b.sells).2=ao:=c;have e1:=qV (s:=s) hj' (x:=x) (y:={x with has2:=ao}) (f:=0+0+1*1) (ds:=[D.v (.bool ao)]) rfl;have e2:=qV (s:=s) hj' (x:={x with has2:=ao}) (y:={x with has2:=ao,p2:=(b.best b.sells).1.price}) (f:=0+2+1*1) (ds:=[D.v (.int .i64 (b.best b.sells).1.price)]) rfl;have e3:=qV (s:=s) hj' (x:={x with has2:=ao,p2:=(b.best b.sells).1.price}) (y:={x with has2:=ao,p2:=(b.best b.sells).1.price,q2:=(b.best b.sells).1.qty}) (f:=0+4+1*1) (ds:=[D.v (.int .i64 (b.best b.sells).1.qty)]) rfl;dsimp only;simp only[w2,show b.side ao=b.sells from rfl,e1,e2,e3,ha]
     (repeat'(first|exact rfl|exact trivial|assumption|apply ar|refineλ(_:Unit) (_:True)=>?_|refine am () ?_|omega|(dsimp only;omega)))
     refine⟨(j,{x with has2:=ao,p2:=(b.best b.sells).1.price,q2:=(b.best b.sells).1.qty}),rfl,?_,?_⟩
     ·rw[hx2,Top.sell,y5d c]
     ·(repeat'(first|exact rfl|exact trivial|assumption|apply ar|refineλ(_:Unit) (_:True)=>?_|refine am () ?_|omega|(dsimp only;omega)))
      rw[fS hb]
    ·have c:(b.best b.sells).2=ap:=c;refine⟨(j,x),rfl,?_,?_⟩
     ·rw[hx2,Top.sell,y5b (by rw[c];simp)]
     ·(repeat'(first|exact rfl|exact trivial|assumption|apply ar|refineλ(_:Unit) (_:True)=>?_|refine am () ?_|omega|(dsimp only;omega)))
      rw[fS hb]
   ·rintro _ rfl;refine⟨j+1,by rw[w64 (by omega)];rfl,?_⟩;refine⟨by dsimp only;rw[zKb hb],?_⟩;exact kpp
 ·have hj:j<=s.books.length:=hj;obtain rfl:j=s.books.length:=by omega
  have e:x7 s s.books.length=s.tops:=by
   rw[x7,xAp,List.replicate_zero,y6a,y5n (by rw[MSt.tops,y5c];omega)]
  rw[e];exact kpp
def yOh:topsC.ok Tryz.prog 76:=okw mixed (gokc zKq gok0) 0 (λs=>ySc s) (λs=>yRa s) [0] Tryz.func76 yYh
def zLz:copySC.ok Tryz.prog 82:=okw (V:=ySm) mixed (gokc yPd (gokc yIs gok0)) 0 (λ_=>[]) (λs=>yWs s) [0] Tryz.func82 λ(s:MSt) h=>by
 obtain⟨h1,h2⟩:s.small:=h;refine⟨yO s.wh,?_⟩;(repeat'(first|exact rfl|exact trivial|assumption|apply ar|refineλ(_:Unit) (_:True)=>?_|refine am () ?_|omega|(dsimp only;omega)));refine⟨0,?_⟩;(repeat'(first|exact rfl|exact trivial|assumption|apply ar|refineλ(_:Unit) (_:True)=>?_|refine am () ?_|omega|(dsimp only;omega)));refine⟨λj=>j<=s.books.length,λj=>s.books.length-j,by omega,λj hj=>zI (λhlt=> ?_) (λhlt=> ?_)⟩
 ·obtain⟨b,hb⟩:=yC (l:=s.books) (i:=j) (by omega);have hs:=h2 b (y5m hb);simp only[y5u];refine⟨⟨by omega,by omega⟩,by omega,b,hb,b,rfl,hs,λ_ _=>⟨b,rfl,kpp,by omega,trivial,trivial,s.books.take j,rfl,?_,j+1,?_⟩⟩
  ·rw[y5t];omega
  ·rw[w64 (by omega),y6m,hb]
   (repeat'(first|exact rfl|exact trivial|assumption|apply ar|refineλ(_:Unit) (_:True)=>?_|refine am () ?_|omega|(dsimp only;omega)))
   rw[fS hb]
 ·have hj:j<=s.books.length:=hj;obtain rfl:j=s.books.length:=by omega
  rw[y5n (y5x _)];exact kpp
structure Leg where
 inst:Int
 side:Int
 deriving DecidableEq
structure Quote where
 price:Int
 qty:Int
 a:Leg
 b:Leg
 deriving DecidableEq
def zJ (q:Quote):List D:=[.v (.int .i64 q.price),.v (.int .i64 q.qty),.v (.int .i64 q.a.inst),.v (.int .i64 q.a.side),.v (.int .i64 q.b.inst),.v (.int .i64 q.b.side)]
@[reducible] def zTz (q:Quote):V:= .agg [zA q.price,zA q.qty,zA q.a.inst,zA q.a.side,zA q.b.inst,zA q.b.side]
def yXg:Quote:=⟨0,0,⟨0,0⟩,⟨0,0⟩⟩
structure I3' where
 side:Int
 x:Int
 y:Int
def btr (side x y:Int):Bool:=if side=1 then decide (y<x)else decide (x<y)
def iotherC:Con:=con1 Int (λn=>[zA n]) (λ_=>[]) (λn=>n=1\/n=2) (λn=>zA (3-n)) (λ_=>[])
def ibetterC:Con:=con1 I3' (λi=>[zA i.side,zA i.x,zA i.y]) (λ_=>[]) (λ_=>True) (λi=>yP (btr i.side i.x i.y)) (λ_=>[])
def Top.has (t:Top) (s:Int):Bool:=if s=1 then t.has1 else t.has2
def Top.price (t:Top) (s:Int):Int:=if s=1 then t.p1 else t.p2
def Top.qty (t:Top) (s:Int):Int:=if s=1 then t.q1 else t.q2
def mkq (tops:List Top) (a b:Leg) (less:Bool):List Quote:=
 let x:=tops.getD a.inst.toNat top0
 let y:=tops.getD b.inst.toNat top0
 let r:=if less then uY (y.price b.side) (x.price a.side)else uX (x.price a.side) (y.price b.side)
 if x.has a.side && y.has b.side && r.2 then[⟨r.1,min (x.qty a.side) (y.qty b.side),a,b⟩]else[]
structure MkI where
 tops:List Top
 out:List Quote
 a:Int
 b:Int
 less:Bool
@[reducible] def vG (l:List Top):Prop:=l.length<=1000000/\∀t∈l,i64r t.p1/\i64r t.p2
def MkU (x:List Top×List Quote):Nat->AObj
 |0=> .cells [.own 1,.own 2] 258
 |1=> .fro 6 (x.1.map z6)
 |2=> .own 172 6 (x.2.map zJ)
 |_=> .gone
@[reducible] def MkR (tops:List Top) (out:List Quote):List AObj:=[MkU (tops,out) 0,MkU (tops,out) 1,MkU (tops,out) 2]
@[reducible] def MkP (tops:List Top) (out:List Quote):List AObj:=[.cells [.own 1,.own 3] 258,MkU (tops,out) 1,.gone,MkU (tops,out) 2]
def mkC (sa sb:Int):Con:=con1 MkI (λi=>[.nm 0 0,.agg [zA i.a,zA sa],.agg [zA i.b,zA sb],yP i.less]) (λi=>MkR i.tops i.out)
 (λi=>0<=i.a/\i.a<i.tops.length/\0<=i.b/\i.b<i.tops.length/\vG i.tops/\i.out.length<=1000) (λ_=>mG) (λi=>MkP i.tops (i.out++mkq i.tops ⟨i.a,sa⟩ ⟨i.b,sb⟩ i.less))
def mk11:Con:=mkC 1 1
def mk12:Con:=mkC 1 2
def mk21:Con:=mkC 2 1
def mk22:Con:=mkC 2 2
def yMg (n:Int):Prop:=
 ∃(o:Unit),3-n=aq.wrap (3-n)/\True
def yGj (i:I3'):Prop:=
 cnd (i.side==1) (∃(o:Unit),btr i.side i.x i.y=decide (i.x>i.y)/\True) (∃(o:Unit),btr i.side i.x i.y=decide (i.x<i.y)/\True)
def lY (a:MkI):=(a.out++mkq a.tops (Leg.mk a.a 1) (Leg.mk a.b 1) a.less)
def pG (a:MkI):Prop:=∃(b:Unit),ag 6 (aa z6 a.tops)=MkU (a.tops,a.out) 1/\aa zJ (lY a)=aa zJ a.out/\True
def jI (a:I2):Prop:=((-9223372036854775808)<=a.x/\a.x<=9223372036854775807)/\(-9223372036854775808)<=a.y/\a.y<=9223372036854775807
def qS (a:MkI):=(↑(aa z6 a.tops).length:Int)
def qA (a:MkI):Prop:=(0<=a.b/\a.b<(qS a))/\dh a.b.toNat
def jH (a:MkI):Prop:=(0<=a.a/\a.a<(qS a))/\dh a.a.toNat
def jG (a:MkI):=((aa zJ a.out).length+1)
def zLr (a:MkI) (b:Bool) (c:Bool) (d:Int) (e:Int) (f:Int) (g:Int):Prop:=True/\(qA a)/\a.b=a.b/\True/\True/\(jH a)/\a.a=a.a/\True/\True/\(qA a)/\a.b=a.b/\True/\True/\(jH a)/\a.a=a.a/\True/\True/\(qA a)/\a.b=a.b/\True/\cnd (!b) (pG a) (cnd (!c) (pG a) (∃(h:I2),h.x=d/\h.y=e/\(jI h)/\∀(j:Unit),True->cnd a.less (∃(k:I2),k.x=e/\k.y=d/\(jI k)/\∀(l:Unit),True->cnd (uY k.x k.y).snd (True/\(jG a)*(48:Nat)<=(140737488355328:Nat)/\∃(m:Unit),ag 6 (aa z6 a.tops)=MkU (a.tops,a.out) 1/\aa zJ (lY a)=aa zJ a.out++[[dI ((uY k.x k.y).fst),dI (min f g),dI a.a,dI 1,dI a.b,dI 1]]/\True) (pG a)) (cnd (uX h.x h.y).snd (True/\(jG a)*(48:Nat)<=(140737488355328:Nat)/\∃(k:Unit),ag 6 (aa z6 a.tops)=MkU (a.tops,a.out) 1/\aa zJ (lY a)=aa zJ a.out++[[dI ((uX h.x h.y).fst),dI (min f g),dI a.a,dI 1,dI a.b,dI 1]]/\True) (pG a))))
def yQz (i:MkI):Prop:=
 (0<=i.a/\i.a<(qS i))/\∃(a:Bool),∃(b:Bool),∃(c:Int),∃(d:Int),∃(e:Int),∃(f:Int),zE (aa z6 i.tops) i.a.toNat 0 6=ay [D.v (.bool a),D.v (.bool b),dI c,dI d,dI e,dI f]/\(0<=i.b/\i.b<(qS i))/\∃(g:Bool),∃(h:Bool),∃(j:Int),∃(k:Int),∃(l:Int),∃(m:Int),zE (aa z6 i.tops) i.b.toNat 0 6=ay [D.v (.bool g),D.v (.bool h),dI j,dI k,dI l,dI m]/\(zLr i a g c j e l)/\zLr i a g c j e l
def zAg (a:MkI):=(a.out++mkq a.tops (Leg.mk a.a 1) (Leg.mk a.b 2) a.less)
def pE (a:MkI):Prop:=∃(b:Unit),ag 6 (aa z6 a.tops)=MkU (a.tops,a.out) 1/\aa zJ (zAg a)=aa zJ a.out/\True
def zMb (a:MkI) (b:Bool) (c:Bool) (d:Int) (e:Int) (f:Int) (g:Int):Prop:=True/\(qA a)/\a.b=a.b/\True/\True/\(jH a)/\a.a=a.a/\True/\True/\(qA a)/\a.b=a.b/\True/\True/\(jH a)/\a.a=a.a/\True/\True/\(qA a)/\a.b=a.b/\True/\cnd (!b) (pE a) (cnd (!c) (pE a) (∃(h:I2),h.x=d/\h.y=e/\(jI h)/\∀(j:Unit),True->cnd a.less (∃(k:I2),k.x=e/\k.y=d/\(jI k)/\∀(l:Unit),True->cnd (uY k.x k.y).snd (True/\(jG a)*(48:Nat)<=(140737488355328:Nat)/\∃(m:Unit),ag 6 (aa z6 a.tops)=MkU (a.tops,a.out) 1/\aa zJ (zAg a)=aa zJ a.out++[[dI ((uY k.x k.y).fst),dI (min f g),dI a.a,dI 1,dI a.b,dI 2]]/\True) (pE a)) (cnd (uX h.x h.y).snd (True/\(jG a)*(48:Nat)<=(140737488355328:Nat)/\∃(k:Unit),ag 6 (aa z6 a.tops)=MkU (a.tops,a.out) 1/\aa zJ (zAg a)=aa zJ a.out++[[dI ((uX h.x h.y).fst),dI (min f g),dI a.a,dI 1,dI a.b,dI 2]]/\True) (pE a))))
def yQc (i:MkI):Prop:=
 (0<=i.a/\i.a<(qS i))/\∃(a:Bool),∃(b:Bool),∃(c:Int),∃(d:Int),∃(e:Int),∃(f:Int),zE (aa z6 i.tops) i.a.toNat 0 6=ay [D.v (.bool a),D.v (.bool b),dI c,dI d,dI e,dI f]/\(0<=i.b/\i.b<(qS i))/\∃(g:Bool),∃(h:Bool),∃(j:Int),∃(k:Int),∃(l:Int),∃(m:Int),zE (aa z6 i.tops) i.b.toNat 0 6=ay [D.v (.bool g),D.v (.bool h),dI j,dI k,dI l,dI m]/\(zMb i a h c k e m)/\zMb i a h c k e m
def lV (a:MkI):=(a.out++mkq a.tops (Leg.mk a.a 2) (Leg.mk a.b 1) a.less)
def pS (a:MkI):Prop:=∃(b:Unit),ag 6 (aa z6 a.tops)=MkU (a.tops,a.out) 1/\aa zJ (lV a)=aa zJ a.out/\True
def zMs (a:MkI) (b:Bool) (c:Bool) (d:Int) (e:Int) (f:Int) (g:Int):Prop:=True/\(qA a)/\a.b=a.b/\True/\True/\(jH a)/\a.a=a.a/\True/\True/\(qA a)/\a.b=a.b/\True/\True/\(jH a)/\a.a=a.a/\True/\True/\(qA a)/\a.b=a.b/\True/\cnd (!b) (pS a) (cnd (!c) (pS a) (∃(h:I2),h.x=d/\h.y=e/\(jI h)/\∀(j:Unit),True->cnd a.less (∃(k:I2),k.x=e/\k.y=d/\(jI k)/\∀(l:Unit),True->cnd (uY k.x k.y).snd (True/\(jG a)*(48:Nat)<=(140737488355328:Nat)/\∃(m:Unit),ag 6 (aa z6 a.tops)=MkU (a.tops,a.out) 1/\aa zJ (lV a)=aa zJ a.out++[[dI ((uY k.x k.y).fst),dI (min f g),dI a.a,dI 2,dI a.b,dI 1]]/\True) (pS a)) (cnd (uX h.x h.y).snd (True/\(jG a)*(48:Nat)<=(140737488355328:Nat)/\∃(k:Unit),ag 6 (aa z6 a.tops)=MkU (a.tops,a.out) 1/\aa zJ (lV a)=aa zJ a.out++[[dI ((uX h.x h.y).fst),dI (min f g),dI a.a,dI 2,dI a.b,dI 1]]/\True) (pS a))))
def yRf (i:MkI):Prop:=
 (0<=i.a/\i.a<(qS i))/\∃(a:Bool),∃(b:Bool),∃(c:Int),∃(d:Int),∃(e:Int),∃(f:Int),zE (aa z6 i.tops) i.a.toNat 0 6=ay [D.v (.bool a),D.v (.bool b),dI c,dI d,dI e,dI f]/\(0<=i.b/\i.b<(qS i))/\∃(g:Bool),∃(h:Bool),∃(j:Int),∃(k:Int),∃(l:Int),∃(m:Int),zE (aa z6 i.tops) i.b.toNat 0 6=ay [D.v (.bool g),D.v (.bool h),dI j,dI k,dI l,dI m]/\(zMs i b g d j f l)/\zMs i b g d j f l
def lP (a:MkI):=(a.out++mkq a.tops (Leg.mk a.a 2) (Leg.mk a.b 2) a.less)
def pC (a:MkI):Prop:=∃(b:Unit),ag 6 (aa z6 a.tops)=MkU (a.tops,a.out) 1/\aa zJ (lP a)=aa zJ a.out/\True
def zPe (a:MkI) (b:Bool) (c:Bool) (d:Int) (e:Int) (f:Int) (g:Int):Prop:=True/\(qA a)/\a.b=a.b/\True/\True/\(jH a)/\a.a=a.a/\True/\True/\(qA a)/\a.b=a.b/\True/\True/\(jH a)/\a.a=a.a/\True/\True/\(qA a)/\a.b=a.b/\True/\cnd (!b) (pC a) (cnd (!c) (pC a) (∃(h:I2),h.x=d/\h.y=e/\(jI h)/\∀(j:Unit),True->cnd a.less (∃(k:I2),k.x=e/\k.y=d/\(jI k)/\∀(l:Unit),True->cnd (uY k.x k.y).snd (True/\(jG a)*(48:Nat)<=(140737488355328:Nat)/\∃(m:Unit),ag 6 (aa z6 a.tops)=MkU (a.tops,a.out) 1/\aa zJ (lP a)=aa zJ a.out++[[dI ((uY k.x k.y).fst),dI (min f g),dI a.a,dI 2,dI a.b,dI 2]]/\True) (pC a)) (cnd (uX h.x h.y).snd (True/\(jG a)*(48:Nat)<=(140737488355328:Nat)/\∃(k:Unit),ag 6 (aa z6 a.tops)=MkU (a.tops,a.out) 1/\aa zJ (lP a)=aa zJ a.out++[[dI ((uX h.x h.y).fst),dI (min f g),dI a.a,dI 2,dI a.b,dI 2]]/\True) (pC a))))
def yQu (i:MkI):Prop:=
 (0<=i.a/\i.a<(qS i))/\∃(a:Bool),∃(b:Bool),∃(c:Int),∃(d:Int),∃(e:Int),∃(f:Int),zE (aa z6 i.tops) i.a.toNat 0 6=ay [D.v (.bool a),D.v (.bool b),dI c,dI d,dI e,dI f]/\(0<=i.b/\i.b<(qS i))/\∃(g:Bool),∃(h:Bool),∃(j:Int),∃(k:Int),∃(l:Int),∃(m:Int),zE (aa z6 i.tops) i.b.toNat 0 6=ay [D.v (.bool g),D.v (.bool h),dI j,dI k,dI l,dI m]/\(zPe i b h d k f m)/\zPe i b h d k f m
def zRp:iotherC.ok Tryz.prog 156:=okw (V:=yMg) mixed gok0 0 (λ_=>[]) (λ_=>[]) [] Tryz.func156 λ(n:Int) h=>by
 have h:n=1\/n=2:=h;refine⟨(),?_,trivial⟩;rw[w64 (by omega)]
def z1u:ibetterC.ok Tryz.prog 134:=okw (V:=yGj) mixed gok0 0 (λ_=>[]) (λ_=>[]) [] Tryz.func134 λ(i:I3') _=>by
 refine Cv.cnd.mk (λe=>⟨(),?_,trivial⟩) (λe=>⟨(),?_,trivial⟩)
 ·have e:i.side=1:=by simpa using e
  simp[btr,e]
 ·have e:i.side≠1:=by simpa using e
  simp[btr,e]
def yOb (a b:Int):(if b<a then b else a)=min a b:=by split<;>omega
def y1g (i:MkI) (h:mk11.cnd i):yQz i:=by
 obtain⟨a0,a1,b0,b1,⟨ht,hp⟩,ho⟩:0<=i.a/\i.a<i.tops.length/\0<=i.b/\i.b<i.tops.length/\vG i.tops/\i.out.length<=1000:=h;obtain⟨x,hx⟩:=yC (l:=i.tops) (i:=i.a.toNat) (by omega);obtain⟨y,hy⟩:=yC (l:=i.tops) (i:=i.b.toNat) (by omega);obtain⟨⟨px1,px2⟩,px3,px4⟩:=hp x (y5m hx);obtain⟨⟨py1,py2⟩,py3,py4⟩:=hp y (y5m hy);have e0:mkq i.tops ⟨i.a,1⟩ ⟨i.b,1⟩ i.less=if x.has1 && y.has1 && (if i.less then uY y.p1 x.p1 else uX x.p1 y.p1).2 then[⟨(if i.less then uY y.p1 x.p1 else uX x.p1 y.p1).1,min x.q1 y.q1,⟨i.a,1⟩,⟨i.b,1⟩⟩]else[]:=by
  simp only[mkq,y5k,hx,hy,y7n];rfl
 unfold yQz zLr jG jH qA qS jI pG lY dI;simp only[y5c];refine⟨⟨by omega,by omega⟩,x.has1,x.has2,x.p1,x.p2,x.q1,x.q2,elA hx (by simp[z6]) rfl,⟨by omega,by omega⟩,y.has1,y.has2,y.p1,y.p2,y.q1,y.q2,elA hy (by simp[z6]) rfl,?_⟩;rw[e0]
 (repeat'(first|exact rfl|exact trivial|assumption|apply ar|refineλ(_:Unit) (_:True)=>?_|refine am () ?_|omega|(dsimp only;omega)))
 all_goals
  refine Cv.cnd.mk (λc1=> ?_) (λc1=>Cv.cnd.mk (λc2=> ?_) (λc2=> ?_))
  ·have c1:x.has1=ap:=by simpa using c1
   simp only[c1,y8m,y5v,if_false,y6a];exact kpp
  ·have c2:y.has1=ap:=by simpa using c2
   simp only[c2,xAf,y8m,y5v,if_false,y6a];exact kpp
  ·have c1:x.has1=ao:=by simpa using c1
   have c2:y.has1=ao:=by simpa using c2
   simp only[c1,c2,y7z,yOb];refine⟨⟨x.p1,y.p1⟩,?_⟩
   (repeat'(first|exact rfl|exact trivial|assumption|apply ar|refineλ(_:Unit) (_:True)=>?_|refine am () ?_|omega|(dsimp only;omega)))
   refine Cv.cnd.mk (λc3=> ?_) (λc3=> ?_)
   ·have c3:i.less=ao:=c3;simp only[c3,if_true];refine⟨⟨y.p1,x.p1⟩,?_⟩
    (repeat'(first|exact rfl|exact trivial|assumption|apply ar|refineλ(_:Unit) (_:True)=>?_|refine am () ?_|omega|(dsimp only;omega)))
    refine Cv.cnd.mk (λc4=> ?_) (λc4=> ?_)
    ·have c4:(uY y.p1 x.p1).2=ao:=c4;simp only[c4,if_true,y5l];exact kpp
    ·have c4:(uY y.p1 x.p1).2=ap:=c4;simp only[c4,y5v,if_false,y6a];exact kpp
   ·have c3:i.less=ap:=c3;simp only[c3,y5v,if_false];refine Cv.cnd.mk (λc4=> ?_) (λc4=> ?_)
    ·have c4:(uX x.p1 y.p1).2=ao:=c4;simp only[c4,if_true,y5l];exact kpp
    ·have c4:(uX x.p1 y.p1).2=ap:=c4;simp only[c4,y5v,if_false,y6a];exact kpp
def yPq:mk11.ok Tryz.prog 157:=okw mixed (gokc zVr (gokc zUf gok0)) 0 (λ_=>[]) (λ_=>[]) [] Tryz.func157 y1g
def y0a (i:MkI) (h:mk12.cnd i):yQc i:=by
 obtain⟨a0,a1,b0,b1,⟨ht,hp⟩,ho⟩:0<=i.a/\i.a<i.tops.length/\0<=i.b/\i.b<i.tops.length/\vG i.tops/\i.out.length<=1000:=h;obtain⟨x,hx⟩:=yC (l:=i.tops) (i:=i.a.toNat) (by omega);obtain⟨y,hy⟩:=yC (l:=i.tops) (i:=i.b.toNat) (by omega);obtain⟨⟨px1,px2⟩,px3,px4⟩:=hp x (y5m hx);obtain⟨⟨py1,py2⟩,py3,py4⟩:=hp y (y5m hy);have e0:mkq i.tops ⟨i.a,1⟩ ⟨i.b,2⟩ i.less=if x.has1 && y.has2 && (if i.less then uY y.p2 x.p1 else uX x.p1 y.p2).2 then[⟨(if i.less then uY y.p2 x.p1 else uX x.p1 y.p2).1,min x.q1 y.q2,⟨i.a,1⟩,⟨i.b,2⟩⟩]else[]:=by
  simp only[mkq,y5k,hx,hy,y7n];rfl
 unfold yQc zMb pE zAg jG jH qA jI qS dI;simp only[y5c];refine⟨⟨by omega,by omega⟩,x.has1,x.has2,x.p1,x.p2,x.q1,x.q2,elA hx (by simp[z6]) rfl,⟨by omega,by omega⟩,y.has1,y.has2,y.p1,y.p2,y.q1,y.q2,elA hy (by simp[z6]) rfl,?_⟩;rw[e0]
 (repeat'(first|exact rfl|exact trivial|assumption|apply ar|refineλ(_:Unit) (_:True)=>?_|refine am () ?_|omega|(dsimp only;omega)))
 all_goals
  refine Cv.cnd.mk (λc1=> ?_) (λc1=>Cv.cnd.mk (λc2=> ?_) (λc2=> ?_))
  ·have c1:x.has1=ap:=by simpa using c1
   simp only[c1,y8m,y5v,if_false,y6a];exact kpp
  ·have c2:y.has2=ap:=by simpa using c2
   simp only[c2,xAf,y8m,y5v,if_false,y6a];exact kpp
  ·have c1:x.has1=ao:=by simpa using c1
   have c2:y.has2=ao:=by simpa using c2
   simp only[c1,c2,y7z,yOb];refine⟨⟨x.p1,y.p2⟩,?_⟩
   (repeat'(first|exact rfl|exact trivial|assumption|apply ar|refineλ(_:Unit) (_:True)=>?_|refine am () ?_|omega|(dsimp only;omega)))
   refine Cv.cnd.mk (λc3=> ?_) (λc3=> ?_)
   ·have c3:i.less=ao:=c3;simp only[c3,if_true];refine⟨⟨y.p2,x.p1⟩,?_⟩
    (repeat'(first|exact rfl|exact trivial|assumption|apply ar|refineλ(_:Unit) (_:True)=>?_|refine am () ?_|omega|(dsimp only;omega)))
    refine Cv.cnd.mk (λc4=> ?_) (λc4=> ?_)
    ·have c4:(uY y.p2 x.p1).2=ao:=c4;simp only[c4,if_true,y5l];exact kpp
    ·have c4:(uY y.p2 x.p1).2=ap:=c4;simp only[c4,y5v,if_false,y6a];exact kpp
   ·have c3:i.less=ap:=c3;simp only[c3,y5v,if_false];refine Cv.cnd.mk (λc4=> ?_) (λc4=> ?_)
    ·have c4:(uX x.p1 y.p2).2=ao:=c4;simp only[c4,if_true,y5l];exact kpp
    ·have c4:(uX x.p1 y.p2).2=ap:=c4;simp only[c4,y5v,if_false,y6a];exact kpp
def yPa:mk12.ok Tryz.prog 157:=okw mixed (gokc zVr (gokc zUf gok0)) 0 (λ_=>[]) (λ_=>[]) [] Tryz.func157 y0a
def y0n (i:MkI) (h:mk21.cnd i):yRf i:=by
 obtain⟨a0,a1,b0,b1,⟨ht,hp⟩,ho⟩:0<=i.a/\i.a<i.tops.length/\0<=i.b/\i.b<i.tops.length/\vG i.tops/\i.out.length<=1000:=h;obtain⟨x,hx⟩:=yC (l:=i.tops) (i:=i.a.toNat) (by omega);obtain⟨y,hy⟩:=yC (l:=i.tops) (i:=i.b.toNat) (by omega);obtain⟨⟨px1,px2⟩,px3,px4⟩:=hp x (y5m hx);obtain⟨⟨py1,py2⟩,py3,py4⟩:=hp y (y5m hy);have e0:mkq i.tops ⟨i.a,2⟩ ⟨i.b,1⟩ i.less=if x.has2 && y.has1 && (if i.less then uY y.p1 x.p2 else uX x.p2 y.p1).2 then[⟨(if i.less then uY y.p1 x.p2 else uX x.p2 y.p1).1,min x.q2 y.q1,⟨i.a,2⟩,⟨i.b,1⟩⟩]else[]:=by
  simp only[mkq,y5k,hx,hy,y7n];rfl
 unfold yRf zMs pS lV jG jH qA jI qS dI;simp only[y5c];refine⟨⟨by omega,by omega⟩,x.has1,x.has2,x.p1,x.p2,x.q1,x.q2,elA hx (by simp[z6]) rfl,⟨by omega,by omega⟩,y.has1,y.has2,y.p1,y.p2,y.q1,y.q2,elA hy (by simp[z6]) rfl,?_⟩;rw[e0]
 (repeat'(first|exact rfl|exact trivial|assumption|apply ar|refineλ(_:Unit) (_:True)=>?_|refine am () ?_|omega|(dsimp only;omega)))
 all_goals
  refine Cv.cnd.mk (λc1=> ?_) (λc1=>Cv.cnd.mk (λc2=> ?_) (λc2=> ?_))
  ·have c1:x.has2=ap:=by simpa using c1
   simp only[c1,y8m,y5v,if_false,y6a];exact kpp
  ·have c2:y.has1=ap:=by simpa using c2
   simp only[c2,xAf,y8m,y5v,if_false,y6a];exact kpp
  ·have c1:x.has2=ao:=by simpa using c1
   have c2:y.has1=ao:=by simpa using c2
   simp only[c1,c2,y7z,yOb];refine⟨⟨x.p2,y.p1⟩,?_⟩
   (repeat'(first|exact rfl|exact trivial|assumption|apply ar|refineλ(_:Unit) (_:True)=>?_|refine am () ?_|omega|(dsimp only;omega)))
   refine Cv.cnd.mk (λc3=> ?_) (λc3=> ?_)
   ·have c3:i.less=ao:=c3;simp only[c3,if_true];refine⟨⟨y.p1,x.p2⟩,?_⟩
    (repeat'(first|exact rfl|exact trivial|assumption|apply ar|refineλ(_:Unit) (_:True)=>?_|refine am () ?_|omega|(dsimp only;omega)))
    refine Cv.cnd.mk (λc4=> ?_) (λc4=> ?_)
    ·have c4:(uY y.p1 x.p2).2=ao:=c4;simp only[c4,if_true,y5l];exact kpp
    ·have c4:(uY y.p1 x.p2).2=ap:=c4;simp only[c4,y5v,if_false,y6a];exact kpp
   ·have c3:i.less=ap:=c3;simp only[c3,y5v,if_false];refine Cv.cnd.mk (λc4=> ?_) (λc4=> ?_)
    ·have c4:(uX x.p2 y.p1).2=ao:=c4;simp only[c4,if_true,y5l];exact kpp
    ·have c4:(uX x.p2 y.p1).2=ap:=c4;simp only[c4,y5v,if_false,y6a];exact kpp
def yMm:mk21.ok Tryz.prog 157:=okw mixed (gokc zVr (gokc zUf gok0)) 0 (λ_=>[]) (λ_=>[]) [] Tryz.func157 y0n
def y0p (i:MkI) (h:mk22.cnd i):yQu i:=by
 obtain⟨a0,a1,b0,b1,⟨ht,hp⟩,ho⟩:0<=i.a/\i.a<i.tops.length/\0<=i.b/\i.b<i.tops.length/\vG i.tops/\i.out.length<=1000:=h;obtain⟨x,hx⟩:=yC (l:=i.tops) (i:=i.a.toNat) (by omega);obtain⟨y,hy⟩:=yC (l:=i.tops) (i:=i.b.toNat) (by omega);obtain⟨⟨px1,px2⟩,px3,px4⟩:=hp x (y5m hx);obtain⟨⟨py1,py2⟩,py3,py4⟩:=hp y (y5m hy);have e0:mkq i.tops ⟨i.a,2⟩ ⟨i.b,2⟩ i.less=if x.has2 && y.has2 && (if i.less then uY y.p2 x.p2 else uX x.p2 y.p2).2 then[⟨(if i.less then uY y.p2 x.p2 else uX x.p2 y.p2).1,min x.q2 y.q2,⟨i.a,2⟩,⟨i.b,2⟩⟩]else[]:=by
  simp only[mkq,y5k,hx,hy,y7n];rfl
 unfold yQu zPe pC lP jG jH qA jI qS dI;simp only[y5c];refine⟨⟨by omega,by omega⟩,x.has1,x.has2,x.p1,x.p2,x.q1,x.q2,elA hx (by simp[z6]) rfl,⟨by omega,by omega⟩,y.has1,y.has2,y.p1,y.p2,y.q1,y.q2,elA hy (by simp[z6]) rfl,?_⟩;rw[e0]
 (repeat'(first|exact rfl|exact trivial|assumption|apply ar|refineλ(_:Unit) (_:True)=>?_|refine am () ?_|omega|(dsimp only;omega)))
 all_goals
  refine Cv.cnd.mk (λc1=> ?_) (λc1=>Cv.cnd.mk (λc2=> ?_) (λc2=> ?_))
  ·have c1:x.has2=ap:=by simpa using c1
   simp only[c1,y8m,y5v,if_false,y6a];exact kpp
  ·have c2:y.has2=ap:=by simpa using c2
   simp only[c2,xAf,y8m,y5v,if_false,y6a];exact kpp
  ·have c1:x.has2=ao:=by simpa using c1
   have c2:y.has2=ao:=by simpa using c2
   simp only[c1,c2,y7z,yOb];refine⟨⟨x.p2,y.p2⟩,?_⟩
   (repeat'(first|exact rfl|exact trivial|assumption|apply ar|refineλ(_:Unit) (_:True)=>?_|refine am () ?_|omega|(dsimp only;omega)))
   refine Cv.cnd.mk (λc3=> ?_) (λc3=> ?_)
   ·have c3:i.less=ao:=c3;simp only[c3,if_true];refine⟨⟨y.p2,x.p2⟩,?_⟩
    (repeat'(first|exact rfl|exact trivial|assumption|apply ar|refineλ(_:Unit) (_:True)=>?_|refine am () ?_|omega|(dsimp only;omega)))
    refine Cv.cnd.mk (λc4=> ?_) (λc4=> ?_)
    ·have c4:(uY y.p2 x.p2).2=ao:=c4;simp only[c4,if_true,y5l];exact kpp
    ·have c4:(uY y.p2 x.p2).2=ap:=c4;simp only[c4,y5v,if_false,y6a];exact kpp
   ·have c3:i.less=ap:=c3;simp only[c3,y5v,if_false];refine Cv.cnd.mk (λc4=> ?_) (λc4=> ?_)
    ·have c4:(uX x.p2 y.p2).2=ao:=c4;simp only[c4,if_true,y5l];exact kpp
    ·have c4:(uX x.p2 y.p2).2=ap:=c4;simp only[c4,y5v,if_false,y6a];exact kpp
def yMd:mk22.ok Tryz.prog 157:=okw mixed (gokc zVr (gokc zUf gok0)) 0 (λ_=>[]) (λ_=>[]) [] Tryz.func157 y0p
structure MkJ where
 i:MkI
 sa:Bool
 sb:Bool
def mkAnyC:Con:=con1 MkJ (λj=>[.nm 0 0,.agg [zA j.i.a,zA (zC j.sa)],.agg [zA j.i.b,zA (zC j.sb)],yP j.i.less]) (λj=>MkR j.i.tops j.i.out)
 (λj=>0<=j.i.a/\j.i.a<j.i.tops.length/\0<=j.i.b/\j.i.b<j.i.tops.length/\vG j.i.tops/\j.i.out.length<=1000) (λ_=>mG) (λj=>MkP j.i.tops (j.i.out++mkq j.i.tops ⟨j.i.a,zC j.sa⟩ ⟨j.i.b,zC j.sb⟩ j.i.less))
def zXa:mkAnyC.ok Tryz.prog 157:=λj=>match j with
 |⟨i,ap,ap⟩=>yPq i
 |⟨i,ap,ao⟩=>yPa i
 |⟨i,ao,ap⟩=>yMm i
 |⟨i,ao,ao⟩=>yMd i
structure dZ where
 p:Prd
 tops:List Top
 inst:Int
def jD (i:dZ) (s:Int) (k:Nat):List Quote:=(af k).flatMap λ(k:Nat)=>mkq i.tops ⟨(i.p.spread i.inst (i.inst+1+k)).1,s⟩ ⟨i.inst+1+k,s⟩ ap
def j0 (i:dZ) (s:Int) (k:Nat):List Quote:=(af k).flatMap λ(k:Nat)=>mkq i.tops ⟨(i.p.spread k i.inst).1,3-s⟩ ⟨k,s⟩ ao
def yQ (i:dZ) (s:Int):List Quote:=mkq i.tops ⟨(i.p.legs i.inst).2.1,3-s⟩ ⟨(i.p.legs i.inst).1,s⟩ ao
def cW (i:dZ) (s:Int) (q:Quote):Quote:={q with a:=⟨(i.p.legs i.inst).1,s⟩,b:=⟨(i.p.legs i.inst).2.1,3-s⟩}
def kJ (i:dZ) (s:Int):List Quote:=
 if i.p.count=0\/(i.tops.length:Int)≠i.p.count\/i.inst<0\/(i.p.count:Int)<=i.inst then[]
 else if(i.p.legs i.inst).2.2 then(yQ i s).map (cW i s)
 else jD i s (i.p.months.length-(i.inst.toNat+1))++j0 i s i.inst.toNat
def yRr (s:Int):Con:=con1 dZ (λi=>[prdV i.p,roV 6 (i.tops.map z6),zA i.inst,zA s]) (λ_=>[]) (λi=>i.p.small/\vG i.tops) (λ_=> .own 0) (λi=>[.own 172 6 ((kJ i s).map zJ)])
def all1C:Con:=yRr 1
def all2C:Con:=yRr 2
def yZo (i:dZ) (s:Int):List SAnn:=[
 {ι:=Nat,slots:=λk=>[(10,.nm 0 0),(77,zA k)],rows:=λk=>(af 3).map (MkU (i.tops,((yQ i s).take k).map (cW i s)++(yQ i s).drop k))},
 {ι:=Nat,slots:=λk=>[(10,.nm 0 0),(17,zA (i.inst+1+k))],rows:=λk=>MkR i.tops (jD i s k)},
 {ι:=Nat,slots:=λk=>[(10,.nm 0 0),(120,zA k)],rows:=λk=>MkR i.tops (jD i s (i.p.months.length-(i.inst.toNat+1))++j0 i s k)}]
structure tW where
 i:dZ
 s:Bool
def allC:Con:=con1 tW (λj=>[prdV j.i.p,roV 6 (j.i.tops.map z6),zA j.i.inst,zA (zC j.s)]) (λ_=>[]) (λj=>j.i.p.small/\vG j.i.tops) (λ_=> .own 0) (λj=>[.own 172 6 ((kJ j.i (zC j.s)).map zJ)])
def xX (i:dZ) (s:Int):List Quote:=(kJ i s).filter λq=>decide (i.p.price i.inst q.price=0)
def quotesC:Con:=con1 tW (λj=>[prdV j.i.p,roV 6 (j.i.tops.map z6),zA j.i.inst,zA (zC j.s)]) (λ_=>[]) (λj=>j.i.p.small/\vG j.i.tops) (λ_=> .own 0) (λj=>[.own 172 6 ((xX j.i (zC j.s)).map zJ)])
def yPr (j:tW):List SAnn:=[{ι:=Nat,slots:=λk=>[(9,.own 0),(18,zA k)],rows:=λk=>[.own 172 6 ((((kJ j.i (zC j.s)).take k).filter λq=>decide (j.i.p.price j.i.inst q.price=0)).map zJ)]}]
structure BsI where
 l:List Quote
 s:Int
def zW (l:List Quote) (s:Int):Quote×Bool:=match l with
 |[]=>(yXg,ap)
 |q::r=>(r.foldl (λb q=>if btr s q.price b.price then q else b) q,ao)
def bestQC:Con:=con1 BsI (λi=>[roV 6 (i.l.map zJ),zA i.s]) (λ_=>[]) (λi=>(i.s=1\/i.s=2)/\i.l.length<=1000000) (λi=> .tup [zTz (zW i.l i.s).1,yP (zW i.l i.s).2]) (λ_=>[])
def yVp (i:BsI):List SAnn:=[{ι:=Nat,slots:=λk=>[(6,.nm 0 0),(26,zA k)],rows:=λk=>[.cells (zTz (zW (i.l.take (max k 1)) i.s).1).cl 172]}]
def nU (a:dZ):Prop:=ag 6 (aa z6 a.tops)=ag 6 (aa z6 a.tops)/\dh (aj [V.d (D.v (aw (sb a.p.code))),V.own 0,V.d (dI a.p.tick),V.d (dI a.p.low),V.d (dI a.p.high),V.d (dI a.p.wide),V.d (dI a.p.rule),V.d (dI a.p.top),V.d (dI a.p.least),V.d (dI a.p.part),V.own 1] 25)/\dh (ag 1 (iE a.p.settle))/\dh (ag 1 (iE a.p.months))
def zDv (a:Nat->Prop) (b:Nat) (c:Nat->Nat) (d:Nat) (e:dZ):Prop:=a b/\c b<c d/\dh (ag 6 (aa z6 e.tops))/\nU e
def zEs (a:Nat->Prop) (b:Nat) (c:Nat->Nat) (d:Nat) (e:dZ):Prop:=a b/\c b<c d/\nU e
def fD (a:Top):Prop:=((-9223372036854775808)<=a.p1/\a.p1<=9223372036854775807)/\(-9223372036854775808)<=a.p2/\a.p2<=9223372036854775807
def gU (a:MkJ):Prop:=0<=a.i.a/\a.i.a<(↑a.i.tops.length:Int)/\0<=a.i.b/\a.i.b<(↑a.i.tops.length:Int)/\(a.i.tops.length<=1000000/\∀(b:Top),b∈a.i.tops->fD b)/\a.i.out.length<=1000
def uI (a:MkJ):=(a.i.out++mkq a.i.tops (Leg.mk a.i.a (zC a.sa)) (Leg.mk a.i.b (zC a.sb)) a.i.less)
def l6 (a:Nat) (b:MkJ):=(decide ((↑a:Int)<(↑(aa zJ (uI b)).length:Int)))
def qB (a:tJ):Prop:=a.p.code.length<=1099511627776/\a.p.months.length<=1099511627776/\a.p.settle.length<=1099511627776
def jF (a:cM):Prop:=a.p.code.length<=1099511627776/\a.p.months.length<=1099511627776/\a.p.settle.length<=1099511627776
def nE (a:dZ) (b:Nat):=(aa (cW a 1) (ab b (yQ a 1))++ae b (yQ a 1))
def lW (a:dZ) (b:Nat):=(aa zJ (nE a b))
def nV (a:dZ) (b:Nat):=(jD a 1 (a.p.months.length-(a.inst.toNat+1))++j0 a 1 b)
def vE (a:cM):=((a.p.legs a.n).snd.fst)
def yRg (i:dZ):Prop:=
 ∃(a:Prd),sb a.code=sb i.p.code/\iE a.months=iE i.p.months/\a.tick=i.p.tick/\a.low=i.p.low/\a.high=i.p.high/\a.wide=i.p.wide/\a.rule=i.p.rule/\a.top=i.p.top/\a.least=i.p.least/\a.part=i.p.part/\iE a.settle=iE i.p.settle/\(z5 a)/\∀(b:Unit),True->cnd ((↑a.count:Int)==0) (∃(c:Unit),aa zJ (kJ i 1)=[]/\True) (cnd ((↑(aa z6 i.tops).length:Int) !=(↑a.count:Int)) (∃(c:Unit),aa zJ (kJ i 1)=[]/\True) (cnd (decide (i.inst<0)) (∃(c:Unit),aa zJ (kJ i 1)=[]/\True) (cnd (decide (i.inst>=(↑a.count:Int))) (∃(c:Unit),aa zJ (kJ i 1)=[]/\True) (∃(c:cM),sb c.p.code=sb i.p.code/\iE c.p.months=iE i.p.months/\c.p.tick=i.p.tick/\c.p.low=i.p.low/\c.p.high=i.p.high/\c.p.wide=i.p.wide/\c.p.rule=i.p.rule/\c.p.top=i.p.top/\c.p.least=i.p.least/\c.p.part=i.p.part/\iE c.p.settle=iE i.p.settle/\c.n=i.inst/\(jF c)/\∀(d:Unit),True->cnd (c.p.legs c.n).snd.snd (∃(e:Int),e=1/\(e=1\/e=2)/\∀(f:Unit),True->∃(g:MkJ),g.i.a=(c.p.legs c.n).snd.fst/\zC g.sa=3-e/\g.i.b=(c.p.legs c.n).fst/\zC g.sb=1/\g.i.less=ao/\ag 6 (aa z6 g.i.tops)=ag 6 (aa z6 i.tops)/\aa zJ g.i.out=[]/\(gU g)/\∀(h:Unit),True->∃(j:Nat),(↑j:Int)=0/\ag 6 (aa z6 i.tops)=ag 6 (aa z6 g.i.tops)/\aa zJ (nE i j)=aa zJ (uI g)/\∃(k:Nat->Prop),∃(l:Nat->Nat),k j/\∀(m:Nat),k m->cnd (l6 m g) ((0<=(↑m:Int)/\(↑m:Int)<(↑(lW i m).length:Int))/\(↑m:Int).toNat<(lW i m).length/\∃(n:Nat),(↑n:Int)=aq.wrap ((↑m:Int)+1)/\dh (ag 6 (aa z6 i.tops))/\aa zJ (nE i n)=zX (lW i m) (↑m:Int).toNat 2 [dI ((c.p.legs c.n).fst),dI 1,dI (vE c),dI (3-e)]/\k n/\l n<l m/\dh (ag 6 (aa z6 g.i.tops))/\dh (aj [V.d (dI (vE c)),V.d (dI (3-e))] 169)/\dh (aj [V.d (dI ((c.p.legs c.n).fst)),V.d (dI 1)] 169)/\nU i) (∃(n:Unit),aa zJ (kJ i 1)=aa zJ (nE i m)/\True)) (∃(e:Nat),i.inst+1+(↑e:Int)=aq.wrap (i.inst+1)/\dh (ag 6 (aa z6 i.tops))/\aa zJ (jD i 1 e)=[]/\∃(f:Nat->Prop),∃(g:Nat->Nat),f e/\∀(h:Nat),f h->cnd (decide (i.inst+1+(↑h:Int)<(↑(iE i.p.months).length:Int))) (∃(j:tJ),sb j.p.code=sb i.p.code/\iE j.p.months=iE i.p.months/\j.p.tick=i.p.tick/\j.p.low=i.p.low/\j.p.high=i.p.high/\j.p.wide=i.p.wide/\j.p.rule=i.p.rule/\j.p.top=i.p.top/\j.p.least=i.p.least/\j.p.part=i.p.part/\iE j.p.settle=iE i.p.settle/\j.a=i.inst/\j.b=i.inst+1+(↑h:Int)/\(qB j)/\∀(k:Unit),True->∃(l:MkJ),l.i.a=(j.p.spread j.a j.b).fst/\zC l.sa=1/\l.i.b=i.inst+1+(↑h:Int)/\zC l.sb=1/\l.i.less=ap/\ag 6 (aa z6 l.i.tops)=ag 6 (aa z6 i.tops)/\aa zJ l.i.out=aa zJ (jD i 1 h)/\(gU l)/\∀(m:Unit),True->∃(n:Nat),i.inst+1+(↑n:Int)=aq.wrap (i.inst+1+(↑h:Int)+1)/\ag 6 (aa z6 i.tops)=ag 6 (aa z6 l.i.tops)/\aa zJ (jD i 1 n)=aa zJ (uI l)/\zEs f n g h i) (∃(j:Nat),(↑j:Int)=0/\dh (ag 6 (aa z6 i.tops))/\aa zJ (nV i j)=aa zJ (jD i 1 h)/\∃(k:Nat->Prop),∃(l:Nat->Nat),k j/\∀(m:Nat),k m->cnd (decide ((↑m:Int)<i.inst)) (∃(n:tJ),sb n.p.code=sb i.p.code/\iE n.p.months=iE i.p.months/\n.p.tick=i.p.tick/\n.p.low=i.p.low/\n.p.high=i.p.high/\n.p.wide=i.p.wide/\n.p.rule=i.p.rule/\n.p.top=i.p.top/\n.p.least=i.p.least/\n.p.part=i.p.part/\iE n.p.settle=iE i.p.settle/\n.a=(↑m:Int)/\n.b=i.inst/\(qB n)/\∀(p:Unit),True->∃(q:Int),q=1/\(q=1\/q=2)/\∀(r:Unit),True->∃(s:MkJ),s.i.a=(n.p.spread n.a n.b).fst/\zC s.sa=3-q/\s.i.b=(↑m:Int)/\zC s.sb=1/\s.i.less=ao/\ag 6 (aa z6 s.i.tops)=ag 6 (aa z6 i.tops)/\aa zJ s.i.out=aa zJ (nV i m)/\(gU s)/\∀(t:Unit),True->∃(u:Nat),(↑u:Int)=aq.wrap ((↑m:Int)+1)/\ag 6 (aa z6 i.tops)=ag 6 (aa z6 s.i.tops)/\aa zJ (nV i u)=aa zJ (uI s)/\zDv k u l m i) (∃(n:Unit),aa zJ (kJ i 1)=aa zJ (nV i m)/\True)))))))
def pH (a:dZ) (b:Nat):=(aa (cW a 2) (ab b (yQ a 2))++ae b (yQ a 2))
def zAx (a:dZ) (b:Nat):=(aa zJ (pH a b))
def pP (a:dZ) (b:Nat):=(jD a 2 (a.p.months.length-(a.inst.toNat+1))++j0 a 2 b)
def yRo (i:dZ):Prop:=
 ∃(a:Prd),sb a.code=sb i.p.code/\iE a.months=iE i.p.months/\a.tick=i.p.tick/\a.low=i.p.low/\a.high=i.p.high/\a.wide=i.p.wide/\a.rule=i.p.rule/\a.top=i.p.top/\a.least=i.p.least/\a.part=i.p.part/\iE a.settle=iE i.p.settle/\(z5 a)/\∀(b:Unit),True->cnd ((↑a.count:Int)==0) (∃(c:Unit),aa zJ (kJ i 2)=[]/\True) (cnd ((↑(aa z6 i.tops).length:Int) !=(↑a.count:Int)) (∃(c:Unit),aa zJ (kJ i 2)=[]/\True) (cnd (decide (i.inst<0)) (∃(c:Unit),aa zJ (kJ i 2)=[]/\True) (cnd (decide (i.inst>=(↑a.count:Int))) (∃(c:Unit),aa zJ (kJ i 2)=[]/\True) (∃(c:cM),sb c.p.code=sb i.p.code/\iE c.p.months=iE i.p.months/\c.p.tick=i.p.tick/\c.p.low=i.p.low/\c.p.high=i.p.high/\c.p.wide=i.p.wide/\c.p.rule=i.p.rule/\c.p.top=i.p.top/\c.p.least=i.p.least/\c.p.part=i.p.part/\iE c.p.settle=iE i.p.settle/\c.n=i.inst/\(jF c)/\∀(d:Unit),True->cnd (c.p.legs c.n).snd.snd (∃(e:Int),e=2/\(e=1\/e=2)/\∀(f:Unit),True->∃(g:MkJ),g.i.a=(c.p.legs c.n).snd.fst/\zC g.sa=3-e/\g.i.b=(c.p.legs c.n).fst/\zC g.sb=2/\g.i.less=ao/\ag 6 (aa z6 g.i.tops)=ag 6 (aa z6 i.tops)/\aa zJ g.i.out=[]/\(gU g)/\∀(h:Unit),True->∃(j:Nat),(↑j:Int)=0/\ag 6 (aa z6 i.tops)=ag 6 (aa z6 g.i.tops)/\aa zJ (pH i j)=aa zJ (uI g)/\∃(k:Nat->Prop),∃(l:Nat->Nat),k j/\∀(m:Nat),k m->cnd (l6 m g) ((0<=(↑m:Int)/\(↑m:Int)<(↑(zAx i m).length:Int))/\(↑m:Int).toNat<(zAx i m).length/\∃(n:Nat),(↑n:Int)=aq.wrap ((↑m:Int)+1)/\dh (ag 6 (aa z6 i.tops))/\aa zJ (pH i n)=zX (zAx i m) (↑m:Int).toNat 2 [dI ((c.p.legs c.n).fst),dI 2,dI (vE c),dI (3-e)]/\k n/\l n<l m/\dh (ag 6 (aa z6 g.i.tops))/\dh (aj [V.d (dI (vE c)),V.d (dI (3-e))] 169)/\dh (aj [V.d (dI ((c.p.legs c.n).fst)),V.d (dI 2)] 169)/\nU i) (∃(n:Unit),aa zJ (kJ i 2)=aa zJ (pH i m)/\True)) (∃(e:Nat),i.inst+1+(↑e:Int)=aq.wrap (i.inst+1)/\dh (ag 6 (aa z6 i.tops))/\aa zJ (jD i 2 e)=[]/\∃(f:Nat->Prop),∃(g:Nat->Nat),f e/\∀(h:Nat),f h->cnd (decide (i.inst+1+(↑h:Int)<(↑(iE i.p.months).length:Int))) (∃(j:tJ),sb j.p.code=sb i.p.code/\iE j.p.months=iE i.p.months/\j.p.tick=i.p.tick/\j.p.low=i.p.low/\j.p.high=i.p.high/\j.p.wide=i.p.wide/\j.p.rule=i.p.rule/\j.p.top=i.p.top/\j.p.least=i.p.least/\j.p.part=i.p.part/\iE j.p.settle=iE i.p.settle/\j.a=i.inst/\j.b=i.inst+1+(↑h:Int)/\(qB j)/\∀(k:Unit),True->∃(l:MkJ),l.i.a=(j.p.spread j.a j.b).fst/\zC l.sa=2/\l.i.b=i.inst+1+(↑h:Int)/\zC l.sb=2/\l.i.less=ap/\ag 6 (aa z6 l.i.tops)=ag 6 (aa z6 i.tops)/\aa zJ l.i.out=aa zJ (jD i 2 h)/\(gU l)/\∀(m:Unit),True->∃(n:Nat),i.inst+1+(↑n:Int)=aq.wrap (i.inst+1+(↑h:Int)+1)/\ag 6 (aa z6 i.tops)=ag 6 (aa z6 l.i.tops)/\aa zJ (jD i 2 n)=aa zJ (uI l)/\zEs f n g h i) (∃(j:Nat),(↑j:Int)=0/\dh (ag 6 (aa z6 i.tops))/\aa zJ (pP i j)=aa zJ (jD i 2 h)/\∃(k:Nat->Prop),∃(l:Nat->Nat),k j/\∀(m:Nat),k m->cnd (decide ((↑m:Int)<i.inst)) (∃(n:tJ),sb n.p.code=sb i.p.code/\iE n.p.months=iE i.p.months/\n.p.tick=i.p.tick/\n.p.low=i.p.low/\n.p.high=i.p.high/\n.p.wide=i.p.wide/\n.p.rule=i.p.rule/\n.p.top=i.p.top/\n.p.least=i.p.least/\n.p.part=i.p.part/\iE n.p.settle=iE i.p.settle/\n.a=(↑m:Int)/\n.b=i.inst/\(qB n)/\∀(p:Unit),True->∃(q:Int),q=2/\(q=1\/q=2)/\∀(r:Unit),True->∃(s:MkJ),s.i.a=(n.p.spread n.a n.b).fst/\zC s.sa=3-q/\s.i.b=(↑m:Int)/\zC s.sb=2/\s.i.less=ao/\ag 6 (aa z6 s.i.tops)=ag 6 (aa z6 i.tops)/\aa zJ s.i.out=aa zJ (pP i m)/\(gU s)/\∀(t:Unit),True->∃(u:Nat),(↑u:Int)=aq.wrap ((↑m:Int)+1)/\ag 6 (aa z6 i.tops)=ag 6 (aa z6 s.i.tops)/\aa zJ (pP i u)=aa zJ (uI s)/\zDv k u l m i) (∃(n:Unit),aa zJ (kJ i 2)=aa zJ (pP i m)/\True)))))))
def jQ (a:tW):=(aa zJ (kJ a.i (zC a.s)))
def zDk (a:Nat->Prop) (b:Nat) (c:Nat->Nat) (d:Nat) (e:tW) (f:tW):Prop:=a b/\c b<c d/\dh (ak 172 6 (jQ e))/\dh (aj [V.d (D.v (aw (sb f.i.p.code))),V.own 0,V.d (dI f.i.p.tick),V.d (dI f.i.p.low),V.d (dI f.i.p.high),V.d (dI f.i.p.wide),V.d (dI f.i.p.rule),V.d (dI f.i.p.top),V.d (dI f.i.p.least),V.d (dI f.i.p.part),V.own 1] 25)/\dh (ag 1 (iE f.i.p.settle))/\dh (ag 1 (iE f.i.p.months))
def kF (a:tW):Prop:=(a.i.p.code.length<=1099511627776/\a.i.p.months.length<=1099511627776/\a.i.p.settle.length<=1099511627776)/\a.i.tops.length<=1000000/\∀(b:Top),b∈a.i.tops->fD b
def gS (a:tW):=(↑(jQ a).length:Int)
def z5s (j:tW):Prop:=
 ∃(a:tW),sb a.i.p.code=sb j.i.p.code/\iE a.i.p.months=iE j.i.p.months/\a.i.p.tick=j.i.p.tick/\a.i.p.low=j.i.p.low/\a.i.p.high=j.i.p.high/\a.i.p.wide=j.i.p.wide/\a.i.p.rule=j.i.p.rule/\a.i.p.top=j.i.p.top/\a.i.p.least=j.i.p.least/\a.i.p.part=j.i.p.part/\iE a.i.p.settle=iE j.i.p.settle/\aa z6 a.i.tops=aa z6 j.i.tops/\a.i.inst=j.i.inst/\zC a.s=zC j.s/\(kF a)/\∀(b:Unit),True->∃(c:Nat),(↑c:Int)=0/\aa zJ (ac (λ(q:Sx.Quote) ↦ decide (j.i.p.price j.i.inst q.price=0)) (ab c (kJ j.i (zC j.s))))=[]/\∃(d:Nat->Prop),∃(e:Nat->Nat),d c/\∀(f:Nat),d f->cnd (decide ((↑f:Int)<(gS a))) ((0<=(↑f:Int)/\(↑f:Int)<(gS a))/\∃(g:Int),∃(h:Int),∃(k:Int),∃(l:Int),∃(m:Int),∃(n:Int),zE (jQ a) (↑f:Int).toNat 0 6=ay [dI g,dI h,dI k,dI l,dI m,dI n]/\∃(p:tJ),sb p.p.code=sb j.i.p.code/\iE p.p.months=iE j.i.p.months/\p.p.tick=j.i.p.tick/\p.p.low=j.i.p.low/\p.p.high=j.i.p.high/\p.p.wide=j.i.p.wide/\p.p.rule=j.i.p.rule/\p.p.top=j.i.p.top/\p.p.least=j.i.p.least/\p.p.part=j.i.p.part/\iE p.p.settle=iE j.i.p.settle/\p.a=j.i.inst/\p.b=g/\(qB p)/\∀(q:Unit),True->cnd (p.p.price p.a p.b==0) (((aa zJ (ac (λ(q:Sx.Quote) ↦ decide (j.i.p.price j.i.inst q.price=0)) (ab f (kJ j.i (zC j.s))))).length+1)*(48:Nat)<=(140737488355328:Nat)/\∃(r:Nat),(↑r:Int)=aq.wrap ((↑f:Int)+1)/\aa zJ (ac (λ(q:Sx.Quote) ↦ decide (j.i.p.price j.i.inst q.price=0)) (ab r (kJ j.i (zC j.s))))=aa zJ (ac (λ(q:Sx.Quote) ↦ decide (j.i.p.price j.i.inst q.price=0)) (ab f (kJ j.i (zC j.s))))++[[dI g,dI h,dI k,dI l,dI m,dI n]]/\zDk d r e f a j) (∃(r:Nat),(↑r:Int)=aq.wrap ((↑f:Int)+1)/\aa zJ (ac (λ(q:Sx.Quote) ↦ decide (j.i.p.price j.i.inst q.price=0)) (ab r (kJ j.i (zC j.s))))=aa zJ (ac (λ(q:Sx.Quote) ↦ decide (j.i.p.price j.i.inst q.price=0)) (ab f (kJ j.i (zC j.s))))/\zDk d r e f a j)) (∃(g:Unit),aa zJ (xX j.i (zC j.s))=aa zJ (ac (λ(q:Sx.Quote) ↦ decide (j.i.p.price j.i.inst q.price=0)) (ab f (kJ j.i (zC j.s))))/\True)
def zDi (a:Nat->Prop) (b:Nat) (c:Nat->Nat) (d:Nat):Prop:=a b/\c b<c d/\dh (aj (Sx.V.agg [V.d (dI 0),V.d (dI 0),V.d (dI 0),V.d (dI 0),V.d (dI 0),V.d (dI 0)]).cl 172)
def yE (a:Nat) (b:BsI):=(zW (ab (max a 1) b.l) b.s)
def vW (a:BsI):=(↑(aa zJ a.l).length:Int)
def zLt (a:BsI):Prop:=((0:Int)<=(0:Int)/\0<(vW a))/\∃(b:Int),∃(c:Int),∃(d:Int),∃(e:Int),∃(f:Int),∃(g:Int),zE (aa zJ a.l) (Int.toNat 0) 0 6=ay [dI b,dI c,dI d,dI e,dI f,dI g]/\∃(h:Nat),(↑h:Int)=0/\(yE h a).fst.price=b/\(yE h a).fst.qty=c/\(yE h a).fst.a.inst=d/\(yE h a).fst.a.side=e/\(yE h a).fst.b.inst=f/\(yE h a).fst.b.side=g/\∃(j:Nat->Prop),∃(k:Nat->Nat),j h/\∀(l:Nat),j l->cnd (decide ((↑l:Int)<(vW a))) ((0<=(↑l:Int)/\(↑l:Int)<(vW a))/\∃(m:Int),∃(n:Int),∃(p:Int),∃(q:Int),∃(r:Int),∃(s:Int),zE (aa zJ a.l) (↑l:Int).toNat 0 6=ay [dI m,dI n,dI p,dI q,dI r,dI s]/\∃(t:I3'),t.side=a.s/\t.x=m/\t.y=(yE l a).fst.price/\True/\∀(u:Unit),True->cnd (btr t.side t.x t.y) (∃(v:Nat),(↑v:Int)=aq.wrap ((↑l:Int)+1)/\(yE v a).fst.price=m/\(yE v a).fst.qty=n/\(yE v a).fst.a.inst=p/\(yE v a).fst.a.side=q/\(yE v a).fst.b.inst=r/\(yE v a).fst.b.side=s/\zDi j v k l) (∃(v:Nat),(↑v:Int)=aq.wrap ((↑l:Int)+1)/\(yE v a).fst.price=(yE l a).fst.price/\(yE v a).fst.qty=(yE l a).fst.qty/\(yE v a).fst.a.inst=(yE l a).fst.a.inst/\(yE v a).fst.a.side=(yE l a).fst.a.side/\(yE v a).fst.b.inst=(yE l a).fst.b.inst/\(yE v a).fst.b.side=(yE l a).fst.b.side/\zDi j v k l)) (∃(m:Unit),(zW a.l a.s).fst.price=(yE l a).fst.price/\(zW a.l a.s).fst.qty=(yE l a).fst.qty/\(zW a.l a.s).fst.a.inst=(yE l a).fst.a.inst/\(zW a.l a.s).fst.a.side=(yE l a).fst.a.side/\(zW a.l a.s).fst.b.inst=(yE l a).fst.b.inst/\(zW a.l a.s).fst.b.side=(yE l a).fst.b.side/\(zW a.l a.s).snd=ao/\True)
def zDn (a:BsI):Prop:=∃(b:Unit),(zW a.l a.s).fst.price=0/\(zW a.l a.s).fst.qty=0/\(zW a.l a.s).fst.a.inst=0/\(zW a.l a.s).fst.a.side=0/\(zW a.l a.s).fst.b.inst=0/\(zW a.l a.s).fst.b.side=0/\(zW a.l a.s).snd=ap/\True
def yHy (i:BsI):Prop:=
 cnd ((vW i)==0) (zDn i) (cnd (i.s !=1) (cnd (i.s !=2) (zDn i) (zLt i)) (zLt i))
def z2s {l:List Quote} {q:Quote} (s:Int) (h:l[0]? =ay q):(zW (l.take (max 0 1)) s).1=q:=by
 cases l with
 |nil=>simp at h
 |cons a l=>simp at h;subst h;rfl
def z4i {l:List Quote} {j:Nat} {q:Quote} (s:Int) (h:l[j]? =ay q):
 (zW (l.take (max (j+1) 1)) s).1=if btr s q.price (zW (l.take (max j 1)) s).1.price then q else(zW (l.take (max j 1)) s).1:=by
 cases l with
 |nil=>simp at h
 |cons a l=>
  cases j with
  |zero=>simp at h;subst h;simp[zW]
  |succ m=>
   simp only[y7b]at h;rw[show max (m+1+1) 1=(m+1)+1 by omega,show max (m+1) 1=m+1 by omega,y6l,y6l,y6m,h];simp only[zW,y8f,y9k];rfl
def yAm {l:List Quote} (s:Int) (h:l≠[]):(zW l s).2=ao:=by
 cases l with
 |nil=>exact absurd rfl h
 |cons a l=>rfl
def ySk (i:BsI) (h:bestQC.cnd i):yHy i:=by
 obtain⟨hs,hl⟩:(i.s=1\/i.s=2)/\i.l.length<=1000000:=h;unfold yHy zLt yE zDi vW zDn dI;simp only[y5c];refine Cv.cnd.mk (λc=> ?_) (λc=> ?_)
 ·have e:i.l=[]:=y6d (by have:(i.l.length:Int)=0:=(by simpa using c);omega);rw[e];exact kpp
 have h0:0<i.l.length:=by
  rcases Nat.eq_zero_or_pos i.l.length with h|h
  ·rw[h]at c;exact absurd c (by decide)
  ·exact h
 have hne:i.l≠[]:=by intro e;rw[e]at h0;simp at h0
 have two:=yAm i.s hne;obtain⟨q,hq⟩:=yC h0;have b0:=z2s i.s hq;have fin:(zW (i.l.take (max i.l.length 1)) i.s).1=(zW i.l i.s).1:=by
  rw[y5n (by omega)]
 have step:∀j:Nat,j<i.l.length->∀x:Quote,i.l[j]? =ay x->(btr i.s x.price (zW (i.l.take (max j 1)) i.s).1.price=ao->(zW (i.l.take (max (j+1) 1)) i.s).1=x)/\(btr i.s x.price (zW (i.l.take (max j 1)) i.s).1.price=ap->(zW (i.l.take (max (j+1) 1)) i.s).1=(zW (i.l.take (max j 1)) i.s).1):=λj hj x hx=>by
  have:=z4i i.s hx;constructor
  ·intro e;rw[this,y5d e]
  ·intro e;rw[this,y5b (by rw[e];simp)]
 refine Cv.cnd.mk (λc1=>Cv.cnd.mk (λc2=> ?_) (λc2=> ?_)) (λc1=> ?_)
 ·exfalso;have c1:i.s≠1:=by simpa using c1
  have c2:i.s≠2:=by simpa using c2
  omega
 all_goals
  refine⟨⟨by omega,by omega⟩,q.price,q.qty,q.a.inst,q.a.side,q.b.inst,q.b.side,elA hq (by simp[zJ]) rfl,0,?_⟩;rw[b0]
  (repeat'(first|exact rfl|exact trivial|assumption|apply ar|refineλ(_:Unit) (_:True)=>?_|refine am () ?_|omega|(dsimp only;omega)))
  refine⟨λj=>j<=i.l.length,λj=>i.l.length-j,by omega,λj hj=>zI (λhlt=> ?_) (λhlt=> ?_)⟩
  ·have hj':j<i.l.length:=by omega
   obtain⟨x,hx⟩:=yC hj';obtain⟨st,sf⟩:=step j hj' x hx;refine⟨⟨by omega,by omega⟩,x.price,x.qty,x.a.inst,x.a.side,x.b.inst,x.b.side,elA hx (by simp[zJ]) rfl,⟨i.s,x.price,_⟩,rfl,rfl,rfl,trivial,λ_ _=>Cv.cnd.mk (λe=>⟨j+1,by rw[w64 (by omega)];rfl,?_⟩) (λe=>⟨j+1,by rw[w64 (by omega)];rfl,?_⟩)⟩
   ·rw[st e];exact kpp
   ·rw[sf e];exact kpp
  ·have hj:j<=i.l.length:=hj;obtain rfl:j=i.l.length:=by omega
   rw[fin,two];exact kpp
def zZm:bestQC.ok Tryz.prog 93:=okw mixed (gokc z1u gok0) 0 (λ_=>[]) (λi=>yVp i) [] Tryz.func93 ySk
def zEe (tops:List Top) (a b:Leg) (less:Bool):(mkq tops a b less).length<=1:=by
 unfold mkq;dsimp only;split<;>split<;>simp
def zVx {α:Type} {f:Nat->List α} (h:∀k,(f k).length<=1):∀n,((af n).flatMap f).length<=n
 |0=>by simp
 |n+1=>by
  rw[y9l,y7a,y5a];have:=zVx h n;have:=h n;simp only[y6w,xAg,y6a];omega
def zCk (i:dZ) (s:Int) (k:Nat):(jD i s k).length<=k:=zVx (λ_=>zEe _ _ _ _) k
def r9 (i:dZ) (s:Int) (k:Nat):(j0 i s k).length<=k:=zVx (λ_=>zEe _ _ _ _) k
def zFm (i:dZ) (s:Int):(kJ i s).length<=100:=by
 unfold kJ;split
 ·simp
 ·rename_i h;have hc:=xK i.p;have m6:=(kD (eE (p:=i.p) (by omega))).m6;split
  ·rw[y5c];have:=zEe i.tops ⟨(i.p.legs i.inst).2.1,3-s⟩ ⟨(i.p.legs i.inst).1,s⟩ ao;have e:(yQ i s).length<=1:=this;omega
  ·rw[y5a];have h1:=zCk i s (i.p.months.length-(i.inst.toNat+1));have h2:=r9 i s i.inst.toNat;omega
def yMn (j:tW) (h:quotesC.cnd j):z5s j:=by
 unfold z5s zDk gS jQ kF fD qB dI;obtain⟨hp,ht,hr⟩:j.i.p.small/\vG j.i.tops:=h;obtain⟨h1,h2,h3⟩:=hp;have hl:=zFm j.i (zC j.s);refine⟨j,?_⟩;simp only[y5c]
 (repeat'(first|exact rfl|exact trivial|assumption|apply ar|refineλ(_:Unit) (_:True)=>?_|refine am () ?_|omega|(dsimp only;omega)))
 refine⟨0,rfl,rfl,λk=>k<=(kJ j.i (zC j.s)).length,λk=>(kJ j.i (zC j.s)).length-k,by omega,λk hk=>zI (λhlt=> ?_) (λhlt=> ?_)⟩
 ·have hk':k<(kJ j.i (zC j.s)).length:=by omega
  obtain⟨q,hq⟩:=yC hk';have hf:(ac (λq=>decide (j.i.p.price j.i.inst q.price=0)) (ab k (kJ j.i (zC j.s)))).length<=100:=by
   have:=y8n (λq:Quote=>decide (j.i.p.price j.i.inst q.price=0)) (ab k (kJ j.i (zC j.s)));rw[y5t]at this;omega
  refine⟨⟨by omega,by omega⟩,q.price,q.qty,q.a.inst,q.a.side,q.b.inst,q.b.side,elA hq (by simp[zJ]) rfl,⟨j.i.p,j.i.inst,q.price⟩,?_⟩
  (repeat'(first|exact rfl|exact trivial|assumption|apply ar|refineλ(_:Unit) (_:True)=>?_|refine am () ?_|omega|(dsimp only;omega)))
  refine Cv.cnd.mk (λc=>⟨by omega,k+1,by rw[w64 (by omega)];rfl,?_⟩) (λc=>⟨k+1,by rw[w64 (by omega)];rfl,?_⟩)
  ·have c:j.i.p.price j.i.inst q.price=0:=by simpa using c
   rw[y6m,hq,y8f,y9g,y9z (by simpa using c),y5l];exact kpp
  ·have c:¬j.i.p.price j.i.inst q.price=0:=by simpa using c
   rw[y6m,hq,y8f,y9g,xAa (by simpa using c),List.filter_nil,y6a];exact kpp
 ·have hk:k<=(kJ j.i (zC j.s)).length:=hk;obtain rfl:k=(kJ j.i (zC j.s)).length:=by omega
  rw[y5n (y5x _)];exact kpp
def yBi:∀n≤6,∀a<n,∀b<n,a<b->0<=(yJ n a:Int)+b-a-1/\(yJ n a:Int)+b-a-1<((n+n*(n-1) / 2:Nat):Int):=by decide
def bT {p:Prd} (hc:p.check=0) {a b:Nat} (hab:a<b) (hb:b<p.months.length):0<=(p.spread a b).1/\(p.spread a b).1<p.count:=by
 have m6:=(kD hc).m6;have:=yBi p.months.length m6 a (by omega) b hb hab;rw[Prd.spread,y5b (by omega),Prd.count,y5d hc];simpa using this
def yMy:∀n≤6,∀k<n+n*(n-1) / 2,n<=k->(kP n k n 0).2.2=ao/\0<=(kP n k n 0).1/\(kP n k n 0).1<n/\0<=(kP n k n 0).2.1/\(kP n k n 0).2.1<n:=by decide
def g8 {p:Prd} (hc:p.check=0) {k:Nat} (hk:k<p.count):((p.legs k).2.2=ao/\0<=(p.legs k).1/\(p.legs k).1<p.months.length/\0<=(p.legs k).2.1/\(p.legs k).2.1<p.months.length)\/((p.legs k).2.2=ap/\k<p.months.length):=by
 have m6:=(kD hc).m6;have hk':=hk;rw[Prd.count,y5d hc]at hk';by_cases h:k<p.months.length
 ·right;rw[Prd.legs,y5b (by omega),y5d (by omega)];exact⟨rfl,h⟩
 ·left;rw[Prd.legs,y5b (by omega),y5b (by omega)];exact yMy p.months.length m6 k hk' (by omega)
def zFv {p:Prd} (hc:p.check=0):p.months.length<=p.count:=by
 rw[Prd.count,y5d hc];omega
def zYb {i:dZ} {s:Int} {k:Nat} (hk:k<(yQ i s).length):aa zJ (aa (cW i s) (ab (k+1) (yQ i s))++ae (k+1) (yQ i s))=
 zX (aa zJ (aa (cW i s) (ab k (yQ i s))++ae k (yQ i s))) k (0+2) [D.v (.int .i64 (i.p.legs i.inst).1),D.v (.int .i64 s),D.v (.int .i64 (i.p.legs i.inst).2.1),D.v (.int .i64 (3-s))]:=by
 obtain⟨q,hq⟩:=yC hk;rw[zSc (a:=aa zJ (aa (cW i s) (ab k (yQ i s)))) (b:=aa zJ (ae (k+1) (yQ i s))) (x:=zJ q) (y:=zJ (cW i s q)) (by
  rw[y5l,y7j hk,(y5f.1 hq).2,y5p]) (by simp;omega) rfl]
 rw[y6m,hq,y8f,y5l,y5l,y5l,y5p,y8t,y5p,y8t,y5i];rfl
def yYw (i:dZ) (h:all1C.cnd i):yRg i:=by
 unfold yRg z5 zEs zDv nU vE nV lW nE jF qB l6 uI gU fD dI;obtain⟨⟨h1,h2,h3⟩,ht,hr⟩:i.p.small/\vG i.tops:=h;have hto:vG i.tops:=⟨ht,hr⟩
 refine⟨i.p,?_⟩;simp only[y5c,yZ]
 (repeat'(first|exact rfl|exact trivial|assumption|apply ar|refineλ(_:Unit) (_:True)=>?_|refine am () ?_|omega|(dsimp only;omega)))
 have bad (hb:i.p.count=0\/(i.tops.length:Int)≠i.p.count\/i.inst<0\/(i.p.count:Int)<=i.inst):∃(o:Unit),aa zJ (kJ i 1)=[]/\True:=⟨(),by rw[kJ,y5d hb];rfl,trivial⟩
 refine Cv.cnd.mk (λc1=>bad (.inl (by have c1:(i.p.count:Int)=0:=(by simpa using c1);omega))) λc1=>Cv.cnd.mk (λc2=>bad (.inr (.inl (by simpa using c2)))) λc2=>zI (λc3=>bad (by omega)) λc3=>zI (λc4=>bad (by omega)) λc4=>⟨⟨i.p,i.inst⟩,?_⟩
 have c1:i.p.count≠0:=by
  have c1:¬(i.p.count:Int)=0:=(by simpa using c1)
  omega
 have c2:(i.tops.length:Int)=i.p.count:=by simpa using c2
 have c4:i.inst<(i.p.count:Int):=by
  have c4:¬i.inst>=(i.p.count:Int):=c4;omega
 have hc:=eE c1;have hm:=zFv hc;have e0:kJ i 1=if(i.p.legs i.inst).2.2 then(yQ i 1).map (cW i 1)else jD i 1 (i.p.months.length-(i.inst.toNat+1))++j0 i 1 i.inst.toNat:=by
  rw[kJ,y5b (by omega)]
 obtain⟨k,hk⟩:∃k:Nat,i.inst=k:=⟨i.inst.toNat,by omega⟩
 have hl:=g8 hc (k:=k) (by omega);rw[<- hk]at hl
 (repeat'(first|exact rfl|exact trivial|assumption|apply ar|refineλ(_:Unit) (_:True)=>?_|refine am () ?_|omega|(dsimp only;omega)))
 refine Cv.cnd.mk (λc5=> ?_) (λc5=> ?_)
 ·have c5:(i.p.legs i.inst).2.2=ao:=c5;rw[e0,y5d c5];rcases hl with⟨_,l1,l2,l3,l4⟩|⟨l1,_⟩
  ·have hsl:(yQ i 1).length<=1:=zEe _ _ _ _;refine⟨1,rfl,by omega,λ_ _=>⟨⟨⟨i.tops,[],(i.p.legs i.inst).2.1,(i.p.legs i.inst).1,ao⟩,ao,ap⟩,rfl,rfl,rfl,rfl,rfl,rfl,rfl,⟨l3,by dsimp only;omega,l1,by dsimp only;omega,hto,by simp⟩,λ_ _=>⟨0,rfl,rfl,rfl,λj=>j<=(yQ i 1).length,λj=>(yQ i 1).length-j,by omega,?_⟩⟩⟩;intro j hj;have hj:j<=(yQ i 1).length:=hj;have hL:(aa (cW i 1) (ab j (yQ i 1))++ae j (yQ i 1)).length=(yQ i 1).length:=by simp;omega
   refine zI (λhlt=> ?_) (λhlt=> ?_)
   ·have hlt:(j:Int)<((yQ i 1).length:Int):=hlt;refine⟨⟨by omega,by rw[hL];omega⟩,by rw[hL];omega,j+1,by rw[w64 (by omega)];rfl,kpp,?_,?_⟩
    ·exact zYb (i:=i) (s:=1) (by omega)
    ·exact kpp
   ·have hlt:¬(j:Int)<((yQ i 1).length:Int):=hlt;obtain rfl:j=(yQ i 1).length:=by omega
    rw[y5n (y5x _),List.drop_length,y6a];exact kpp
  ·rw[c5]at l1;cases l1
 ·have c5:(i.p.legs i.inst).2.2=ap:=c5;rw[e0,y5b (by rw[c5];simp)];rcases hl with⟨l1,_⟩|⟨_,l2⟩
  ·rw[c5]at l1;cases l1
  have m6:=(kD hc).m6;have e1:i.inst.toNat=k:=by omega
  rw[e1];refine⟨0,by rw[w64 (by omega)];omega,kpp,rfl,λj=>j<=i.p.months.length-(k+1),λj=>i.p.months.length-(k+1)-j,by omega,?_⟩;intro j hj;have hj:j<=i.p.months.length-(k+1):=hj;have hq:=zCk i 1 j;refine zI (λhlt=> ?_) (λhlt=> ?_)
  ·obtain⟨b1,b2⟩:=bT hc (a:=k) (b:=k+1+j) (by omega) (by omega);have eb:((k+1+j:Nat):Int)=i.inst+1+j:=by omega
   rw[eb,<- hk]at b1 b2;refine⟨⟨i.p,i.inst,i.inst+1+j⟩,?_⟩
   (repeat'(first|exact rfl|exact trivial|assumption|apply ar|refineλ(_:Unit) (_:True)=>?_|refine am () ?_|omega|(dsimp only;omega)))
   refine⟨⟨⟨i.tops,jD i 1 j,(i.p.spread i.inst (i.inst+1+j)).1,i.inst+1+j,ap⟩,ap,ap⟩,rfl,rfl,rfl,rfl,rfl,kpp,rfl,⟨b1,by dsimp only;omega,by dsimp only;omega,by dsimp only;omega,hto,by dsimp only;omega⟩,λ_ _=>⟨j+1,by rw[w64 (by omega)];omega,kpp,?_,?_⟩⟩
   ·rw[jD,y9l,y7a];simp only[y6w,xAg,y6a];rfl
   ·exact kpp
  ·obtain rfl:j=i.p.months.length-(k+1):=by omega
   refine⟨0,rfl,kpp,by rw[j0];simp,λj=>j<=k,λj=>k-j,by omega,?_⟩;intro j hj;have hj:j<=k:=hj;have hq2:=r9 i 1 j;refine zI (λhlt2=> ?_) (λhlt2=> ?_)
   ·obtain⟨b1,b2⟩:=bT hc (a:=j) (b:=k) (by omega) (by omega);rw[<- hk]at b1 b2;refine⟨⟨i.p,j,i.inst⟩,?_⟩
    (repeat'(first|exact rfl|exact trivial|assumption|apply ar|refineλ(_:Unit) (_:True)=>?_|refine am () ?_|omega|(dsimp only;omega)))
    refine⟨1,rfl,by omega,λ_ _=>⟨⟨⟨i.tops,jD i 1 (i.p.months.length-(k+1))++j0 i 1 j,(i.p.spread j i.inst).1,j,ao⟩,ao,ap⟩,rfl,rfl,rfl,rfl,rfl,kpp,rfl,⟨b1,by dsimp only;omega,by dsimp only;omega,by dsimp only;omega,hto,by dsimp only;rw[y5a];omega⟩,λ_ _=>⟨j+1,by rw[w64 (by omega)];omega,kpp,?_,?_⟩⟩⟩
    ·rw[j0,y9l,y7a];simp only[y6w,xAg,y6a,y5i];rfl
    ·exact kpp
   ·obtain rfl:j=k:=by omega
    exact kpp
def yNq:all1C.ok Tryz.prog 129:=okw mixed (gokc bV (gokc lN (gokc zRj (gokc zRp (gokc zXa gok0))))) 0 (λ_=>[]) (λi=>yZo i 1) [] Tryz.func129 yYw
def y1k (i:dZ) (h:all2C.cnd i):yRo i:=by
 unfold yRo z5 pP zAx pH zEs zDv nU vE jF qB l6 uI gU fD dI;obtain⟨⟨h1,h2,h3⟩,ht,hr⟩:i.p.small/\vG i.tops:=h;have hto:vG i.tops:=⟨ht,hr⟩
 refine⟨i.p,?_⟩;simp only[y5c,yZ]
 (repeat'(first|exact rfl|exact trivial|assumption|apply ar|refineλ(_:Unit) (_:True)=>?_|refine am () ?_|omega|(dsimp only;omega)))
 have bad (hb:i.p.count=0\/(i.tops.length:Int)≠i.p.count\/i.inst<0\/(i.p.count:Int)<=i.inst):∃(o:Unit),aa zJ (kJ i 2)=[]/\True:=⟨(),by rw[kJ,y5d hb];rfl,trivial⟩
 refine Cv.cnd.mk (λc1=>bad (.inl (by have c1:(i.p.count:Int)=0:=(by simpa using c1);omega))) λc1=>Cv.cnd.mk (λc2=>bad (.inr (.inl (by simpa using c2)))) λc2=>zI (λc3=>bad (by omega)) λc3=>zI (λc4=>bad (by omega)) λc4=>⟨⟨i.p,i.inst⟩,?_⟩
 have c1:i.p.count≠0:=by
  have c1:¬(i.p.count:Int)=0:=(by simpa using c1)
  omega
 have c2:(i.tops.length:Int)=i.p.count:=by simpa using c2
 have c4:i.inst<(i.p.count:Int):=by
  have c4:¬i.inst>=(i.p.count:Int):=c4;omega
 have hc:=eE c1;have hm:=zFv hc;have e0:kJ i 2=if(i.p.legs i.inst).2.2 then(yQ i 2).map (cW i 2)else jD i 2 (i.p.months.length-(i.inst.toNat+1))++j0 i 2 i.inst.toNat:=by
  rw[kJ,y5b (by omega)]
 obtain⟨k,hk⟩:∃k:Nat,i.inst=k:=⟨i.inst.toNat,by omega⟩
 have hl:=g8 hc (k:=k) (by omega);rw[<- hk]at hl
 (repeat'(first|exact rfl|exact trivial|assumption|apply ar|refineλ(_:Unit) (_:True)=>?_|refine am () ?_|omega|(dsimp only;omega)))
 refine Cv.cnd.mk (λc5=> ?_) (λc5=> ?_)
 ·have c5:(i.p.legs i.inst).2.2=ao:=c5;rw[e0,y5d c5];rcases hl with⟨_,l1,l2,l3,l4⟩|⟨l1,_⟩
  ·have hsl:(yQ i 2).length<=1:=zEe _ _ _ _;refine⟨2,rfl,by omega,λ_ _=>⟨⟨⟨i.tops,[],(i.p.legs i.inst).2.1,(i.p.legs i.inst).1,ao⟩,ap,ao⟩,rfl,rfl,rfl,rfl,rfl,rfl,rfl,⟨l3,by dsimp only;omega,l1,by dsimp only;omega,hto,by simp⟩,λ_ _=>⟨0,rfl,rfl,rfl,λj=>j<=(yQ i 2).length,λj=>(yQ i 2).length-j,by omega,?_⟩⟩⟩;intro j hj;have hj:j<=(yQ i 2).length:=hj;have hL:(aa (cW i 2) (ab j (yQ i 2))++ae j (yQ i 2)).length=(yQ i 2).length:=by simp;omega
   refine zI (λhlt=> ?_) (λhlt=> ?_)
   ·have hlt:(j:Int)<((yQ i 2).length:Int):=hlt;refine⟨⟨by omega,by rw[hL];omega⟩,by rw[hL];omega,j+1,by rw[w64 (by omega)];rfl,kpp,?_,?_⟩
    ·exact zYb (i:=i) (s:=2) (by omega)
    ·exact kpp
   ·have hlt:¬(j:Int)<((yQ i 2).length:Int):=hlt;obtain rfl:j=(yQ i 2).length:=by omega
    rw[y5n (y5x _),List.drop_length,y6a];exact kpp
  ·rw[c5]at l1;cases l1
 ·have c5:(i.p.legs i.inst).2.2=ap:=c5;rw[e0,y5b (by rw[c5];simp)];rcases hl with⟨l1,_⟩|⟨_,l2⟩
  ·rw[c5]at l1;cases l1
  have m6:=(kD hc).m6;have e1:i.inst.toNat=k:=by omega
  rw[e1];refine⟨0,by rw[w64 (by omega)];omega,kpp,rfl,λj=>j<=i.p.months.length-(k+1),λj=>i.p.months.length-(k+1)-j,by omega,?_⟩;intro j hj;have hj:j<=i.p.months.length-(k+1):=hj;have hq:=zCk i 2 j;refine zI (λhlt=> ?_) (λhlt=> ?_)
  ·obtain⟨b1,b2⟩:=bT hc (a:=k) (b:=k+1+j) (by omega) (by omega);have eb:((k+1+j:Nat):Int)=i.inst+1+j:=by omega
   rw[eb,<- hk]at b1 b2;refine⟨⟨i.p,i.inst,i.inst+1+j⟩,?_⟩
   (repeat'(first|exact rfl|exact trivial|assumption|apply ar|refineλ(_:Unit) (_:True)=>?_|refine am () ?_|omega|(dsimp only;omega)))
   refine⟨⟨⟨i.tops,jD i 2 j,(i.p.spread i.inst (i.inst+1+j)).1,i.inst+1+j,ap⟩,ao,ao⟩,rfl,rfl,rfl,rfl,rfl,kpp,rfl,⟨b1,by dsimp only;omega,by dsimp only;omega,by dsimp only;omega,hto,by dsimp only;omega⟩,λ_ _=>⟨j+1,by rw[w64 (by omega)];omega,kpp,?_,?_⟩⟩
   ·rw[jD,y9l,y7a];simp only[y6w,xAg,y6a];rfl
   ·exact kpp
  ·obtain rfl:j=i.p.months.length-(k+1):=by omega
   refine⟨0,rfl,kpp,by rw[j0];simp,λj=>j<=k,λj=>k-j,by omega,?_⟩;intro j hj;have hj:j<=k:=hj;have hq2:=r9 i 2 j;refine zI (λhlt2=> ?_) (λhlt2=> ?_)
   ·obtain⟨b1,b2⟩:=bT hc (a:=j) (b:=k) (by omega) (by omega);rw[<- hk]at b1 b2;refine⟨⟨i.p,j,i.inst⟩,?_⟩
    (repeat'(first|exact rfl|exact trivial|assumption|apply ar|refineλ(_:Unit) (_:True)=>?_|refine am () ?_|omega|(dsimp only;omega)))
    refine⟨2,rfl,by omega,λ_ _=>⟨⟨⟨i.tops,jD i 2 (i.p.months.length-(k+1))++j0 i 2 j,(i.p.spread j i.inst).1,j,ao⟩,ap,ao⟩,rfl,rfl,rfl,rfl,rfl,kpp,rfl,⟨b1,by dsimp only;omega,by dsimp only;omega,by dsimp only;omega,hto,by dsimp only;rw[y5a];omega⟩,λ_ _=>⟨j+1,by rw[w64 (by omega)];omega,kpp,?_,?_⟩⟩⟩
    ·rw[j0,y9l,y7a];simp only[y6w,xAg,y6a,y5i];rfl
    ·exact kpp
   ·obtain rfl:j=k:=by omega
    exact kpp
def yOz:all2C.ok Tryz.prog 129:=okw mixed (gokc bV (gokc lN (gokc zRj (gokc zRp (gokc zXa gok0))))) 0 (λ_=>[]) (λi=>yZo i 2) [] Tryz.func129 y1k
def yDi:allC.ok Tryz.prog 129:=λj=>match j with
 |⟨i,ap⟩=>yNq i
 |⟨i,ao⟩=>yOz i
def zSv:quotesC.ok Tryz.prog 81:=okw mixed (gokc yDi (gokc lL gok0)) 0 (λ_=>[]) (λj=>yPr j) [] Tryz.func81 yMn
def zJv (i:dZ) (s:Int):(xX i s).length<=100:=y7w (y8n _ _) (zFm i s)
structure Mkt where
 p:Prd
 s:MSt
 used:List Int
def zV (l:List Int):List (Value×List D):=l.map λx=>(.int .i64 x,[.v (.bool ao)])
def yW (m:Mkt):Nat->AObj
 |0=> .cells [sV m.p.code,.own 3,zA m.p.tick,zA m.p.low,zA m.p.high,zA m.p.wide,zA m.p.rule,zA m.p.top,zA m.p.least,zA m.p.part,.own 4,.nm 1 0,.mp 2] 114
 |1=>zD m.s
 |2=> .map (zV m.used)
 |3=> .fro 1 (iE m.p.months)
 |4=> .fro 1 (iE m.p.settle)
 |_=> .gone
def jA (m:Mkt):AObj:= .adt Mkt 5 yW m
def newMC:Con where
 ι:=Prd
 pat:=λp=>[prdV p]
 pre:=λ_=>[]
 cnd:=λp=>p.small
 alts:=λp=>[{o:=Unit,res:=λ_=> .tup [.nm 0 0,zA 0],post:=λ_=>[jA ⟨p,aV p,[]⟩],rel:=λ_=>p.check=0},{o:=Unit,res:=λ_=> .tup [.d (.v (.pointer none)),zA p.check],post:=λ_=>[],rel:=λ_=>p.check≠0}]
def zHc (a:Prd) (b:Prd) (c:Unit):Prop:=True/\(0+(iE a.settle).length)*(8:Nat)<=(140737488355328:Nat)/\((∃(d:Unit),dh ((0:Int))/\dh (sb a.code)/\dh a.tick/\dh a.low/\dh a.high/\dh a.wide/\dh a.rule/\dh a.top/\dh a.least/\dh a.part/\zD (aV a)=zD (aV b)/\zV []=[]/\iE a.months=[]++iE a.months/\iE a.settle=[]++iE a.settle/\a.check=0)\/∃(c:Unit),False)
def zGu (a:Prd) (b:Prd) (c:Unit):Prop:=True/\True/\(0+(iE a.months).length)*(8:Nat)<=(140737488355328:Nat)/\zHc a b c
def zIj (a:Prd) (b:Unit):Prop:=True/\(0+(iE a.settle).length)*(8:Nat)<=(140737488355328:Nat)/\((∃(c:Unit),dh ((0:Int))/\dh (sb a.code)/\dh a.tick/\dh a.low/\dh a.high/\dh a.wide/\dh a.rule/\dh a.top/\dh a.least/\dh a.part/\False)\/∃(b:Unit),False)
def zHw (a:Prd) (b:Unit):Prop:=True/\True/\(0+(iE a.months).length)*(8:Nat)<=(140737488355328:Nat)/\zIj a b
def ySb (p:Prd):Prop:=
 ∃(a:Prd),sb a.code=sb p.code/\iE a.months=iE p.months/\a.tick=p.tick/\a.low=p.low/\a.high=p.high/\a.wide=p.wide/\a.rule=p.rule/\a.top=p.top/\a.least=p.least/\a.part=p.part/\iE a.settle=iE p.settle/\(z5 a)/\(∀(b:Unit),a.check=0->(True/\True/\((0+(iE p.months).length)*(8:Nat)<=(140737488355328:Nat)/\True/\zHc p a b)/\zGu p a b)/\True/\True/\zGu p a b)/\∀(b:Unit),a.check≠0->cnd (a.check !=0) ((∃(c:Unit),False)\/∃(b:Unit),True/\p.check=a.check/\(p.check=0->False)) ((True/\True/\((0+(iE p.months).length)*(8:Nat)<=(140737488355328:Nat)/\True/\zIj p b)/\zHw p b)/\True/\True/\zHw p b)
def yZm (p:Prd) (h:newMC.cnd p):ySb p:=by
 unfold ySb zHw zIj zGu zHc z5;obtain⟨h1,h2,h3⟩:p.small:=h;refine⟨p,?_⟩;simp only[yZ]
 (repeat'(first|exact rfl|exact trivial|assumption|apply ar|refineλ(_:Unit) (_:True)=>?_|refine am () ?_|omega|(dsimp only;omega)))
 ·intro _ c
  (repeat'(first|exact rfl|exact trivial|assumption|apply ar|refineλ(_:Unit) (_:True)=>?_|refine am () ?_|omega|(dsimp only;omega)))
  all_goals(refine .inl ⟨(),?_⟩;(repeat'(first|exact rfl|exact trivial|assumption|apply ar|refineλ(_:Unit) (_:True)=>?_|refine am () ?_|omega|(dsimp only;omega))))
 ·intro _ c;refine Cv.cnd.mk (λe=> .inr ⟨(),trivial,kpp,c⟩) (λe=>absurd (by simpa using e) c)
def yMt:newMC.ok Tryz.prog 105:=okw mixed (gokc yLs gok0) 0 (λ_=>[]) (λ_=>[]) [] Tryz.func105 yZm
def clIntRC:Con:=con1 (List Int) (λl=>[iV l]) (λ_=>[]) (λl=>l.length<=1000000) (λl=>iV l) (λ_=>[])
structure WiI where
 n:Int
 lo:Int
 hi:Int
def zF (n lo hi:Int):Int:=lo+n % (hi-lo+1)
def withinC:Con:=con1 WiI (λi=>[zA i.n,zA i.lo,zA i.hi]) (λ_=>[]) (λi=>i64r i.n/\-1000000<=i.lo/\i.lo<=i.hi/\i.hi<=1000000) (λi=>zA (zF i.n i.lo i.hi)) (λ_=>[])
def dA (rule:Int):Prd:=⟨[67,76],[320,321,323],5,0,1000,200,rule,4,2,40,[500,505,490]⟩
def threeC:Con:=con1 Int (λn=>[zA n]) (λ_=>[]) (λ_=>True) (λn=>prdV (dA n)) (λ_=>[])
def yLt (l:List Int):Prop:=
 ∀(b:Bool),(b=ao->iE l=[])->cnd b (∃(o:Unit),iE l=[]/\True) ((0+(iE l).length)*(8:Nat)<=(140737488355328:Nat)/\∃(o:Unit),iE l=[]++iE l/\True)
def yBa (l:List Int):Prop:=
 ∀(b:Bool),(b=ao->iE l=[])->cnd b (∃(o:Unit),iE l=[]/\True) ((0+(iE l).length)*(8:Nat)<=(140737488355328:Nat)/\∃(o:Unit),iE l=[]++iE l/\True)
def m5 (a:WiI):=(aq.wrap (aq.wrap (a.hi-a.lo)+1))
def z6y (i:WiI):Prop:=
 aq=aq/\aq.wrap (aq.wrap (i.hi-i.lo)+1)≠0/\cnd (decide (i.n.tmod (m5 i)<0)) (∃(a:Unit),zF i.n i.lo i.hi=aq.wrap (i.lo+aq.wrap (aq.wrap (aq.wrap (i.n.tmod (m5 i)+i.hi)-i.lo)+1))/\True) (∃(a:Unit),zF i.n i.lo i.hi=aq.wrap (i.lo+i.n.tmod (m5 i))/\True)
def yFl (n:Int):Prop:=
 ∃(a:Unit),sb [(67:UInt8),(76:UInt8)]=ByteArray.mk #[(67:UInt8),(76:UInt8)]/\iE [(320:Int),(321:Int),(323:Int)]=[[dI 320],[dI 321],[dI 323]]/\dh ((5:Int))/\dh ((0:Int))/\dh ((1000:Int))/\dh ((200:Int))/\n=n/\dh ((4:Int))/\dh ((2:Int))/\dh ((40:Int))/\iE [(500:Int),(505:Int),(490:Int)]=[[dI 500],[dI 505],[dI 490]]/\True
def yAp:clIntRC.ok Tryz.prog 49:=okw (V:=yLt) mixed gok0 0 (λ_=>[]) (λ_=>[]) [] Tryz.func49 λ(l:List Int) h=>by
 have h:l.length<=1000000:=h;exactλb hb=>Cv.cnd.mk (λe=>⟨(),hb e,trivial⟩) (λ_=>⟨by rw[y6c,yZ];omega,(),rfl,trivial⟩)
def zYr:clIntRC.ok Tryz.prog 50:=okw (V:=yBa) mixed gok0 0 (λ_=>[]) (λ_=>[]) [] Tryz.func50 λ(l:List Int) h=>by
 have h:l.length<=1000000:=h;exactλb hb=>Cv.cnd.mk (λe=>⟨(),hb e,trivial⟩) (λ_=>⟨by rw[y6c,yZ];omega,(),rfl,trivial⟩)
def yJt:threeC.ok Tryz.prog 31:=okw (V:=yFl) mixed gok0 0 (λ_=>[]) (λ_=>[]) [] Tryz.func31 λ(n:Int) _=>by
 unfold yFl dI;exact kpp
def yPn (i:WiI) (h:withinC.cnd i):z6y i:=by
 obtain⟨⟨a1,a2⟩,a3,a4,a5⟩:i64r i.n/\-1000000<=i.lo/\i.lo<=i.hi/\i.hi<=1000000:=h;unfold z6y m5;rw[w64 (x:=i.hi-i.lo) (by omega),w64 (x:=i.hi-i.lo+1) (by omega)];obtain⟨d,hd⟩:∃d:Int,i.hi-i.lo+1=d:=⟨_,rfl⟩
 rw[hd];have h1:i.n.tmod d=if 0<=i.n then i.n % d else-((-i.n) % d):=by
  split
  ·rename_i h;rw[au h]
  ·rename_i h;have:i.n= -(-i.n):=by omega
   conv=>lhs;rw[this]
   rw[Int.neg_tmod,au (by omega)]
 have hb1:=xBb i.n (show d≠0 by omega);have hb2:=xBc i.n (show 0<d by omega);have hb3:=xBb (-i.n) (show d≠0 by omega);have hb4:=xBc (-i.n) (show 0<d by omega);have key:i.n.tmod d<0->i.n % d=i.n.tmod d+d:=λhneg=>by
  have:=Int.emod_eq_of_lt (a:=i.n.tmod d+d) (b:=d) (by rw[h1]at hneg ⊢;split at hneg<;>split<;>omega) (by omega);rw[<- this,Int.add_emod_right];have e:=Int.tmod_add_mul_tdiv i.n d
  conv=>lhs;rw[<- e]
  rw[av]
 have key2:¬i.n.tmod d<0->i.n % d=i.n.tmod d:=λhneg=>by
  have hlt:i.n.tmod d<d:=by rw[h1];split<;>omega
  have:=Int.emod_eq_of_lt (a:=i.n.tmod d) (b:=d) (by omega) hlt;rw[<- this];have e:=Int.tmod_add_mul_tdiv i.n d
  conv=>lhs;rw[<- e]
  rw[av]
 refine⟨rfl,by omega,zI (λc=>⟨(),?_,trivial⟩) (λc=>⟨(),?_,trivial⟩)⟩
 ·have k:=key c;rw[zF,hd,k];rw[w64 (x:=i.n.tmod d+i.hi) (by omega),w64 (x:=i.n.tmod d+i.hi-i.lo) (by omega),w64 (x:=i.n.tmod d+i.hi-i.lo+1) (by omega),w64 (by omega)];omega
 ·have k:=key2 c;rw[zF,hd,k,w64 (by omega)]
def within_ok:withinC.ok Tryz.prog 11:=okw mixed gok0 0 (λ_=>[]) (λ_=>[]) [] Tryz.func11 yPn
def zDh (l:List (Int×Int)) (k:Int):Option Int:=(l.find? λx=>decide (x.1=k)).map (·.2)
def yIw (l:List (Int×Int)) (k:Int):∀p∈yO l,like (ax aq k) p.1=ao:=by
 intro p hp;obtain⟨x,_,rfl⟩:=y6n.1 hp;rfl
def pL (k:Int):∀l:List (Int×Int),kK (ax aq k) (yO l)=(zDh l k).map λv=>[D.v (.int .i64 v)]
 |[]=>rfl
 |(a,v)::l=>by
  have ih:=pL k l;show(bif (keq .i64 .i64 && decide (k=a))then _ else kK _ (yO l))=_;by_cases h:k=a
  ·subst h;simp[zDh,keq]
  ·have h':¬a=k:=λe=>h e.symm
   rw[show(keq .i64 .i64 && decide (k=a))=ap by simp[h],cond_false,ih];simp[zDh,xBe,h']
structure Rep where
 kind:Int
 id:Int
 inst:Int
 side:Int
 price:Int
 qty:Int
 left:Int
 why:Int
 deriving DecidableEq
@[reducible] def y2r (r:Rep):V:= .agg [zA r.kind,zA r.id,zA r.inst,zA r.side,zA r.price,zA r.qty,zA r.left,zA r.why]
def xQ (r:Rep):List D:=[.v (.int .i64 r.kind),.v (.int .i64 r.id),.v (.int .i64 r.inst),.v (.int .i64 r.side),.v (.int .i64 r.price),.v (.int .i64 r.qty),.v (.int .i64 r.left),.v (.int .i64 r.why)]
def z0e (k v:Int):List (Int×Int)->List (Int×Int)
 |[]=>[(k,v)]
 |(a,b)::l=>if k=a then(a,v)::l else(a,b)::z0e k v l
def z1f (k:Int):List (Int×Int)->List (Int×Int)
 |[]=>[]
 |(a,b)::l=>if k=a then l else(a,b)::z1f k l
def bj (t:Nat):SAnn:={ι:=Bool,slots:=λb=>[(t,yP b)],rows:=λ_=>[]}
def ij (t:Nat):SAnn:={ι:=Int,slots:=λn=>[(t,zA n)],rows:=λ_=>[]}
end Sx
