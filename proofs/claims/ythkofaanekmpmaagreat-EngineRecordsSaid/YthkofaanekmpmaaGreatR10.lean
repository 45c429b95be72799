/- Texts of ours. No condition. -/
import Derived.Shelf.Spec.SlicesGrow
import Derived.Test.YthkofaanekmpmaaGreatR9
set_option linter.all false
open Sx.AObj renaming fro->aa,cells->ab,adt->ac,objs->ae,map->af,own->ag
open Go.IntKind renaming i64->aj,u8->ak,u64->am
open List renaming map->ao
open Bool renaming false->ap,true->aq
open Go.Builtin renaming zeroCells->ar
open Option renaming some->au,none->av
open Go.Value renaming string->aw
open ByteArray renaming mk->ax
open BitVec renaming ofInt->ay
open Go renaming grownCap->az,TypeId->ba,size_zeroCells->bc
namespace Sx
set_option maxRecDepth 100000
open Go Cv Go.Proofs
def growR:Go.Shelf.Ren:=⟨λx=>if x=4 then 141 else x,λx=>if x=22 then 53 else if x=25 then 5 else x,λx=>x⟩
def yZh:Lays8.n4 Tryz.prog growR where
 mixed:=mixed
 f4:=⟨Tryz.f141.name,by decide+kernel,by kernel_rfl⟩
 t0:=by kernel_rfl
 a0:=λ_=>by kernel_rfl
 z0:=λ_=>by kernel_rfl
 v0:=λ_=>by kernel_rfl
 t3:=by kernel_rfl
 a3:=λ_=>by kernel_rfl
 z3:=λ_=>by kernel_rfl
 v3:=λ_=>by kernel_rfl
 t4:=by kernel_rfl
 a4:=λ_=>by kernel_rfl
 z4:=λ_=>by kernel_rfl
 v4:=λ_=>by kernel_rfl
 t9:=by kernel_rfl
 a9:=λ_=>by kernel_rfl
 z9:=λ_=>by kernel_rfl
 v9:=λ_=>by kernel_rfl
 t20:=by kernel_rfl
 a20:=λ_=>by kernel_rfl
 z20:=λ_=>by kernel_rfl
 v20:=λ_=>by kernel_rfl
 t22:=by kernel_rfl
 a22:=λ_=>by kernel_rfl
 z22:=λ_=>by kernel_rfl
 v22:=λ_=>by kernel_rfl
def yZp:vX Tryz.prog 53=au (5,1,1,#[.int .u8 0]):=by kernel_rfl
def yLa:growC.ok Tryz.prog 141:=by
 intro(n:Nat) hc k L E w ys R hv;obtain⟨c1,c2⟩:1<=n/\n<=1099511627776:=hc;simp only[growC,con1,VRL,VR,DR]at hv;obtain⟨_,_,rfl,⟨rfl,_⟩,_,_,rfl,⟨rfl,_⟩,rfl⟩:=hv;obtain⟨inf,zv,q1,q2,q3,q4,q5,q6⟩:=kG yZp;have hcall:=Any8.slices_Grow_grow yZh inf zv q2 q5 oM av 0 0 n [] w (y6a _) oM (by rw[q4];omega) oM (by simp) (λ_=>rfl) (λa h=>by cases h);rw[show growR.t 25=5 from rfl]at hcall;refine mD (by kernel_rfl) (hcall.mono ?_);rintro en w' ⟨rfl,rfl⟩;have hG:=grownCap_ge w (0+n) 0 5;have H:=((R.hp.drew).new (.cells (([]:List Value).toArray++ar zv.cells (0+n-0)++ar zv.cells (az w (0+n) 0 5-(0+n))) 5))
 have ha:(([]:List Value).toArray++ar zv.cells (0+n-0)++ar zv.cells (az w (0+n) 0 5-(0+n)))=([]++((ar zv.cells (0+n-0)).toList++(ar zv.cells (az w (0+n) 0 5-(0+n))).toList)).toArray:=by
  apply Array.ext';simp
 have hz:zv.cells.size=1:=by rw[q6];rfl
 have hl:([]++((ar zv.cells (0+n-0)).toList++(ar zv.cells (az w (0+n) 0 5-(0+n))).toList)).length=az w (0+n) 0 5*1:=by
  rw[y7u,y5d,y9c,y9c,bc,bc,hz];omega
 rw[ha]at H ⊢;have H3:=H.slmk (n:=0) (sz:=1) (by simp) hl (y6l _);obtain⟨E',r1,r2,r3⟩:=cG (rows:=[]) (els:=[]) (nx:=0) R.nx (by simp[DRL]) (λx hx=>by cases hx) H3;exact⟨_,rfl,_,y6r.2 rfl,(),trivial,E',r1,r3,⟨r2.nx,r2.hp⟩⟩
def zUu {ls:List (List UInt8)} {k:Nat} {l:List UInt8} (h:ls[k]? =au l):zE (ls.map rcE) k 0 1=au [D.ro 1 (bE l)]:=elA h (by simp[rcE]) rfl
def tJ {α:Type} {ls:List (List α)} {k:Nat} {l:List α} (h:ls[k]? =au l):(ls.take (k+1)).flatten=(ls.take k).flatten++l:=by
 rw[y6n,h,y8h,xAe];simp
def z8i {α:Type} (ls:List (List α)) (k:Nat):(ls.take k).flatten.length<=ls.flatten.length:=by
 conv=>rhs;rw[<- y7l k ls,xAe,y5d]
 omega
def y0x (ls:List (List UInt8)) (h:flatC.cnd ls):z9n ls:=by
 obtain⟨h1,h2,h3⟩:1<=ls.flatten.length/\ls.flatten.length<=1099511627776/\ls.length<=1000:=h;unfold z9n bV kT;rw[y5f];refine⟨0,rfl,rfl,λk=>k<=ls.length,λk=>ls.length-k,y6l _,λk hk=>zH (λhlt=> ?_) (λhlt=> ?_)⟩
 ·obtain⟨l,hl⟩:=yD (l:=ls) (i:=k) oM;have hk:k<=ls.length:=hk;have e1:=z8i ls (k+1);rw[tJ hl,y5d]at e1;refine⟨⟨oM,oM⟩,bE l,zUu hl,zH (λc=> ?_) (λ_=>⟨k+1,?_,wjn oM,Z9,Z9,trivial⟩)⟩
  ·rw[yK,w64 (by omega)]at c;omega
  ·rw[tJ hl,y5d,yK,w64 (by omega)];simp
 ·obtain rfl:k=ls.length:=by have hk:k<=ls.length:=hk;omega
  rw[y8d];refine⟨ls.flatten.length,trivial,rfl,⟨h1,h2⟩,λ_ _=>⟨0,rfl,rfl,λk=>k<=ls.length,λk=>ls.length-k,y6l _,λk hk=>zH (λhlt=> ?_) (λhlt=> ?_)⟩⟩
  ·obtain⟨l,hl⟩:=yD (l:=ls) (i:=k) oM;have hk:k<=ls.length:=hk;have e1:=z8i ls (k+1);rw[tJ hl,y5d]at e1;refine⟨⟨oM,oM⟩,bE l,zUu hl,by rw[yK,yK];omega,k+1,wjn oM,by rw[tJ hl,zJa],Z9,Z9,trivial⟩
  ·obtain rfl:k=ls.length:=by have hk:k<=ls.length:=hk;omega
   rw[y8d];exact⟨(),rfl,trivial⟩
def z7t:flatC.ok Tryz.prog 94:=yTp (gokc yLa gok0) y0x
def dnew_ok:dnewC.ok Tryz.prog 32:=okw (V:=yZj) mixed gok0 0 (λ_=>[]) (λ_=>[]) [] Tryz.func32 λ(_:Unit) _=>⟨(),rfl,rfl,trivial⟩
def yOx:dappC.ok Tryz.prog 140:=okw (V:=ySb) mixed gok0 0 (λ_=>[]) (λ_=>[]) [0] Tryz.func140 λ(i:DbI) h=>by
 have h:i.d.b.length+i.l.length<=1048576:=h;unfold ySb;rw[yK,yK];refine zH (λc=> ?_) (λ_=>⟨oM,(),rfl,rfl,zJa _ _,trivial⟩);rw[w64 (by omega)]at c;omega
def yLm:dsynC.ok Tryz.prog 149:=okw (V:=y2a) mixed gok0 0 (λ_=>[]) (λ_=>[]) [0] Tryz.func149 λ(d:Dk) h=>⟨(),by rw[yK],rfl,trivial⟩
def yLu:dbytC.ok Tryz.prog 46:=okw (V:=y1n) mixed (gokc zPz gok0) 0 (λ_=>[]) (λ_=>[]) [0] Tryz.func46 λ(d:Dk) h=>by
 obtain⟨h1,h2⟩:d.ok:=h;exact⟨_,rfl,by rw[yK];omega,λ_ _=>⟨(),rF3 trivial⟩⟩
def z2w:cloneBN.ok Tryz.prog 99:=yBm gok0 λi h=>λb hb=>
 Cv.cnd.mk (λe=>⟨(),hb e,trivial⟩) (λ_=>⟨by rw[y6e,Nat.mul_one];exact h,(),rfl,trivial⟩)
def yPu:dswpC.ok Tryz.prog 139:=okw (V:=yRi) mixed (gokc z2w gok0) 0 (λ_=>[]) (λ_=>[]) [0] Tryz.func139 λ(i:DbI) h=>by
 have h:i.l.length<=1048576:=h;unfold yRi;refine zH (λc=> ?_) (λ_=>⟨_,rfl,by rw[yK];omega,λ_ _=>⟨(),rfl,by rw[yK],rfl,trivial⟩⟩);rw[yK]at c;omega
def yNj:dcraC.ok Tryz.prog 96:=okw (V:=yRw) mixed gok0 0 (λ_=>[]) (λ_=>[]) [0] Tryz.func96 λ(i:DnI) h=>by
 obtain⟨h1,h2⟩:i.d.ok:=h;have e0:(if(0:Int)>i.n then(0:Int)else i.n)=max i.n 0:=by rw[Int.max_def];split<;>split<;>omega
 have e1:aj.wrap (((bE i.d.b).length:Int)-i.d.safe)=(i.d.b.length:Int)-i.d.safe:=by rw[yK,w64 (by omega)]
 have hk:(i.d.keep i.n:Int)=i.d.safe+min (max i.n 0) ((i.d.b.length:Int)-i.d.safe):=by rw[Dk.keep];omega
 have e2:aj.wrap ((i.d.safe:Int)+min (max i.n 0) ((i.d.b.length:Int)-i.d.safe))=i.d.keep i.n:=by rw[w64 (by omega),hk]
 unfold yRw nU;rw[e0,e1,e2,y5x,yK,y5w,yK,<- rY];exact⟨⟨oM,oM⟩,(),oM,rfl,trivial⟩
def y1l:∀n:Fin 256,lob (aj.wrap (ay aj.bits (if aj.signed=aq then(-1:Int)else aj.max) ^^^ ay aj.bits (n.val:Int)).toNat)=UInt8.ofNat (255-n.val):=by decide+kernel
def y4f:∀n:Fin 256,ak.wrap (ay ak.bits (if ak.signed=aq then(-1:Int)else ak.max) ^^^ ay ak.bits (n.val:Int)).toNat=255-(n.val:Int):=by decide+kernel
def gH (l:List UInt8):(xJ l).length=l.length+6:=by
 simp only[xJ,y5j,y5d,qH]
def yUk (l:List UInt8) (h:frameC.cnd l):yHm l:=by
 have h:l.length<=255:=h;have hn:=y1l ⟨l.length,oM⟩;dsimp only at hn;unfold yHm;rw[yK];revert hn;generalize aj.wrap (ay aj.bits (if aj.signed=aq then(-1:Int)else aj.max) ^^^ ay aj.bits (l.length:Int)).toNat=X;intro hn;refine zH (λc=>by omega) (λ_=>⟨(),trivial,λ_ _=>⟨⟨[],l.length⟩,rfl,rfl,by simp[WN.ok],λ_ _=>⟨⟨_,_⟩,rfl,rfl,by simp[WN.ok],λ_ _=>⟨?_,l,rfl,oM,λ_ _=>⟨⟨_,mJ l⟩,rfl,zJa _ _,⟨?_,eI l⟩,λ_ _=>⟨_,rfl,?_,λ_ _=>⟨(),rfl,?_,trivial⟩⟩⟩⟩⟩⟩⟩)
 ·rw[yK];simp;omega
 ·dsimp only;simp;omega
 ·dsimp only;simp[qH];omega
 ·dsimp only;rw[hn,xJ];simp
def yKe:frameC.ok Tryz.prog 79:=okw mixed (gokc z5w (gokc z9c (gokc z2a (gokc yKn (gokc z6d gok0))))) 0 (λ_=>yWm) (λ_=>[]) [] Tryz.func79 yUk
def yEw {c:Int} (h:0<=c/\c<4294967296):qU (le c 4)=c:=by
 simp only[le,qU,y0v];omega
def zSl {l:List UInt8} (h:l.length<=255) (r:List UInt8):zCm (xJ l++r)=(l,6+l.length,0):=by
 have h0:((xJ l++r).getD 0 0).toNat=l.length:=by
  have:=yRa (n:=(l.length:Int)) oM;show(lob (l.length:Int)).toNat=l.length;omega
 have h1:((xJ l++r).getD 1 0).toNat=255-l.length:=by
  show(UInt8.ofNat (255-l.length)).toNat=_;exact UInt8.toNat_ofNat_of_lt' (by
                                     have:255-l.length<256:=by omega
                                     simpa using this)
 have h2:(xJ l++r).drop 2=l++(le (mJ l) 4++r):=by
  show(l++le (mJ l) 4)++r=_;rw[y5l]
 have h3:(xJ l++r).drop (2+l.length)=le (mJ l) 4++r:=by
  rw[<- y8o,h2,List.drop_left]
 unfold zCm;rw[h0,h1,h2,h3,xBk,List.take_left' (qH 4 _),yEw (eI l)];rw[y5e (by rw[y5d,gH];omega),y5e (by omega),y5e (by rw[y5d,gH];omega),y5e (by simp)]
def y2u (i:OpI) (h:wopC.cnd i):y0n i:=by
 obtain⟨h1,h2⟩:i.k<=i.b.length/\i.b.length<=1099511627776:=h;have ex:i.x=zCm (i.b.drop i.k):=rfl;have hll:(i.b.drop i.k).length<=1099511627776:=by rw[y6c];omega
 have bad:∀e:Int,e≠0->i.x.2.2=e->∀{A:Prop},A\/∃o:Unit,True/\(0:Int)=0/\i.x.2.2=e/\(i.x.2.2=0->False):=λe he hx=> .inr ⟨(),trivial,rfl,hx,λh=>he (hx▸h)⟩
 unfold y0n lD zEc zNs f8 cO aI zNz;rw[y5x,<- zFp,yK i.b];generalize i.b.drop i.k=l at*;rw[yK l];refine zH (λc=>by omega) (λ_=>⟨⟨oM,oM⟩,zH (λc=>bad 10 Z8 (by rw[ex,zCm,y5g (by omega)])) (λc=> ?_)⟩);obtain⟨a,ha⟩:∃a,l[0]? =au a:=⟨_,y6g oM⟩
 obtain⟨b,hb⟩:∃b,l[1]? =au b:=⟨_,y6g oM⟩
 have ea:l.getD 0 0=a:=by rw[y5n,ha];rfl
 have eb:l.getD 1 0=b:=by rw[y5n,hb];rfl
 have la:=a.toNat_lt;have hn:=y4f ⟨a.toNat,la⟩;dsimp only at hn;refine⟨⟨oM,oM⟩,b.toNat,uU hb,⟨oM,oM⟩,a.toNat,uU ha,?_⟩;rw[hn];have wa:aj.wrap (a.toNat:Int)=a.toNat:=w64 oM;have w2:aj.wrap ((2:Int)+a.toNat)=2+a.toNat:=w64 oM;have w3:aj.wrap ((2:Int)+a.toNat+4)=2+a.toNat+4:=w64 oM;have w4:aj.wrap ((i.k:Int)+(2+a.toNat))=i.k+(2+a.toNat):=w64 oM;have w5:aj.wrap ((i.k:Int)+(2+a.toNat)+4)=i.k+(2+a.toNat)+4:=w64 oM;have t1:((2:Int)+a.toNat).toNat=2+a.toNat:=by omega
 have t2:((2:Int)+a.toNat+4).toNat=2+a.toNat+4:=by omega
 refine Cv.cnd.mk (λc2=>bad 14 Z8 ?_) (λc2=>⟨⟨oM,oM⟩,a.toNat,uU ha,?_⟩)
 ·have c2:¬((b.toNat:Int)=255-a.toNat):=by simpa using c2
  rw[ex,zCm,y5e (by omega),ea,eb,y5g (by omega)]
 have c2:(b.toNat:Int)=255-a.toNat:=by simpa using c2
 rw[wa,w2,w3,w4,w5,t1,t2,show Int.toNat 2=2 from rfl];refine zH (λc3=>bad 10 Z8 ?_) (λc3=> ?_)
 ·rw[ex,zCm,y5e (by omega),ea,eb,y5e (by omega),y5g (by omega)]
 have l1:((l.take (2+a.toNat+4)).drop (2+a.toNat)).length=4:=by rw[y6c,y5w];omega
 have g1:(l.take (2+a.toNat+4)).drop (2+a.toNat)=(l.drop (2+a.toNat)).take 4:=by rw[List.drop_take];congr 1;omega
 have g2:(l.take (2+a.toNat)).drop 2=(l.drop 2).take a.toNat:=by rw[List.drop_take];congr 1;omega
 have g3:RN.got ⟨(l.take (2+a.toNat+4)).drop (2+a.toNat),ap,4⟩=(l.drop (2+a.toNat)).take 4:=by
  rw[RN.got,y5e (by simp only[RN.bad,l1];decide)];dsimp only;rw[y5q (by omega),g1]
 have l2:((l.drop 2).take a.toNat).length=a.toNat:=by rw[y5w,y6c];omega
 refine⟨⟨oM,oM,oM⟩,(l.take (2+a.toNat+4)).drop (2+a.toNat),by rw[zFp,rY],oM,λ_ _=>⟨⟨oM,oM,oM⟩,⟨_,ap,4⟩,rfl,rfl,⟨Z9,Z9⟩,λ_ _=>⟨(l.take (2+a.toNat)).drop 2,by rw[zFp,rY],by rw[g2];omega,λ_ _=> ?_⟩⟩⟩;rw[g2,g3];have hr:=aN ((l.drop (2+a.toNat)).take 4);have hl4:((l.drop (2+a.toNat)).take 4).length=4:=by rw[<- g1];exact l1
 rw[hl4]at hr;rw[yYs (by omega)];refine Cv.cnd.mk (λc4=>bad 14 Z8 ?_) (λc4=> ?_)
 ·rw[ex,zCm,y5e (by omega),ea,eb,y5e (by omega),y5e (by omega),y5g (by simpa using c4)]
 have ex2:i.x=((l.drop 2).take a.toNat,6+a.toNat,0):=by
  rw[ex,zCm,y5e (by omega),ea,eb,y5e (by omega),y5e (by omega),y5e (by simpa using c4)]
 rw[ex2,<- rY,<- zFp,g2,yK,l2];exact⟨⟨oM,oM,oM⟩,oM,.inl ⟨(),Z9,rfl,rfl,rfl⟩⟩
def ySo:wopC.ok Tryz.prog 180:=okw mixed (gokc z7x (gokc z5l (gokc z2a gok0))) 0 (λ_=>[]) (λ_=>[]) [] Tryz.func180 y2u
def yPj (A B:List (List UInt8)):fsB (A++B)=fsB A++fsB B:=by rw[fsB,y7c];rfl
def zMo (l:List UInt8) (L:List (List UInt8)):fsB (l::L)=xJ l++fsB L:=rfl
def yDi {L:List (List UInt8)} {k:Nat} {l:List UInt8} (h:L[k]? =au l):fsB (L.take (k+1))=fsB (L.take k)++xJ l:=nT h
def zRb (L:List (List UInt8)) (k:Nat):fsB L=fsB (L.take k)++fsB (L.drop k):=by rw[<- yPj,y7l]
def z5s (L:List (List UInt8)):L.length<=(fsB L).length:=by
 induction L with
 |nil=>exact y6a _
 |cons l L ih=>rw[zMo,y5d,gH,y5j];omega
def yYw (i:ScI) (h:scanC.cnd i):ySe i:=by
 obtain⟨h1,h2,h3⟩:i.ok:=h;have hn:=z5s i.L;have hsp:∀k,(fsB i.L).length=(fsB (i.L.take k)).length+(fsB (i.L.drop k)).length:=λk=>by
  have:=congrArg List.length (zRb i.L k);rwa [y5d]at this
 unfold ySe zIp gX;rw[yK,y5d];refine⟨0,rfl,rfl,λk=>k<=i.L.length,λk=>i.L.length-k,y6l _,λk hk=>zH (λhlt=> ?_) (λhlt=> ?_)⟩
 ·have hk:k<=i.L.length:=hk;have hs:=hsp k;have hx:(OpI.mk (fsB i.L++i.t) (fsB (i.L.take k)).length).x=zCm (fsB (i.L.drop k)++i.t):=by
   show zCm ((fsB i.L++i.t).drop _)=_;rw[zRb i.L k,y5l,List.drop_left]
  refine⟨⟨fsB i.L++i.t,(fsB (i.L.take k)).length⟩,rfl,rfl,⟨by dsimp only;rw[y5d];omega,by dsimp only;rw[y5d];omega⟩,λ_ e0=> ?_,λ_ e1=> ?_⟩
  ·rw[hx]at e0 ⊢;rcases y7n k i.L.length with hk2|hk2
   ·obtain⟨l,hl⟩:=yD hk2;have hd:i.L.drop k=l::i.L.drop (k+1):=by
     rw[y7m hk2];congr 1;rw[y6g hk2]at hl;exact Option.some.inj hl
    have hl255:=h1 l (y5p hl);rw[hd,zMo,y5l,zSl hl255];refine⟨by rw[y5f,y5w];omega,k+1,?_,?_,Z9,Z9,trivial⟩
    ·rw[yDi hl,y5d,gH];dsimp only;omega
    ·rw[y6n,hl];simp[rcE]
   ·rw[y8m hk2]at e0;rw[show fsB ([]:List (List UInt8))++i.t=i.t from rfl,h2]at e0;cases e0
  ·rw[hx]at e1 ⊢;rcases y7n k i.L.length with hk2|hk2
   ·obtain⟨l,hl⟩:=yD hk2;have hd:i.L.drop k=l::i.L.drop (k+1):=by
     rw[y7m hk2];congr 1;rw[y6g hk2]at hl;exact Option.some.inj hl
    have hl255:=h1 l (y5p hl);rw[hd,zMo,y5l,zSl hl255]at e1;exact absurd rfl e1
   ·obtain rfl:k=i.L.length:=by omega
    rw[List.drop_length,show fsB ([]:List (List UInt8))++i.t=i.t from rfl,h2,y8d];exact Cv.cnd.mk (λe=>by cases e) (λ_=>Cv.cnd.mk (λ_=>⟨(),rF3 trivial⟩) (λe=>by cases e))
 ·have hk:k<=i.L.length:=hk;have hs:=hsp k;have h5:=z5s (i.L.drop k);rw[y6c]at h5;obtain rfl:k=i.L.length:=by omega
  rw[y8d];exact⟨(),rF3 trivial⟩
def yNd:scanC.ok Tryz.prog 138:=okw mixed (gokc ySo gok0) 0 (λ_=>[]) (λi=>y1o i) [] Tryz.func138 yYw
def yXn:jopC.ok Tryz.prog 87:=okw (V:=yYy) mixed (gokc yLu (gokc yNd (gokc yPu gok0))) 0 (λ_=>[]) (λ_=>[]) [] Tryz.func87 λ(i:JoI) h=>by
 obtain⟨hs,hd⟩:(ScI.mk i.L i.t).ok/\i.d.ok:=h;have e0:(bE i.d.b).length=(fsB i.L).length+i.t.length:=by rw[yK,JoI.d,y5d]
 have h3:=hs.2.2;dsimp only at h3;unfold yYy;refine⟨i.d,rfl,hd,λ_ _=>⟨⟨i.L,i.t⟩,rfl,hs,λ_ _=>zH (λc=> ?_) (λc=> ?_)⟩⟩
 ·have ht:i.t≠[]:=λe=>by rw[e0,e]at c;simp at c
  refine⟨⟨oM,by rw[e0];dsimp only;omega⟩,⟨i.d,fsB i.L⟩,?_,rfl,Z9,λ_ _=>⟨(),rfl,?_,by rw[y5f],rfl,trivial⟩⟩
  ·dsimp only;rw[y5x,<- rY,JoI.d,xBk]
  ·rw[JoI.d',y5e ht]
 ·have ht:i.t=[]:=List.length_eq_zero_iff.1 (by rw[e0]at c;dsimp only at c;omega);refine⟨(),rfl,?_,by rw[y5f],rfl,trivial⟩;rw[JoI.d',y5g ht]
def yOw:jappC.ok Tryz.prog 93:=okw (V:=y2g) mixed (gokc yKe (gokc yOx gok0)) 0 (λ_=>[]) (λ_=>[]) [] Tryz.func93 λ(i:JaI) h=>by
 obtain⟨h1,h2,h3,h4⟩:i.l.length<=255/\i.d.b.length+i.l.length+6<=1048576/\0<=i.n/\i.n<=1048576:=h;exact⟨i.l,rfl,h1,λ_ _=>⟨⟨i.d,xJ i.l⟩,rfl,rfl,by dsimp only;rw[gH];omega,λ_ _=>⟨(),rfl,by rw[w64 (by omega)],rfl,trivial⟩⟩⟩
def yLt:jsynC.ok Tryz.prog 102:=okw (V:=yZw) mixed (gokc yLm gok0) 0 (λ_=>[]) (λ_=>[]) [] Tryz.func102 λ(i:JaI) h=>⟨i.d,rfl,h,λ_ _=>⟨(),rfl,rfl,trivial⟩⟩
open Classical
def eO (i:RN):i.left.length<=i.l.length:=by
 unfold RN.left;split
 ·omega
 ·rw[y6c];omega
def mQ {r:RB} (h:r.ok):r.byte.2.ok:=y8a (eO _) h
def gD {r:RB} (h:r.ok):r.long.2.ok:=y8a (eO _) h
def nI (l:List UInt8):bE l=qY ⟨l.toArray⟩:=rfl
def fbyteC:Con:=con1 WN (λi=>[roV 1 (bE i.l),zA i.n]) (λ_=>[]) WN.ok (λ_=> .own 0) (λi=>[.own tU8 1 (bE (i.l++[lob i.n]))])
def flongC:Con:=con1 WN (λi=>[roV 1 (bE i.l),zA i.n]) (λ_=>[]) WN.ok (λ_=> .own 0) (λi=>[.own tU8 1 (bE (i.l++le i.n 8))])
def yUc (i:WN):List SAnn:=[{ι:=Nat,slots:=λj=>[(5,.own 0),(6,tT ((8*j:Nat):Int))],rows:=λj=>[.own tU8 1 (bE (i.l++le i.n j))]}]
def ySr (i:WN):Prop:=
 (0+(bE i.l).length)*(1:Nat)<=(140737488355328:Nat)/\(([]++bE i.l).length+1)*(1:Nat)<=(140737488355328:Nat)/\∃(o:Unit),bE (i.l++[lob i.n])=[]++bE i.l++[[D.v (.int .u8 (ak.wrap i.n))]]/\True
def yTm (i:WN):Prop:=
 (0+(bE i.l).length)*(1:Nat)<=(140737488355328:Nat)/\∃(i0:Nat),(↑(8*i0):Int)=0/\bE (i.l++le i.n i0)=[]++bE i.l/\∃(I:Nat->Prop),∃(μ:Nat->Nat),I i0/\∀(i_1:Nat),I i_1->cnd (decide ((↑(8*i_1):Int)<64)) (0<=(↑(8*i_1):Int)/\((bE (i.l++le i.n i_1)).length+1)*(1:Nat)<=(140737488355328:Nat)/\∃(i':Nat),(↑(8*i'):Int)=am.wrap ((↑(8*i_1):Int)+8)/\bE (i.l++le i.n i')=bE (i.l++le i.n i_1)++[[D.v (.int .u8 (ak.wrap (bL am (am.wrap i.n) (↑(8*i_1):Int))))]]/\I i'/\μ i'<μ i_1/\True) (∃(o:Unit),bE (i.l++le i.n 8)=bE (i.l++le i.n i_1)/\True)
def zWj:∀(k m:Nat) (n:Int),k<=m->(le n m).take k=le n k
 |0,m,n,h=>by simp[le]
 |k+1,m+1,n,h=>by simp only[le,y6p];rw[zWj k m _ (by omega)]
def z8d {k:Nat} (h:k<=8) (n:Int):le (am.wrap n) k=le n k:=by
 rw[<- zWj k 8 _ h,zSg,zWj k 8 _ h]
def zXj:fbyteC.ok Tryz.prog 143:=okw (V:=ySr) mixed gok0 0 (λ_=>[]) (λ_=>[]) [] Tryz.func143 λ(i:WN) h=>by
 have h:i.l.length+8<=1099511627776:=h;refine⟨by rw[yK];omega,by rw[y7u,yK];omega,(),?_,trivial⟩;rw[zJa,zAe];rfl
def yGd:flongC.ok Tryz.prog 86:=okw (V:=yTm) mixed gok0 0 (λ_=>[]) (λi=>yUc i) [] Tryz.func86 λ(i:WN) h=>by
 have h:i.l.length+8<=1099511627776:=h;refine⟨by rw[yK];omega,0,rfl,by simp[le],λj=>j<=8,λj=>8-j,Z8,λj hj=>zH (λhlt=> ?_) (λhlt=> ?_)⟩
 ·dsimp only at hj;have hu:=dU i.n;refine⟨oM,?_,j+1,?_,?_,by(first|omega|(dsimp only;omega)),by(first|omega|(dsimp only;omega)),trivial⟩
  ·rw[yK,y5d,qH];omega
  ·rw[zBp (by omega)];omega
  ·rw[zAe,zAs .u64 _ (8*j) (by show 8*j<=64;omega),show(2:Int) ^ (8*j)=256 ^ j by rw[show(256:Int)=2 ^ 8 from rfl,<- Int.pow_mul],<- z8d (k:=j+1) (by omega) i.n,z9a,z8d (by omega),<- y5l,zJa];rfl
 ·dsimp only at hj;obtain rfl:j=8:=by omega
  exact⟨(),rfl,trivial⟩
def y1k (s:List UInt8):Prop:=
 ∃(a:Nat×Nat),(↑a.snd:Int)=0/\sb s=sb s/\a.fst=0/\∃(b:Nat×Nat->Prop),∃(c:Nat×Nat->Nat),b a/\∀(d:Nat×Nat),b d->cnd (d.fst.blt (sb s).size) (cnd (decide ((qB s d)<32)) (∃(e:Unit),f7 s=ap/\True) (cnd ((qB s d)==127) (∃(e:Unit),f7 s=ap/\True) (cnd ((qB s d)==65533) (∃(e:Unit),f7 s=ap/\True) (dS d s b c)))) (cnd (decide ((↑d.snd:Int)>=1)) (∃(e:Unit),f7 s=decide ((↑d.snd:Int)<=12)/\True) (∃(e:Unit),f7 s=ap/\True))
def zIf (a:Cmd):Prop:=∃(b:List UInt8),sb b=sb a.label/\b.length<=140737488355328/\∀(c:Unit),True->cnd (!f7 b) (∃(d:Unit),a.orderE=29/\True) (cnd (decide (a.price>=(-2000000))) (cnd (!decide (a.price<=2000000)) (∃(d:Unit),a.orderE=23/\True) (cnd (decide (a.inst<0)) (∃(d:Unit),a.orderE=20/\True) (cnd (decide (a.inst>255)) (∃(d:Unit),a.orderE=20/\True) (∃(d:Unit),a.orderE=0/\True)))) (∃(d:Unit),a.orderE=23/\True))
def pC (a:Cmd):=(!(sb a.label).toList==(ax #[]).toList)
def yQy (c:Cmd):Prop:=
 cnd (c.side !=1) (cnd (c.side !=2) (∃(a:Unit),c.orderE=21/\True) (cnd (decide (c.time<1)) (∃(a:Unit),c.orderE=27/\True) (cnd (decide (c.time>3)) (∃(a:Unit),c.orderE=27/\True) (cnd (decide (c.qty>=1)) (cnd (!decide (c.qty<=1000000)) (∃(a:Unit),c.orderE=24/\True) (cnd (decide (c.least<0)) (∃(a:Unit),c.orderE=28/\True) (cnd (decide (c.least>c.qty)) (∃(a:Unit),c.orderE=28/\True) (cnd (pC c) (zIf c) (cnd (decide (c.price>=(-2000000))) (cnd (!decide (c.price<=2000000)) (∃(a:Unit),c.orderE=23/\True) (cnd (decide (c.inst<0)) (∃(a:Unit),c.orderE=20/\True) (cnd (decide (c.inst>255)) (∃(a:Unit),c.orderE=20/\True) (∃(a:Unit),c.orderE=0/\True)))) (∃(a:Unit),c.orderE=23/\True)))))) (∃(a:Unit),c.orderE=24/\True))))) (cnd (decide (c.time<1)) (∃(a:Unit),c.orderE=27/\True) (cnd (decide (c.time>3)) (∃(a:Unit),c.orderE=27/\True) (cnd (decide (c.qty>=1)) (cnd (!decide (c.qty<=1000000)) (∃(a:Unit),c.orderE=24/\True) (cnd (decide (c.least<0)) (∃(a:Unit),c.orderE=28/\True) (cnd (decide (c.least>c.qty)) (∃(a:Unit),c.orderE=28/\True) (cnd (pC c) (zIf c) (cnd (decide (c.price>=(-2000000))) (cnd (!decide (c.price<=2000000)) (∃(a:Unit),c.orderE=23/\True) (cnd (decide (c.inst<0)) (∃(a:Unit),c.orderE=20/\True) (cnd (decide (c.inst>255)) (∃(a:Unit),c.orderE=20/\True) (∃(a:Unit),c.orderE=0/\True)))) (∃(a:Unit),c.orderE=23/\True)))))) (∃(a:Unit),c.orderE=24/\True))))
def yDu (c:Cmd):Prop:=
 cnd (decide (c.kind<1)) (∃(a:Unit),c.right=31/\True) (cnd (decide (c.kind>4)) (∃(a:Unit),c.right=31/\True) (cnd (decide (c.id<1)) (∃(a:Unit),c.right=1/\True) (cnd (decide (c.id>1099511627776)) (∃(a:Unit),c.right=1/\True) (cnd (c.kind==1) (∃(a:Cmd),a.kind=c.kind/\a.id=c.id/\a.inst=c.inst/\a.side=c.side/\a.price=c.price/\a.qty=c.qty/\a.least=c.least/\a.time=c.time/\sb a.label=sb c.label/\a.label.length<=140737488355328/\∀(b:Unit),True->∃(d:Unit),c.right=a.orderE/\True) (cnd (c.kind !=2) (cnd (decide (c.qty>=1)) (cnd (!decide (c.qty<=1000000)) (∃(a:Unit),c.right=24/\True) (cnd (c.kind==4) (cnd (decide (c.price>=(-2000000))) (cnd (!decide (c.price<=2000000)) (∃(a:Unit),c.right=23/\True) (∃(a:Unit),c.right=0/\True)) (∃(a:Unit),c.right=23/\True)) (∃(a:Unit),c.right=0/\True))) (∃(a:Unit),c.right=24/\True)) (cnd (c.kind==4) (cnd (decide (c.price>=(-2000000))) (cnd (!decide (c.price<=2000000)) (∃(a:Unit),c.right=23/\True) (∃(a:Unit),c.right=0/\True)) (∃(a:Unit),c.right=23/\True)) (∃(a:Unit),c.right=0/\True)))))))
def y3o (s:List UInt8) (h:labC.cnd s):y1k s:=by
 have h:s.length<=140737488355328:=h;have hr:=zHb s;unfold y1k qB dS;refine⟨(0,0),rfl,rfl,rfl,λx=>x.1<=s.length/\x.2+(u0 s x.1).length=(kQ s).length/\(kQ s).all zQk=(u0 s x.1).all λx=>zQk x.2,λx=>s.length-x.1,⟨oM,by rw[kQ,y5f];simp,by rw[kQ,List.all_map];rfl⟩,?_⟩;rintro⟨p,n⟩ ⟨h1,h2,h3⟩;dsimp only at h1 h2 h3 ⊢;refine Cv.cnd.mk (λhp=> ?_) (λhp=> ?_)
 ·have hp:p<s.length:=by simpa[y8f]using hp
  have hw:=cS s hp;rw[jQ hp,y5j]at h2;rw[jQ hp,List.all_cons]at h3;generalize hc:(Utf8.decode (sb s) p).1=c at h2 h3 ⊢;generalize hww:(Utf8.decode (sb s) p).2=w at h2 h3 hw ⊢;dsimp only at h3;have bad:zQk c=ap->∃(o:Unit),f7 s=ap/\True:=λe=>⟨(),by rw[f7,h3,e];rfl,trivial⟩
  refine zH (λc1=>bad ?_) (λc1=>Cv.cnd.mk (λc2=>bad ?_) (λc2=>Cv.cnd.mk (λc3=>bad ?_) (λc3=> ?_)))
  ·simp[zQk];omega
  ·have c2:(c:Int)=127:=by simpa using c2
   simp[zQk];omega
  ·have c3:(c:Int)=65533:=by simpa using c3
   simp[zQk];omega
  ·have c2:¬(c:Int)=127:=by simpa using c2
   have c3:¬(c:Int)=65533:=by simpa using c3
   have e:zQk c=aq:=by simp[zQk];omega
   refine⟨(p+w,n+1),?_,rfl,rfl,⟨hw.2,by(first|omega|(dsimp only;omega)),by rw[h3,e];rfl⟩,by(first|omega|(dsimp only;omega)),trivial⟩;rw[w64 (by omega)];rfl
 ·have hp:s.length<=p:=by have:=z5o hp;simpa using this
  rw[vY hp]at h2 h3;have h2:n=(kQ s).length:=h2;have h3:(kQ s).all zQk=aq:=h3;refine zH (λc=>⟨(),?_,trivial⟩) (λc=>⟨(),?_,trivial⟩)
  ·rw[f7,h3,<- h2,y5v (show 1<=n by omega)];simp only[y8b];congr 1;simp only[eq_iff_iff];omega
  ·rw[f7,<- h2,y5r (show ¬1<=n by omega)];simp
def ySi:labC.ok Tryz.prog 203:=okw mixed gok0 0 (λ_=>[]) (λs=>y3e s) [] Tryz.func203 y3o
def y3w (a b:Int):(a==b)=decide (a=b):=by
 by_cases h:a=b
 ·subst h;simp
 ·simp[h]
def yYv (a b:Int):(a !=b)=decide (a≠b):=by
 by_cases h:a=b
 ·subst h;simp
 ·simp[h]
def eqB (a b:List UInt8):((sb a).toList==(sb b).toList)=decide (a=b):=by
 rw[pF,pF];by_cases h:a=b
 ·subst h;simp
 ·simp[h]
def yWr:ax #[]=sb []:=rfl
def y1t (c:Cmd) (h:cmdOrdC.cnd c):yQy c:=by
 have h:c.label.length<=140737488355328:=h;unfold yQy pC zIf;simp only[yWr,eqB,yYv];have tail:¬(c.side≠1/\c.side≠2)->cnd (decide (c.time<1)) (∃(o:Unit),c.orderE=27/\True) (cnd (decide (c.time>3)) (∃(o:Unit),c.orderE=27/\True) (cnd (decide (c.qty>=1)) (cnd (!decide (c.qty<=1000000)) (∃(o:Unit),c.orderE=24/\True) (cnd (decide (c.least<0)) (∃(o:Unit),c.orderE=28/\True) (cnd (decide (c.least>c.qty)) (∃(o:Unit),c.orderE=28/\True) (cnd (!decide (c.label=[])) (∃(i:List UInt8),sb i=sb c.label/\i.length<=140737488355328/\∀(o:Unit),True->cnd (!f7 i) (∃(o:Unit),c.orderE=29/\True) (cnd (decide (c.price>=-2000000)) (cnd (!decide (c.price<=2000000)) (∃(o:Unit),c.orderE=23/\True) (cnd (decide (c.inst<0)) (∃(o:Unit),c.orderE=20/\True) (cnd (decide (c.inst>255)) (∃(o:Unit),c.orderE=20/\True) (∃(o:Unit),c.orderE=0/\True)))) (∃(o:Unit),c.orderE=23/\True))) (cnd (decide (c.price>=-2000000)) (cnd (!decide (c.price<=2000000)) (∃(o:Unit),c.orderE=23/\True) (cnd (decide (c.inst<0)) (∃(o:Unit),c.orderE=20/\True) (cnd (decide (c.inst>255)) (∃(o:Unit),c.orderE=20/\True) (∃(o:Unit),c.orderE=0/\True)))) (∃(o:Unit),c.orderE=23/\True)))))) (∃(o:Unit),c.orderE=24/\True))):=by
  intro hs;have e1:c.orderE=if c.time<1\/3<c.time then 27 else if jD c.qty=ap then 24 else if c.least<0\/c.qty<c.least then 28
   else if c.label≠[]/\f7 c.label=ap then 29 else if vS c.price=ap then 23 else if c.inst<0\/255<c.inst then 20 else 0:=by rw[Cmd.orderE,y5e hs]
  refine zH (λd1=>⟨(),by rw[e1,y5g (.inl d1)],trivial⟩) λd1=>zH (λd2=>⟨(),by rw[e1,y5g (.inr d2)],trivial⟩) λd2=> ?_
  rw[y5e (by omega)]at e1;have q (hq:jD c.qty=ap):∃(o:Unit),c.orderE=24/\True:=⟨(),by rw[e1,y5g hq],trivial⟩
  refine zH (λd3=>Cv.cnd.mk (λd4=>q ?_) λd4=> ?_) λd3=>q ?_
  ·have d4:¬c.qty<=1000000:=by simpa using d4
   simp[jD,d4]
  ·have d4:c.qty<=1000000:=by simpa using d4
   have hq:¬jD c.qty=ap:=by simp[jD,d4];omega
   rw[y5e hq]at e1;refine zH (λd5=>⟨(),by rw[e1,y5g (.inl d5)],trivial⟩) λd5=>zH (λd6=>⟨(),by rw[e1,y5g (.inr d6)],trivial⟩) λd6=> ?_
   rw[y5e (by omega)]at e1;have last:¬(c.label≠[]/\f7 c.label=ap)->cnd (decide (c.price>=-2000000)) (cnd (!decide (c.price<=2000000)) (∃(o:Unit),c.orderE=23/\True) (cnd (decide (c.inst<0)) (∃(o:Unit),c.orderE=20/\True) (cnd (decide (c.inst>255)) (∃(o:Unit),c.orderE=20/\True) (∃(o:Unit),c.orderE=0/\True)))) (∃(o:Unit),c.orderE=23/\True):=by
    intro hl;rw[y5e hl]at e1;have pr (hq:vS c.price=ap):∃(o:Unit),c.orderE=23/\True:=⟨(),by rw[e1,y5g hq],trivial⟩
    refine zH (λg1=>Cv.cnd.mk (λg2=>pr ?_) λg2=> ?_) λg1=>pr ?_
    ·have g2:¬c.price<=2000000:=by simpa using g2
     simp[vS,g2]
    ·have g2:c.price<=2000000:=by simpa using g2
     have hp:¬vS c.price=ap:=by simp[vS,g2];omega
     rw[y5e hp]at e1;refine zH (λg3=>⟨(),by rw[e1,y5g (.inl g3)],trivial⟩) λg3=>zH (λg4=>⟨(),by rw[e1,y5g (.inr g4)],trivial⟩) λg4=>⟨(),by rw[e1,y5e (by omega)],trivial⟩
    ·simp[vS];omega
   refine Cv.cnd.mk (λd7=>⟨c.label,rfl,h,λ_ _=>Cv.cnd.mk (λd8=> ?_) λd8=>last ?_⟩) λd7=>last ?_
   ·have d7:¬c.label=[]:=by simpa using d7
    have d8:f7 c.label=ap:=by simpa using d8
    exact⟨(),by rw[e1,y5g ⟨d7,d8⟩],trivial⟩
   ·have d8:f7 c.label=aq:=by simpa using d8
    simp[d8]
   ·have d7:c.label=[]:=by simpa using d7
    simp[d7]
  ·simp[jD];omega
 refine zH (λc1=>zH (λc2=>⟨(),by rw[Cmd.orderE,y5g ⟨c1,c2⟩],trivial⟩) λc2=>tail ?_) λc1=>tail ?_
 ·omega
 ·omega
def yPe:cmdOrdC.ok Tryz.prog 163:=okw mixed (gokc ySi gok0) 1 (λ_=>[]) (λ_=>[]) [] Tryz.func163 y1t
def yVg (c:Cmd) (h:cmdRtC.cnd c):yDu c:=by
 have h:c.label.length<=140737488355328:=h;unfold yDu;simp only[y3w,yYv];refine zH (λc1=>⟨(),by rw[Cmd.right,y5g (.inl c1)],trivial⟩) λc1=>zH (λc2=>⟨(),by rw[Cmd.right,y5g (.inr c2)],trivial⟩) λc2=> ?_
 refine zH (λc3=>⟨(),by rw[Cmd.right,y5e (by omega),y5g (.inl c3)],trivial⟩) λc3=>zH (λc4=>⟨(),by rw[Cmd.right,y5e (by omega),y5g (.inr c4)],trivial⟩) λc4=> ?_
 have e0:c.right=if c.kind=1 then c.orderE else if c.kind≠2/\jD c.qty=ap then 24 else if c.kind=4/\vS c.price=ap then 23 else 0:=by rw[Cmd.right,y5e (by omega),y5e (by omega)]
 refine zH (λc5=>⟨c,?_⟩) λc5=> ?_
 ·rw[y5g c5]at e0;exact kp
 rw[y5e c5]at e0;have last (hn:¬(c.kind≠2/\jD c.qty=ap)):cnd (decide (c.kind=4)) (cnd (decide (c.price>=-2000000)) (cnd (!decide (c.price<=2000000)) (∃(o:Unit),c.right=23/\True) (∃(o:Unit),c.right=0/\True)) (∃(o:Unit),c.right=23/\True)) (∃(o:Unit),c.right=0/\True):=by
  rw[y5e hn]at e0;refine zH (λd1=>zH (λd2=>Cv.cnd.mk (λd3=> ?_) λd3=> ?_) λd2=> ?_) λd1=> ?_
  ·have d3:¬c.price<=2000000:=by simpa using d3
   exact⟨(),by rw[e0,y5g ⟨d1,by simp[vS,d3]⟩],trivial⟩
  ·have d3:c.price<=2000000:=by simpa using d3
   exact⟨(),by rw[e0,y5e (by simp[vS,d3];omega)],trivial⟩
  ·exact⟨(),by rw[e0,y5g ⟨d1,by simp[vS];omega⟩],trivial⟩
  ·exact⟨(),by rw[e0,y5e (by simp[d1])],trivial⟩
 refine zH (λd1=>zH (λd2=>Cv.cnd.mk (λd3=> ?_) λd3=>last ?_) λd2=> ?_) λd1=>last ?_
 ·have d3:¬c.qty<=1000000:=by simpa using d3
  exact⟨(),by rw[e0,y5g ⟨d1,by simp[jD,d3]⟩],trivial⟩
 ·have d3:c.qty<=1000000:=by simpa using d3
  simp[jD,d3];omega
 ·exact⟨(),by rw[e0,y5g ⟨d1,by simp[jD];omega⟩],trivial⟩
 ·omega
def zXx:cmdRtC.ok Tryz.prog 111:=okw mixed (gokc yPe gok0) 1 (λ_=>[]) (λ_=>[]) [] Tryz.func111 yVg
def rtextC:Con:=con1 RB (λi=>[.nm 0 0]) (λi=>[RdB i]) RB.ok (λi=>sV i.text.1) (λi=>[RdB i.text.2])
structure TxB where
 l:List UInt8
 s:List UInt8
def ftextC:Con:=con1 TxB (λi=>[roV 1 (bE i.l),sV i.s]) (λ_=>[]) (λi=>i.l.length+300<=1099511627776/\i.s.length<=255) (λ_=> .own 0) (λi=>[.own tU8 1 (bE (i.l++zKo i.s))])
def r6rightC:Con:=con1 Cmd (λc=>[zGi c]) (λ_=>[]) (λc=>c.label=[]/\c.right=0) (λc=>zA 0) (λ_=>[])
def unJ:SAnn:={ι:=Unit,slots:=λ_=>[],rows:=λ_=>[]}
def yIf:List (Nat×SAnn):=[(4,bj 10),(12,bj 18),(22,unJ),(40,bj 50),(50,unJ),(68,bj 90),(76,bj 103)]
def r6encC:Con:=con1 Cmd (λc=>[zGi c]) (λ_=>[]) (λc=>c.label=[]/\c.right=0) (λc=> .tup [roV 1 (bE c.enc),zA 0]) (λ_=>[])
def cdecC:Con:=con1 (List UInt8) (λb=>[roV 1 (bE b)]) (λ_=>[]) (λb=>b.length<=1099511627776) (λb=> .tup [zGi (xN b).1,zA (xN b).2]) (λ_=>[])
def y2i:List (Nat×SAnn):=[(12,bj 19),(26,{ι:=Cmd×RB,slots:=λ_=>[(4,.nm 0 0),(5,.nm 1 0)],rows:=λx=>[RdB x.2,.cells x.1.cells 80],slots0:=λ_=>[(4,.nm 0 0),(5,.nm 1 0)],rows0:=λx=>[RdB x.2,.cells x.1.cells 80]})]
def yXz (i:RB):Prop:=
 ∃(i_1:RB),ac (List UInt8×Bool) 1 RdU (i_1.l,i_1.b)=RdB i/\i_1.l.length<=1099511627776/\∀(o:Unit),True->∃(i_2:RN),(↑i_2.n:Int)=qU (i_1.n 1).got/\ac (List UInt8×Bool) 1 RdU (i_2.l,i_2.b)=ac (List UInt8×Bool) 1 RdU ((i_1.n 1).left,(i_1.n 1).bad)/\(i_2.n<=255/\i_2.l.length<=1099511627776)/\∀(o:Unit),True->∃(b:ByteArray),dh ((1:Nat))/\bE i_2.got=qY b/\∃(o:Unit),sb ((RB.mk (i.n 1).left (i.n 1).bad).n (qU (i.n 1).got).toNat).got=b/\ac (List UInt8×Bool) 1 RdU (((RB.mk (i.n 1).left (i.n 1).bad).n (qU (i.n 1).got).toNat).left,((RB.mk (i.n 1).left (i.n 1).bad).n (qU (i.n 1).got).toNat).bad)=ac (List UInt8×Bool) 1 RdU (i_2.left,i_2.bad)/\True
def yWi (i:TxB):Prop:=
 cnd (decide ((↑(sb i.s).size:Int)>255)) (((0:Int)<=(255:Int)/\255<=(↑(sb i.s).size:Int))/\∃(i_1:WN),bE i_1.l=bE i.l/\i_1.n=(↑((sb i.s).extract 0 (Int.toNat 255)).size:Int)/\i_1.ok/\∀(o:Unit),True->((bE (i_1.l++[lob i_1.n])).length+(qY ((sb i.s).extract 0 (Int.toNat 255))).length)*(1:Nat)<=(140737488355328:Nat)/\∃(o:Unit),bE (i.l++zKo i.s)=bE (i_1.l++[lob i_1.n])++qY ((sb i.s).extract 0 (Int.toNat 255))/\True) (∃(i_1:WN),bE i_1.l=bE i.l/\i_1.n=(↑(sb i.s).size:Int)/\i_1.ok/\∀(o:Unit),True->((bE (i_1.l++[lob i_1.n])).length+(qY (sb i.s)).length)*(1:Nat)<=(140737488355328:Nat)/\∃(o:Unit),bE (i.l++zKo i.s)=bE (i_1.l++[lob i_1.n])++qY (sb i.s)/\True)
def rU (a:Cmd):Prop:=ab [V.d (dI a.kind),V.d (dI a.id),V.d (dI a.inst),V.d (dI a.side),V.d (dI a.price),V.d (dI a.qty),V.d (dI a.least),V.d (dI a.time),V.d (D.v (aw (sb a.label)))] 80=ab [V.d (dI a.kind),V.d (dI a.id),V.d (dI a.inst),V.d (dI a.side),V.d (dI a.price),V.d (dI a.qty),V.d (dI a.least),V.d (dI a.time),V.d (D.v (aw (sb a.label)))] 80
def jJ (a:Bool->Prop) (b:Bool) (c:Cmd):Prop:=a b/\rU c
def rI (a:Cmd) (b:Bool->Prop):Prop:=∃(c:Bool),c=decide (a.price>2000000)/\jJ b c a
def bD (a:Bool->Prop) (b:Cmd):Prop:=∃(c:Bool),c=ap/\jJ a c b
def wR (a:Bool->Prop) (b:Cmd):Prop:=∃(c:Bool),c=aq/\jJ a c b
def uJ (a:Unit->Prop) (b:Cmd):Prop:=∃(c:Unit),a c/\rU b
def zYi (c:Cmd):Prop:=
 ∃(a:Bool),∃(b:Bool->Prop),cnd (decide (c.kind<1)) (wR b c) (∃(d:Bool),d=decide (c.kind>4)/\jJ b d c)/\∀(d:Bool),b d->cnd d (∃(e:Unit),(0:Int)=(31:Int)/\True) (∃(e:Bool),∃(f:Bool->Prop),cnd (decide (c.id<1)) (wR f c) (∃(g:Bool),g=decide (c.id>1099511627776)/\jJ f g c)/\∀(g:Bool),f g->cnd g (∃(h:Unit),(0:Int)=(1:Int)/\True) (∃(h:Unit),∃(j:Unit->Prop),cnd (c.kind==1) (cnd (c.side !=1) (cnd (c.side !=2) (∃(k:Unit),(0:Int)=(21:Int)/\True) (cnd (decide (c.time<1)) (∃(k:Unit),(0:Int)=(27:Int)/\True) (cnd (decide (c.time>3)) (∃(k:Unit),(0:Int)=(27:Int)/\True) (uJ j c)))) (cnd (decide (c.time<1)) (∃(k:Unit),(0:Int)=(27:Int)/\True) (cnd (decide (c.time>3)) (∃(k:Unit),(0:Int)=(27:Int)/\True) (uJ j c)))) (uJ j c)/\∀(k:Unit),j k->∃(l:Bool),∃(m:Bool->Prop),cnd (c.kind !=2) (cnd (decide (c.qty<1)) (wR m c) (∃(n:Bool),n=decide (c.qty>1000000)/\jJ m n c)) (bD m c)/\∀(n:Bool),m n->cnd n (∃(p:Unit),(0:Int)=(24:Int)/\True) (∃(p:Unit),∃(q:Unit->Prop),cnd (c.kind==1) (cnd (decide (c.least<0)) (∃(r:Unit),(0:Int)=(28:Int)/\True) (cnd (decide (c.least>c.qty)) (∃(r:Unit),(0:Int)=(28:Int)/\True) (cnd (pC c) False (uJ q c)))) (uJ q c)/\∀(r:Unit),q r->∃(s:Bool),∃(t:Bool->Prop),cnd (c.kind==1) (cnd (decide (c.price<(-2000000))) (wR t c) (rI c t)) (cnd (c.kind==4) (cnd (decide (c.price<(-2000000))) (wR t c) (rI c t)) (bD t c))/\∀(u:Bool),t u->cnd u (∃(v:Unit),(0:Int)=(23:Int)/\True) (∃(v:Bool),∃(w:Bool->Prop),cnd (c.kind==1) (cnd (decide (c.inst<0)) (wR w c) (∃(x:Bool),x=decide (c.inst>255)/\jJ w x c)) (bD w c)/\∀(x:Bool),w x->cnd x (∃(y:Unit),(0:Int)=(20:Int)/\True) (∃(y:Unit),dh ((0:Int))/\True)))))
def zCa (a:WN) (b:Cmd):Prop:=∃(c:WN),bE c.l=bE (a.l++le a.n 8)/\c.n=b.qty/\c.ok/\∀(d:Unit),True->∃(e:Unit),bE b.enc=bE (c.l++le c.n 8)/\dh ((0:Int))/\True
def yFj (c:Cmd):Prop:=
 ∃(a:Cmd),a.kind=c.kind/\a.id=c.id/\a.inst=c.inst/\a.side=c.side/\a.price=c.price/\a.qty=c.qty/\a.least=c.least/\a.time=c.time/\sb a.label=sb c.label/\(a.label=[]/\a.right=0)/\∀(b:Unit),True->∃(d:WN),bE d.l=[]/\d.n=c.kind/\d.ok/\∀(e:Unit),True->dh c.id/\∃(f:WN),bE f.l=bE (d.l++[lob d.n])/\f.n=c.id/\f.ok/\∀(g:Unit),True->cnd (c.kind==1) (∃(h:WN),bE h.l=bE (f.l++le f.n 8)/\h.n=c.inst/\h.ok/\∀(j:Unit),True->dh c.time/\dh c.side/\∃(k:WN),bE k.l=bE (h.l++[lob h.n])/\k.n=c.side/\k.ok/\∀(l:Unit),True->dh c.time/\∃(m:WN),bE m.l=bE (k.l++[lob k.n])/\m.n=c.time/\m.ok/\∀(n:Unit),True->∃(p:WN),bE p.l=bE (m.l++[lob m.n])/\p.n=c.price/\p.ok/\∀(q:Unit),True->dh c.least/\dh c.qty/\∃(r:WN),bE r.l=bE (p.l++le p.n 8)/\r.n=c.qty/\r.ok/\∀(s:Unit),True->dh c.least/\∃(t:WN),bE t.l=bE (r.l++le r.n 8)/\t.n=c.least/\t.ok/\∀(u:Unit),True->∃(v:TxB),bE v.l=bE (t.l++le t.n 8)/\sb v.s=sb c.label/\(v.l.length+(300:Nat)<=(1099511627776:Nat)/\v.s.length<=255)/\∀(w:Unit),True->∃(x:Unit),bE c.enc=bE (v.l++zKo v.s)/\dh ((0:Int))/\True) (cnd (c.kind==3) (zCa f c) (cnd (c.kind==4) (∃(h:WN),bE h.l=bE (f.l++le f.n 8)/\h.n=c.price/\h.ok/\∀(j:Unit),True->dh c.qty/\zCa h c) (∃(h:Unit),bE c.enc=bE (f.l++le f.n 8)/\dh ((0:Int))/\True)))
def zHz:Prop:=ab (Sx.V.agg [V.d (dI 0),V.d (dI 0),V.d (dI 0),V.d (dI 0),V.d (dI 0),V.d (dI 0),V.d (dI 0),V.d (dI 0),V.d kO]).cl 80=ab (Sx.V.agg [V.d (dI 0),V.d (dI 0),V.d (dI 0),V.d (dI 0),V.d (dI 0),V.d (dI 0),V.d (dI 0),V.d (dI 0),V.d kO]).cl 80
def zMe (a:Bool->Prop) (b:Bool) (c:RB):Prop:=a b/\dh (ab [V.d (dI (qU (c.n 1).got)),V.d (dI 0),V.d (dI 0),V.d (dI 0),V.d (dI 0),V.d (dI 0),V.d (dI 0),V.d (dI 0),V.d kO] 80)/\dh (ac (List UInt8×Bool) 1 RdU ((c.n 1).left,(c.n 1).bad))/\zHz
def zIe (a:Cmd×RB->Prop) (b:Cmd×RB):Prop:=a b/\zHz
def zGu (a:Cmd×RB) (b:Cmd×RB) (c:Cmd×RB->Prop):Prop:=a.fst.least=b.fst.least/\a.fst.time=b.fst.time/\sb a.fst.label=sb b.fst.label/\zIe c a
def zIk (a:Cmd×RB) (b:RB) (c:Cmd×RB) (d:Cmd×RB->Prop):Prop:=a.fst.qty=aj.wrap (qU (b.n 8).got)/\zGu a c d
def zAk (a:RB):=((RB.mk (a.n 1).left (a.n 1).bad).n (qU (a.n 1).got).toNat)
def yQo (b:List UInt8):Prop:=
 ∃(a:List UInt8),bE a=bE b/\a.length<=1099511627776/\∀(c:Unit),True->∃(d:RB),ac (List UInt8×Bool) 1 RdU (d.l,d.b)=ac (List UInt8×Bool) 1 RdU (a,ap)/\d.l.length<=1099511627776/\∀(e:Unit),True->∃(f:Bool),∃(g:Bool->Prop),cnd (decide (qU (d.n 1).got<1)) (∃(h:Bool),h=aq/\zMe g h d) (∃(h:Bool),h=decide (qU (d.n 1).got>4)/\zMe g h d)/\∀(h:Bool),g h->cnd h (∃(j:Unit),(xN b).fst.kind=0/\(xN b).fst.id=0/\(xN b).fst.inst=0/\(xN b).fst.side=0/\(xN b).fst.price=0/\(xN b).fst.qty=0/\(xN b).fst.least=0/\(xN b).fst.time=0/\sb (xN b).fst.label=ax #[]/\(xN b).snd=31/\True) (∃(j:RB),ac (List UInt8×Bool) 1 RdU (j.l,j.b)=ac (List UInt8×Bool) 1 RdU ((d.n 1).left,(d.n 1).bad)/\j.l.length<=1099511627776/\∀(k:Unit),True->∃(l:Cmd×RB),ac (List UInt8×Bool) 1 RdU (l.snd.l,l.snd.b)=ac (List UInt8×Bool) 1 RdU ((j.n 8).left,(j.n 8).bad)/\l.fst.kind=qU (d.n 1).got/\l.fst.id=aj.wrap (qU (j.n 8).got)/\l.fst.inst=0/\l.fst.side=0/\l.fst.price=0/\l.fst.qty=0/\l.fst.least=0/\l.fst.time=0/\sb l.fst.label=ax #[]/\∃(m:Cmd×RB->Prop),cnd (l.fst.kind==1) (∃(n:RB),ac (List UInt8×Bool) 1 RdU (n.l,n.b)=ac (List UInt8×Bool) 1 RdU (l.snd.l,l.snd.b)/\n.l.length<=1099511627776/\∀(p:Unit),True->∃(q:RB),ac (List UInt8×Bool) 1 RdU (q.l,q.b)=ac (List UInt8×Bool) 1 RdU ((n.n 1).left,(n.n 1).bad)/\q.l.length<=1099511627776/\∀(r:Unit),True->∃(s:RB),ac (List UInt8×Bool) 1 RdU (s.l,s.b)=ac (List UInt8×Bool) 1 RdU ((q.n 1).left,(q.n 1).bad)/\s.l.length<=1099511627776/\∀(t:Unit),True->∃(u:RB),ac (List UInt8×Bool) 1 RdU (u.l,u.b)=ac (List UInt8×Bool) 1 RdU ((s.n 1).left,(s.n 1).bad)/\u.l.length<=1099511627776/\∀(v:Unit),True->∃(w:RB),ac (List UInt8×Bool) 1 RdU (w.l,w.b)=ac (List UInt8×Bool) 1 RdU ((u.n 8).left,(u.n 8).bad)/\w.l.length<=1099511627776/\∀(x:Unit),True->∃(y:RB),ac (List UInt8×Bool) 1 RdU (y.l,y.b)=ac (List UInt8×Bool) 1 RdU ((w.n 8).left,(w.n 8).bad)/\y.l.length<=1099511627776/\∀(z:Unit),True->∃(a_1:RB),ac (List UInt8×Bool) 1 RdU (a_1.l,a_1.b)=ac (List UInt8×Bool) 1 RdU ((y.n 8).left,(y.n 8).bad)/\a_1.ok/\∀(a_2:Unit),True->∃(a_3:Cmd×RB),ac (List UInt8×Bool) 1 RdU (a_3.snd.l,a_3.snd.b)=ac (List UInt8×Bool) 1 RdU ((zAk a_1).left,(zAk a_1).bad)/\a_3.fst.kind=l.fst.kind/\a_3.fst.id=l.fst.id/\a_3.fst.inst=qU (n.n 1).got/\a_3.fst.side=qU (q.n 1).got/\a_3.fst.price=aj.wrap (qU (u.n 8).got)/\a_3.fst.qty=aj.wrap (qU (w.n 8).got)/\a_3.fst.least=aj.wrap (qU (y.n 8).got)/\a_3.fst.time=qU (s.n 1).got/\sb a_3.fst.label=sb (zAk a_1).got/\zIe m a_3) (cnd (l.fst.kind==3) (∃(n:RB),ac (List UInt8×Bool) 1 RdU (n.l,n.b)=ac (List UInt8×Bool) 1 RdU (l.snd.l,l.snd.b)/\n.l.length<=1099511627776/\∀(p:Unit),True->∃(q:Cmd×RB),ac (List UInt8×Bool) 1 RdU (q.snd.l,q.snd.b)=ac (List UInt8×Bool) 1 RdU ((n.n 8).left,(n.n 8).bad)/\q.fst.kind=l.fst.kind/\q.fst.id=l.fst.id/\q.fst.inst=l.fst.inst/\q.fst.side=l.fst.side/\q.fst.price=l.fst.price/\zIk q n l m) (cnd (l.fst.kind==4) (∃(n:RB),ac (List UInt8×Bool) 1 RdU (n.l,n.b)=ac (List UInt8×Bool) 1 RdU (l.snd.l,l.snd.b)/\n.l.length<=1099511627776/\∀(p:Unit),True->∃(q:RB),ac (List UInt8×Bool) 1 RdU (q.l,q.b)=ac (List UInt8×Bool) 1 RdU ((n.n 8).left,(n.n 8).bad)/\q.l.length<=1099511627776/\∀(r:Unit),True->∃(s:Cmd×RB),ac (List UInt8×Bool) 1 RdU (s.snd.l,s.snd.b)=ac (List UInt8×Bool) 1 RdU ((q.n 8).left,(q.n 8).bad)/\s.fst.kind=l.fst.kind/\s.fst.id=l.fst.id/\s.fst.inst=l.fst.inst/\s.fst.side=l.fst.side/\s.fst.price=aj.wrap (qU (n.n 8).got)/\zIk s q l m) (∃(n:Cmd×RB),ac (List UInt8×Bool) 1 RdU (n.snd.l,n.snd.b)=ac (List UInt8×Bool) 1 RdU (l.snd.l,l.snd.b)/\n.fst.kind=l.fst.kind/\n.fst.id=l.fst.id/\n.fst.inst=l.fst.inst/\n.fst.side=l.fst.side/\n.fst.price=l.fst.price/\n.fst.qty=l.fst.qty/\zGu n l m)))/\∀(n:Cmd×RB),m n->∃(p:RB),ac (List UInt8×Bool) 1 RdU (p.l,p.b)=ac (List UInt8×Bool) 1 RdU (n.snd.l,n.snd.b)/\p.l.length<=1099511627776/\∀(q:Unit),True->cnd ((if p.b=aq then(10:Int)else if 0<p.l.length then(15:Int)else(0:Int)) !=0) (∃(r:Unit),(xN b).fst.kind=0/\(xN b).fst.id=0/\(xN b).fst.inst=0/\(xN b).fst.side=0/\(xN b).fst.price=0/\(xN b).fst.qty=0/\(xN b).fst.least=0/\(xN b).fst.time=0/\sb (xN b).fst.label=ax #[]/\(xN b).snd=12/\True) (∃(r:Cmd),r.kind=n.fst.kind/\r.id=n.fst.id/\r.inst=n.fst.inst/\r.side=n.fst.side/\r.price=n.fst.price/\r.qty=n.fst.qty/\r.least=n.fst.least/\r.time=n.fst.time/\sb r.label=sb n.fst.label/\r.label.length<=140737488355328/\∀(s:Unit),True->cnd (r.right !=0) (∃(t:Unit),(xN b).fst.kind=0/\(xN b).fst.id=0/\(xN b).fst.inst=0/\(xN b).fst.side=0/\(xN b).fst.price=0/\(xN b).fst.qty=0/\(xN b).fst.least=0/\(xN b).fst.time=0/\sb (xN b).fst.label=ax #[]/\(xN b).snd=r.right/\True) (∃(t:Unit),(xN b).fst.kind=n.fst.kind/\(xN b).fst.id=n.fst.id/\(xN b).fst.inst=n.fst.inst/\(xN b).fst.side=n.fst.side/\(xN b).fst.price=n.fst.price/\(xN b).fst.qty=n.fst.qty/\(xN b).fst.least=n.fst.least/\(xN b).fst.time=n.fst.time/\sb (xN b).fst.label=sb n.fst.label/\(xN b).snd=0/\True)))
def z0m (r:RB):0<=r.byte.1/\r.byte.1<=255:=by
 have h:=aN (r.n 1).got;have hl:(r.n 1).got.length<=1:=zLr (r.n 1);show 0<=qU (r.n 1).got/\qU (r.n 1).got<=255;obtain e|e:(r.n 1).got.length=0\/(r.n 1).got.length=1:=by omega
 ·rw[e]at h;omega
 ·rw[e]at h;omega
def yMq {r:RB} (h:r.ok):r.text.2.ok:=y8a (eO _) (y8a (eO _) h)
def yEs:rtextC.ok Tryz.prog 187:=okw (V:=yXz) mixed (gokc z1m (gokc z9i gok0)) 0 (λ_=>[]) (λ_=>[]) [] Tryz.func187 λ(i:RB) h=>by
 have h:i.l.length<=1099511627776:=h;have hb:=z0m i;exact⟨i,rfl,h,λ_ _=>⟨⟨(i.n 1).left,(i.n 1).bad,i.byte.1.toNat⟩,by dsimp only;exact Int.toNat_of_nonneg hb.1,rfl,⟨Z9,y8a (eO _) h⟩,λ_ _=>⟨_,rfl,nI _,(),rfl,rfl,trivial⟩⟩⟩
def yKb:ftextC.ok Tryz.prog 144:=okw (V:=yWi) mixed (gokc zXj gok0) 0 (λ_=>[]) (λ_=>[]) [] Tryz.func144 λ(i:TxB) h=>by
 obtain⟨l,s⟩:=i;obtain⟨h,hl⟩:l.length+300<=1099511627776/\s.length<=255:=h;have hs:(sb s).size=s.length:=zLo s;refine zH (λe=> ?_) (λe=> ?_)
 ·have e:((sb s).size:Int)>255:=e;omega
 ·have et:s.take 255=s:=y5q oM;refine⟨⟨l,s.length⟩,rfl,by dsimp only;rw[hs],by dsimp only[WN.ok];omega,λ_ _=>⟨?_,(),?_,trivial⟩⟩
  ·dsimp only;rw[zSq,yK,yK,y5d];simp[sb];omega
  ·dsimp only;rw[zSq,<- zJa,zKo,et];simp[sb]
def yJj (c:Cmd) (h:r6rightC.cnd c):zYi c:=by
 obtain⟨hl,hr⟩:c.label=[]/\c.right=0:=h;obtain⟨hk,hi,hq,hp,ho⟩:=zWy hr;unfold zYi uJ wR bD rI jJ rU pC dI;refine⟨ap,λb=>b=ap,zH (λe=>absurd e oM) (λ_=>⟨_,rfl,y5r oM,k0q⟩),?_⟩;rintro _ rfl;refine Cv.cnd.mk (λe=>absurd e Z8) (λ_=> ?_);refine⟨ap,λb=>b=ap,zH (λe=>absurd e oM) (λ_=>⟨_,rfl,y5r oM,k0q⟩),?_⟩;rintro _ rfl;refine Cv.cnd.mk (λe=>absurd e Z8) (λ_=> ?_);refine⟨(),λ_=>True,Cv.cnd.mk (λe=> ?_) (λ_=>⟨(),trivial,k0q⟩),λ_ _=> ?_⟩
 ·obtain⟨s1,s2,s3,s4,s5⟩:=ho (by simpa using e);refine Cv.cnd.mk (λe1=>Cv.cnd.mk (λe2=> ?_) (λ_=> ?_)) (λ_=> ?_)
  ·have e1:c.side≠1:=by simpa using e1
   have e2:c.side≠2:=by simpa using e2
   omega
  all_goals exact zH (λe=>absurd e oM) (λ_=>zH (λe=>absurd e oM) (λ_=>⟨(),trivial,k0q⟩))
 refine⟨ap,λb=>b=ap,Cv.cnd.mk (λe=> ?_) (λ_=>⟨_,rfl,rfl,k0q⟩),?_⟩
 ·have hq:=hq (by simpa using e);exact zH (λe=>absurd e oM) (λ_=>⟨_,rfl,y5r oM,k0q⟩)
 rintro _ rfl;refine Cv.cnd.mk (λe=>absurd e Z8) (λ_=> ?_);refine⟨(),λ_=>True,Cv.cnd.mk (λe=> ?_) (λ_=>⟨(),trivial,k0q⟩),λ_ _=> ?_⟩
 ·obtain⟨s1,s2,s3,s4,s5⟩:=ho (by simpa using e);refine zH (λe=>absurd e oM) (λ_=>zH (λe=>absurd e oM) (λ_=>Cv.cnd.mk (λe=> ?_) (λ_=>⟨(),trivial,k0q⟩)));rw[hl]at e;exact absurd e (by decide+kernel)
 have hpr:∀{Q:Prop},Q->(c.kind=1\/c.kind=4)->cnd (decide (c.price< -2000000)) (∃i':Bool,i'=aq/\i'=ap/\Q) (∃i':Bool,i'=decide (c.price>2000000)/\i'=ap/\Q):=λhQ hk=>by
  have:=hp hk;exact zH (λe=>absurd e oM) (λ_=>⟨_,rfl,y5r oM,hQ⟩)
 refine⟨ap,λb=>b=ap,Cv.cnd.mk (λe=>hpr (k0q) (.inl (by simpa using e))) (λ_=>Cv.cnd.mk (λe=>hpr (k0q) (.inr (by simpa using e))) (λ_=>⟨_,rfl,rfl,k0q⟩)),?_⟩;rintro _ rfl;refine Cv.cnd.mk (λe=>absurd e Z8) (λ_=> ?_);refine⟨ap,λb=>b=ap,Cv.cnd.mk (λe=> ?_) (λ_=>⟨_,rfl,rfl,k0q⟩),?_⟩
 ·obtain⟨s1,s2,s3,s4,s5⟩:=ho (by simpa using e);exact zH (λe=>absurd e oM) (λ_=>⟨_,rfl,y5r oM,k0q⟩)
 rintro _ rfl;exact Cv.cnd.mk (λe=>absurd e Z8) (λ_=>⟨(),rfl,trivial⟩)
def z5i:r6rightC.ok Tryz.prog 142:=okw mixed gok0 0 (λ_=>yIf) (λ_=>[]) [] Tryz.func142 yJj
def yTr (c:Cmd) (h:r6encC.cnd c):yFj c:=by
 obtain⟨hl,hr⟩:c.label=[]/\c.right=0:=h;have he:c.enc=lob c.kind::(le c.id 8++c.tail):=by rw[Cmd.enc,y5e (by simp[hr])]
 unfold yFj zCa;refine⟨c,rF8 ⟨rfl,⟨hl,hr⟩,λ_ _=>⟨⟨[],c.kind⟩,rfl,rfl,by simp[WN.ok],λ_ _=>⟨rfl,⟨[lob c.kind],c.id⟩,rfl,rfl,by simp[WN.ok],λ_ _=> ?_⟩⟩⟩⟩;dsimp only;refine Cv.cnd.mk (λe=> ?_) (λe=>Cv.cnd.mk (λe3=> ?_) (λe3=>Cv.cnd.mk (λe4=> ?_) (λe4=> ?_)))
 ·have e:c.kind=1:=by simpa using e
  have ht:c.tail=lob c.inst::lob c.side::lob c.time::(le c.price 8++(le c.qty 8++(le c.least 8++zKo c.label))):=by rw[Cmd.tail,y5g e]
  refine⟨⟨[lob c.kind]++le c.id 8,c.inst⟩,rfl,rfl,by simp[WN.ok,qH],λ_ _=>⟨rfl,rfl,⟨_,c.side⟩,rfl,rfl,by simp[WN.ok,qH],λ_ _=>⟨rfl,⟨_,c.time⟩,rfl,rfl,by simp[WN.ok,qH],λ_ _=>⟨⟨_,c.price⟩,rfl,rfl,by simp[WN.ok,qH],λ_ _=>⟨rfl,rfl,⟨_,c.qty⟩,rfl,rfl,by simp[WN.ok,qH],λ_ _=>⟨rfl,⟨_,c.least⟩,rfl,rfl,by simp[WN.ok,qH],λ_ _=>⟨⟨_,c.label⟩,rfl,rfl,⟨by simp[qH],by show c.label.length<=255;rw[hl];decide⟩,λ_ _=>⟨(),?_,rfl,trivial⟩⟩⟩⟩⟩⟩⟩⟩;dsimp only;rw[he,ht];simp
 ·have e3:c.kind=3:=by simpa using e3
  have ht:c.tail=le c.qty 8:=by rw[Cmd.tail,y5e (by omega),y5g e3]
  refine⟨⟨[lob c.kind]++le c.id 8,c.qty⟩,rfl,rfl,by simp[WN.ok,qH],λ_ _=>⟨(),?_,rfl,trivial⟩⟩;dsimp only;rw[he,ht];simp
 ·have e4:c.kind=4:=by simpa using e4
  have ht:c.tail=le c.price 8++le c.qty 8:=by rw[Cmd.tail,y5e (by omega),y5e (by omega),y5g e4]
  refine⟨⟨[lob c.kind]++le c.id 8,c.price⟩,rfl,rfl,by simp[WN.ok,qH],λ_ _=>⟨rfl,⟨_,c.qty⟩,rfl,rfl,by simp[WN.ok,qH],λ_ _=>⟨(),?_,rfl,trivial⟩⟩⟩;dsimp only;rw[he,ht];simp
 ·have e:¬c.kind=1:=by simpa using e
  have e3:¬c.kind=3:=by simpa using e3
  have e4:¬c.kind=4:=by simpa using e4
  have ht:c.tail=[]:=by rw[Cmd.tail,y5e e,y5e e3,y5e e4]
  refine⟨(),?_,rfl,trivial⟩;rw[he,ht];simp
def zZg:r6encC.ok Tryz.prog 95:=okw mixed (gokc z5i (gokc zXj (gokc yGd (gokc yKb gok0)))) 0 (λ_=>[]) (λ_=>[]) [] Tryz.func95 yTr
def yRd {k id:Int} {r:RB} (h:r.ok):(qD k id r).2.ok/\(qD k id r).1.label.length<=255:=by
 rw[qD];split
 ·have h6:=gD (gD (gD (mQ (mQ (mQ h)))));refine⟨yMq h6,?_⟩;show(RB.text (r.byte.2.byte.2.byte.2.long.2.long.2.long.2)).1.length<=255;generalize r.byte.2.byte.2.byte.2.long.2.long.2.long.2=q;have:=z0m q;have:(q.text.1).length<=q.byte.1.toNat:=zLr _;omega
 split
 ·exact⟨gD h,y6l _⟩
 split
 ·exact⟨gD (gD h),y6l _⟩
 ·exact⟨h,y6l _⟩
def y2n (b:List UInt8) (h:cdecC.cnd b):yQo b:=by
 have h:b.length<=1099511627776:=h;obtain⟨r0,hr⟩:∃r0,r0=RB.mk b ap:=⟨_,rfl⟩
 have hr0:r0.ok:=by rw[hr];exact h
 have hk2:=mQ hr0;have hk3:=gD hk2;have hdec:xN b=if r0.byte.1<1\/4<r0.byte.1 then(z1n,31)else if(qD r0.byte.1 r0.byte.2.long.1 r0.byte.2.long.2).2.endOf≠0 then(z1n,12)else if(qD r0.byte.1 r0.byte.2.long.1 r0.byte.2.long.2).1.right≠0 then(z1n,(qD r0.byte.1 r0.byte.2.long.1 r0.byte.2.long.2).1.right)else((qD r0.byte.1 r0.byte.2.long.1 r0.byte.2.long.2).1,0):=by
  rw[hr];rfl
 unfold yQo zMe zAk zIk zGu zIe zHz kO dI;generalize xN b=X at hdec ⊢;refine⟨b,rfl,h,λ_ _=>⟨r0,by rw[hr],hr0,λ_ _=>⟨aq,λx=>x=decide (r0.byte.1<1\/4<r0.byte.1),zH (λe=>⟨aq,rfl,(y5v (.inl e)).symm,k0q⟩) (λe=>⟨_,rfl,decide_eq_decide.2 ⟨.inr,λx=>x.resolve_left e⟩,k0q⟩),?_⟩⟩⟩;rintro _ rfl;refine zH (λe=> ?_) (λe=> ?_)
 ·rw[hdec,y5g e];exact⟨(),rF7 (rF3 trivial)⟩
 rw[y5e e]at hdec;generalize hk:r0.byte.1=k at hdec;refine⟨r0.byte.2,rfl,hk2,λ_ _=>⟨(⟨r0.byte.1,r0.byte.2.long.1,0,0,0,0,0,0,[]⟩,r0.byte.2.long.2),rF6 (rF3 ⟨rfl,λx=>x=qD r0.byte.1 r0.byte.2.long.1 r0.byte.2.long.2,?_,?_⟩)⟩⟩
 ·generalize r0.byte.2.long.2=r2 at*;generalize r0.byte.2.long.1=id at*;rw[hk];refine Cv.cnd.mk (λe=> ?_) (λe1=>Cv.cnd.mk (λe=> ?_) (λe3=>Cv.cnd.mk (λe=> ?_) (λe4=> ?_)))
  ·have e:k=1:=by simpa using e
   have h1:=mQ hk3;have h2:=mQ h1;have h3:=mQ h2;have h4:=gD h3;have h5:=gD h4;have h6:=gD h5;exact⟨r2,rfl,hk3,λ_ _=>⟨_,rfl,h1,λ_ _=>⟨_,rfl,h2,λ_ _=>⟨_,rfl,h3,λ_ _=>⟨_,rfl,h4,λ_ _=>⟨_,rfl,h5,λ_ _=>⟨_,rfl,h6,λ_ _=>⟨qD k id r2,by rw[qD,y5g e];rfl,by rw[qD,y5g e],by rw[qD,y5g e],by rw[qD,y5g e];rfl,by rw[qD,y5g e];rfl,by rw[qD,y5g e];rfl,by rw[qD,y5g e];rfl,by rw[qD,y5g e];rfl,by rw[qD,y5g e];rfl,by rw[qD,y5g e];rfl,rfl,k0q⟩⟩⟩⟩⟩⟩⟩⟩
  ·have e1:¬k=1:=by simpa using e1
   have e:k=3:=by simpa using e
   have hd:qD k id r2=(⟨k,id,0,0,0,r2.long.1,0,0,[]⟩,r2.long.2):=by rw[qD,y5e e1,y5g e]
   exact⟨r2,rfl,hk3,λ_ _=>⟨(⟨k,id,0,0,0,r2.long.1,0,0,[]⟩,r2.long.2),rF6 (rF3 ⟨rfl,hd.symm,k0q⟩)⟩⟩
  ·have e1:¬k=1:=by simpa using e1
   have e3:¬k=3:=by simpa using e3
   have e:k=4:=by simpa using e
   have hd:qD k id r2=(⟨k,id,0,0,r2.long.1,r2.long.2.long.1,0,0,[]⟩,r2.long.2.long.2):=by rw[qD,y5e e1,y5e e3,y5g e]
   exact⟨r2,rfl,hk3,λ_ _=>⟨_,rfl,gD hk3,λ_ _=>⟨(⟨k,id,0,0,r2.long.1,r2.long.2.long.1,0,0,[]⟩,r2.long.2.long.2),rF6 (rF3 ⟨rfl,hd.symm,k0q⟩)⟩⟩⟩
  ·have e1:¬k=1:=by simpa using e1
   have e3:¬k=3:=by simpa using e3
   have e4:¬k=4:=by simpa using e4
   have hd:qD k id r2=(⟨k,id,0,0,0,0,0,0,[]⟩,r2):=by rw[qD,y5e e1,y5e e3,y5e e4]
   exact⟨(⟨k,id,0,0,0,0,0,0,[]⟩,r2),rF6 (rF3 ⟨rfl,hd.symm,k0q⟩)⟩
 ·rintro x hx;obtain⟨o1,o2⟩:=yRd (k:=r0.byte.1) (id:=r0.byte.2.long.1) hk3;rw[<- hx]at o1 o2;rw[<- hk,<- hx]at hdec;obtain⟨c,q⟩:=x;refine⟨q,rfl,o1,λ_ _=>Cv.cnd.mk (λe=> ?_) (λe=>⟨c,rF8 ⟨rfl,y8a o2 Z8,λ_ _=>Cv.cnd.mk (λe2=> ?_) (λe2=> ?_)⟩⟩)⟩
  ·have e:q.endOf≠0:=by simpa[RB.endOf]using e
   rw[hdec,y5g e];exact⟨(),rF7 (rF3 trivial)⟩
  ·have e:¬q.endOf≠0:=by simpa[RB.endOf]using e
   have e2:c.right≠0:=by simpa using e2
   rw[hdec,y5e e,y5g e2];exact⟨(),rF7 (rF3 trivial)⟩
  ·have e:¬q.endOf≠0:=by simpa[RB.endOf]using e
   have e2:¬c.right≠0:=by simpa using e2
   rw[hdec,y5e e,y5e e2];exact⟨(),rF7 (rF3 trivial)⟩
def yMi:cdecC.ok Tryz.prog 147:=okw mixed (gokc z7x (gokc z1m (gokc yKg (gokc yEs (gokc yPc (gokc zXx gok0)))))) 0 (λ_=>y2i) (λ_=>[]) [] Tryz.func147 y2n
structure SoI where
 s:MSt
 p:Prd
 B:List (List zI)
 inst:Int
 sd:Bool
@[reducible] def SoI.ok (i:SoI):Prop:=i.s.Rep i.p i.B/\i.B.length<=1000
def atB (B:List (List zI)) (inst:Int):List zI:=if inst<0 then[]else B.getD inst.toNat []
def sladC:Con:=con1 SoI (λi=>[.nm 0 0,zA i.inst,zA (zC i.sd)]) (λi=>[zD i.s]) (λi=>i.ok) (λ_=> .own 1) (λi=>[zD i.s,.own 41 3 ((gA (atB i.B i.inst) (zC i.sd)).map lvE)])
def bX (a:SoI):=(gA (atB a.B a.inst) (zC a.sd))
def zOa (a:SoI):Prop:=∃(b:Unit),dh (sb a.s.p.code)/\dh a.s.p.tick/\dh a.s.p.low/\dh a.s.p.high/\dh a.s.p.wide/\dh a.s.p.rule/\dh a.s.p.top/\dh a.s.p.least/\dh a.s.p.part/\dh (ae 241 Book 6 zP a.s.books av)/\dh (yO a.s.wh)/\dh (aa 1 (iE a.s.p.months))/\dh (aa 1 (iE a.s.p.settle))/\ao lvE (bX a)=[]/\True
def yRq (i:SoI):Prop:=
 cnd (decide (i.inst>=0)) (cnd (!decide (i.inst<(↑i.s.books.length:Int))) (zOa i) ((0<=i.inst/\i.inst<(↑i.s.books.length:Int))/\i.inst.toNat<i.s.books.length/\∃(a:Book),i.s.books[i.inst.toNat]?=au a/\∃(b:BkT),zC b.s=zC i.sd/\z8 b.b=z8 a/\b.b.Rep b.L/\∀(c:Unit),True->∃(d:Book),z8 b.b=z8 d/\dh i.inst.toNat/\i.inst.toNat<i.s.books.length/\∃(e:Unit),dh (sb i.s.p.code)/\dh i.s.p.tick/\dh i.s.p.low/\dh i.s.p.high/\dh i.s.p.wide/\dh i.s.p.rule/\dh i.s.p.top/\dh i.s.p.least/\dh i.s.p.part/\ae 241 Book 6 zP i.s.books av=ae 241 Book 6 zP (i.s.books.set i.inst.toNat d) av/\dh (yO i.s.wh)/\dh (aa 1 (iE i.s.p.months))/\dh (aa 1 (iE i.s.p.settle))/\ao lvE (bX i)=ao lvE (gA b.L (zC b.s))/\True)) (zOa i)
def yLh {B:List (List zI)} {inst:Int} {L:List zI} (h0:0<=inst) (hL:B[inst.toNat]? =au L):atB B inst=L:=by
 rw[atB,y5e (by omega),zT hL]
def yPf {B:List (List zI)} {inst:Int} (h:inst<0\/(B.length:Int)<=inst):atB B inst=[]:=by
 rw[atB];split
 ·rfl
 ·rw[y5n,y6k (by omega)];rfl
def y1g (i:SoI) (h:sladC.cnd i):yRq i:=by
 obtain⟨hR,hB⟩:i.s.Rep i.p i.B/\i.B.length<=1000:=h;have hbl:=hR.bl;have out (hx:i.inst<0\/(i.B.length:Int)<=i.inst):ao lvE (gA (atB i.B i.inst) (zC i.sd))=[]:=by
  rw[yPf hx];rfl
 unfold yRq zOa bX;refine zH (λc=>Cv.cnd.mk (λd=> ?_) (λd=> ?_)) (λc=> ?_)
 ·have d:¬i.inst<(i.s.books.length:Int):=by simpa using d
  rw[out (.inr (by omega))];exact⟨(),k0q⟩
 ·have d:i.inst<(i.s.books.length:Int):=by simpa using d
  obtain⟨b,hb⟩:=yD (l:=i.s.books) (i:=i.inst.toNat) oM;obtain⟨L,hL⟩:=yD (l:=i.B) (i:=i.inst.toNat) oM;refine⟨⟨c,d⟩,oM,b,hb,⟨b,L,i.sd⟩,rfl,rfl,hR.bk _ b L hb hL,λ_ _=>⟨b,rfl,rfl,oM,?_⟩⟩;rw[uR hb,yLh c hL];exact⟨(),k0q⟩
 ·rw[out (.inl (by omega))];exact⟨(),k0q⟩
def yMw:sladC.ok Tryz.prog 107:=okw mixed (gokc yVj gok0) 1 (λ_=>[]) (λ_=>[]) [0] Tryz.func107 y1g
def z0e (s:Int) (F:List zI):Prop:=F.Pairwise λo o'=>btr s o'.price o.price=ap
def lI (L:List zI) (s:Int):List zI:=L.filter λo=>decide (o.side=s)
structure BWf (p:Prd) (B:List (List zI)):Prop where
 ok:BOk p B
 od:yNf B
 ub:((whL 0 B).map (·.1)).Nodup
 srt:∀(k:Nat) (L:List zI),B[k]? =au L->∀s,s=1\/s=2->z0e s (lI L s)
def zXf {s:Int} {b:Book} {Q:List (List Nat)}:∀{R:List xM},(R.Pairwise λr r'=>btr s r.price r'.price=aq)->z0e s (R.flatMap (b.rOrds Q s))
 |[],_=>List.Pairwise.nil
 |r::R,h=>by
  rw[y8y]at h;rw[y6z,z0e,List.pairwise_append];refine⟨List.pairwise_of_forall_mem_list λo ho o' ho'=> ?_,zXf h.2,λo ho o' ho'=> ?_⟩
  ·rw[(qI ho).2,(qI ho').2];exact zBh _ _
  ·obtain⟨r',hr',ho'⟩:=y7y.1 ho';rw[(qI ho).2,(qI ho').2];exact zXz (h.1 r' hr')
def Book.Rep.srt {b:Book} {L:List zI} (h:b.Rep L) {s:Int} (hs:s=1\/s=2):z0e s (lI L s):=by
 obtain⟨Q,c,ht,rfl⟩:=h;rw[lI,zSf hs];exact zXf (c.srt s hs)
def MSt.Rep.wf {s:MSt} {p:Prd} {B:List (List zI)} (h:s.Rep p B) (hb:BOk p B):BWf p B:=by
 refine⟨hb,h.ords,h.ids,λk L hL=> ?_⟩;obtain⟨b,hb⟩:=yD (l:=s.books) (i:=k) (by rw[h.bl];exact(y5i.1 hL).1);exactλs hs=>(h.bk k b L hb hL).srt hs
def yEo {L:List zI} (h:∀o∈L,zNj o) (hn:(L.map (·.id)).Nodup) (id q:Int):∀o∈(x3 L id q).1,zNj o:=by
 intro o ho;rw[x3]at ho;split at ho
 ·exact h o ho
 split at ho
 ·exact h o ho
 rename_i hb;obtain⟨o',ho',e⟩:=xAm.1 ho;have h0:=h o' ho';split at e
 ·rename_i e1;have hg:=tM hn ho';rw[e1]at hg;rw[hg]at hb;split at e
  ·cases e
  ·rename_i e2;cases e;have:=h0.q;exact⟨h0.s,Z9⟩
 ·cases e;exact h0
def yHj (L:List zI) (id q:Int):(x3 L id q).1.length<=L.length:=by
 rw[x3];split
 ·exact y6a _
 split
 ·exact y6a _
 exact List.length_filterMap_le _ _
def yJs {L:List zI} {s:Int} (h:z0e s (lI L s)) (id q:Int):z0e s (lI (x3 L id q).1 s):=by
 rw[x3];split
 ·exact h
 split
 ·exact h
 have e:lI (uY L id q) s=uY (lI L s) id q:=by
  rw[lI,lI,uY,uY,List.filter_filterMap,List.filterMap_filter];refine a8 λo _=> ?_
  by_cases e1:o.id=id
  ·rw[y5g e1];by_cases e2:o.qty=q
   ·rw[y5g e2];simp
   ·rw[y5e e2];by_cases e3:o.side=s<;>simp[Option.filter,e3]
  ·rw[y5e e1];by_cases e3:o.side=s<;>simp[Option.filter,e3]
 rw[e,uY];refine List.Pairwise.filterMap _ (λa a' haa b hb b' hb'=> ?_) h;have g:∀{a b:zI},(if a.id=id then(if a.qty=q then av else au {a with qty:=a.qty-q})else au a)=au b->b.price=a.price:=by
  intro a b e;split at e
  ·split at e
   ·cases e
   ·cases e;rfl
  ·cases e;rfl
 rw[g hb,g hb'];exact haa
def yOh {B:List (List zI)} (h:((whL 0 B).map (·.1)).Nodup) {k:Nat} {L L':List zI} (hL:B[k]? =au L) (hs:(L'.map (·.id)).Sublist (L.map (·.id))):((whL 0 (B.set k L')).map (·.1)).Nodup:=by
 have hk:=(y5i.1 hL).1;obtain⟨rest,hr⟩:=zLq (B:=B) 0 k hk;have h0:=hr L;rw[uR hL]at h0;have h1:=(h0.map (·.1)).nodup_iff.1 h
 refine((hr L').map (·.1)).nodup_iff.2 ?_
 rw[y5o,y7t]at h1 ⊢;exact h1.sublist (List.Sublist.append hs (List.Sublist.refl _))
def BWf.take {p:Prd} {B:List (List zI)} (h:BWf p B) (id q:Int):BWf p (kH B id q).1:=by
 refine⟨h.ok.take id q,?_,?_,?_⟩
 all_goals
  rw[kH];cases hi:mN B id with
  |none=>first|exact h.od|exact h.ub|exact h.srt
  |some k=>
   obtain⟨L,hL,hh⟩:=gP hi;have ho:=h.od k L hL;dsimp only;rw[zT hL]
   first
   |(intro j M hM
     rcases c8 hM with⟨rfl,rfl⟩|⟨_,hM⟩
     ·refine⟨yEo ho.1 ho.2.1 id q,?_,y8a (yHj L id q) ho.2.2⟩;rcases zMt ho.2.1 id q with⟨e,_⟩|⟨e,_⟩
      ·rw[e];exact ho.2.1
      ·rw[e];exact ho.2.1.sublist (List.Sublist.map _ xAy)
     ·exact h.od j M hM)
   |(refine yOh h.ub hL ?_
     rcases zMt ho.2.1 id q with⟨e,_⟩|⟨e,_⟩
     ·rw[e];exact List.Sublist.refl _
     ·rw[e];exact List.Sublist.map _ xAy)
   |(intro j M hM s hs
     rcases c8 hM with⟨rfl,rfl⟩|⟨_,hM⟩
     ·exact yJs (h.srt _ L hL s hs) id q
     ·exact h.srt j M hM s hs)
def BWf.takes {p:Prd}:∀{fs:List cM} {B:List (List zI)},BWf p B->BWf p (kR B fs)
 |[],B,h=>h
 |f::fs,B,h=>BWf.takes (fs:=fs) (h.take f.id f.qty)
def zQz {p:Prd} {B:List (List zI)} (h:BWf p B) {inst:Int} {sd:Bool} {price q:Int} {t:j0} {B':List (List zI)} (e:aY p B inst sd price q=au (t,B')):BWf p B'/\B'.length=B.length:=by
 rw[aY]at e;dsimp only at e;split at e
 ·split at e
  ·cases e;exact⟨h.takes.takes,by rw[uL,uL]⟩
  ·cases e;exact⟨h.takes,by rw[uL]⟩
 ·cases e
def pG {p:Prd} {inst:Int} {sd:Bool} {price:Int}:∀(m:Nat) (q:Int) (B:List (List zI)),q.toNat<=m->BWf p B->BWf p (wK p B inst sd price q).B/\(wK p B inst sd price q).B.length=B.length/\(0<=q->0<=(wK p B inst sd price q).left/\(wK p B inst sd price q).left<=q)
 |m,q,B,hm,h=>by
  by_cases hq:q<=0
  ·rw[lL (.inl hq)];exact⟨h,rfl,λx=>⟨x,y8s _⟩⟩
  cases hs:aY p B inst sd price q with
  |none=>
   rw[lL (.inr hs)];exact⟨h,rfl,λx=>⟨x,y8s _⟩⟩
  |some x=>
   obtain⟨t,C⟩:=x;obtain⟨k1,k2⟩:=zQz h hs;have hq2:=zMw oM hs;cases m with
   |zero=>omega
   |succ m=>
   obtain⟨i1,i2,i3⟩:=pG (p:=p) (inst:=inst) (sd:=sd) (price:=price) m (q-t.qty) C oM k1;rw[zOc (by omega) hs];exact⟨i1,i2.trans k2,λ_=>⟨(i3 oM).1,by dsimp only;have:=(i3 oM).2;omega⟩⟩
@[reducible] def RunI.ok (i:RunI):Prop:=i.s.Rep i.p i.B/\BOk i.p i.B/\(0<=i.inst/\i.inst<i.B.length)/\1<=i.q/\i.q<=1000000
def scouldC:Con:=con1 RunI (λi=>[.nm 0 0,zA i.inst,zA (zC i.sd),zA i.price,zA i.q]) (λi=>[zD i.s]) (λi=>i.ok) (λi=>zA (i.q-i.r.left)) (λi=>[zD i.s])
def mC (p:Prd) (B:List (List zI)) (inst:Int) (sd:Bool) (price q:Int):Bool:=
 decide ((wK p B inst sd price q).left≠0) && (kL ⟨p,(wK p B inst sd price q).B.map qZ,inst⟩ (zC (!sd))).any λx=>cZ sd price x.price
def stuckC:Con:=con1 RunI (λi=>[.nm 0 0,zA i.inst,zA (zC i.sd),zA i.price,zA i.q]) (λi=>[zD i.s]) (λi=>i.ok) (λi=>yR (mC i.p i.B i.inst i.sd i.price i.q)) (λi=>[zD i.s])
def zVs (B:List (List zI)):Nat:=(whL 0 B).length
def countC16:Con:=con1 SoI (λi=>[.nm 0 0]) (λi=>[zD i.s]) (λi=>i.ok) (λi=>zA (zVs i.B)) (λi=>[zD i.s])
def fN (p:Prd) (inst price:Int):Int×Int×Int:=
 if(p.legs inst).2.2=ap then(0,0,20)else if p.price inst price≠0 then(0,0,p.price inst price)else
 let far:=p.settle.getD (p.legs inst).2.1.toNat 0
 let a:=if p.high<far+price then(p.high,p.high-price)else(far+price,far)
 if a.1<p.low then(p.low,p.low-price,0)else(a.1,a.2,0)
structure LpI where
 p:Prd
 inst:Int
 price:Int
def lpricesC:Con:=con1 LpI (λi=>[prdV i.p,zA i.inst,zA i.price]) (λ_=>[]) (λi=>i.p.check=0/\i.p.small/\yW i.price) (λi=> .tup [zA (fN i.p i.inst i.price).1,zA (fN i.p i.inst i.price).2.1,zA (fN i.p i.inst i.price).2.2]) (λ_=>[])
def ijj (t u:Nat):SAnn:={ι:=Int×Int,slots:=λn=>[(t,zA n.1),(u,zA n.2)],rows:=λ_=>[]}
def lpJ:List (Nat×SAnn):=[(50,ijj 15 14),(58,ijj 15 14)]
def yWn:List SAnn:=[{ι:=Nat,slots:=λj=>[(40,zA j)],rows:=λ_=>[]}]
def yWl:List (Nat×SAnn):=[(8,{ι:=Unit,slots:=λ_=>[],rows:=λ_=>[],opn:=[11]})]
def fG (a:MSt):Prop:=a.books.length<=1000000/\∀(b:Book),b∈a.books->(b.a.slots.length<=1000000/\b.a.queues.length<=1000000)/\b.buys.length<=1000000/\b.sells.length<=1000000/\b.spare.length<=1000000
def qN (a:RunI):Prop:=a.s.Rep a.p a.B/\BOk a.p a.B/\(0<=a.inst/\a.inst<(↑a.B.length:Int))/\1<=a.q/\a.q<=1000000
def zCp (a:RunI):Prop:=∃(b:MSt),sb b.p.code=sb a.s.p.code/\b.p.tick=a.s.p.tick/\b.p.low=a.s.p.low/\b.p.high=a.s.p.high/\b.p.wide=a.s.p.wide/\b.p.rule=a.s.p.rule/\b.p.top=a.s.p.top/\b.p.least=a.s.p.least/\b.p.part=a.s.p.part/\ae 241 Book 6 zP b.books av=ae 241 Book 6 zP a.s.books av/\yO b.wh=yO a.s.wh/\aa 1 (iE b.p.months)=aa 1 (iE a.s.p.months)/\aa 1 (iE b.p.settle)=aa 1 (iE a.s.p.settle)/\(fG b)/\∀(c:Unit),True->∃(d:RunI),d.inst=a.inst/\zC d.sd=zC a.sd/\d.price=a.price/\d.q=a.q/\zD d.s=zD b/\(qN d)/\∀(e:MSt),e.Rep d.p d.r.B->∃(f:Unit),a.q-a.r.left=aj.wrap (a.q-d.r.left)/\zD a.s=zD b/\True
def wL (a:RunI):Prop:=∃(b:Unit),a.q-a.r.left=0/\dh (sb a.s.p.code)/\dh a.s.p.tick/\dh a.s.p.low/\dh a.s.p.high/\dh a.s.p.wide/\dh a.s.p.rule/\dh a.s.p.top/\dh a.s.p.least/\dh a.s.p.part/\dh (ae 241 Book 6 zP a.s.books av)/\dh (yO a.s.wh)/\dh (aa 1 (iE a.s.p.months))/\dh (aa 1 (iE a.s.p.settle))/\True
def z6x (i:RunI):Prop:=
 cnd (decide (i.inst>=0)) (cnd (decide (i.inst<(↑i.s.books.length:Int))) (cnd (zC i.sd==1) (cnd (decide (i.q>=1)) (cnd (!decide (i.q<=1000000)) (wL i) (zCp i)) (wL i)) (cnd (zC i.sd==2) (cnd (decide (i.q>=1)) (cnd (!decide (i.q<=1000000)) (wL i) (zCp i)) (wL i)) (wL i))) (wL i)) (wL i)
def zYb (i:SoI):Prop:=
 ∃(a:Unit),(↑(zVs i.B):Int)=(↑(yO i.s.wh).length:Int)/\dh (sb i.s.p.code)/\dh i.s.p.tick/\dh i.s.p.low/\dh i.s.p.high/\dh i.s.p.wide/\dh i.s.p.rule/\dh i.s.p.top/\dh i.s.p.least/\dh i.s.p.part/\dh (ae 241 Book 6 zP i.s.books av)/\dh (yO i.s.wh)/\dh (aa 1 (iE i.s.p.months))/\dh (aa 1 (iE i.s.p.settle))/\True
def cN (a:Int×Int->Prop) (b:Int×Int) (c:LpI):Prop:=a b/\dh (ab [V.d (D.v (aw (sb c.p.code))),V.own 0,V.d (dI c.p.tick),V.d (dI c.p.low),V.d (dI c.p.high),V.d (dI c.p.wide),V.d (dI c.p.rule),V.d (dI c.p.top),V.d (dI c.p.least),V.d (dI c.p.part),V.own 1] 25)/\dh (aa 1 (iE c.p.settle))/\dh (aa 1 (iE c.p.months))
def y5 (a:LpI):=(fN a.p a.inst a.price)
def zZc (i:LpI):Prop:=
 ∃(a:Prd),sb a.code=sb i.p.code/\iE a.months=iE i.p.months/\a.tick=i.p.tick/\a.low=i.p.low/\a.high=i.p.high/\a.wide=i.p.wide/\a.rule=i.p.rule/\a.top=i.p.top/\a.least=i.p.least/\a.part=i.p.part/\iE a.settle=iE i.p.settle/\(z6 a)/\∀(b:Unit),True->cnd (a.check !=0) (∃(c:Unit),(y5 i).fst=0/\(y5 i).snd.fst=0/\(y5 i).snd.snd=1/\True) (∃(c:cL),sb c.p.code=sb i.p.code/\iE c.p.months=iE i.p.months/\c.p.tick=i.p.tick/\c.p.low=i.p.low/\c.p.high=i.p.high/\c.p.wide=i.p.wide/\c.p.rule=i.p.rule/\c.p.top=i.p.top/\c.p.least=i.p.least/\c.p.part=i.p.part/\iE c.p.settle=iE i.p.settle/\c.n=i.inst/\(jF c)/\∀(d:Unit),True->cnd (!(c.p.legs c.n).snd.snd) (∃(e:Unit),(y5 i).fst=0/\(y5 i).snd.fst=0/\(y5 i).snd.snd=20/\True) (∃(e:tU),sb e.p.code=sb i.p.code/\iE e.p.months=iE i.p.months/\e.p.tick=i.p.tick/\e.p.low=i.p.low/\e.p.high=i.p.high/\e.p.wide=i.p.wide/\e.p.rule=i.p.rule/\e.p.top=i.p.top/\e.p.least=i.p.least/\e.p.part=i.p.part/\iE e.p.settle=iE i.p.settle/\e.a=i.inst/\e.b=i.price/\(x7 e)/\∀(f:Unit),True->cnd (e.p.price e.a e.b !=0) (∃(g:Unit),(y5 i).fst=0/\(y5 i).snd.fst=0/\(y5 i).snd.snd=e.p.price e.a e.b/\True) ((0<=(c.p.legs c.n).snd.fst/\(c.p.legs c.n).snd.fst<(↑(iE i.p.settle).length:Int))/\∃(g:Int),zE (iE i.p.settle) (c.p.legs c.n).snd.fst.toNat 0 1=au [dI g]/\∃(h:Int×Int),∃(j:Int×Int->Prop),cnd (decide (aj.wrap (g+i.price)>i.p.high)) (∃(k:Int×Int),k.fst=i.p.high/\k.snd=aj.wrap (i.p.high-i.price)/\cN j k i) (∃(k:Int×Int),k.fst=aj.wrap (g+i.price)/\k.snd=g/\cN j k i)/\∀(k:Int×Int),j k->∃(l:Int×Int),∃(m:Int×Int->Prop),cnd (decide (k.fst<i.p.low)) (∃(n:Int×Int),n.fst=i.p.low/\n.snd=aj.wrap (i.p.low-i.price)/\cN m n i) (∃(n:Int×Int),n.fst=k.fst/\n.snd=k.snd/\cN m n i)/\∀(n:Int×Int),m n->∃(p:Unit),(y5 i).fst=n.fst/\(y5 i).snd.fst=n.snd/\(y5 i).snd.snd=0/\True)))
def zCo (a:MSt) (b:MSt):Prop:=sb a.p.code=sb b.p.code/\True/\a.p.tick=b.p.tick/\a.p.low=b.p.low/\a.p.high=b.p.high/\a.p.wide=b.p.wide/\a.p.rule=b.p.rule/\a.p.top=b.p.top/\a.p.least=b.p.least/\a.p.part=b.p.part/\True/\True
def yKp (i:RunI):Prop:=
 ∃(a:MSt),zD a=zD i.s/\(fG a)/\∀(b:Unit),True->∃(c:RunI),c.inst=i.inst/\zC c.sd=zC i.sd/\c.price=i.price/\c.q=i.q/\zD c.s=zD a/\(qN c)/\∀(d:MSt),d.Rep c.p c.r.B->cnd (c.r.left==0) (∃(e:Unit),mC i.p i.B i.inst i.sd i.price i.q=ap/\zD i.s=zD a/\True) (∃(e:MSt),sb e.p.code=sb d.p.code/\e.p.tick=d.p.tick/\e.p.low=d.p.low/\e.p.high=d.p.high/\e.p.wide=d.p.wide/\e.p.rule=d.p.rule/\e.p.top=d.p.top/\e.p.least=d.p.least/\e.p.part=d.p.part/\ae 241 Book 6 zP e.books av=ae 241 Book 6 zP d.books av/\yO e.wh=yO d.wh/\aa 1 (iE e.p.months)=aa 1 (iE d.p.months)/\aa 1 (iE e.p.settle)=aa 1 (iE d.p.settle)/\(dN e)/\∀(f:Unit),True->(zCo e d)/\∃(g:Bool),zC g=zC i.sd/\True/\∀(h:Unit),True->(zCo e d)/\∃(j:eA),sb j.i.p.code=sb d.p.code/\iE j.i.p.months=iE e.p.months/\j.i.p.tick=d.p.tick/\j.i.p.low=d.p.low/\j.i.p.high=d.p.high/\j.i.p.wide=d.p.wide/\j.i.p.rule=d.p.rule/\j.i.p.top=d.p.top/\j.i.p.least=d.p.least/\j.i.p.part=d.p.part/\iE j.i.p.settle=iE e.p.settle/\ao z5 j.i.tops=ao z5 e.tops/\j.i.inst=i.inst/\zC j.s=zC !g/\(kJ j)/\∀(k:Unit),True->∃(l:Nat),(↑l:Int)=0/\∃(m:Nat->Prop),∃(n:Nat->Nat),m l/\∀(p:Nat),m p->cnd (decide ((↑p:Int)<(gT j))) ((0<=(↑p:Int)/\(↑p:Int)<(gT j))/\∃(q:Int),∃(r:Int),∃(s:Int),∃(t:Int),∃(u:Int),∃(v:Int),zE (jT j) (↑p:Int).toNat 0 6=au [dI q,dI r,dI s,dI t,dI u,dI v]/\∃(w:GoI),zC w.s=zC i.sd/\w.p=i.price/\w.x=q/\True/\∀(x:Unit),True->cnd (cZ w.s w.p w.x) (∃(y:Unit),mC i.p i.B i.inst i.sd i.price i.q=aq/\zD i.s=zD a/\True) (∃(y:Nat),(↑y:Int)=aj.wrap ((↑p:Int)+1)/\m y/\n y<n p/\dh (ag 259 6 (jT j))/\dh (ab [V.d (fB e),V.own 5,V.d (dI e.p.tick),V.d (dI e.p.low),V.d (dI e.p.high),V.d (dI e.p.wide),V.d (dI e.p.rule),V.d (dI e.p.top),V.d (dI e.p.least),V.d (dI e.p.part),V.own 6,V.own 3,V.mp 4] (240:ba))/\dh (ae 241 Book 6 zP e.books av)/\dh (af (yO e.wh))/\dh (aa 1 (iE e.p.months))/\dh (aa 1 (iE e.p.settle))/\dh (aa 6 (ao z5 e.tops))/\dh (aa 1 (iE d.p.months))/\dh (aa 1 (iE d.p.settle))/\dh (ag 321 4 (ao wG c.r.steps))/\zD a=zD a)) (∃(q:Unit),mC i.p i.B i.inst i.sd i.price i.q=ap/\zD i.s=zD a/\True))
def MSt.Rep.small {s:MSt} {p:Prd} {B:List (List zI)} (h:s.Rep p B) (hb:BOk p B):s.small:=by
 have:=xS p;refine⟨by rw[h.bl,hb.bl];omega,λb hm=> ?_⟩;obtain⟨k,hk⟩:=y7w.1 hm;have hlt:=(y5i.1 hk).1;rw[h.bl]at hlt;obtain⟨L,hL⟩:=yD hlt;obtain⟨Q,c,_⟩:=h.bk k b L hk hL;exact c.small
def yOn (i:RunI) (h:scouldC.cnd i):z6x i:=by
 have h':i.ok:=h;obtain⟨hR,hB,⟨h0,h1⟩,hq1,hq2⟩:=h';have hbl:=hR.bl;have hl:=(pG (inst:=i.inst) (sd:=i.sd) (price:=i.price) _ i.q i.B (y6a _) (hR.wf hB)).2.2 oM;have er:i.r=wK i.p i.B i.inst i.sd i.price i.q:=rfl;unfold z6x zCp qN fG wL;refine(λhT=>zH (λc=>zH (λc2=>Cv.cnd.mk (λ_=>zH (λ_=>Cv.cnd.mk (λe=>absurd hq2 (by simpa using e)) (λ_=>hT)) (λe=>absurd hq1 e)) (λe1=>Cv.cnd.mk (λ_=>zH (λ_=>Cv.cnd.mk (λe=>absurd hq2 (by simpa using e)) (λ_=>hT)) (λe=>absurd hq1 e)) (λe2=>by
  rcases zGf i.sd with e|e
  ·rw[e]at e1;cases e1
  ·rw[e]at e2;cases e2))) (λc2=>absurd oM c2)) (λc=>absurd h0 c)) ?_
 refine⟨i.s,rF8 (rF4 ⟨rfl,hR.small hB,λ_ _=>⟨i,rF4 ⟨rfl,h,λo ho=>⟨(),?_,rfl,trivial⟩⟩⟩⟩)⟩;rw[w64 (by rw[er];omega)]
def yBj:scouldC.ok Tryz.prog 167:=okw mixed (gokc zPk (gokc z4a gok0)) 2 (λ_=>[]) (λ_=>[]) [0] Tryz.func167 yOn
def yHz (i:SoI) (h:countC16.cnd i):zYb i:=by
 obtain⟨hR,hB⟩:i.s.Rep i.p i.B/\i.B.length<=1000:=h;unfold zYb;have e:(yO i.s.wh).length=zVs i.B:=by rw[yO,y5f,hR.wh.length_eq,zVs]
 exact⟨(),by rw[e],k0q⟩
def z5m:countC16.ok Tryz.prog 166:=okw mixed gok0 0 (λ_=>[]) (λ_=>[]) [0] Tryz.func166 yHz
def zOn {p:Prd} {i n:Int} (h:p.price i n=0):0<=i/\i<p.count:=by
 rw[Prd.price]at h;split at h
 ·cases h
 split at h
 ·cases h
 omega
def yDk (i:LpI) (h:lpricesC.cnd i):zZc i:=by
 obtain⟨hc,hp,hpr⟩:i.p.check=0/\i.p.small/\yW i.price:=h;unfold zZc cN y5 z6 jF x7 dI;refine⟨i.p,rF7 (rF3 ⟨rfl,hp,λ_ _=>Cv.cnd.mk (λe=>by rw[hc]at e;cases e) (λ_=> ?_)⟩)⟩;refine⟨⟨i.p,i.inst⟩,rF8 (rF3 ⟨rfl,hp,λ_ _=>Cv.cnd.mk (λe=> ?_) (λe=> ?_)⟩)⟩
 ·have e:(i.p.legs i.inst).2.2=ap:=by simpa using e
  have h0:fN i.p i.inst i.price=(0,0,20):=by rw[fN,y5g e]
  rw[h0];exact⟨(),rF3 trivial⟩
 have e:(i.p.legs i.inst).2.2=aq:=by simpa using e
 refine⟨⟨i.p,i.inst,i.price⟩,rF8 (rF4 ⟨rfl,hp,λ_ _=>Cv.cnd.mk (λe2=> ?_) (λe2=> ?_)⟩)⟩
 ·have e2:¬i.p.price i.inst i.price=0:=by simpa using e2
  have h0:fN i.p i.inst i.price=(0,0,i.p.price i.inst i.price):=by rw[fN,y5e (by rw[e];decide),y5g e2]
  rw[h0];exact⟨(),rF3 trivial⟩
 have e2:i.p.price i.inst i.price=0:=by simpa using e2
 have hin:=zOn e2;have hbd:=eE hc e2;have ok:=kE hc;have b1:=ok.b1;have b2:=ok.b2;have b3:=ok.b3;have s1:=ok.s1;have s2:=ok.s2;have s3:=ok.s3;obtain⟨k,hk⟩:∃k:Nat,i.inst=k:=⟨i.inst.toNat,oM⟩
 have hl:=g8 hc (k:=k) oM;rw[<- hk]at hl;rcases hl with⟨_,_,_,l3,l4⟩|⟨x,_⟩
 rotate_left
 ·rw[e]at x;cases x
 have hsl:(iE i.p.settle).length=i.p.settle.length:=yZ _;obtain⟨n,hn⟩:=yD (l:=i.p.settle) (i:=(i.p.legs i.inst).2.1.toNat) oM;have hm:=y5p hn;have m1:=z9h hm;have m2:=z8z hm;have hg:i.p.settle.getD (i.p.legs i.inst).2.1.toNat 0=n:=zT hn;have h0:fN i.p i.inst i.price=(if(if i.p.high<n+i.price then(i.p.high,i.p.high-i.price)else(n+i.price,n)).1<i.p.low then(i.p.low,i.p.low-i.price,0)else((if i.p.high<n+i.price then(i.p.high,i.p.high-i.price)else(n+i.price,n)).1,(if i.p.high<n+i.price then(i.p.high,i.p.high-i.price)else(n+i.price,n)).2,0)):=by
  rw[fN,y5e (by rw[e];decide),y5e (by rw[e2];decide)];dsimp only;rw[hg]
 dsimp only;refine⟨⟨l3,oM⟩,n,elI hn,(0,0),λa=>a=if i.p.high<n+i.price then(i.p.high,i.p.high-i.price)else(n+i.price,n),zH (λc=>⟨(i.p.high,i.p.high-i.price),rfl,(w64 oM).symm,?_,k0q⟩) (λc=>⟨(n+i.price,n),(w64 oM).symm,rfl,?_,k0q⟩),?_⟩
 ·rw[w64 (by omega)]at c;rw[y5g c]
 ·rw[w64 (by omega)]at c;rw[y5e c]
 rintro _ rfl;generalize (if i.p.high<n+i.price then(i.p.high,i.p.high-i.price)else(n+i.price,n))=a at h0 ⊢;refine⟨(0,0),λb=>b=if a.1<i.p.low then(i.p.low,i.p.low-i.price)else a,zH (λc=>⟨(i.p.low,i.p.low-i.price),rfl,(w64 oM).symm,by rw[y5g c],k0q⟩) (λc=>⟨a,rfl,rfl,by rw[y5e c],k0q⟩),?_⟩;rintro _ rfl;rw[h0];by_cases c:a.1<i.p.low
 ·rw[y5g c,y5g c];exact⟨(),rF3 trivial⟩
 ·rw[y5e c,y5e c];exact⟨(),rF3 trivial⟩
def z2j:lpricesC.ok Tryz.prog 264:=okw mixed (gokc eM (gokc lU (gokc eK gok0))) 0 (λ_=>lpJ) (λ_=>[]) [] Tryz.func264 yDk
def yOa {l:List Quote} {k:Nat} {q:Quote} (h:l[k]? =au q):zE (l.map zJ) k 0 6=au [D.v (.int .i64 q.price),D.v (.int .i64 q.qty),D.v (.int .i64 q.a.inst),D.v (.int .i64 q.a.side),D.v (.int .i64 q.b.inst),D.v (.int .i64 q.b.side)]:=elA h (by simp[zJ]) rfl
def ySm (i:RunI) (h:stuckC.cnd i):yKp i:=by
 have h':i.ok:=h;obtain⟨hR,hB,⟨h0,h1⟩,hq1,hq2⟩:=h';have hwf:=hR.wf hB;obtain⟨k1,k2,k3⟩:=pG (inst:=i.inst) (sd:=i.sd) (price:=i.price) _ i.q i.B (y6a _) hwf;have hcl:=xS i.p;unfold yKp fB zCo qN fG gT jT kJ g7 dN dI;refine⟨i.s,rfl,hR.small hB,λ_ _=>⟨i,rF4 ⟨rfl,h,λo ho=> ?_⟩⟩⟩;have er:i.r=wK i.p i.B i.inst i.sd i.price i.q:=rfl;have es:mC i.p i.B i.inst i.sd i.price i.q=(decide ((wK i.p i.B i.inst i.sd i.price i.q).left≠0) && (kL ⟨i.p,(wK i.p i.B i.inst i.sd i.price i.q).B.map qZ,i.inst⟩ (zC (!i.sd))).any λx=>cZ i.sd i.price x.price):=rfl;rw[er]at ho ⊢;rw[es];generalize wK i.p i.B i.inst i.sd i.price i.q=R at*;obtain⟨ts,lf,RB⟩:=R;dsimp only at*;refine Cv.cnd.mk (λe=>⟨(),?_,rfl,trivial⟩) (λe=> ?_)
 ·have e:lf=0:=by simpa using e
  rw[e];rfl
 have e:lf≠0:=by simpa using e
 rw[y5v e,y8b];have ep:=ho.ep;have hB':=k1.ok;have hbl:=hB'.bl;have hcnt:o.cntOk:=ho.cnt oM;have hps:o.p.small:=by rw[ep];exact hB'.ps
 have hto:vJ (RB.map qZ):=hB'.tops;have hle:=zGm ⟨o.p,RB.map qZ,i.inst⟩ (zC (!i.sd));refine⟨o,rF8 (rF4 ⟨rfl,hcnt,λ_ _=>⟨⟨rfl,trivial,rF7 ⟨rfl,trivial,trivial⟩⟩,i.sd,rfl,trivial,λ_ _=>⟨⟨rfl,trivial,rF7 ⟨rfl,trivial,trivial⟩⟩,⟨⟨o.p,RB.map qZ,i.inst⟩,!i.sd⟩,rF7 (rF3 ⟨rfl,by rw[ho.tops],rfl,rfl,⟨hps,hto⟩,λ_ _=> ?_⟩)⟩⟩⟩)⟩;dsimp only;rw[<- ep];generalize kL ⟨o.p,RB.map qZ,i.inst⟩ (zC (!i.sd))=Q at*;have e4:(Q.map zJ).length=Q.length:=y5f ..;refine⟨0,rfl,λj=>j<=Q.length/\(Q.take j).any (λx=>cZ i.sd i.price x.price)=ap,λj=>Q.length-j,⟨y6l _,rfl⟩,?_⟩;rintro j ⟨j1,j2⟩;refine zH (λc=> ?_) (λc=>⟨(),?_,rfl,trivial⟩)
 ·obtain⟨q,hq⟩:=yD (l:=Q) (i:=j) oM;refine⟨⟨oM,oM⟩,_,_,_,_,_,_,yOa hq,⟨i.sd,i.price,q.price⟩,rfl,rfl,rfl,trivial,λ_ _=>Cv.cnd.mk (λg=>⟨(),?_,rfl,trivial⟩) (λg=>⟨j+1,wjn oM,⟨oM,?_⟩,Z9,k0q⟩)⟩
  ·rw[List.any_eq_true];exact⟨q,y5p hq,g⟩
  ·rw[y6n,hq,List.any_append,j2];show(ap||([q].any λx=>cZ i.sd i.price x.price))=ap;simp only[List.any_cons,List.any_nil,Bool.or_false,xBa];exact g
 ·have:j=Q.length:=by omega
  rw[this,y5q (y6a _)]at j2;exact j2
def z1q:stuckC.ok Tryz.prog 168:=okw mixed (gokc zPk (gokc z4a (gokc z1j (gokc yIh (gokc zSi (gokc zZd gok0)))))) 0 (λ_=>yWl) (λ_=>yWn) [] Tryz.func168 ySm
def nF (c:Cmd) (why:Int):List Rep:=[⟨2,c.id,0,0,0,0,0,why⟩]
def ofF (x:j0) (k:Int):Int:=match x.fills.find? λf=>decide (f.inst=k)with
 |some f=>f.price
 |none=>x.price
def wU (p:Prd) (inst:Int) (x:j0):Int×Int:=if x.implied=ap then((fN p inst x.price).1,(fN p inst x.price).2.1)else(ofF x (p.legs inst).1,ofF x (p.legs inst).2.1)
def zFb (p:Prd) (r:Rep) (near far:Int):List Rep:=[{r with inst:=(p.legs r.inst).1,price:=near},{r with inst:=(p.legs r.inst).2.1,side:=3-r.side,price:=far}]
def m9 (p:Prd) (x:j0) (r:Rep):List Rep:=r::if(p.legs r.inst).2.2=aq then zFb p r (wU p r.inst x).1 (wU p r.inst x).2 else[]
def zEs (f:cM):Rep:=⟨3,f.id,f.inst,f.side,f.price,f.qty,f.left,0⟩
def mX (p:Prd) (c:Cmd) (x:j0) (left:Int):List Rep:=x.fills.flatMap (λf=>m9 p x (zEs f))++m9 p x ⟨3,c.id,c.inst,c.side,x.price,x.qty,left,0⟩
def aP (p:Prd) (c:Cmd):List j0->Int->List Rep
 |[],_=>[]
 |x::l,left=>mX p c x (left-x.qty)++aP p c l (left-x.qty)
structure MkX where
 B:List (List zI)
 U:List Int
 R:List Rep
def zQt (U:List Int) (id:Int):List Int:=if id∈U then U else U++[id]
def cU (p:Prd) (B:List (List zI)) (U:List Int) (c:Cmd):MkX:=match wK p B c.inst (decide (c.side=2)) c.price c.qty with
 |⟨ts,left,B'⟩=>⟨if left≠0/\c.time=1 then(z4l p B' c.inst c.id c.side c.price left).1 else B',zQt U c.id,
  (⟨1,c.id,c.inst,c.side,c.price,c.qty,c.qty,0⟩::aP p c ts c.qty)++if left≠0/\c.time≠1 then[⟨4,c.id,c.inst,c.side,c.price,left,0,0⟩]else[]⟩
def Cmd.lst (c:Cmd):Int:=if c.time=3 then c.qty else c.least
def nC (p:Prd) (B:List (List zI)) (U:List Int) (c:Cmd):MkX:=
 if p.price c.inst c.price≠0 then⟨B,U,nF c (p.price c.inst c.price)⟩
 else if c.id∈U then⟨B,U,nF c 25⟩
 else if 250<=zVs B then⟨B,U,nF c 13⟩
 else if 0<c.lst/\c.qty-(wK p B c.inst (decide (c.side=2)) c.price c.qty).left<c.lst then⟨B,U,nF c 28⟩
 else if c.time=1/\mC p B c.inst (decide (c.side=2)) c.price c.qty=aq then⟨B,U,nF c 23⟩
 else cU p B U c
def uS (B:List (List zI)) (U:List Int) (id inst:Int) (o:zI):MkX:=⟨(kH B id o.qty).1,U,[⟨4,id,inst,o.side,o.price,o.qty,0,0⟩]⟩
def bF (B:List (List zI)) (U:List Int) (id q inst:Int) (o:zI):MkX:=⟨(kH B id q).1,U,[⟨5,id,inst,o.side,o.price,q,o.qty-q,0⟩]⟩
def fY (p:Prd) (B:List (List zI)) (U:List Int) (c:Cmd) (inst:Int) (o:zI):MkX:=
 if p.price inst c.price≠0 then⟨B,U,nF c (p.price inst c.price)⟩
 else if c.price=o.price/\c.qty<=o.qty then bF B U c.id (o.qty-c.qty) inst o
 else if mC p (kH B c.id o.qty).1 inst (decide (o.side=2)) c.price c.qty=aq then⟨B,U,nF c 23⟩
 else
  let x:=uS B U c.id inst o
  let y:=cU p x.B U ⟨1,c.id,inst,o.side,c.price,c.qty,0,1,[]⟩
  ⟨y.B,y.U,x.R++y.R⟩
def doF (p:Prd) (B:List (List zI)) (U:List Int) (c:Cmd):MkX:=
 if c.right≠0 then⟨B,U,nF c c.right⟩
 else if c.kind=1 then nC p B U c
 else if(zZ B c.id).2.2=ap then⟨B,U,nF c 26⟩
 else if c.kind=4 then fY p B U c (zZ B c.id).1 (zZ B c.id).2.1
 else if c.kind=2\/(zZ B c.id).2.1.qty<=c.qty then uS B U c.id (zZ B c.id).1 (zZ B c.id).2.1
 else bF B U c.id c.qty (zZ B c.id).1 (zZ B c.id).2.1
structure Mkt.Rep (m:Mkt) (p:Prd) (B:List (List zI)) (U:List Int):Prop where
 ep:m.p=p
 s:m.s.Rep p B
 u:m.used=U
@[reducible] def zBo (m:Mkt):List AObj:=[yX m 0,yX m 1,yX m 2,yX m 3,yX m 4]
@[reducible] def yQm (x:j0):V:= .agg [zA x.price,zA x.qty,yR x.implied,roV 6 (x.fills.map yV)]
@[reducible] def tRp:Nat:=85
@[reducible] def z2z (l:List Rep):AObj:= .own tRp 8 (l.map xR)
structure RjI where
 c:Cmd
 why:Int
def rejC:Con:=con1 RjI (λi=>[zGi i.c,zA i.why]) (λ_=>[]) (λ_=>True) (λ_=> .own 0) (λi=>[z2z (nF i.c i.why)])
structure MsI where
 m:Mkt
 r:Rep
 near:Int
 far:Int
@[reducible] def Mkt.fine (m:Mkt):Prop:=m.p.check=0/\m.p.small
def mspreadC:Con:=con1 MsI (λi=>[.nm 0 0,y3r i.r,zA i.near,zA i.far]) (λi=>zBo i.m) (λi=>i.m.fine/\(i.r.side=1\/i.r.side=2)) (λ_=> .own 5) (λi=>zBo i.m++[z2z (zFb i.m.p i.r i.near i.far)])
structure MiN where
 m:Mkt
 inst:Int
def misC:Con:=con1 MiN (λi=>[.nm 0 0,zA i.inst]) (λi=>zBo i.m) (λi=>i.m.fine) (λi=>yR (i.m.p.legs i.inst).2.2) (λi=>zBo i.m)
structure OfI where
 x:j0
 k:Int
@[reducible] def zXm (x:j0) (n:Nat):List AObj:=[.cells [zA x.price,zA x.qty,yR x.implied,.own n] 321,.fro 6 (x.fills.map yV)]
def ofC:Con:=con1 OfI (λi=>[zA i.k,.nm 0 0]) (λi=>zXm i.x 1) (λi=>i.x.fills.length<=1000000) (λi=>zA (ofF i.x i.k)) (λi=>zXm i.x 1)
def ofA:List SAnn:=[{ι:=Nat,slots:=λj=>[(9,zA j)],rows:=λ_=>[]}]
structure MpI where
 m:Mkt
 inst:Int
 x:j0
def mpricesC:Con:=con1 MpI (λi=>[.nm 0 0,zA i.inst,yQm i.x]) (λi=>zBo i.m) (λi=>i.m.fine/\yW i.x.price/\i.x.fills.length<=1000000) (λi=> .tup [zA (wU i.m.p i.inst i.x).1,zA (wU i.m.p i.inst i.x).2]) (λi=>zBo i.m)
structure StI' where
 m:Mkt
 c:Cmd
 x:j0
 left:Int
def StI'.out (i:StI') (j:Nat):List Rep:=(i.x.fills.take j).flatMap λf=>m9 i.m.p i.x (zEs f)
def mstepC:Con:=con1 StI' (λi=>[.nm 0 0,zGi i.c,yQm i.x,zA i.left]) (λi=>zBo i.m) (λi=>i.m.fine/\yW i.x.price/\i.x.fills.length<=1000000/\(i.c.side=1\/i.c.side=2)/\∀f∈i.x.fills,f.side=1\/f.side=2) (λ_=> .own 5) (λi=>zBo i.m++[z2z (mX i.m.p i.c i.x i.left)])
def yXp (i:StI'):List SAnn:=[{ι:=Nat,slots:=λj=>[(9,.nm 0 0),(17,zA j)],rows:=λj=>[.cells [.own 1] 106,z2z (i.out j)]}]
def y4n (i:RjI):Prop:=
 ∃(o:Unit),[xR (Rep.mk 2 i.c.id 0 0 0 0 0 i.why)]=[[D.v (.int .i64 2),D.v (.int .i64 i.c.id),D.v (.int .i64 0),D.v (.int .i64 0),D.v (.int .i64 0),D.v (.int .i64 0),D.v (.int .i64 0),D.v (.int .i64 i.why)]]/\True
def uN (a:MsI):Prop:=a.r.kind=a.r.kind/\dh a.r.id/\dh a.r.inst/\dh a.r.side/\dh a.r.price/\dh a.r.qty/\dh a.r.left/\dh a.r.why/\True
def fS (a:MsI):=(Rep.mk a.r.kind a.r.id (a.m.p.legs a.r.inst).snd.fst (3-a.r.side) a.far a.r.qty a.r.left a.r.why)
def fH (a:MsI):=(Rep.mk a.r.kind a.r.id (a.m.p.legs a.r.inst).fst a.r.side a.near a.r.qty a.r.left a.r.why)
def eL (a:MsI) (b:cL):Prop:=(uN a)/\(uN a)/\(uN a)/\(uN a)/\(uN a)/\dh a.r.side/\∃(c:Unit),dh (sb a.m.p.code)/\dh a.m.p.tick/\dh a.m.p.low/\dh a.m.p.high/\dh a.m.p.wide/\dh a.m.p.rule/\dh a.m.p.top/\dh a.m.p.least/\dh a.m.p.part/\zD a.m.s=yX a.m 1/\dh (zW a.m.used)/\aa 1 (iE a.m.p.months)=yX a.m 3/\aa 1 (iE a.m.p.settle)=yX a.m 4/\[xR (fH a),xR (fS a)]=[[dI a.r.kind,dI a.r.id,dI ((b.p.legs b.n).fst),dI a.r.side,dI a.near,dI a.r.qty,dI a.r.left,dI a.r.why],[dI a.r.kind,dI a.r.id,dI (vC b),dI (aj.wrap (3-a.r.side)),dI a.far,dI a.r.qty,dI a.r.left,dI a.r.why]]/\True
def z0c (i:MsI):Prop:=
 ∃(a:cL),sb a.p.code=sb i.m.p.code/\iE a.p.months=iE i.m.p.months/\a.p.tick=i.m.p.tick/\a.p.low=i.m.p.low/\a.p.high=i.m.p.high/\a.p.wide=i.m.p.wide/\a.p.rule=i.m.p.rule/\a.p.top=i.m.p.top/\a.p.least=i.m.p.least/\a.p.part=i.m.p.part/\iE a.p.settle=iE i.m.p.settle/\a.n=i.r.inst/\(jF a)/\∀(b:Unit),True->(eL i a)/\eL i a
def y4k (i:MiN):Prop:=
 ∃(i_1:cL),sb i_1.p.code=sb i.m.p.code/\iE i_1.p.months=iE i.m.p.months/\i_1.p.tick=i.m.p.tick/\i_1.p.low=i.m.p.low/\i_1.p.high=i.m.p.high/\i_1.p.wide=i.m.p.wide/\i_1.p.rule=i.m.p.rule/\i_1.p.top=i.m.p.top/\i_1.p.least=i.m.p.least/\i_1.p.part=i.m.p.part/\iE i_1.p.settle=iE i.m.p.settle/\i_1.n=i.inst/\(i_1.p.code.length<=1099511627776/\i_1.p.months.length<=1099511627776/\i_1.p.settle.length<=1099511627776)/\∀(o:Unit),True->∃(o:Unit),(i.m.p.legs i.inst).snd.snd=(i_1.p.legs i_1.n).snd.snd/\dh (sb i.m.p.code)/\dh i.m.p.tick/\dh i.m.p.low/\dh i.m.p.high/\dh i.m.p.wide/\dh i.m.p.rule/\dh i.m.p.top/\dh i.m.p.least/\dh i.m.p.part/\zD i.m.s=yX i.m 1/\dh (zW i.m.used)/\aa 1 (iE i.m.p.months)=yX i.m 3/\aa 1 (iE i.m.p.settle)=yX i.m 4/\True
def zUn (a:OfI):Prop:=a.x.price=a.x.price/\dh a.x.qty/\dh a.x.implied/\dh (aa 6 (ao yV a.x.fills))/\True
def Vof (i:OfI):Prop:=
 ∃(a:Nat),(↑a:Int)=0/\∃(b:Nat->Prop),∃(c:Nat->Nat),b a/\∀(d:Nat),b d->cnd (decide ((↑d:Int)<(↑(ao yV i.x.fills).length:Int))) ((0<=(↑d:Int)/\(↑d:Int)<(↑(ao yV i.x.fills).length:Int))/\∃(e:Int),∃(f:Int),∃(g:Int),∃(h:Int),∃(j:Int),∃(k:Int),zE (ao yV i.x.fills) (↑d:Int).toNat 0 6=au [dI e,dI f,dI g,dI h,dI j,dI k]/\cnd (f==i.k) (∃(l:Unit),ofF i.x i.k=h/\zUn i) (∃(l:Nat),(↑l:Int)=aj.wrap ((↑d:Int)+1)/\b l/\c l<c d/\dh (ab [zA i.x.price,zA i.x.qty,yR i.x.implied,V.own 1] (321:ba))/\dh (aa 6 (ao yV i.x.fills)))) (∃(e:Unit),ofF i.x i.k=i.x.price/\zUn i)
def rZ (a:MpI):Prop:=sb a.m.p.code=sb a.m.p.code/\dh a.m.p.tick/\dh a.m.p.low/\dh a.m.p.high/\dh a.m.p.wide/\dh a.m.p.rule/\dh a.m.p.top/\dh a.m.p.least/\dh a.m.p.part/\zD a.m.s=yX a.m 1/\dh (zW a.m.used)/\aa 1 (iE a.m.p.months)=yX a.m 3/\aa 1 (iE a.m.p.settle)=yX a.m 4/\True
def qM (a:MpI):=(wU a.m.p a.inst a.x)
def zZa (i:MpI):Prop:=
 cnd (!i.x.implied) (∃(a:LpI),sb a.p.code=sb i.m.p.code/\iE a.p.months=iE i.m.p.months/\a.p.tick=i.m.p.tick/\a.p.low=i.m.p.low/\a.p.high=i.m.p.high/\a.p.wide=i.m.p.wide/\a.p.rule=i.m.p.rule/\a.p.top=i.m.p.top/\a.p.least=i.m.p.least/\a.p.part=i.m.p.part/\iE a.p.settle=iE i.m.p.settle/\a.inst=i.inst/\a.price=i.x.price/\(a.p.check=0/\(a.p.code.length<=1099511627776/\a.p.months.length<=1099511627776/\a.p.settle.length<=1099511627776)/\(-9223372036854775808)<=a.price/\a.price<=9223372036854775807)/\∀(b:Unit),True->∃(c:Unit),(qM i).fst=(y5 a).fst/\(qM i).snd=(y5 a).snd.fst/\rZ i) (∃(a:cL),sb a.p.code=sb i.m.p.code/\iE a.p.months=iE i.m.p.months/\a.p.tick=i.m.p.tick/\a.p.low=i.m.p.low/\a.p.high=i.m.p.high/\a.p.wide=i.m.p.wide/\a.p.rule=i.m.p.rule/\a.p.top=i.m.p.top/\a.p.least=i.m.p.least/\a.p.part=i.m.p.part/\iE a.p.settle=iE i.m.p.settle/\a.n=i.inst/\(jF a)/\∀(b:Unit),True->∃(c:OfI),c.k=(a.p.legs a.n).fst/\c.x.price=i.x.price/\c.x.qty=i.x.qty/\c.x.implied=i.x.implied/\aa 6 (ao yV c.x.fills)=aa 6 (ao yV i.x.fills)/\c.x.fills.length<=1000000/\∀(d:Unit),True->∃(e:OfI),e.k=(a.p.legs a.n).snd.fst/\e.x.price=c.x.price/\e.x.qty=c.x.qty/\e.x.implied=c.x.implied/\aa 6 (ao yV e.x.fills)=aa 6 (ao yV c.x.fills)/\e.x.fills.length<=1000000/\∀(f:Unit),True->∃(g:Unit),(qM i).fst=ofF c.x c.k/\(qM i).snd=ofF e.x e.k/\rZ i)
def zDi (a:MpI):Prop:=(a.m.p.check=0/\a.m.p.code.length<=1099511627776/\a.m.p.months.length<=1099511627776/\a.m.p.settle.length<=1099511627776)/\((-9223372036854775808)<=a.x.price/\a.x.price<=9223372036854775807)/\a.x.fills.length<=1000000
def zEa (a:MsI):Prop:=(a.m.p.check=0/\a.m.p.code.length<=1099511627776/\a.m.p.months.length<=1099511627776/\a.m.p.settle.length<=1099511627776)/\(a.r.side=1\/a.r.side=2)
def zDq (a:MiN):Prop:=a.m.p.check=0/\a.m.p.code.length<=1099511627776/\a.m.p.months.length<=1099511627776/\a.m.p.settle.length<=1099511627776
def aV (a:StI'):=(D.v (aw (sb a.c.label)))
def yIp (i:StI'):Prop:=
 ∃(a:Nat),(↑a:Int)=0/\ao xR (i.out a)=[]/\∃(b:Nat->Prop),∃(c:Nat->Nat),b a/\∀(d:Nat),b d->cnd (decide ((↑d:Int)<(↑(ao yV i.x.fills).length:Int))) ((0<=(↑d:Int)/\(↑d:Int)<(↑(ao yV i.x.fills).length:Int))/\∃(e:Int),∃(f:Int),∃(g:Int),∃(h:Int),∃(j:Int),∃(k:Int),zE (ao yV i.x.fills) (↑d:Int).toNat 0 6=au [dI e,dI f,dI g,dI h,dI j,dI k]/\((ao xR (i.out d)).length+1)*(64:Nat)<=(140737488355328:Nat)/\∃(l:MiN),l.inst=f/\sb l.m.p.code=sb i.m.p.code/\l.m.p.tick=i.m.p.tick/\l.m.p.low=i.m.p.low/\l.m.p.high=i.m.p.high/\l.m.p.wide=i.m.p.wide/\l.m.p.rule=i.m.p.rule/\l.m.p.top=i.m.p.top/\l.m.p.least=i.m.p.least/\l.m.p.part=i.m.p.part/\zD l.m.s=yX i.m 1/\zW l.m.used=zW i.m.used/\aa 1 (iE l.m.p.months)=yX i.m 3/\aa 1 (iE l.m.p.settle)=yX i.m 4/\(zDq l)/\∀(m:Unit),True->cnd (l.m.p.legs l.inst).snd.snd (∃(n:MpI),n.inst=f/\n.x.price=i.x.price/\n.x.qty=i.x.qty/\n.x.implied=i.x.implied/\ao yV n.x.fills=ao yV i.x.fills/\sb n.m.p.code=sb l.m.p.code/\n.m.p.tick=l.m.p.tick/\n.m.p.low=l.m.p.low/\n.m.p.high=l.m.p.high/\n.m.p.wide=l.m.p.wide/\n.m.p.rule=l.m.p.rule/\n.m.p.top=l.m.p.top/\n.m.p.least=l.m.p.least/\n.m.p.part=l.m.p.part/\zD n.m.s=zD l.m.s/\zW n.m.used=zW l.m.used/\aa 1 (iE n.m.p.months)=aa 1 (iE l.m.p.months)/\aa 1 (iE n.m.p.settle)=aa 1 (iE l.m.p.settle)/\(zDi n)/\∀(p:Unit),True->∃(q:MsI),q.r.kind=3/\q.r.id=e/\q.r.inst=f/\q.r.side=g/\q.r.price=h/\q.r.qty=j/\q.r.left=k/\q.r.why=0/\q.near=(qM n).fst/\q.far=(qM n).snd/\sb q.m.p.code=sb n.m.p.code/\q.m.p.tick=n.m.p.tick/\q.m.p.low=n.m.p.low/\q.m.p.high=n.m.p.high/\q.m.p.wide=n.m.p.wide/\q.m.p.rule=n.m.p.rule/\q.m.p.top=n.m.p.top/\q.m.p.least=n.m.p.least/\q.m.p.part=n.m.p.part/\zD q.m.s=zD n.m.s/\zW q.m.used=zW n.m.used/\aa 1 (iE q.m.p.months)=aa 1 (iE n.m.p.months)/\aa 1 (iE q.m.p.settle)=aa 1 (iE n.m.p.settle)/\(zEa q)/\∀(r:Unit),True->True/\((ao xR (i.out d)++[[dI 3,dI e,dI f,dI g,dI h,dI j,dI k,dI 0]]).length+2)*(64:Nat)<=(140737488355328:Nat)/\∃(s:Nat),(↑s:Int)=aj.wrap ((↑d:Int)+1)/\ao xR (i.out s)=ao xR (i.out d)++[[dI 3,dI e,dI f,dI g,dI h,dI j,dI k,dI 0]]++[xR (fH q),xR (fS q)]/\b s/\c s<c d/\dh (ab [V.d (dI i.x.price),V.d (dI i.x.qty),V.d (D.v (.bool i.x.implied)),V.own 7] 321)/\dh (aa 6 (ao yV i.x.fills))/\dh (ab [V.d (dI i.c.kind),V.d (dI i.c.id),V.d (dI i.c.inst),V.d (dI i.c.side),V.d (dI i.c.price),V.d (dI i.c.qty),V.d (dI i.c.least),V.d (dI i.c.time),V.d (aV i)] 80)/\dh (ab [V.nm 0 0] 100)/\ab [V.d (D.v (aw (sb q.m.p.code))),V.own 3,V.d (dI q.m.p.tick),V.d (dI q.m.p.low),V.d (dI q.m.p.high),V.d (dI q.m.p.wide),V.d (dI q.m.p.rule),V.d (dI q.m.p.top),V.d (dI q.m.p.least),V.d (dI q.m.p.part),V.own 4,V.nm 1 0,V.mp 2] (179:ba)=yX i.m 0/\zD q.m.s=yX i.m 1/\af (zW q.m.used)=yX i.m 2/\aa 1 (iE q.m.p.months)=yX i.m 3/\aa 1 (iE q.m.p.settle)=yX i.m 4) (∃(n:Nat),(↑n:Int)=aj.wrap ((↑d:Int)+1)/\ao xR (i.out n)=ao xR (i.out d)++[[dI 3,dI e,dI f,dI g,dI h,dI j,dI k,dI 0]]/\b n/\c n<c d/\dh (ab [V.d (dI i.x.price),V.d (dI i.x.qty),V.d (D.v (.bool i.x.implied)),V.own 7] 321)/\dh (aa 6 (ao yV i.x.fills))/\dh (ab [V.d (dI i.c.kind),V.d (dI i.c.id),V.d (dI i.c.inst),V.d (dI i.c.side),V.d (dI i.c.price),V.d (dI i.c.qty),V.d (dI i.c.least),V.d (dI i.c.time),V.d (aV i)] 80)/\dh (ab [V.nm 0 0] 100)/\ab [V.d (D.v (aw (sb l.m.p.code))),V.own 3,V.d (dI l.m.p.tick),V.d (dI l.m.p.low),V.d (dI l.m.p.high),V.d (dI l.m.p.wide),V.d (dI l.m.p.rule),V.d (dI l.m.p.top),V.d (dI l.m.p.least),V.d (dI l.m.p.part),V.own 4,V.nm 1 0,V.mp 2] (179:ba)=yX i.m 0/\zD l.m.s=yX i.m 1/\af (zW l.m.used)=yX i.m 2/\aa 1 (iE l.m.p.months)=yX i.m 3/\aa 1 (iE l.m.p.settle)=yX i.m 4)) (((ao xR (i.out d)).length+1)*(64:Nat)<=(140737488355328:Nat)/\∃(e:MiN),e.inst=i.c.inst/\sb e.m.p.code=sb i.m.p.code/\e.m.p.tick=i.m.p.tick/\e.m.p.low=i.m.p.low/\e.m.p.high=i.m.p.high/\e.m.p.wide=i.m.p.wide/\e.m.p.rule=i.m.p.rule/\e.m.p.top=i.m.p.top/\e.m.p.least=i.m.p.least/\e.m.p.part=i.m.p.part/\zD e.m.s=yX i.m 1/\zW e.m.used=zW i.m.used/\aa 1 (iE e.m.p.months)=yX i.m 3/\aa 1 (iE e.m.p.settle)=yX i.m 4/\(zDq e)/\∀(f:Unit),True->cnd (e.m.p.legs e.inst).snd.snd (∃(g:MpI),g.inst=i.c.inst/\g.x.price=i.x.price/\g.x.qty=i.x.qty/\g.x.implied=i.x.implied/\ao yV g.x.fills=ao yV i.x.fills/\sb g.m.p.code=sb e.m.p.code/\g.m.p.tick=e.m.p.tick/\g.m.p.low=e.m.p.low/\g.m.p.high=e.m.p.high/\g.m.p.wide=e.m.p.wide/\g.m.p.rule=e.m.p.rule/\g.m.p.top=e.m.p.top/\g.m.p.least=e.m.p.least/\g.m.p.part=e.m.p.part/\zD g.m.s=zD e.m.s/\zW g.m.used=zW e.m.used/\aa 1 (iE g.m.p.months)=aa 1 (iE e.m.p.months)/\aa 1 (iE g.m.p.settle)=aa 1 (iE e.m.p.settle)/\(zDi g)/\∀(h:Unit),True->∃(j:MsI),j.r.kind=3/\j.r.id=i.c.id/\j.r.inst=i.c.inst/\j.r.side=i.c.side/\j.r.price=i.x.price/\j.r.qty=i.x.qty/\j.r.left=i.left/\j.r.why=0/\j.near=(qM g).fst/\j.far=(qM g).snd/\sb j.m.p.code=sb g.m.p.code/\j.m.p.tick=g.m.p.tick/\j.m.p.low=g.m.p.low/\j.m.p.high=g.m.p.high/\j.m.p.wide=g.m.p.wide/\j.m.p.rule=g.m.p.rule/\j.m.p.top=g.m.p.top/\j.m.p.least=g.m.p.least/\j.m.p.part=g.m.p.part/\zD j.m.s=zD g.m.s/\zW j.m.used=zW g.m.used/\aa 1 (iE j.m.p.months)=aa 1 (iE g.m.p.months)/\aa 1 (iE j.m.p.settle)=aa 1 (iE g.m.p.settle)/\(zEa j)/\∀(k:Unit),True->True/\((ao xR (i.out d)++[[dI 3,dI i.c.id,dI i.c.inst,dI i.c.side,dI i.x.price,dI i.x.qty,dI i.left,dI 0]]).length+2)*(64:Nat)<=(140737488355328:Nat)/\∃(l:Unit),sb i.m.p.code=sb j.m.p.code/\i.m.p.tick=j.m.p.tick/\i.m.p.low=j.m.p.low/\i.m.p.high=j.m.p.high/\i.m.p.wide=j.m.p.wide/\i.m.p.rule=j.m.p.rule/\i.m.p.top=j.m.p.top/\i.m.p.least=j.m.p.least/\i.m.p.part=j.m.p.part/\zD i.m.s=zD j.m.s/\zW i.m.used=zW j.m.used/\aa 1 (iE i.m.p.months)=aa 1 (iE j.m.p.months)/\aa 1 (iE i.m.p.settle)=aa 1 (iE j.m.p.settle)/\ao xR (mX i.m.p i.c i.x i.left)=ao xR (i.out d)++[[dI 3,dI i.c.id,dI i.c.inst,dI i.c.side,dI i.x.price,dI i.x.qty,dI i.left,dI 0]]++[xR (fH j),xR (fS j)]/\True) (∃(g:Unit),sb i.m.p.code=sb e.m.p.code/\i.m.p.tick=e.m.p.tick/\i.m.p.low=e.m.p.low/\i.m.p.high=e.m.p.high/\i.m.p.wide=e.m.p.wide/\i.m.p.rule=e.m.p.rule/\i.m.p.top=e.m.p.top/\i.m.p.least=e.m.p.least/\i.m.p.part=e.m.p.part/\zD i.m.s=zD e.m.s/\zW i.m.used=zW e.m.used/\aa 1 (iE i.m.p.months)=aa 1 (iE e.m.p.months)/\aa 1 (iE i.m.p.settle)=aa 1 (iE e.m.p.settle)/\ao xR (mX i.m.p i.c i.x i.left)=ao xR (i.out d)++[[dI 3,dI i.c.id,dI i.c.inst,dI i.c.side,dI i.x.price,dI i.x.qty,dI i.left,dI 0]]/\True))
def z4c:rejC.ok Tryz.prog 112:=okw (V:=y4n) mixed gok0 0 (λ_=>[]) (λ_=>[]) [] Tryz.func112 λ(i:RjI) _=>⟨(),rfl,trivial⟩
def yGc (i:MsI) (h:mspreadC.cnd i):z0c i:=by
 obtain⟨⟨hc,hp⟩,hs⟩:i.m.fine/\(i.r.side=1\/i.r.side=2):=h;have hw:aj.wrap (3-i.r.side)=3-i.r.side:=w64 oM;unfold z0c eL fH fS uN vC jF dI;rw[hw];refine⟨⟨i.m.p,i.r.inst⟩,rF8 (rF3 ⟨rfl,hp,λ_ _=> ?_⟩)⟩;exact kp
def z5k:mspreadC.ok Tryz.prog 239:=okw mixed (gokc lU gok0) 0 (λ_=>[]) (λ_=>[]) [] Tryz.func239 yGc
def yWc:misC.ok Tryz.prog 237:=okw (V:=y4k) mixed (gokc lU gok0) 0 (λ_=>[]) (λ_=>[]) [] Tryz.func237 λ(i:MiN) h=>by
 obtain⟨hc,hp⟩:i.m.fine:=h;exact⟨⟨i.m.p,i.inst⟩,rF8 (rF3 ⟨rfl,hp,λ_ _=>kp⟩)⟩
def yZi {l:List cM} {k:Nat} {f:cM} (h:l[k]? =au f):zE (l.map yV) k 0 6=au [D.v (.int .i64 f.id),D.v (.int .i64 f.inst),D.v (.int .i64 f.side),D.v (.int .i64 f.price),D.v (.int .i64 f.qty),D.v (.int .i64 f.left)]:=elA h (by simp[yV]) rfl
def vof (i:OfI) (h:ofC.cnd i):Vof i:=by
 have hl:i.x.fills.length<=1000000:=h;have e4:(i.x.fills.map yV).length=i.x.fills.length:=y5f ..;unfold Vof zUn dI;refine⟨0,rfl,λj=>j<=i.x.fills.length/\(i.x.fills.take j).find? (λf=>decide (f.inst=i.k))=av,λj=>i.x.fills.length-j,⟨y6l _,rfl⟩,?_⟩;rintro j ⟨j1,j2⟩;refine zH (λc=> ?_) (λc=> ?_)
 ·obtain⟨f,hf⟩:=yD (l:=i.x.fills) (i:=j) oM;refine⟨⟨oM,oM⟩,_,_,_,_,_,_,yZi hf,Cv.cnd.mk (λg=>⟨(),?_,k0q⟩) (λg=>⟨j+1,wjn oM,⟨oM,?_⟩,Z9,k0q⟩)⟩
  ·have g:f.inst=i.k:=by simpa using g
   have e:i.x.fills.find? (λf=>decide (f.inst=i.k))=au f:=by
    rw[<- y7l j i.x.fills,List.find?_append,j2,y7m (by omega),(y5i.1 hf).2,List.find?_cons_of_pos (by simpa using g)];rfl
   rw[ofF,e]
  ·have g:¬f.inst=i.k:=by simpa using g
   rw[y6n,hf,List.find?_append,j2];simp[g]
 ·have:j=i.x.fills.length:=by omega
  rw[this,y5q (y6a _)]at j2;exact⟨(),by rw[ofF,j2],k0q⟩
def yYx:ofC.ok Tryz.prog 265:=okw mixed gok0 0 (λ_=>[]) (λ_=>ofA) [] Tryz.func265 vof
def yGo (i:MpI) (h:mpricesC.cnd i):zZa i:=by
 obtain⟨⟨hc,hp⟩,hpr,hl⟩:i.m.fine/\yW i.x.price/\i.x.fills.length<=1000000:=h;unfold zZa qM rZ y5 jF;refine Cv.cnd.mk (λe=> ?_) (λe=> ?_)
 ·have e:i.x.implied=ap:=by simpa using e
  have h0:wU i.m.p i.inst i.x=((fN i.m.p i.inst i.x.price).1,(fN i.m.p i.inst i.x.price).2.1):=by rw[wU,y5g e]
  rw[h0];exact⟨⟨i.m.p,i.inst,i.x.price⟩,rF8 (rF4 ⟨rfl,⟨hc,hp,hpr⟩,λ_ _=>kp⟩)⟩
 ·have e:¬i.x.implied=ap:=by simpa using e
  have h0:wU i.m.p i.inst i.x=(ofF i.x (i.m.p.legs i.inst).1,ofF i.x (i.m.p.legs i.inst).2.1):=by rw[wU,y5e e]
  rw[h0];exact⟨⟨i.m.p,i.inst⟩,rF8 (rF3 ⟨rfl,hp,λ_ _=>⟨⟨i.x,(i.m.p.legs i.inst).1⟩,rF4 ⟨rfl,hl,λ_ _=>⟨⟨i.x,(i.m.p.legs i.inst).2.1⟩,rF4 ⟨rfl,hl,λ_ _=>kp⟩⟩⟩⟩⟩)⟩
def z4v:mpricesC.ok Tryz.prog 238:=okw mixed (gokc lU (gokc z2j (gokc yYx gok0))) 0 (λ_=>[]) (λ_=>[]) [] Tryz.func238 yGo
def zOu (p:Prd) (x:j0) (r:Rep):(m9 p x r).length<=3:=by
 rw[m9,y5j];split
 ·rw[zFb];simp
 ·simp
def z8x {p:Prd} {x:j0} {r:Rep} (h:(p.legs r.inst).2.2=ap):m9 p x r=[r]:=by
 rw[m9,y5e (by rw[h];decide)]
def z1w {p:Prd} {x:j0} {r:Rep} (h:(p.legs r.inst).2.2=aq):m9 p x r=r::zFb p r (wU p r.inst x).1 (wU p r.inst x).2:=by
 rw[m9,y5g h]
def StI'.out_len (i:StI'):∀j,(i.out j).length<=3*j
 |0=>y6a _
 |j+1=>by
  have ih:=StI'.out_len i j;rw[StI'.out]at ih ⊢;rw[y6n,y7c,y5d];cases e:i.x.fills[j]? with
  |none=>simp only[Option.toList_none,xAj,y6y];omega
  |some f=>
   have:=zOu i.m.p i.x (zEs f);simp only[y8h,y6z,xAj,y6b];omega
def StI'.out_succ (i:StI') {j:Nat} {f:cM} (h:i.x.fills[j]? =au f):i.out (j+1)=i.out j++m9 i.m.p i.x (zEs f):=by
 rw[StI'.out,StI'.out,y6n,y7c,h];simp
def yWv (i:StI') (h:mstepC.cnd i):yIp i:=by
 obtain⟨hf,hpr,hl,hcs,hfs⟩:i.m.fine/\yW i.x.price/\i.x.fills.length<=1000000/\(i.c.side=1\/i.c.side=2)/\∀f∈i.x.fills,f.side=1\/f.side=2:=h;have e4:(i.x.fills.map yV).length=i.x.fills.length:=y5f ..;unfold yIp aV zDq zEa zDi fH fS qM dI;refine⟨0,rfl,rfl,λj=>j<=i.x.fills.length,λj=>i.x.fills.length-j,y6l _,?_⟩;intro j hj;have ho:=i.out_len j;have e5:((i.out j).map xR).length=(i.out j).length:=y5f ..;refine zH (λc=> ?_) (λc=> ?_)
 ·obtain⟨f,hfj⟩:=yD (l:=i.x.fills) (i:=j) oM;have hos:=i.out_succ hfj;have hfj2:=hfs f (y5p hfj);refine⟨⟨oM,oM⟩,_,_,_,_,_,_,yZi hfj,oM,⟨i.m,f.inst⟩,rfl,rfl,rfl,rfl,rfl,rfl,rfl,rfl,rfl,rfl,rfl,rfl,rfl,rfl,hf,λ_ _=>Cv.cnd.mk (λe=> ?_) (λe=> ?_)⟩
  ·have e:(i.m.p.legs (zEs f).inst).2.2=aq:=e;rw[z1w e]at hos;refine⟨⟨i.m,f.inst,i.x⟩,rF8 (rF6 (rF3 ⟨rfl,⟨hf,hpr,hl⟩,λ_ _=>⟨⟨i.m,zEs f,(wU i.m.p f.inst i.x).1,(wU i.m.p f.inst i.x).2⟩,rF8 (rF8 (rF6 ⟨rfl,⟨hf,hfj2⟩,λ_ _=>⟨trivial,by rw[y5d,e5];simp only[y5j,y6y];omega,j+1,wjn oM,?_,oM,Z9,k0q⟩⟩))⟩⟩))⟩;rw[hos,y5o,y5l];rfl
  ·have e:(i.m.p.legs (zEs f).inst).2.2=ap:=e;rw[z8x e]at hos;refine⟨j+1,wjn oM,?_,oM,Z9,k0q⟩;rw[hos,y5o];rfl
 ·have hj:j=i.x.fills.length:=by omega
  have ho2:i.x.fills.flatMap (λf=>m9 i.m.p i.x (zEs f))=i.out j:=by rw[StI'.out,hj,y5q (y6a _)]
  have hR:mX i.m.p i.c i.x i.left=i.out j++m9 i.m.p i.x ⟨3,i.c.id,i.c.inst,i.c.side,i.x.price,i.x.qty,i.left,0⟩:=by rw[mX,ho2]
  refine⟨oM,⟨i.m,i.c.inst⟩,rF8 (rF5 ⟨rfl,hf,λ_ _=>Cv.cnd.mk (λe=> ?_) (λe=> ?_)⟩)⟩
  ·have e:(i.m.p.legs (⟨3,i.c.id,i.c.inst,i.c.side,i.x.price,i.x.qty,i.left,0⟩:Rep).inst).2.2=aq:=e;rw[z1w e]at hR;refine⟨⟨i.m,i.c.inst,i.x⟩,rF8 (rF6 (rF3 ⟨rfl,⟨hf,hpr,hl⟩,λ_ _=>⟨⟨i.m,⟨3,i.c.id,i.c.inst,i.c.side,i.x.price,i.x.qty,i.left,0⟩,(wU i.m.p i.c.inst i.x).1,(wU i.m.p i.c.inst i.x).2⟩,rF8 (rF8 (rF6 ⟨rfl,⟨hf,hcs⟩,λ_ _=>⟨trivial,by rw[y5d,e5];simp only[y5j,y6y];omega,?_⟩⟩))⟩⟩))⟩;rw[hR,y5o,y5l];exact kp
  ·have e:(i.m.p.legs (⟨3,i.c.id,i.c.inst,i.c.side,i.x.price,i.x.qty,i.left,0⟩:Rep).inst).2.2=ap:=e;rw[z8x e]at hR;rw[hR,y5o];exact kp
def yEq:mstepC.ok Tryz.prog 208:=okw mixed (gokc yWc (gokc z4v (gokc z5k gok0))) 1 (λ_=>[]) (λi=>yXp i) [] Tryz.func208 yWv
structure EnI where
 m:Mkt
 p:Prd
 B:List (List zI)
 U:List Int
 c:Cmd
 X:MkX
@[reducible] def EnI.std (i:EnI):Prop:=i.m.Rep i.p i.B i.U/\BOk i.p i.B
@[reducible] def EnI.good (i:EnI):Prop:=(0<=i.c.inst/\i.c.inst<i.B.length)/\(1<=i.c.qty/\i.c.qty<=1000000)/\(i.c.side=1\/i.c.side=2)
@[reducible] def z0b (X:MkX) (p:Prd):Alt:={o:=Mkt,res:=λ_=> .own 5,post:=λo=>zBo o++[z2z X.R],rel:=λo=>o.Rep p X.B X.U}
def enterC:Con where
 ι:=EnI
 pat:=λi=>[.nm 0 0,zGi i.c]
 pre:=λi=>zBo i.m
 cnd:=λi=>i.std/\i.good/\i.p.price i.c.inst i.c.price=0/\i.X=cU i.p i.B i.U i.c
 alts:=λi=>[z0b i.X i.p]
structure EnJ where
 left:Int
 k:Nat
 out:List Rep
def yWx (i:EnI):List SAnn:=[{ι:=EnJ,slots:=λj=>[(5,.own 0),(8,zA j.left),(51,zA j.k)],rows:=λj=>[z2z j.out]}]
def orderC:Con where
 ι:=EnI
 pat:=λi=>[.nm 0 0,zGi i.c]
 pre:=λi=>zBo i.m
 cnd:=λi=>i.std/\i.c.right=0/\i.c.kind=1/\i.X=nC i.p i.B i.U i.c
 alts:=λi=>[z0b i.X i.p]
def yXm:List (Nat×SAnn):=[(22,ij 6),(44,bj 47),(52,bj 69)]
structure CaI where
 m:Mkt
 p:Prd
 B:List (List zI)
 U:List Int
 id:Int
 q:Int
 inst:Int
 o:zI
 X:MkX
@[reducible] def CaI.std (i:CaI):Prop:=i.m.Rep i.p i.B i.U/\BOk i.p i.B
def cancelC:Con where
 ι:=CaI
 pat:=λi=>[.nm 0 0,zA i.id,zA i.inst,yBf i.o]
 pre:=λi=>zBo i.m
 cnd:=λi=>i.std/\i.X=uS i.B i.U i.id i.inst i.o
 alts:=λi=>[z0b i.X i.p]
def reduceC:Con where
 ι:=CaI
 pat:=λi=>[.nm 0 0,zA i.id,zA i.q,zA i.inst,yBf i.o]
 pre:=λi=>zBo i.m
 cnd:=λi=>i.std/\yW (i.o.qty-i.q)/\i.X=bF i.B i.U i.id i.q i.inst i.o
 alts:=λi=>[z0b i.X i.p]
structure yCl where
 m:Mkt
 p:Prd
 B:List (List zI)
 U:List Int
 c:Cmd
 inst:Int
 o:zI
 X:MkX
def replaceC:Con where
 ι:=yCl
 pat:=λi=>[.nm 0 0,zGi i.c,zA i.inst,yBf i.o]
 pre:=λi=>zBo i.m
 cnd:=λi=>i.m.Rep i.p i.B i.U/\BOk i.p i.B/\zZ i.B i.c.id=(i.inst,i.o,aq)/\(1<=i.c.qty/\i.c.qty<=1000000)/\i.X=fY i.p i.B i.U i.c i.inst i.o
 alts:=λi=>[z0b i.X i.p]
def doC:Con where
 ι:=EnI
 pat:=λi=>[.nm 0 0,zGi i.c]
 pre:=λi=>[jR i.m]
 cnd:=λi=>i.std/\i.c.label.length<=140737488355328/\yW i.c.qty/\i.X=doF i.p i.B i.U i.c
 alts:=λi=>[{o:=Mkt,res:=λ_=> .own 1,post:=λo=>[jR o,z2z i.X.R],rel:=λo=>o.Rep i.p i.X.B i.X.U}]
end Sx
