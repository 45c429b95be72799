/- Texts of ours. No condition. -/
import Derived.Shelf.Spec.SlicesGrow
import Derived.Test.YtaafldgiafcgfaaGreatC9
set_option linter.all false
open Sx.AObj renaming fro->aa,cells->ab,adt->ac,objs->ae,map->af,own->ag
open Go.IntKind renaming i64->aj,u8->ak
open List renaming map->am,drop_take->ao
open Bool renaming false->ap,true->aq
open And renaming intro->ar
open Go.Builtin renaming zeroCells->au
open Option renaming some->av,none->aw
open ByteArray renaming mk->ax
open BitVec renaming ofInt->ay
open Go.Value renaming string->az
open Go renaming grownCap->ba,TypeId->bc,size_zeroCells->be
namespace Sx
set_option maxRecDepth 100000
open Go Cv Go.Proofs
def growR:Go.Shelf.Ren:=⟨λx=>if x=4 then 100 else x,λx=>if x=22 then 32 else if x=25 then 5 else x,λx=>x⟩
def y0b:Lays8.n4 Tryz.prog growR where
 mixed:=mixed
 f4:=⟨Tryz.f100.name,by decide+kernel,by kernel_rfl⟩
 t0:=by kernel_rfl
 a0:=λ_=>by kernel_rfl
 z0:=λ_=>by kernel_rfl
 v0:=λ_=>by kernel_rfl
 t3:=by kernel_rfl
 a3:=λ_=>by kernel_rfl
 z3:=λ_=>by kernel_rfl
 v3:=λ_=>by kernel_rfl
 t4:=by kernel_rfl
 a4:=λ_=>by kernel_rfl
 z4:=λ_=>by kernel_rfl
 v4:=λ_=>by kernel_rfl
 t9:=by kernel_rfl
 a9:=λ_=>by kernel_rfl
 z9:=λ_=>by kernel_rfl
 v9:=λ_=>by kernel_rfl
 t20:=by kernel_rfl
 a20:=λ_=>by kernel_rfl
 z20:=λ_=>by kernel_rfl
 v20:=λ_=>by kernel_rfl
 t22:=by kernel_rfl
 a22:=λ_=>by kernel_rfl
 z22:=λ_=>by kernel_rfl
 v22:=λ_=>by kernel_rfl
def yZh:vP Tryz.prog 32=av (5,1,1,#[.int .u8 0]):=by kernel_rfl
def yPo:growC.ok Tryz.prog 100:=by
 intro(n:Nat) hc k L E w ys R hv;obtain⟨c1,c2⟩:1<=n/\n<=1099511627776:=hc;simp only[growC,con1,VRL,VR,DR]at hv;obtain⟨_,_,rfl,⟨rfl,_⟩,_,_,rfl,⟨rfl,_⟩,rfl⟩:=hv;obtain⟨inf,zv,q1,q2,q3,q4,q5,q6⟩:=kH yZh;have hcall:=Any8.slices_Grow_grow y0b inf zv q2 q5 (by omega) aw 0 0 n [] w (y5x _) (by omega) (by rw[q4];omega) (by omega) (by simp) (λ_=>rfl) (λa h=>by cases h);rw[show growR.t 25=5 from rfl]at hcall;refine mD (by kernel_rfl) (hcall.mono ?_);rintro en w' ⟨rfl,rfl⟩;have hG:=grownCap_ge w (0+n) 0 5;have H:=((R.hp.drew).new (.cells (([]:List Value).toArray++au zv.cells (0+n-0)++au zv.cells (ba w (0+n) 0 5-(0+n))) 5))
 have ha:(([]:List Value).toArray++au zv.cells (0+n-0)++au zv.cells (ba w (0+n) 0 5-(0+n)))=([]++((au zv.cells (0+n-0)).toList++(au zv.cells (ba w (0+n) 0 5-(0+n))).toList)).toArray:=by
  apply Array.ext';simp
 have hz:zv.cells.size=1:=by rw[q6];rfl
 have hl:([]++((au zv.cells (0+n-0)).toList++(au zv.cells (ba w (0+n) 0 5-(0+n))).toList)).length=ba w (0+n) 0 5*1:=by
  rw[y7v,y5a,y9b,y9b,be,be,hz];omega
 rw[ha]at H ⊢;have H3:=H.slmk (n:=0) (sz:=1) (by simp) hl (y6i _);obtain⟨E',r1,r2,r3⟩:=cR (rows:=[]) (els:=[]) (nx:=0) R.nx (by simp[DRL]) (λx hx=>by cases hx) H3;exact⟨_,rfl,_,y6r.2 rfl,(),trivial,E',r1,r3,⟨r2.nx,r2.hp⟩⟩
def z3c {ls:List (List UInt8)} {k:Nat} {l:List UInt8} (h:ls[k]? =av l):zE (ls.map rcE) k 0 1=av [D.ro 1 (bE l)]:=elA h (by simp[rcE]) rfl
def sU {α:Type} {ls:List (List α)} {k:Nat} {l:List α} (h:ls[k]? =av l):(ls.take (k+1)).flatten=(ls.take k).flatten++l:=by
 rw[y6m,h,y8f,xAb];simp
def z6e {α:Type} (ls:List (List α)) (k:Nat):(ls.take k).flatten.length<=ls.flatten.length:=by
 conv=>rhs;rw[<- y7g k ls,xAb,y5a]
 omega
def y0v (ls:List (List UInt8)) (h:flatC.cnd ls):z6t ls:=by
 obtain⟨h1,h2,h3⟩:1<=ls.flatten.length/\ls.flatten.length<=1099511627776/\ls.length<=1000:=h;unfold z6t bN kO;rw[y5c];refine⟨0,rfl,rfl,λk=>k<=ls.length,λk=>ls.length-k,y6i _,λk hk=>zI (λhlt=> ?_) (λhlt=> ?_)⟩
 ·obtain⟨l,hl⟩:=yC (l:=ls) (i:=k) (by omega);have hk:k<=ls.length:=hk;have e1:=z6e ls (k+1);rw[sU hl,y5a]at e1;refine⟨⟨by omega,by omega⟩,bE l,z3c hl,zI (λc=> ?_) (λ_=>⟨k+1,?_,wjn (by omega),by dsimp only;omega,by dsimp only;omega,trivial⟩)⟩
  ·rw[y4,w64 (by omega)]at c;omega
  ·rw[sU hl,y5a,y4,w64 (by omega)];simp
 ·obtain rfl:k=ls.length:=by have hk:k<=ls.length:=hk;omega
  rw[y7y];refine⟨ls.flatten.length,trivial,rfl,⟨h1,h2⟩,λ_ _=>⟨0,rfl,rfl,λk=>k<=ls.length,λk=>ls.length-k,y6i _,λk hk=>zI (λhlt=> ?_) (λhlt=> ?_)⟩⟩
  ·obtain⟨l,hl⟩:=yC (l:=ls) (i:=k) (by omega);have hk:k<=ls.length:=hk;have e1:=z6e ls (k+1);rw[sU hl,y5a]at e1;refine⟨⟨by omega,by omega⟩,bE l,z3c hl,by rw[y4,y4];omega,k+1,wjn (by omega),by rw[sU hl,zUa],by dsimp only;omega,by dsimp only;omega,trivial⟩
  ·obtain rfl:k=ls.length:=by have hk:k<=ls.length:=hk;omega
   rw[y7y];exact⟨(),rfl,trivial⟩
def z8t:flatC.ok Tryz.prog 43:=yUj (gokc yPo gok0) y0v
def z7u:dnewC.ok Tryz.prog 32:=okw (V:=yYe) mixed gok0 0 (λ_=>[]) (λ_=>[]) [] Tryz.func32 λ(_:Unit) _=>⟨(),rfl,rfl,trivial⟩
def yMo:dappC.ok Tryz.prog 33:=okw (V:=yRl) mixed gok0 0 (λ_=>[]) (λ_=>[]) [0] Tryz.func33 λ(i:DbI) h=>by
 have h:i.d.b.length+i.l.length<=1048576:=h;unfold yRl;rw[y4,y4];refine zI (λc=> ?_) (λ_=>⟨by omega,(),rfl,rfl,zUa _ _,trivial⟩);rw[w64 (by omega)]at c;omega
def yKv:dsynC.ok Tryz.prog 104:=okw (V:=y0i) mixed gok0 0 (λ_=>[]) (λ_=>[]) [0] Tryz.func104 λ(d:Dk) h=>⟨(),by rw[y4],rfl,trivial⟩
def yPb:dbytC.ok Tryz.prog 106:=okw (V:=y1m) mixed (gokc zMy gok0) 0 (λ_=>[]) (λ_=>[]) [0] Tryz.func106 λ(d:Dk) h=>by
 obtain⟨h1,h2⟩:d.ok:=h;exact⟨_,rfl,by rw[y4];omega,λ_ _=>⟨(),rfl,rfl,rfl,trivial⟩⟩
def z4t:cloneBN.ok Tryz.prog 116:=yAv gok0 λi h=>λb hb=>
 Cv.cnd.mk (λe=>⟨(),hb e,trivial⟩) (λ_=>⟨by rw[y6c,Nat.mul_one];exact h,(),rfl,trivial⟩)
def yPv:dswpC.ok Tryz.prog 108:=okw (V:=ySd) mixed (gokc z4t gok0) 0 (λ_=>[]) (λ_=>[]) [0] Tryz.func108 λ(i:DbI) h=>by
 have h:i.l.length<=1048576:=h;unfold ySd;refine zI (λc=> ?_) (λ_=>⟨_,rfl,by rw[y4];omega,λ_ _=>⟨(),rfl,by rw[y4],rfl,trivial⟩⟩);rw[y4]at c;omega
def dcra_ok:dcraC.ok Tryz.prog 17:=okw (V:=yQd) mixed gok0 0 (λ_=>[]) (λ_=>[]) [0] Tryz.func17 λ(i:DnI) h=>by
 obtain⟨h1,h2⟩:i.d.ok:=h;have e0:(if(0:Int)>i.n then(0:Int)else i.n)=max i.n 0:=by rw[Int.max_def];split<;>split<;>omega
 have e1:aj.wrap (((bE i.d.b).length:Int)-i.d.safe)=(i.d.b.length:Int)-i.d.safe:=by rw[y4,w64 (by omega)]
 have hk:(i.d.keep i.n:Int)=i.d.safe+min (max i.n 0) ((i.d.b.length:Int)-i.d.safe):=by rw[Dk.keep];omega
 have e2:aj.wrap ((i.d.safe:Int)+min (max i.n 0) ((i.d.b.length:Int)-i.d.safe))=i.d.keep i.n:=by rw[w64 (by omega),hk]
 unfold yQd pI;rw[e0,e1,e2,y5u,y4,y5t,y4,<- zAj];exact⟨⟨by omega,by omega⟩,(),by omega,rfl,trivial⟩
def y0m:∀n:Fin 256,lob (aj.wrap (ay aj.bits (if aj.signed=aq then(-1:Int)else aj.max) ^^^ ay aj.bits (n.val:Int)).toNat)=UInt8.ofNat (255-n.val):=by decide+kernel
def y3y:∀n:Fin 256,ak.wrap (ay ak.bits (if ak.signed=aq then(-1:Int)else ak.max) ^^^ ay ak.bits (n.val:Int)).toNat=255-(n.val:Int):=by decide+kernel
def gM (l:List UInt8):(xG l).length=l.length+6:=by
 simp only[xG,y5g,y5a,xW]
def yWd (l:List UInt8) (h:frameC.cnd l):yEn l:=by
 have h:l.length<=255:=h;have hn:=y0m ⟨l.length,by omega⟩;dsimp only at hn;unfold yEn;rw[y4];revert hn;generalize aj.wrap (ay aj.bits (if aj.signed=aq then(-1:Int)else aj.max) ^^^ ay aj.bits (l.length:Int)).toNat=X;intro hn;refine zI (λc=>by omega) (λ_=>⟨(),trivial,λ_ _=>⟨⟨[],l.length⟩,rfl,rfl,by simp[WN.ok],λ_ _=>⟨⟨_,_⟩,rfl,rfl,by simp[WN.ok],λ_ _=>⟨?_,l,rfl,by omega,λ_ _=>⟨⟨_,cX l⟩,rfl,zUa _ _,⟨?_,tZ l⟩,λ_ _=>⟨_,rfl,?_,λ_ _=>⟨(),rfl,?_,trivial⟩⟩⟩⟩⟩⟩⟩)
 ·rw[y4];simp;omega
 ·dsimp only;simp;omega
 ·dsimp only;simp[xW];omega
 ·dsimp only;rw[hn,xG];simp
def yIz:frameC.ok Tryz.prog 99:=okw mixed (gokc zVw (gokc zKp (gokc z1r (gokc yJu (gokc zTu gok0))))) 0 (λ_=>yUy) (λ_=>[]) [] Tryz.func99 yWd
def yIu {c:Int} (h:0<=c/\c<4294967296):qM (le c 4)=c:=by
 simp only[le,qM,yLn];omega
def zQx {l:List UInt8} (h:l.length<=255) (r:List UInt8):sN (xG l++r)=(l,6+l.length,0):=by
 have h0:((xG l++r).getD 0 0).toNat=l.length:=by
  have:=zJq (n:=(l.length:Int)) (by omega);show(lob (l.length:Int)).toNat=l.length;omega
 have h1:((xG l++r).getD 1 0).toNat=255-l.length:=by
  show(UInt8.ofNat (255-l.length)).toNat=_;exact UInt8.toNat_ofNat_of_lt' (by
                                     have:255-l.length<256:=by omega
                                     simpa using this)
 have h2:(xG l++r).drop 2=l++(le (cX l) 4++r):=by
  show(l++le (cX l) 4)++r=_;rw[y5i]
 have h3:(xG l++r).drop (2+l.length)=le (cX l) 4++r:=by
  rw[<- y8l,h2,List.drop_left]
 unfold sN;rw[h0,h1,h2,h3,xBj,List.take_left' (xW 4 _),yIu (tZ l)];rw[y5b (by rw[y5a,gM];omega),y5b (by omega),y5b (by rw[y5a,gM];omega),y5b (by simp)]
def y2v (i:OpI) (h:wopC.cnd i):yYc i:=by
 obtain⟨h1,h2⟩:i.k<=i.b.length/\i.b.length<=1099511627776:=h;have ex:i.x=sN (i.b.drop i.k):=rfl;have hll:(i.b.drop i.k).length<=1099511627776:=by rw[y5z];omega
 have bad:∀e:Int,e≠0->i.x.2.2=e->∀{A:Prop},A\/∃o:Unit,True/\(0:Int)=0/\i.x.2.2=e/\(i.x.2.2=0->False):=λe he hx=> .inr ⟨(),trivial,rfl,hx,λh=>he (hx▸h)⟩
 unfold yYc lF zEk zPs fQ cL aS zMd;rw[y5u,<- zFj,y4 i.b];generalize i.b.drop i.k=l at*;rw[y4 l];refine zI (λc=>by omega) (λ_=>⟨⟨by omega,by omega⟩,zI (λc=>bad 10 (by decide) (by rw[ex,sN,y5d (by omega)])) (λc=> ?_)⟩);obtain⟨a,ha⟩:∃a,l[0]? =av a:=⟨_,y6e (by omega)⟩
 obtain⟨b,hb⟩:∃b,l[1]? =av b:=⟨_,y6e (by omega)⟩
 have ea:l.getD 0 0=a:=by rw[y5k,ha];rfl
 have eb:l.getD 1 0=b:=by rw[y5k,hb];rfl
 have la:=a.toNat_lt;have hn:=y3y ⟨a.toNat,la⟩;dsimp only at hn;refine⟨⟨by omega,by omega⟩,b.toNat,dO hb,⟨by omega,by omega⟩,a.toNat,dO ha,?_⟩;rw[hn];have wa:aj.wrap (a.toNat:Int)=a.toNat:=w64 (by omega);have w2:aj.wrap ((2:Int)+a.toNat)=2+a.toNat:=w64 (by omega);have w3:aj.wrap ((2:Int)+a.toNat+4)=2+a.toNat+4:=w64 (by omega);have w4:aj.wrap ((i.k:Int)+(2+a.toNat))=i.k+(2+a.toNat):=w64 (by omega);have w5:aj.wrap ((i.k:Int)+(2+a.toNat)+4)=i.k+(2+a.toNat)+4:=w64 (by omega);have t1:((2:Int)+a.toNat).toNat=2+a.toNat:=by omega
 have t2:((2:Int)+a.toNat+4).toNat=2+a.toNat+4:=by omega
 refine Cv.cnd.mk (λc2=>bad 14 (by decide) ?_) (λc2=>⟨⟨by omega,by omega⟩,a.toNat,dO ha,?_⟩)
 ·have c2:¬((b.toNat:Int)=255-a.toNat):=by simpa using c2
  rw[ex,sN,y5b (by omega),ea,eb,y5d (by omega)]
 have c2:(b.toNat:Int)=255-a.toNat:=by simpa using c2
 rw[wa,w2,w3,w4,w5,t1,t2,show Int.toNat 2=2 from rfl];refine zI (λc3=>bad 10 (by decide) ?_) (λc3=> ?_)
 ·rw[ex,sN,y5b (by omega),ea,eb,y5b (by omega),y5d (by omega)]
 have l1:((l.take (2+a.toNat+4)).drop (2+a.toNat)).length=4:=by rw[y5z,y5t];omega
 have g1:(l.take (2+a.toNat+4)).drop (2+a.toNat)=(l.drop (2+a.toNat)).take 4:=by rw[ao];congr 1;omega
 have g2:(l.take (2+a.toNat)).drop 2=(l.drop 2).take a.toNat:=by rw[ao];congr 1;omega
 have g3:RN.got ⟨(l.take (2+a.toNat+4)).drop (2+a.toNat),ap,4⟩=(l.drop (2+a.toNat)).take 4:=by
  rw[RN.got,y5b (by simp only[RN.bad,l1];decide)];dsimp only;rw[y5n (by omega),g1]
 have l2:((l.drop 2).take a.toNat).length=a.toNat:=by rw[y5t,y5z];omega
 refine⟨⟨by omega,by omega,by omega⟩,(l.take (2+a.toNat+4)).drop (2+a.toNat),by rw[zFj,zAj],by omega,λ_ _=>⟨⟨by omega,by omega,by omega⟩,⟨_,ap,4⟩,rfl,rfl,⟨by dsimp only;omega,by dsimp only;omega⟩,λ_ _=>⟨(l.take (2+a.toNat)).drop 2,by rw[zFj,zAj],by rw[g2];omega,λ_ _=> ?_⟩⟩⟩;rw[g2,g3];have hr:=aU ((l.drop (2+a.toNat)).take 4);have hl4:((l.drop (2+a.toNat)).take 4).length=4:=by rw[<- g1];exact l1
 rw[hl4]at hr;rw[y0j (by omega)];refine Cv.cnd.mk (λc4=>bad 14 (by decide) ?_) (λc4=> ?_)
 ·rw[ex,sN,y5b (by omega),ea,eb,y5b (by omega),y5b (by omega),y5d (by simpa using c4)]
 have ex2:i.x=((l.drop 2).take a.toNat,6+a.toNat,0):=by
  rw[ex,sN,y5b (by omega),ea,eb,y5b (by omega),y5b (by omega),y5b (by simpa using c4)]
 rw[ex2,<- zAj,<- zFj,g2,y4,l2];exact⟨⟨by omega,by omega,by omega⟩,by omega,.inl ⟨(),by dsimp only;omega,rfl,rfl,rfl⟩⟩
def yVt:wopC.ok Tryz.prog 145:=okw mixed (gokc z7v (gokc z4h (gokc z1r gok0))) 0 (λ_=>[]) (λ_=>[]) [] Tryz.func145 y2v
def zVl (A B:List (List UInt8)):fsB (A++B)=fsB A++fsB B:=by rw[fsB,y7a];rfl
def hJ (l:List UInt8) (L:List (List UInt8)):fsB (l::L)=xG l++fsB L:=rfl
def yEz {L:List (List UInt8)} {k:Nat} {l:List UInt8} (h:L[k]? =av l):fsB (L.take (k+1))=fsB (L.take k)++xG l:=pR h
def zRx (L:List (List UInt8)) (k:Nat):fsB L=fsB (L.take k)++fsB (L.drop k):=by rw[<- zVl,y7g]
def z7f (L:List (List UInt8)):L.length<=(fsB L).length:=by
 induction L with
 |nil=>exact y5x _
 |cons l L ih=>rw[hJ,y5a,gM,y5g];omega
def yZd (i:ScI) (h:scanC.cnd i):yQa i:=by
 obtain⟨h1,h2,h3⟩:i.ok:=h;have hn:=z7f i.L;have hsp:∀k,(fsB i.L).length=(fsB (i.L.take k)).length+(fsB (i.L.drop k)).length:=λk=>by
  have:=congrArg List.length (zRx i.L k);rwa [y5a]at this
 unfold yQa zHe fB;rw[y4,y5a];refine⟨0,rfl,rfl,λk=>k<=i.L.length,λk=>i.L.length-k,y6i _,λk hk=>zI (λhlt=> ?_) (λhlt=> ?_)⟩
 ·have hk:k<=i.L.length:=hk;have hs:=hsp k;have hx:(OpI.mk (fsB i.L++i.t) (fsB (i.L.take k)).length).x=sN (fsB (i.L.drop k)++i.t):=by
   show sN ((fsB i.L++i.t).drop _)=_;rw[zRx i.L k,y5i,List.drop_left]
  refine⟨⟨fsB i.L++i.t,(fsB (i.L.take k)).length⟩,rfl,rfl,⟨by dsimp only;rw[y5a];omega,by dsimp only;rw[y5a];omega⟩,λ_ e0=> ?_,λ_ e1=> ?_⟩
  ·rw[hx]at e0 ⊢;rcases y7k k i.L.length with hk2|hk2
   ·obtain⟨l,hl⟩:=yC hk2;have hd:i.L.drop k=l::i.L.drop (k+1):=by
     rw[y7j hk2];congr 1;rw[y6e hk2]at hl;exact Option.some.inj hl
    have hl255:=h1 l (y5m hl);rw[hd,hJ,y5i,zQx hl255];refine⟨by rw[y5c,y5t];omega,k+1,?_,?_,by dsimp only;omega,by dsimp only;omega,trivial⟩
    ·rw[yEz hl,y5a,gM];dsimp only;omega
    ·rw[y6m,hl];simp[rcE]
   ·rw[y8j hk2]at e0;rw[show fsB ([]:List (List UInt8))++i.t=i.t from rfl,h2]at e0;cases e0
  ·rw[hx]at e1 ⊢;rcases y7k k i.L.length with hk2|hk2
   ·obtain⟨l,hl⟩:=yC hk2;have hd:i.L.drop k=l::i.L.drop (k+1):=by
     rw[y7j hk2];congr 1;rw[y6e hk2]at hl;exact Option.some.inj hl
    have hl255:=h1 l (y5m hl);rw[hd,hJ,y5i,zQx hl255]at e1;exact absurd rfl e1
   ·obtain rfl:k=i.L.length:=by omega
    rw[List.drop_length,show fsB ([]:List (List UInt8))++i.t=i.t from rfl,h2,y7y];exact Cv.cnd.mk (λe=>by cases e) (λ_=>Cv.cnd.mk (λ_=>⟨(),rfl,rfl,rfl,trivial⟩) (λe=>by cases e))
 ·have hk:k<=i.L.length:=hk;have hs:=hsp k;have h5:=z7f (i.L.drop k);rw[y5z]at h5;obtain rfl:k=i.L.length:=by omega
  rw[y7y];exact⟨(),rfl,rfl,rfl,trivial⟩
def yNa:scanC.ok Tryz.prog 107:=okw mixed (gokc yVt gok0) 0 (λ_=>[]) (λi=>y0f i) [] Tryz.func107 yZd
def yWx:jopC.ok Tryz.prog 48:=okw (V:=y2f) mixed (gokc yPb (gokc yNa (gokc yPv gok0))) 0 (λ_=>[]) (λ_=>[]) [] Tryz.func48 λ(i:JoI) h=>by
 obtain⟨hs,hd⟩:(ScI.mk i.L i.t).ok/\i.d.ok:=h;have e0:(bE i.d.b).length=(fsB i.L).length+i.t.length:=by rw[y4,JoI.d,y5a]
 have h3:=hs.2.2;dsimp only at h3;unfold y2f;refine⟨i.d,rfl,hd,λ_ _=>⟨⟨i.L,i.t⟩,rfl,hs,λ_ _=>zI (λc=> ?_) (λc=> ?_)⟩⟩
 ·have ht:i.t≠[]:=λe=>by rw[e0,e]at c;simp at c
  refine⟨⟨by omega,by rw[e0];dsimp only;omega⟩,⟨i.d,fsB i.L⟩,?_,rfl,by dsimp only;omega,λ_ _=>⟨(),rfl,?_,by rw[y5c],rfl,trivial⟩⟩
  ·dsimp only;rw[y5u,<- zAj,JoI.d,xBj]
  ·rw[JoI.d',y5b ht]
 ·have ht:i.t=[]:=List.length_eq_zero_iff.1 (by rw[e0]at c;dsimp only at c;omega);refine⟨(),rfl,?_,by rw[y5c],rfl,trivial⟩;rw[JoI.d',y5d ht]
def yLb:jappC.ok Tryz.prog 42:=okw (V:=y0o) mixed (gokc yIz (gokc yMo gok0)) 0 (λ_=>[]) (λ_=>[]) [] Tryz.func42 λ(i:JaI) h=>by
 obtain⟨h1,h2,h3,h4⟩:i.l.length<=255/\i.d.b.length+i.l.length+6<=1048576/\0<=i.n/\i.n<=1048576:=h;exact⟨i.l,rfl,h1,λ_ _=>⟨⟨i.d,xG i.l⟩,rfl,rfl,by dsimp only;rw[gM];omega,λ_ _=>⟨(),rfl,by rw[w64 (by omega)],rfl,trivial⟩⟩⟩
def jsyn_ok:jsynC.ok Tryz.prog 46:=okw (V:=yYk) mixed (gokc yKv gok0) 0 (λ_=>[]) (λ_=>[]) [] Tryz.func46 λ(i:JaI) h=>⟨i.d,rfl,h,λ_ _=>⟨(),rfl,rfl,trivial⟩⟩
open Classical
def tX (i:RN):i.left.length<=i.l.length:=by
 unfold RN.left;split
 ·omega
 ·rw[y5z];omega
def m3 {r:RB} (h:r.ok):r.byte.2.ok:=y7w (tX _) h
def gB {r:RB} (h:r.ok):r.long.2.ok:=y7w (tX _) h
def nO (l:List UInt8):bE l=kQ ⟨l.toArray⟩:=rfl
def y1t (s:List UInt8):Prop:=
 ∃(a:Nat×Nat),(↑a.snd:Int)=0/\sb s=sb s/\a.fst=0/\∃(b:Nat×Nat->Prop),∃(c:Nat×Nat->Nat),b a/\∀(d:Nat×Nat),b d->cnd (d.fst.blt (sb s).size) (cnd (decide ((qC s d)<32)) (∃(e:Unit),fH s=ap/\True) (cnd ((qC s d)==127) (∃(e:Unit),fH s=ap/\True) (cnd ((qC s d)==65533) (∃(e:Unit),fH s=ap/\True) (dD d s b c)))) (cnd (decide ((↑d.snd:Int)>=1)) (∃(e:Unit),fH s=decide ((↑d.snd:Int)<=12)/\True) (∃(e:Unit),fH s=ap/\True))
def zGp (a:Cmd):Prop:=∃(b:List UInt8),sb b=sb a.label/\b.length<=140737488355328/\∀(c:Unit),True->cnd (!fH b) (∃(d:Unit),a.orderE=29/\True) (cnd (decide (a.price>=(-2000000))) (cnd (!decide (a.price<=2000000)) (∃(d:Unit),a.orderE=23/\True) (cnd (decide (a.inst<0)) (∃(d:Unit),a.orderE=20/\True) (cnd (decide (a.inst>255)) (∃(d:Unit),a.orderE=20/\True) (∃(d:Unit),a.orderE=0/\True)))) (∃(d:Unit),a.orderE=23/\True))
def yQl (c:Cmd):Prop:=
 cnd (c.side !=1) (cnd (c.side !=2) (∃(a:Unit),c.orderE=21/\True) (cnd (decide (c.time<1)) (∃(a:Unit),c.orderE=27/\True) (cnd (decide (c.time>3)) (∃(a:Unit),c.orderE=27/\True) (cnd (decide (c.qty>=1)) (cnd (!decide (c.qty<=1000000)) (∃(a:Unit),c.orderE=24/\True) (cnd (decide (c.least<0)) (∃(a:Unit),c.orderE=28/\True) (cnd (decide (c.least>c.qty)) (∃(a:Unit),c.orderE=28/\True) (cnd (!(sb c.label).toList==(ax #[]).toList) (zGp c) (cnd (decide (c.price>=(-2000000))) (cnd (!decide (c.price<=2000000)) (∃(a:Unit),c.orderE=23/\True) (cnd (decide (c.inst<0)) (∃(a:Unit),c.orderE=20/\True) (cnd (decide (c.inst>255)) (∃(a:Unit),c.orderE=20/\True) (∃(a:Unit),c.orderE=0/\True)))) (∃(a:Unit),c.orderE=23/\True)))))) (∃(a:Unit),c.orderE=24/\True))))) (cnd (decide (c.time<1)) (∃(a:Unit),c.orderE=27/\True) (cnd (decide (c.time>3)) (∃(a:Unit),c.orderE=27/\True) (cnd (decide (c.qty>=1)) (cnd (!decide (c.qty<=1000000)) (∃(a:Unit),c.orderE=24/\True) (cnd (decide (c.least<0)) (∃(a:Unit),c.orderE=28/\True) (cnd (decide (c.least>c.qty)) (∃(a:Unit),c.orderE=28/\True) (cnd (!(sb c.label).toList==(ax #[]).toList) (zGp c) (cnd (decide (c.price>=(-2000000))) (cnd (!decide (c.price<=2000000)) (∃(a:Unit),c.orderE=23/\True) (cnd (decide (c.inst<0)) (∃(a:Unit),c.orderE=20/\True) (cnd (decide (c.inst>255)) (∃(a:Unit),c.orderE=20/\True) (∃(a:Unit),c.orderE=0/\True)))) (∃(a:Unit),c.orderE=23/\True)))))) (∃(a:Unit),c.orderE=24/\True))))
def yKi (c:Cmd):Prop:=
 cnd (decide (c.kind<1)) (∃(a:Unit),c.right=31/\True) (cnd (decide (c.kind>4)) (∃(a:Unit),c.right=31/\True) (cnd (decide (c.id<1)) (∃(a:Unit),c.right=1/\True) (cnd (decide (c.id>1099511627776)) (∃(a:Unit),c.right=1/\True) (cnd (c.kind==1) (∃(a:Cmd),a.kind=c.kind/\a.id=c.id/\a.inst=c.inst/\a.side=c.side/\a.price=c.price/\a.qty=c.qty/\a.least=c.least/\a.time=c.time/\sb a.label=sb c.label/\a.label.length<=140737488355328/\∀(b:Unit),True->∃(d:Unit),c.right=a.orderE/\True) (cnd (c.kind !=2) (cnd (decide (c.qty>=1)) (cnd (!decide (c.qty<=1000000)) (∃(a:Unit),c.right=24/\True) (cnd (c.kind==4) (cnd (decide (c.price>=(-2000000))) (cnd (!decide (c.price<=2000000)) (∃(a:Unit),c.right=23/\True) (∃(a:Unit),c.right=0/\True)) (∃(a:Unit),c.right=23/\True)) (∃(a:Unit),c.right=0/\True))) (∃(a:Unit),c.right=24/\True)) (cnd (c.kind==4) (cnd (decide (c.price>=(-2000000))) (cnd (!decide (c.price<=2000000)) (∃(a:Unit),c.right=23/\True) (∃(a:Unit),c.right=0/\True)) (∃(a:Unit),c.right=23/\True)) (∃(a:Unit),c.right=0/\True)))))))
def y4i (s:List UInt8) (h:labC.cnd s):y1t s:=by
 have h:s.length<=140737488355328:=h;have hr:=zHk s;unfold y1t qC dD;refine⟨(0,0),rfl,rfl,rfl,λx=>x.1<=s.length/\x.2+(uU s x.1).length=(kV s).length/\(kV s).all zQk=(uU s x.1).all λx=>zQk x.2,λx=>s.length-x.1,⟨by omega,by rw[kV,y5c];simp,by rw[kV,List.all_map];rfl⟩,?_⟩;rintro⟨p,n⟩ ⟨h1,h2,h3⟩;dsimp only at h1 h2 h3 ⊢;refine Cv.cnd.mk (λhp=> ?_) (λhp=> ?_)
 ·have hp:p<s.length:=by simpa[y8d]using hp
  have hw:=cT s hp;rw[jS hp,y5g]at h2;rw[jS hp,List.all_cons]at h3;generalize hc:(Utf8.decode (sb s) p).1=c at h2 h3 ⊢;generalize hww:(Utf8.decode (sb s) p).2=w at h2 h3 hw ⊢;dsimp only at h3;have bad:zQk c=ap->∃(o:Unit),fH s=ap/\True:=λe=>⟨(),by rw[fH,h3,e];rfl,trivial⟩
  refine zI (λc1=>bad ?_) (λc1=>Cv.cnd.mk (λc2=>bad ?_) (λc2=>Cv.cnd.mk (λc3=>bad ?_) (λc3=> ?_)))
  ·simp[zQk];omega
  ·have c2:(c:Int)=127:=by simpa using c2
   simp[zQk];omega
  ·have c3:(c:Int)=65533:=by simpa using c3
   simp[zQk];omega
  ·have c2:¬(c:Int)=127:=by simpa using c2
   have c3:¬(c:Int)=65533:=by simpa using c3
   have e:zQk c=aq:=by simp[zQk];omega
   refine⟨(p+w,n+1),?_,rfl,rfl,⟨hw.2,by(first|omega|(dsimp only;omega)),by rw[h3,e];rfl⟩,by(first|omega|(dsimp only;omega)),trivial⟩;rw[w64 (by omega)];rfl
 ·have hp:s.length<=p:=by have:=z8m hp;simpa using this
  rw[vO hp]at h2 h3;have h2:n=(kV s).length:=h2;have h3:(kV s).all zQk=aq:=h3;refine zI (λc=>⟨(),?_,trivial⟩) (λc=>⟨(),?_,trivial⟩)
  ·rw[fH,h3,<- h2,y5s (show 1<=n by omega)];simp only[y7z];congr 1;simp only[eq_iff_iff];omega
  ·rw[fH,<- h2,y5q (show ¬1<=n by omega)];simp
def yWz:labC.ok Tryz.prog 148:=okw mixed gok0 0 (λ_=>[]) (λs=>y3e s) [] Tryz.func148 y4i
def y3j (a b:Int):(a==b)=decide (a=b):=by
 by_cases h:a=b
 ·subst h;simp
 ·simp[h]
def y0l (a b:Int):(a !=b)=decide (a≠b):=by
 by_cases h:a=b
 ·subst h;simp
 ·simp[h]
def eqB (a b:List UInt8):((sb a).toList==(sb b).toList)=decide (a=b):=by
 rw[pJ,pJ];by_cases h:a=b
 ·subst h;simp
 ·simp[h]
def yXn:ax #[]=sb []:=rfl
def y1x (c:Cmd) (h:cmdOrdC.cnd c):yQl c:=by
 have h:c.label.length<=140737488355328:=h;unfold yQl zGp;simp only[yXn,eqB,y0l];have tail:¬(c.side≠1/\c.side≠2)->cnd (decide (c.time<1)) (∃(o:Unit),c.orderE=27/\True) (cnd (decide (c.time>3)) (∃(o:Unit),c.orderE=27/\True) (cnd (decide (c.qty>=1)) (cnd (!decide (c.qty<=1000000)) (∃(o:Unit),c.orderE=24/\True) (cnd (decide (c.least<0)) (∃(o:Unit),c.orderE=28/\True) (cnd (decide (c.least>c.qty)) (∃(o:Unit),c.orderE=28/\True) (cnd (!decide (c.label=[])) (∃(i:List UInt8),sb i=sb c.label/\i.length<=140737488355328/\∀(o:Unit),True->cnd (!fH i) (∃(o:Unit),c.orderE=29/\True) (cnd (decide (c.price>=-2000000)) (cnd (!decide (c.price<=2000000)) (∃(o:Unit),c.orderE=23/\True) (cnd (decide (c.inst<0)) (∃(o:Unit),c.orderE=20/\True) (cnd (decide (c.inst>255)) (∃(o:Unit),c.orderE=20/\True) (∃(o:Unit),c.orderE=0/\True)))) (∃(o:Unit),c.orderE=23/\True))) (cnd (decide (c.price>=-2000000)) (cnd (!decide (c.price<=2000000)) (∃(o:Unit),c.orderE=23/\True) (cnd (decide (c.inst<0)) (∃(o:Unit),c.orderE=20/\True) (cnd (decide (c.inst>255)) (∃(o:Unit),c.orderE=20/\True) (∃(o:Unit),c.orderE=0/\True)))) (∃(o:Unit),c.orderE=23/\True)))))) (∃(o:Unit),c.orderE=24/\True))):=by
  intro hs;have e1:c.orderE=if c.time<1\/3<c.time then 27 else if kA c.qty=ap then 24 else if c.least<0\/c.qty<c.least then 28
   else if c.label≠[]/\fH c.label=ap then 29 else if vI c.price=ap then 23 else if c.inst<0\/255<c.inst then 20 else 0:=by rw[Cmd.orderE,y5b hs]
  refine zI (λd1=>⟨(),by rw[e1,y5d (.inl d1)],trivial⟩) λd1=>zI (λd2=>⟨(),by rw[e1,y5d (.inr d2)],trivial⟩) λd2=> ?_
  rw[y5b (by omega)]at e1;have q (hq:kA c.qty=ap):∃(o:Unit),c.orderE=24/\True:=⟨(),by rw[e1,y5d hq],trivial⟩
  refine zI (λd3=>Cv.cnd.mk (λd4=>q ?_) λd4=> ?_) λd3=>q ?_
  ·have d4:¬c.qty<=1000000:=by simpa using d4
   simp[kA,d4]
  ·have d4:c.qty<=1000000:=by simpa using d4
   have hq:¬kA c.qty=ap:=by simp[kA,d4];omega
   rw[y5b hq]at e1;refine zI (λd5=>⟨(),by rw[e1,y5d (.inl d5)],trivial⟩) λd5=>zI (λd6=>⟨(),by rw[e1,y5d (.inr d6)],trivial⟩) λd6=> ?_
   rw[y5b (by omega)]at e1;have last:¬(c.label≠[]/\fH c.label=ap)->cnd (decide (c.price>=-2000000)) (cnd (!decide (c.price<=2000000)) (∃(o:Unit),c.orderE=23/\True) (cnd (decide (c.inst<0)) (∃(o:Unit),c.orderE=20/\True) (cnd (decide (c.inst>255)) (∃(o:Unit),c.orderE=20/\True) (∃(o:Unit),c.orderE=0/\True)))) (∃(o:Unit),c.orderE=23/\True):=by
    intro hl;rw[y5b hl]at e1;have pr (hq:vI c.price=ap):∃(o:Unit),c.orderE=23/\True:=⟨(),by rw[e1,y5d hq],trivial⟩
    refine zI (λg1=>Cv.cnd.mk (λg2=>pr ?_) λg2=> ?_) λg1=>pr ?_
    ·have g2:¬c.price<=2000000:=by simpa using g2
     simp[vI,g2]
    ·have g2:c.price<=2000000:=by simpa using g2
     have hp:¬vI c.price=ap:=by simp[vI,g2];omega
     rw[y5b hp]at e1;refine zI (λg3=>⟨(),by rw[e1,y5d (.inl g3)],trivial⟩) λg3=>zI (λg4=>⟨(),by rw[e1,y5d (.inr g4)],trivial⟩) λg4=>⟨(),by rw[e1,y5b (by omega)],trivial⟩
    ·simp[vI];omega
   refine Cv.cnd.mk (λd7=>⟨c.label,rfl,h,λ_ _=>Cv.cnd.mk (λd8=> ?_) λd8=>last ?_⟩) λd7=>last ?_
   ·have d7:¬c.label=[]:=by simpa using d7
    have d8:fH c.label=ap:=by simpa using d8
    exact⟨(),by rw[e1,y5d ⟨d7,d8⟩],trivial⟩
   ·have d8:fH c.label=aq:=by simpa using d8
    simp[d8]
   ·have d7:c.label=[]:=by simpa using d7
    simp[d7]
  ·simp[kA];omega
 refine zI (λc1=>zI (λc2=>⟨(),by rw[Cmd.orderE,y5d ⟨c1,c2⟩],trivial⟩) λc2=>tail ?_) λc1=>tail ?_
 ·omega
 ·omega
def yPp:cmdOrdC.ok Tryz.prog 112:=okw mixed (gokc yWz gok0) 1 (λ_=>[]) (λ_=>[]) [] Tryz.func112 y1x
def ySy (c:Cmd) (h:cmdRtC.cnd c):yKi c:=by
 have h:c.label.length<=140737488355328:=h;unfold yKi;simp only[y3j,y0l];refine zI (λc1=>⟨(),by rw[Cmd.right,y5d (.inl c1)],trivial⟩) λc1=>zI (λc2=>⟨(),by rw[Cmd.right,y5d (.inr c2)],trivial⟩) λc2=> ?_
 refine zI (λc3=>⟨(),by rw[Cmd.right,y5b (by omega),y5d (.inl c3)],trivial⟩) λc3=>zI (λc4=>⟨(),by rw[Cmd.right,y5b (by omega),y5d (.inr c4)],trivial⟩) λc4=> ?_
 have e0:c.right=if c.kind=1 then c.orderE else if c.kind≠2/\kA c.qty=ap then 24 else if c.kind=4/\vI c.price=ap then 23 else 0:=by rw[Cmd.right,y5b (by omega),y5b (by omega)]
 refine zI (λc5=>⟨c,?_⟩) λc5=> ?_
 ·rw[y5d c5]at e0;exact kpp
 rw[y5b c5]at e0;have last (hn:¬(c.kind≠2/\kA c.qty=ap)):cnd (decide (c.kind=4)) (cnd (decide (c.price>=-2000000)) (cnd (!decide (c.price<=2000000)) (∃(o:Unit),c.right=23/\True) (∃(o:Unit),c.right=0/\True)) (∃(o:Unit),c.right=23/\True)) (∃(o:Unit),c.right=0/\True):=by
  rw[y5b hn]at e0;refine zI (λd1=>zI (λd2=>Cv.cnd.mk (λd3=> ?_) λd3=> ?_) λd2=> ?_) λd1=> ?_
  ·have d3:¬c.price<=2000000:=by simpa using d3
   exact⟨(),by rw[e0,y5d ⟨d1,by simp[vI,d3]⟩],trivial⟩
  ·have d3:c.price<=2000000:=by simpa using d3
   exact⟨(),by rw[e0,y5b (by simp[vI,d3];omega)],trivial⟩
  ·exact⟨(),by rw[e0,y5d ⟨d1,by simp[vI];omega⟩],trivial⟩
  ·exact⟨(),by rw[e0,y5b (by simp[d1])],trivial⟩
 refine zI (λd1=>zI (λd2=>Cv.cnd.mk (λd3=> ?_) λd3=>last ?_) λd2=> ?_) λd1=>last ?_
 ·have d3:¬c.qty<=1000000:=by simpa using d3
  exact⟨(),by rw[e0,y5d ⟨d1,by simp[kA,d3]⟩],trivial⟩
 ·have d3:c.qty<=1000000:=by simpa using d3
  simp[kA,d3];omega
 ·exact⟨(),by rw[e0,y5d ⟨d1,by simp[kA];omega⟩],trivial⟩
 ·omega
def zOj:cmdRtC.ok Tryz.prog 57:=okw mixed (gokc yPp gok0) 1 (λ_=>[]) (λ_=>[]) [] Tryz.func57 ySy
def rtextC:Con:=con1 RB (λi=>[.nm 0 0]) (λi=>[RdB i]) RB.ok (λi=>sV i.text.1) (λi=>[RdB i.text.2])
structure TxB where
 l:List UInt8
 s:List UInt8
def cdecC:Con:=con1 (List UInt8) (λb=>[roV 1 (bE b)]) (λ_=>[]) (λb=>b.length<=1099511627776) (λb=> .tup [zGd (xH b).1,zA (xH b).2]) (λ_=>[])
def yZg:List (Nat×SAnn):=[(12,bj 19),(26,{ι:=Cmd×RB,slots:=λ_=>[(4,.nm 0 0),(5,.nm 1 0)],rows:=λx=>[RdB x.2,.cells x.1.cells 44],slots0:=λ_=>[(4,.nm 0 0),(5,.nm 1 0)],rows0:=λx=>[RdB x.2,.cells x.1.cells 44]})]
def yUv (i:RB):Prop:=
 ∃(i_1:RB),ac (List UInt8×Bool) 1 RdU (i_1.l,i_1.b)=RdB i/\i_1.l.length<=1099511627776/\∀(o:Unit),True->∃(i_2:RN),(↑i_2.n:Int)=qM (i_1.n 1).got/\ac (List UInt8×Bool) 1 RdU (i_2.l,i_2.b)=ac (List UInt8×Bool) 1 RdU ((i_1.n 1).left,(i_1.n 1).bad)/\(i_2.n<=255/\i_2.l.length<=1099511627776)/\∀(o:Unit),True->∃(b:ByteArray),dh ((1:Nat))/\bE i_2.got=kQ b/\∃(o:Unit),sb ((RB.mk (i.n 1).left (i.n 1).bad).n (qM (i.n 1).got).toNat).got=b/\ac (List UInt8×Bool) 1 RdU (((RB.mk (i.n 1).left (i.n 1).bad).n (qM (i.n 1).got).toNat).left,((RB.mk (i.n 1).left (i.n 1).bad).n (qM (i.n 1).got).toNat).bad)=ac (List UInt8×Bool) 1 RdU (i_2.left,i_2.bad)/\True
def zJa:Prop:=ab (Sx.V.agg [V.d (dI 0),V.d (dI 0),V.d (dI 0),V.d (dI 0),V.d (dI 0),V.d (dI 0),V.d (dI 0),V.d (dI 0),V.d kM]).cl 44=ab (Sx.V.agg [V.d (dI 0),V.d (dI 0),V.d (dI 0),V.d (dI 0),V.d (dI 0),V.d (dI 0),V.d (dI 0),V.d (dI 0),V.d kM]).cl 44
def zLp (a:Bool->Prop) (b:Bool) (c:RB):Prop:=a b/\dh (ab [V.d (dI (qM (c.n 1).got)),V.d (dI 0),V.d (dI 0),V.d (dI 0),V.d (dI 0),V.d (dI 0),V.d (dI 0),V.d (dI 0),V.d kM] 44)/\dh (ac (List UInt8×Bool) 1 RdU ((c.n 1).left,(c.n 1).bad))/\zJa
def zIu (a:Cmd×RB->Prop) (b:Cmd×RB):Prop:=a b/\zJa
def zIc (a:Cmd×RB) (b:Cmd×RB) (c:Cmd×RB->Prop):Prop:=a.fst.least=b.fst.least/\a.fst.time=b.fst.time/\sb a.fst.label=sb b.fst.label/\zIu c a
def zGf (a:Cmd×RB) (b:RB) (c:Cmd×RB) (d:Cmd×RB->Prop):Prop:=a.fst.qty=aj.wrap (qM (b.n 8).got)/\zIc a c d
def lS (a:RB):=((RB.mk (a.n 1).left (a.n 1).bad).n (qM (a.n 1).got).toNat)
def yQt (b:List UInt8):Prop:=
 ∃(a:List UInt8),bE a=bE b/\a.length<=1099511627776/\∀(c:Unit),True->∃(d:RB),ac (List UInt8×Bool) 1 RdU (d.l,d.b)=ac (List UInt8×Bool) 1 RdU (a,ap)/\d.l.length<=1099511627776/\∀(e:Unit),True->∃(f:Bool),∃(g:Bool->Prop),cnd (decide (qM (d.n 1).got<1)) (∃(h:Bool),h=aq/\zLp g h d) (∃(h:Bool),h=decide (qM (d.n 1).got>4)/\zLp g h d)/\∀(h:Bool),g h->cnd h (∃(j:Unit),(xH b).fst.kind=0/\(xH b).fst.id=0/\(xH b).fst.inst=0/\(xH b).fst.side=0/\(xH b).fst.price=0/\(xH b).fst.qty=0/\(xH b).fst.least=0/\(xH b).fst.time=0/\sb (xH b).fst.label=ax #[]/\(xH b).snd=31/\True) (∃(j:RB),ac (List UInt8×Bool) 1 RdU (j.l,j.b)=ac (List UInt8×Bool) 1 RdU ((d.n 1).left,(d.n 1).bad)/\j.l.length<=1099511627776/\∀(k:Unit),True->∃(l:Cmd×RB),ac (List UInt8×Bool) 1 RdU (l.snd.l,l.snd.b)=ac (List UInt8×Bool) 1 RdU ((j.n 8).left,(j.n 8).bad)/\l.fst.kind=qM (d.n 1).got/\l.fst.id=aj.wrap (qM (j.n 8).got)/\l.fst.inst=0/\l.fst.side=0/\l.fst.price=0/\l.fst.qty=0/\l.fst.least=0/\l.fst.time=0/\sb l.fst.label=ax #[]/\∃(m:Cmd×RB->Prop),cnd (l.fst.kind==1) (∃(n:RB),ac (List UInt8×Bool) 1 RdU (n.l,n.b)=ac (List UInt8×Bool) 1 RdU (l.snd.l,l.snd.b)/\n.l.length<=1099511627776/\∀(p:Unit),True->∃(q:RB),ac (List UInt8×Bool) 1 RdU (q.l,q.b)=ac (List UInt8×Bool) 1 RdU ((n.n 1).left,(n.n 1).bad)/\q.l.length<=1099511627776/\∀(r:Unit),True->∃(s:RB),ac (List UInt8×Bool) 1 RdU (s.l,s.b)=ac (List UInt8×Bool) 1 RdU ((q.n 1).left,(q.n 1).bad)/\s.l.length<=1099511627776/\∀(t:Unit),True->∃(u:RB),ac (List UInt8×Bool) 1 RdU (u.l,u.b)=ac (List UInt8×Bool) 1 RdU ((s.n 1).left,(s.n 1).bad)/\u.l.length<=1099511627776/\∀(v:Unit),True->∃(w:RB),ac (List UInt8×Bool) 1 RdU (w.l,w.b)=ac (List UInt8×Bool) 1 RdU ((u.n 8).left,(u.n 8).bad)/\w.l.length<=1099511627776/\∀(x:Unit),True->∃(y:RB),ac (List UInt8×Bool) 1 RdU (y.l,y.b)=ac (List UInt8×Bool) 1 RdU ((w.n 8).left,(w.n 8).bad)/\y.l.length<=1099511627776/\∀(z:Unit),True->∃(a_1:RB),ac (List UInt8×Bool) 1 RdU (a_1.l,a_1.b)=ac (List UInt8×Bool) 1 RdU ((y.n 8).left,(y.n 8).bad)/\a_1.ok/\∀(a_2:Unit),True->∃(a_3:Cmd×RB),ac (List UInt8×Bool) 1 RdU (a_3.snd.l,a_3.snd.b)=ac (List UInt8×Bool) 1 RdU ((lS a_1).left,(lS a_1).bad)/\a_3.fst.kind=l.fst.kind/\a_3.fst.id=l.fst.id/\a_3.fst.inst=qM (n.n 1).got/\a_3.fst.side=qM (q.n 1).got/\a_3.fst.price=aj.wrap (qM (u.n 8).got)/\a_3.fst.qty=aj.wrap (qM (w.n 8).got)/\a_3.fst.least=aj.wrap (qM (y.n 8).got)/\a_3.fst.time=qM (s.n 1).got/\sb a_3.fst.label=sb (lS a_1).got/\zIu m a_3) (cnd (l.fst.kind==3) (∃(n:RB),ac (List UInt8×Bool) 1 RdU (n.l,n.b)=ac (List UInt8×Bool) 1 RdU (l.snd.l,l.snd.b)/\n.l.length<=1099511627776/\∀(p:Unit),True->∃(q:Cmd×RB),ac (List UInt8×Bool) 1 RdU (q.snd.l,q.snd.b)=ac (List UInt8×Bool) 1 RdU ((n.n 8).left,(n.n 8).bad)/\q.fst.kind=l.fst.kind/\q.fst.id=l.fst.id/\q.fst.inst=l.fst.inst/\q.fst.side=l.fst.side/\q.fst.price=l.fst.price/\zGf q n l m) (cnd (l.fst.kind==4) (∃(n:RB),ac (List UInt8×Bool) 1 RdU (n.l,n.b)=ac (List UInt8×Bool) 1 RdU (l.snd.l,l.snd.b)/\n.l.length<=1099511627776/\∀(p:Unit),True->∃(q:RB),ac (List UInt8×Bool) 1 RdU (q.l,q.b)=ac (List UInt8×Bool) 1 RdU ((n.n 8).left,(n.n 8).bad)/\q.l.length<=1099511627776/\∀(r:Unit),True->∃(s:Cmd×RB),ac (List UInt8×Bool) 1 RdU (s.snd.l,s.snd.b)=ac (List UInt8×Bool) 1 RdU ((q.n 8).left,(q.n 8).bad)/\s.fst.kind=l.fst.kind/\s.fst.id=l.fst.id/\s.fst.inst=l.fst.inst/\s.fst.side=l.fst.side/\s.fst.price=aj.wrap (qM (n.n 8).got)/\zGf s q l m) (∃(n:Cmd×RB),ac (List UInt8×Bool) 1 RdU (n.snd.l,n.snd.b)=ac (List UInt8×Bool) 1 RdU (l.snd.l,l.snd.b)/\n.fst.kind=l.fst.kind/\n.fst.id=l.fst.id/\n.fst.inst=l.fst.inst/\n.fst.side=l.fst.side/\n.fst.price=l.fst.price/\n.fst.qty=l.fst.qty/\zIc n l m)))/\∀(n:Cmd×RB),m n->∃(p:RB),ac (List UInt8×Bool) 1 RdU (p.l,p.b)=ac (List UInt8×Bool) 1 RdU (n.snd.l,n.snd.b)/\p.l.length<=1099511627776/\∀(q:Unit),True->cnd ((if p.b=aq then(10:Int)else if 0<p.l.length then(15:Int)else(0:Int)) !=0) (∃(r:Unit),(xH b).fst.kind=0/\(xH b).fst.id=0/\(xH b).fst.inst=0/\(xH b).fst.side=0/\(xH b).fst.price=0/\(xH b).fst.qty=0/\(xH b).fst.least=0/\(xH b).fst.time=0/\sb (xH b).fst.label=ax #[]/\(xH b).snd=12/\True) (∃(r:Cmd),r.kind=n.fst.kind/\r.id=n.fst.id/\r.inst=n.fst.inst/\r.side=n.fst.side/\r.price=n.fst.price/\r.qty=n.fst.qty/\r.least=n.fst.least/\r.time=n.fst.time/\sb r.label=sb n.fst.label/\r.label.length<=140737488355328/\∀(s:Unit),True->cnd (r.right !=0) (∃(t:Unit),(xH b).fst.kind=0/\(xH b).fst.id=0/\(xH b).fst.inst=0/\(xH b).fst.side=0/\(xH b).fst.price=0/\(xH b).fst.qty=0/\(xH b).fst.least=0/\(xH b).fst.time=0/\sb (xH b).fst.label=ax #[]/\(xH b).snd=r.right/\True) (∃(t:Unit),(xH b).fst.kind=n.fst.kind/\(xH b).fst.id=n.fst.id/\(xH b).fst.inst=n.fst.inst/\(xH b).fst.side=n.fst.side/\(xH b).fst.price=n.fst.price/\(xH b).fst.qty=n.fst.qty/\(xH b).fst.least=n.fst.least/\(xH b).fst.time=n.fst.time/\sb (xH b).fst.label=sb n.fst.label/\(xH b).snd=0/\True)))
def zYg (r:RB):0<=r.byte.1/\r.byte.1<=255:=by
 have h:=aU (r.n 1).got;have hl:(r.n 1).got.length<=1:=zKx (r.n 1);show 0<=qM (r.n 1).got/\qM (r.n 1).got<=255;obtain e|e:(r.n 1).got.length=0\/(r.n 1).got.length=1:=by omega
 ·rw[e]at h;omega
 ·rw[e]at h;omega
def yPe {r:RB} (h:r.ok):r.text.2.ok:=y7w (tX _) (y7w (tX _) h)
def yIc:rtextC.ok Tryz.prog 163:=okw (V:=yUv) mixed (gokc zXl (gokc z6l gok0)) 0 (λ_=>[]) (λ_=>[]) [] Tryz.func163 λ(i:RB) h=>by
 have h:i.l.length<=1099511627776:=h;have hb:=zYg i;exact⟨i,rfl,h,λ_ _=>⟨⟨(i.n 1).left,(i.n 1).bad,i.byte.1.toNat⟩,by dsimp only;exact Int.toNat_of_nonneg hb.1,rfl,⟨by dsimp only;omega,y7w (tX _) h⟩,λ_ _=>⟨_,rfl,nO _,(),rfl,rfl,trivial⟩⟩⟩
def yPx {k id:Int} {r:RB} (h:r.ok):(xZ k id r).2.ok/\(xZ k id r).1.label.length<=255:=by
 rw[xZ];split
 ·have h6:=gB (gB (gB (m3 (m3 (m3 h)))));refine⟨yPe h6,?_⟩;show(RB.text (r.byte.2.byte.2.byte.2.long.2.long.2.long.2)).1.length<=255;generalize r.byte.2.byte.2.byte.2.long.2.long.2.long.2=q;have:=zYg q;have:(q.text.1).length<=q.byte.1.toNat:=zKx _;omega
 split
 ·exact⟨gB h,y6i _⟩
 split
 ·exact⟨gB (gB h),y6i _⟩
 ·exact⟨h,y6i _⟩
def yZf (b:List UInt8) (h:cdecC.cnd b):yQt b:=by
 have h:b.length<=1099511627776:=h;obtain⟨r0,hr⟩:∃r0,r0=RB.mk b ap:=⟨_,rfl⟩
 have hr0:r0.ok:=by rw[hr];exact h
 have hk2:=m3 hr0;have hk3:=gB hk2;have hdec:xH b=if r0.byte.1<1\/4<r0.byte.1 then(zTq,31)else if(xZ r0.byte.1 r0.byte.2.long.1 r0.byte.2.long.2).2.endOf≠0 then(zTq,12)else if(xZ r0.byte.1 r0.byte.2.long.1 r0.byte.2.long.2).1.right≠0 then(zTq,(xZ r0.byte.1 r0.byte.2.long.1 r0.byte.2.long.2).1.right)else((xZ r0.byte.1 r0.byte.2.long.1 r0.byte.2.long.2).1,0):=by
  rw[hr];rfl
 unfold yQt zLp lS zGf zIc zIu zJa kM dI;generalize xH b=X at hdec ⊢;refine⟨b,rfl,h,λ_ _=>⟨r0,by rw[hr],hr0,λ_ _=>⟨aq,λx=>x=decide (r0.byte.1<1\/4<r0.byte.1),zI (λe=>⟨aq,rfl,(y5s (.inl e)).symm,by(repeat'(first|exact trivial|exact rfl|apply ar))⟩) (λe=>⟨_,rfl,decide_eq_decide.2 ⟨.inr,λx=>x.resolve_left e⟩,by(repeat'(first|exact trivial|exact rfl|apply ar))⟩),?_⟩⟩⟩;rintro _ rfl;refine zI (λe=> ?_) (λe=> ?_)
 ·rw[hdec,y5d e];exact⟨(),rfl,rfl,rfl,rfl,rfl,rfl,rfl,rfl,rfl,rfl,trivial⟩
 rw[y5b e]at hdec;generalize hk:r0.byte.1=k at hdec;refine⟨r0.byte.2,rfl,hk2,λ_ _=>⟨(⟨r0.byte.1,r0.byte.2.long.1,0,0,0,0,0,0,[]⟩,r0.byte.2.long.2),rfl,rfl,rfl,rfl,rfl,rfl,rfl,rfl,rfl,rfl,λx=>x=xZ r0.byte.1 r0.byte.2.long.1 r0.byte.2.long.2,?_,?_⟩⟩
 ·generalize r0.byte.2.long.2=r2 at*;generalize r0.byte.2.long.1=id at*;rw[hk];refine Cv.cnd.mk (λe=> ?_) (λe1=>Cv.cnd.mk (λe=> ?_) (λe3=>Cv.cnd.mk (λe=> ?_) (λe4=> ?_)))
  ·have e:k=1:=by simpa using e
   have h1:=m3 hk3;have h2:=m3 h1;have h3:=m3 h2;have h4:=gB h3;have h5:=gB h4;have h6:=gB h5;exact⟨r2,rfl,hk3,λ_ _=>⟨_,rfl,h1,λ_ _=>⟨_,rfl,h2,λ_ _=>⟨_,rfl,h3,λ_ _=>⟨_,rfl,h4,λ_ _=>⟨_,rfl,h5,λ_ _=>⟨_,rfl,h6,λ_ _=>⟨xZ k id r2,by rw[xZ,y5d e];rfl,by rw[xZ,y5d e],by rw[xZ,y5d e],by rw[xZ,y5d e];rfl,by rw[xZ,y5d e];rfl,by rw[xZ,y5d e];rfl,by rw[xZ,y5d e];rfl,by rw[xZ,y5d e];rfl,by rw[xZ,y5d e];rfl,by rw[xZ,y5d e];rfl,rfl,by(repeat'(first|exact trivial|exact rfl|apply ar))⟩⟩⟩⟩⟩⟩⟩⟩
  ·have e1:¬k=1:=by simpa using e1
   have e:k=3:=by simpa using e
   have hd:xZ k id r2=(⟨k,id,0,0,0,r2.long.1,0,0,[]⟩,r2.long.2):=by rw[xZ,y5b e1,y5d e]
   exact⟨r2,rfl,hk3,λ_ _=>⟨(⟨k,id,0,0,0,r2.long.1,0,0,[]⟩,r2.long.2),rfl,rfl,rfl,rfl,rfl,rfl,rfl,rfl,rfl,rfl,hd.symm,by(repeat'(first|exact trivial|exact rfl|apply ar))⟩⟩
  ·have e1:¬k=1:=by simpa using e1
   have e3:¬k=3:=by simpa using e3
   have e:k=4:=by simpa using e
   have hd:xZ k id r2=(⟨k,id,0,0,r2.long.1,r2.long.2.long.1,0,0,[]⟩,r2.long.2.long.2):=by rw[xZ,y5b e1,y5b e3,y5d e]
   exact⟨r2,rfl,hk3,λ_ _=>⟨_,rfl,gB hk3,λ_ _=>⟨(⟨k,id,0,0,r2.long.1,r2.long.2.long.1,0,0,[]⟩,r2.long.2.long.2),rfl,rfl,rfl,rfl,rfl,rfl,rfl,rfl,rfl,rfl,hd.symm,by(repeat'(first|exact trivial|exact rfl|apply ar))⟩⟩⟩
  ·have e1:¬k=1:=by simpa using e1
   have e3:¬k=3:=by simpa using e3
   have e4:¬k=4:=by simpa using e4
   have hd:xZ k id r2=(⟨k,id,0,0,0,0,0,0,[]⟩,r2):=by rw[xZ,y5b e1,y5b e3,y5b e4]
   exact⟨(⟨k,id,0,0,0,0,0,0,[]⟩,r2),rfl,rfl,rfl,rfl,rfl,rfl,rfl,rfl,rfl,rfl,hd.symm,by(repeat'(first|exact trivial|exact rfl|apply ar))⟩
 ·rintro x hx;obtain⟨o1,o2⟩:=yPx (k:=r0.byte.1) (id:=r0.byte.2.long.1) hk3;rw[<- hx]at o1 o2;rw[<- hk,<- hx]at hdec;obtain⟨c,q⟩:=x;refine⟨q,rfl,o1,λ_ _=>Cv.cnd.mk (λe=> ?_) (λe=>⟨c,rfl,rfl,rfl,rfl,rfl,rfl,rfl,rfl,rfl,y7w o2 (by decide),λ_ _=>Cv.cnd.mk (λe2=> ?_) (λe2=> ?_)⟩)⟩
  ·have e:q.endOf≠0:=by simpa[RB.endOf]using e
   rw[hdec,y5d e];exact⟨(),rfl,rfl,rfl,rfl,rfl,rfl,rfl,rfl,rfl,rfl,trivial⟩
  ·have e:¬q.endOf≠0:=by simpa[RB.endOf]using e
   have e2:c.right≠0:=by simpa using e2
   rw[hdec,y5b e,y5d e2];exact⟨(),rfl,rfl,rfl,rfl,rfl,rfl,rfl,rfl,rfl,rfl,trivial⟩
  ·have e:¬q.endOf≠0:=by simpa[RB.endOf]using e
   have e2:¬c.right≠0:=by simpa using e2
   rw[hdec,y5b e,y5b e2];exact⟨(),rfl,rfl,rfl,rfl,rfl,rfl,rfl,rfl,rfl,rfl,trivial⟩
def yMj:cdecC.ok Tryz.prog 135:=okw mixed (gokc z7v (gokc zXl (gokc yDj (gokc yIc (gokc yPi (gokc zOj gok0)))))) 0 (λ_=>yZg) (λ_=>[]) [] Tryz.func135 yZf
structure SoI where
 s:MSt
 p:Prd
 B:List (List zH)
 inst:Int
 sd:Bool
@[reducible] def SoI.ok (i:SoI):Prop:=i.s.Rep i.p i.B/\i.B.length<=1000
def atB (B:List (List zH)) (inst:Int):List zH:=if inst<0 then[]else B.getD inst.toNat []
def sladC:Con:=con1 SoI (λi=>[.nm 0 0,zA i.inst,zA (zC i.sd)]) (λi=>[zD i.s]) (λi=>i.ok) (λ_=> .own 1) (λi=>[zD i.s,.own 127 3 ((hU (atB i.B i.inst) (zC i.sd)).map lvE)])
def b8 (a:SoI):=(hU (atB a.B a.inst) (zC a.sd))
def zOb (a:SoI):Prop:=∃(b:Unit),dh (sb a.s.p.code)/\dh a.s.p.tick/\dh a.s.p.low/\dh a.s.p.high/\dh a.s.p.wide/\dh a.s.p.rule/\dh a.s.p.top/\dh a.s.p.least/\dh a.s.p.part/\dh (ae 197 Book 6 zP a.s.books aw)/\dh (yO a.s.wh)/\dh (aa 1 (iE a.s.p.months))/\dh (aa 1 (iE a.s.p.settle))/\am lvE (b8 a)=[]/\True
def yQk (i:SoI):Prop:=
 cnd (decide (i.inst>=0)) (cnd (!decide (i.inst<(↑i.s.books.length:Int))) (zOb i) ((0<=i.inst/\i.inst<(↑i.s.books.length:Int))/\i.inst.toNat<i.s.books.length/\∃(a:Book),i.s.books[i.inst.toNat]?=av a/\∃(b:BkT),zC b.s=zC i.sd/\z8 b.b=z8 a/\b.b.Rep b.L/\∀(c:Unit),True->∃(d:Book),z8 b.b=z8 d/\dh i.inst.toNat/\i.inst.toNat<i.s.books.length/\∃(e:Unit),dh (sb i.s.p.code)/\dh i.s.p.tick/\dh i.s.p.low/\dh i.s.p.high/\dh i.s.p.wide/\dh i.s.p.rule/\dh i.s.p.top/\dh i.s.p.least/\dh i.s.p.part/\ae 197 Book 6 zP i.s.books aw=ae 197 Book 6 zP (i.s.books.set i.inst.toNat d) aw/\dh (yO i.s.wh)/\dh (aa 1 (iE i.s.p.months))/\dh (aa 1 (iE i.s.p.settle))/\am lvE (b8 i)=am lvE (hU b.L (zC b.s))/\True)) (zOb i)
def yPh {B:List (List zH)} {inst:Int} {L:List zH} (h0:0<=inst) (hL:B[inst.toNat]? =av L):atB B inst=L:=by
 rw[atB,y5b (by omega),zU hL]
def yNv {B:List (List zH)} {inst:Int} (h:inst<0\/(B.length:Int)<=inst):atB B inst=[]:=by
 rw[atB];split
 ·rfl
 ·rw[y5k,y6h (by omega)];rfl
def yYi (i:SoI) (h:sladC.cnd i):yQk i:=by
 obtain⟨hR,hB⟩:i.s.Rep i.p i.B/\i.B.length<=1000:=h;have hbl:=hR.bl;have out (hx:i.inst<0\/(i.B.length:Int)<=i.inst):am lvE (hU (atB i.B i.inst) (zC i.sd))=[]:=by
  rw[yNv hx];rfl
 unfold yQk zOb b8;refine zI (λc=>Cv.cnd.mk (λd=> ?_) (λd=> ?_)) (λc=> ?_)
 ·have d:¬i.inst<(i.s.books.length:Int):=by simpa using d
  rw[out (.inr (by omega))];exact⟨(),by(repeat'(first|exact trivial|exact rfl|apply ar))⟩
 ·have d:i.inst<(i.s.books.length:Int):=by simpa using d
  obtain⟨b,hb⟩:=yC (l:=i.s.books) (i:=i.inst.toNat) (by omega);obtain⟨L,hL⟩:=yC (l:=i.B) (i:=i.inst.toNat) (by omega);refine⟨⟨c,d⟩,by omega,b,hb,⟨b,L,i.sd⟩,rfl,rfl,hR.bk _ b L hb hL,λ_ _=>⟨b,rfl,rfl,by omega,?_⟩⟩;rw[uD hb,yPh c hL];exact⟨(),by(repeat'(first|exact trivial|exact rfl|apply ar))⟩
 ·rw[out (.inl (by omega))];exact⟨(),by(repeat'(first|exact trivial|exact rfl|apply ar))⟩
def yNy:sladC.ok Tryz.prog 79:=okw mixed (gokc yXm gok0) 1 (λ_=>[]) (λ_=>[]) [0] Tryz.func79 yYi
def z0n (s:Int) (F:List zH):Prop:=F.Pairwise λo o'=>btr s o'.price o.price=ap
def eB (L:List zH) (s:Int):List zH:=L.filter λo=>decide (o.side=s)
structure BWf (p:Prd) (B:List (List zH)):Prop where
 ok:BOk p B
 od:yNi B
 ub:((whL 0 B).map (·.1)).Nodup
 srt:∀(k:Nat) (L:List zH),B[k]? =av L->∀s,s=1\/s=2->z0n s (eB L s)
def zXc {s:Int} {b:Book} {Q:List (List Nat)}:∀{R:List xL},(R.Pairwise λr r'=>btr s r.price r'.price=aq)->z0n s (R.flatMap (b.rOrds Q s))
 |[],_=>List.Pairwise.nil
 |r::R,h=>by
  rw[y8w]at h;rw[y6w,z0n,List.pairwise_append];refine⟨List.pairwise_of_forall_mem_list λo ho o' ho'=> ?_,zXc h.2,λo ho o' ho'=> ?_⟩
  ·rw[(qF ho).2,(qF ho').2];exact l5 _ _
  ·obtain⟨r',hr',ho'⟩:=y7u.1 ho';rw[(qF ho).2,(qF ho').2];exact zYp (h.1 r' hr')
def Book.Rep.srt {b:Book} {L:List zH} (h:b.Rep L) {s:Int} (hs:s=1\/s=2):z0n s (eB L s):=by
 obtain⟨Q,c,ht,rfl⟩:=h;rw[eB,zQn hs];exact zXc (c.srt s hs)
def MSt.Rep.wf {s:MSt} {p:Prd} {B:List (List zH)} (h:s.Rep p B) (hb:BOk p B):BWf p B:=by
 refine⟨hb,h.ords,h.ids,λk L hL=> ?_⟩;obtain⟨b,hb⟩:=yC (l:=s.books) (i:=k) (by rw[h.bl];exact(y5f.1 hL).1);exactλs hs=>(h.bk k b L hb hL).srt hs
def yGy {L:List zH} (h:∀o∈L,zMo o) (hn:(L.map (·.id)).Nodup) (id q:Int):∀o∈(x6 L id q).1,zMo o:=by
 intro o ho;rw[x6]at ho;split at ho
 ·exact h o ho
 split at ho
 ·exact h o ho
 rename_i hb;obtain⟨o',ho',e⟩:=xAi.1 ho;have h0:=h o' ho';split at e
 ·rename_i e1;have hg:=sL hn ho';rw[e1]at hg;rw[hg]at hb;split at e
  ·cases e
  ·rename_i e2;cases e;have:=h0.q;exact⟨h0.s,by dsimp only;omega⟩
 ·cases e;exact h0
def yEi (L:List zH) (id q:Int):(x6 L id q).1.length<=L.length:=by
 rw[x6];split
 ·exact y5x _
 split
 ·exact y5x _
 exact List.length_filterMap_le _ _
def yKk {L:List zH} {s:Int} (h:z0n s (eB L s)) (id q:Int):z0n s (eB (x6 L id q).1 s):=by
 rw[x6];split
 ·exact h
 split
 ·exact h
 have e:eB (uS L id q) s=uS (eB L s) id q:=by
  rw[eB,eB,uS,uS,List.filter_filterMap,List.filterMap_filter];refine aK λo _=> ?_
  by_cases e1:o.id=id
  ·rw[y5d e1];by_cases e2:o.qty=q
   ·rw[y5d e2];simp
   ·rw[y5b e2];by_cases e3:o.side=s<;>simp[Option.filter,e3]
  ·rw[y5b e1];by_cases e3:o.side=s<;>simp[Option.filter,e3]
 rw[e,uS];refine List.Pairwise.filterMap _ (λa a' haa b hb b' hb'=> ?_) h;have g:∀{a b:zH},(if a.id=id then(if a.qty=q then aw else av {a with qty:=a.qty-q})else av a)=av b->b.price=a.price:=by
  intro a b e;split at e
  ·split at e
   ·cases e
   ·cases e;rfl
  ·cases e;rfl
 rw[g hb,g hb'];exact haa
def yPw {B:List (List zH)} (h:((whL 0 B).map (·.1)).Nodup) {k:Nat} {L L':List zH} (hL:B[k]? =av L) (hs:(L'.map (·.id)).Sublist (L.map (·.id))):((whL 0 (B.set k L')).map (·.1)).Nodup:=by
 have hk:=(y5f.1 hL).1;obtain⟨rest,hr⟩:=zKy (B:=B) 0 k hk;have h0:=hr L;rw[uD hL]at h0;have h1:=(h0.map (·.1)).nodup_iff.1 h
 refine((hr L').map (·.1)).nodup_iff.2 ?_
 rw[y5l,y7q]at h1 ⊢;exact h1.sublist (List.Sublist.append hs (List.Sublist.refl _))
def BWf.take {p:Prd} {B:List (List zH)} (h:BWf p B) (id q:Int):BWf p (kI B id q).1:=by
 refine⟨h.ok.take id q,?_,?_,?_⟩
 all_goals
  rw[kI];cases hi:mM B id with
  |none=>first|exact h.od|exact h.ub|exact h.srt
  |some k=>
   obtain⟨L,hL,hh⟩:=gE hi;have ho:=h.od k L hL;dsimp only;rw[zU hL]
   first
   |(intro j M hM
     rcases bL hM with⟨rfl,rfl⟩|⟨_,hM⟩
     ·refine⟨yGy ho.1 ho.2.1 id q,?_,y7w (yEi L id q) ho.2.2⟩;rcases zNa ho.2.1 id q with⟨e,_⟩|⟨e,_⟩
      ·rw[e];exact ho.2.1
      ·rw[e];exact ho.2.1.sublist (List.Sublist.map _ xAv)
     ·exact h.od j M hM)
   |(refine yPw h.ub hL ?_
     rcases zNa ho.2.1 id q with⟨e,_⟩|⟨e,_⟩
     ·rw[e];exact List.Sublist.refl _
     ·rw[e];exact List.Sublist.map _ xAv)
   |(intro j M hM s hs
     rcases bL hM with⟨rfl,rfl⟩|⟨_,hM⟩
     ·exact yKk (h.srt _ L hL s hs) id q
     ·exact h.srt j M hM s hs)
def BWf.takes {p:Prd}:∀{fs:List cK} {B:List (List zH)},BWf p B->BWf p (kW B fs)
 |[],B,h=>h
 |f::fs,B,h=>BWf.takes (fs:=fs) (h.take f.id f.qty)
def zRd {p:Prd} {B:List (List zH)} (h:BWf p B) {inst:Int} {sd:Bool} {price q:Int} {t:jW} {B':List (List zH)} (e:aD p B inst sd price q=av (t,B')):BWf p B'/\B'.length=B.length:=by
 rw[aD]at e;dsimp only at e;split at e
 ·split at e
  ·cases e;exact⟨h.takes.takes,by rw[uK,uK]⟩
  ·cases e;exact⟨h.takes,by rw[uK]⟩
 ·cases e
def pO {p:Prd} {inst:Int} {sd:Bool} {price:Int}:∀(m:Nat) (q:Int) (B:List (List zH)),q.toNat<=m->BWf p B->BWf p (wH p B inst sd price q).B/\(wH p B inst sd price q).B.length=B.length/\(0<=q->0<=(wH p B inst sd price q).left/\(wH p B inst sd price q).left<=q)
 |m,q,B,hm,h=>by
  by_cases hq:q<=0
  ·rw[eG (.inl hq)];exact⟨h,rfl,λx=>⟨x,y8p _⟩⟩
  cases hs:aD p B inst sd price q with
  |none=>
   rw[eG (.inr hs)];exact⟨h,rfl,λx=>⟨x,y8p _⟩⟩
  |some x=>
   obtain⟨t,C⟩:=x;obtain⟨k1,k2⟩:=zRd h hs;have hq2:=zMh (by omega) hs;cases m with
   |zero=>omega
   |succ m=>
   obtain⟨i1,i2,i3⟩:=pO (p:=p) (inst:=inst) (sd:=sd) (price:=price) m (q-t.qty) C (by omega) k1;rw[zMk (by omega) hs];exact⟨i1,i2.trans k2,λ_=>⟨(i3 (by omega)).1,by dsimp only;have:=(i3 (by omega)).2;omega⟩⟩
@[reducible] def RunI.ok (i:RunI):Prop:=i.s.Rep i.p i.B/\BOk i.p i.B/\(0<=i.inst/\i.inst<i.B.length)/\1<=i.q/\i.q<=1000000
def scouldC:Con:=con1 RunI (λi=>[.nm 0 0,zA i.inst,zA (zC i.sd),zA i.price,zA i.q]) (λi=>[zD i.s]) (λi=>i.ok) (λi=>zA (i.q-i.r.left)) (λi=>[zD i.s])
def mF (p:Prd) (B:List (List zH)) (inst:Int) (sd:Bool) (price q:Int):Bool:=
 decide ((wH p B inst sd price q).left≠0) && (kJ ⟨p,(wH p B inst sd price q).B.map qW,inst⟩ (zC (!sd))).any λx=>cY sd price x.price
def stuckC:Con:=con1 RunI (λi=>[.nm 0 0,zA i.inst,zA (zC i.sd),zA i.price,zA i.q]) (λi=>[zD i.s]) (λi=>i.ok) (λi=>yP (mF i.p i.B i.inst i.sd i.price i.q)) (λi=>[zD i.s])
def zVh (B:List (List zH)):Nat:=(whL 0 B).length
def countC16:Con:=con1 SoI (λi=>[.nm 0 0]) (λi=>[zD i.s]) (λi=>i.ok) (λi=>zA (zVh i.B)) (λi=>[zD i.s])
def f8 (p:Prd) (inst price:Int):Int×Int×Int:=
 if(p.legs inst).2.2=ap then(0,0,20)else if p.price inst price≠0 then(0,0,p.price inst price)else
 let far:=p.settle.getD (p.legs inst).2.1.toNat 0
 let a:=if p.high<far+price then(p.high,p.high-price)else(far+price,far)
 if a.1<p.low then(p.low,p.low-price,0)else(a.1,a.2,0)
structure LpI where
 p:Prd
 inst:Int
 price:Int
def lpricesC:Con:=con1 LpI (λi=>[prdV i.p,zA i.inst,zA i.price]) (λ_=>[]) (λi=>i.p.check=0/\i.p.small/\i64r i.price) (λi=> .tup [zA (f8 i.p i.inst i.price).1,zA (f8 i.p i.inst i.price).2.1,zA (f8 i.p i.inst i.price).2.2]) (λ_=>[])
def ijj (t u:Nat):SAnn:={ι:=Int×Int,slots:=λn=>[(t,zA n.1),(u,zA n.2)],rows:=λ_=>[]}
def lpJ:List (Nat×SAnn):=[(50,ijj 15 14),(58,ijj 15 14)]
def yXf:List SAnn:=[{ι:=Nat,slots:=λj=>[(40,zA j)],rows:=λ_=>[]}]
def yUu:List (Nat×SAnn):=[(8,{ι:=Unit,slots:=λ_=>[],rows:=λ_=>[],opn:=[11]})]
def gX (a:MSt):Prop:=a.books.length<=1000000/\∀(b:Book),b∈a.books->(b.a.slots.length<=1000000/\b.a.queues.length<=1000000)/\b.buys.length<=1000000/\b.sells.length<=1000000/\b.spare.length<=1000000
def qO (a:RunI):Prop:=a.s.Rep a.p a.B/\BOk a.p a.B/\(0<=a.inst/\a.inst<(↑a.B.length:Int))/\1<=a.q/\a.q<=1000000
def zBx (a:RunI):Prop:=∃(b:MSt),sb b.p.code=sb a.s.p.code/\b.p.tick=a.s.p.tick/\b.p.low=a.s.p.low/\b.p.high=a.s.p.high/\b.p.wide=a.s.p.wide/\b.p.rule=a.s.p.rule/\b.p.top=a.s.p.top/\b.p.least=a.s.p.least/\b.p.part=a.s.p.part/\ae 197 Book 6 zP b.books aw=ae 197 Book 6 zP a.s.books aw/\yO b.wh=yO a.s.wh/\aa 1 (iE b.p.months)=aa 1 (iE a.s.p.months)/\aa 1 (iE b.p.settle)=aa 1 (iE a.s.p.settle)/\(gX b)/\∀(c:Unit),True->∃(d:RunI),d.inst=a.inst/\zC d.sd=zC a.sd/\d.price=a.price/\d.q=a.q/\zD d.s=zD b/\(qO d)/\∀(e:MSt),e.Rep d.p d.r.B->∃(f:Unit),a.q-a.r.left=aj.wrap (a.q-d.r.left)/\zD a.s=zD b/\True
def wN (a:RunI):Prop:=∃(b:Unit),a.q-a.r.left=0/\dh (sb a.s.p.code)/\dh a.s.p.tick/\dh a.s.p.low/\dh a.s.p.high/\dh a.s.p.wide/\dh a.s.p.rule/\dh a.s.p.top/\dh a.s.p.least/\dh a.s.p.part/\dh (ae 197 Book 6 zP a.s.books aw)/\dh (yO a.s.wh)/\dh (aa 1 (iE a.s.p.months))/\dh (aa 1 (iE a.s.p.settle))/\True
def z8c (i:RunI):Prop:=
 cnd (decide (i.inst>=0)) (cnd (decide (i.inst<(↑i.s.books.length:Int))) (cnd (zC i.sd==1) (cnd (decide (i.q>=1)) (cnd (!decide (i.q<=1000000)) (wN i) (zBx i)) (wN i)) (cnd (zC i.sd==2) (cnd (decide (i.q>=1)) (cnd (!decide (i.q<=1000000)) (wN i) (zBx i)) (wN i)) (wN i))) (wN i)) (wN i)
def zYf (i:SoI):Prop:=
 ∃(a:Unit),(↑(zVh i.B):Int)=(↑(yO i.s.wh).length:Int)/\dh (sb i.s.p.code)/\dh i.s.p.tick/\dh i.s.p.low/\dh i.s.p.high/\dh i.s.p.wide/\dh i.s.p.rule/\dh i.s.p.top/\dh i.s.p.least/\dh i.s.p.part/\dh (ae 197 Book 6 zP i.s.books aw)/\dh (yO i.s.wh)/\dh (aa 1 (iE i.s.p.months))/\dh (aa 1 (iE i.s.p.settle))/\True
def cP (a:Int×Int->Prop) (b:Int×Int) (c:LpI):Prop:=a b/\dh (ab [V.d (D.v (az (sb c.p.code))),V.own 0,V.d (dI c.p.tick),V.d (dI c.p.low),V.d (dI c.p.high),V.d (dI c.p.wide),V.d (dI c.p.rule),V.d (dI c.p.top),V.d (dI c.p.least),V.d (dI c.p.part),V.own 1] 25)/\dh (aa 1 (iE c.p.settle))/\dh (aa 1 (iE c.p.months))
def y5 (a:LpI):=(f8 a.p a.inst a.price)
def zZa (i:LpI):Prop:=
 ∃(a:Prd),sb a.code=sb i.p.code/\iE a.months=iE i.p.months/\a.tick=i.p.tick/\a.low=i.p.low/\a.high=i.p.high/\a.wide=i.p.wide/\a.rule=i.p.rule/\a.top=i.p.top/\a.least=i.p.least/\a.part=i.p.part/\iE a.settle=iE i.p.settle/\(z5 a)/\∀(b:Unit),True->cnd (a.check !=0) (∃(c:Unit),(y5 i).fst=0/\(y5 i).snd.fst=0/\(y5 i).snd.snd=1/\True) (∃(c:cM),sb c.p.code=sb i.p.code/\iE c.p.months=iE i.p.months/\c.p.tick=i.p.tick/\c.p.low=i.p.low/\c.p.high=i.p.high/\c.p.wide=i.p.wide/\c.p.rule=i.p.rule/\c.p.top=i.p.top/\c.p.least=i.p.least/\c.p.part=i.p.part/\iE c.p.settle=iE i.p.settle/\c.n=i.inst/\(jF c)/\∀(d:Unit),True->cnd (!(c.p.legs c.n).snd.snd) (∃(e:Unit),(y5 i).fst=0/\(y5 i).snd.fst=0/\(y5 i).snd.snd=20/\True) (∃(e:tJ),sb e.p.code=sb i.p.code/\iE e.p.months=iE i.p.months/\e.p.tick=i.p.tick/\e.p.low=i.p.low/\e.p.high=i.p.high/\e.p.wide=i.p.wide/\e.p.rule=i.p.rule/\e.p.top=i.p.top/\e.p.least=i.p.least/\e.p.part=i.p.part/\iE e.p.settle=iE i.p.settle/\e.a=i.inst/\e.b=i.price/\(qB e)/\∀(f:Unit),True->cnd (e.p.price e.a e.b !=0) (∃(g:Unit),(y5 i).fst=0/\(y5 i).snd.fst=0/\(y5 i).snd.snd=e.p.price e.a e.b/\True) ((0<=(c.p.legs c.n).snd.fst/\(c.p.legs c.n).snd.fst<(↑(iE i.p.settle).length:Int))/\∃(g:Int),zE (iE i.p.settle) (c.p.legs c.n).snd.fst.toNat 0 1=av [dI g]/\∃(h:Int×Int),∃(j:Int×Int->Prop),cnd (decide (aj.wrap (g+i.price)>i.p.high)) (∃(k:Int×Int),k.fst=i.p.high/\k.snd=aj.wrap (i.p.high-i.price)/\cP j k i) (∃(k:Int×Int),k.fst=aj.wrap (g+i.price)/\k.snd=g/\cP j k i)/\∀(k:Int×Int),j k->∃(l:Int×Int),∃(m:Int×Int->Prop),cnd (decide (k.fst<i.p.low)) (∃(n:Int×Int),n.fst=i.p.low/\n.snd=aj.wrap (i.p.low-i.price)/\cP m n i) (∃(n:Int×Int),n.fst=k.fst/\n.snd=k.snd/\cP m n i)/\∀(n:Int×Int),m n->∃(p:Unit),(y5 i).fst=n.fst/\(y5 i).snd.fst=n.snd/\(y5 i).snd.snd=0/\True)))
def zBv (a:MSt) (b:MSt):Prop:=sb a.p.code=sb b.p.code/\True/\a.p.tick=b.p.tick/\a.p.low=b.p.low/\a.p.high=b.p.high/\a.p.wide=b.p.wide/\a.p.rule=b.p.rule/\a.p.top=b.p.top/\a.p.least=b.p.least/\a.p.part=b.p.part/\True/\True
def yHo (i:RunI):Prop:=
 ∃(a:MSt),zD a=zD i.s/\(gX a)/\∀(b:Unit),True->∃(c:RunI),c.inst=i.inst/\zC c.sd=zC i.sd/\c.price=i.price/\c.q=i.q/\zD c.s=zD a/\(qO c)/\∀(d:MSt),d.Rep c.p c.r.B->cnd (c.r.left==0) (∃(e:Unit),mF i.p i.B i.inst i.sd i.price i.q=ap/\zD i.s=zD a/\True) (∃(e:MSt),sb e.p.code=sb d.p.code/\e.p.tick=d.p.tick/\e.p.low=d.p.low/\e.p.high=d.p.high/\e.p.wide=d.p.wide/\e.p.rule=d.p.rule/\e.p.top=d.p.top/\e.p.least=d.p.least/\e.p.part=d.p.part/\ae 197 Book 6 zP e.books aw=ae 197 Book 6 zP d.books aw/\yO e.wh=yO d.wh/\aa 1 (iE e.p.months)=aa 1 (iE d.p.months)/\aa 1 (iE e.p.settle)=aa 1 (iE d.p.settle)/\(dE e)/\∀(f:Unit),True->(zBv e d)/\∃(g:Bool),zC g=zC i.sd/\True/\∀(h:Unit),True->(zBv e d)/\∃(j:tW),sb j.i.p.code=sb d.p.code/\iE j.i.p.months=iE e.p.months/\j.i.p.tick=d.p.tick/\j.i.p.low=d.p.low/\j.i.p.high=d.p.high/\j.i.p.wide=d.p.wide/\j.i.p.rule=d.p.rule/\j.i.p.top=d.p.top/\j.i.p.least=d.p.least/\j.i.p.part=d.p.part/\iE j.i.p.settle=iE e.p.settle/\am z6 j.i.tops=am z6 e.tops/\j.i.inst=i.inst/\zC j.s=zC !g/\(kF j)/\∀(k:Unit),True->∃(l:Nat),(↑l:Int)=0/\∃(m:Nat->Prop),∃(n:Nat->Nat),m l/\∀(p:Nat),m p->cnd (decide ((↑p:Int)<(gS j))) ((0<=(↑p:Int)/\(↑p:Int)<(gS j))/\∃(q:Int),∃(r:Int),∃(s:Int),∃(t:Int),∃(u:Int),∃(v:Int),zE (jQ j) (↑p:Int).toNat 0 6=av [dI q,dI r,dI s,dI t,dI u,dI v]/\∃(w:GoI),zC w.s=zC i.sd/\w.p=i.price/\w.x=q/\True/\∀(x:Unit),True->cnd (cY w.s w.p w.x) (∃(y:Unit),mF i.p i.B i.inst i.sd i.price i.q=aq/\zD i.s=zD a/\True) (∃(y:Nat),(↑y:Int)=aj.wrap ((↑p:Int)+1)/\m y/\n y<n p/\dh (ag 172 6 (jQ j))/\dh (ab [V.d (fF e),V.own 5,V.d (dI e.p.tick),V.d (dI e.p.low),V.d (dI e.p.high),V.d (dI e.p.wide),V.d (dI e.p.rule),V.d (dI e.p.top),V.d (dI e.p.least),V.d (dI e.p.part),V.own 6,V.own 3,V.mp 4] (195:bc))/\dh (ae 197 Book 6 zP e.books aw)/\dh (af (yO e.wh))/\dh (aa 1 (iE e.p.months))/\dh (aa 1 (iE e.p.settle))/\dh (aa 6 (am z6 e.tops))/\dh (aa 1 (iE d.p.months))/\dh (aa 1 (iE d.p.settle))/\dh (ag 290 4 (am wB c.r.steps))/\zD a=zD a)) (∃(q:Unit),mF i.p i.B i.inst i.sd i.price i.q=ap/\zD i.s=zD a/\True))
def MSt.Rep.small {s:MSt} {p:Prd} {B:List (List zH)} (h:s.Rep p B) (hb:BOk p B):s.small:=by
 have:=xK p;refine⟨by rw[h.bl,hb.bl];omega,λb hm=> ?_⟩;obtain⟨k,hk⟩:=y7s.1 hm;have hlt:=(y5f.1 hk).1;rw[h.bl]at hlt;obtain⟨L,hL⟩:=yC hlt;obtain⟨Q,c,_⟩:=h.bk k b L hk hL;exact c.small
def yKu (i:RunI) (h:scouldC.cnd i):z8c i:=by
 have h':i.ok:=h;obtain⟨hR,hB,⟨h0,h1⟩,hq1,hq2⟩:=h';have hbl:=hR.bl;have hl:=(pO (inst:=i.inst) (sd:=i.sd) (price:=i.price) _ i.q i.B (y5x _) (hR.wf hB)).2.2 (by omega);have er:i.r=wH i.p i.B i.inst i.sd i.price i.q:=rfl;unfold z8c zBx qO gX wN;refine(λhT=>zI (λc=>zI (λc2=>Cv.cnd.mk (λ_=>zI (λ_=>Cv.cnd.mk (λe=>absurd hq2 (by simpa using e)) (λ_=>hT)) (λe=>absurd hq1 e)) (λe1=>Cv.cnd.mk (λ_=>zI (λ_=>Cv.cnd.mk (λe=>absurd hq2 (by simpa using e)) (λ_=>hT)) (λe=>absurd hq1 e)) (λe2=>by
  rcases zEc i.sd with e|e
  ·rw[e]at e1;cases e1
  ·rw[e]at e2;cases e2))) (λc2=>absurd (by omega) c2)) (λc=>absurd h0 c)) ?_
 refine⟨i.s,rfl,rfl,rfl,rfl,rfl,rfl,rfl,rfl,rfl,rfl,rfl,rfl,rfl,hR.small hB,λ_ _=>⟨i,rfl,rfl,rfl,rfl,rfl,h,λo ho=>⟨(),?_,rfl,trivial⟩⟩⟩;rw[w64 (by rw[er];omega)]
def yCc:scouldC.ok Tryz.prog 166:=okw mixed (gokc zLz (gokc z1t gok0)) 2 (λ_=>[]) (λ_=>[]) [0] Tryz.func166 yKu
def yDd (i:SoI) (h:countC16.cnd i):zYf i:=by
 obtain⟨hR,hB⟩:i.s.Rep i.p i.B/\i.B.length<=1000:=h;unfold zYf;have e:(yO i.s.wh).length=zVh i.B:=by rw[yO,y5c,hR.wh.length_eq,zVh]
 exact⟨(),by rw[e],by(repeat'(first|exact trivial|exact rfl|apply ar))⟩
def z1l:countC16.ok Tryz.prog 165:=okw mixed gok0 0 (λ_=>[]) (λ_=>[]) [0] Tryz.func165 yDd
def zNx {p:Prd} {i n:Int} (h:p.price i n=0):0<=i/\i<p.count:=by
 rw[Prd.price]at h;split at h
 ·cases h
 split at h
 ·cases h
 omega
def yGp (i:LpI) (h:lpricesC.cnd i):zZa i:=by
 obtain⟨hc,hp,hpr⟩:i.p.check=0/\i.p.small/\i64r i.price:=h;unfold zZa cP y5 z5 jF qB dI;refine⟨i.p,rfl,rfl,rfl,rfl,rfl,rfl,rfl,rfl,rfl,rfl,rfl,hp,λ_ _=>Cv.cnd.mk (λe=>by rw[hc]at e;cases e) (λ_=> ?_)⟩;refine⟨⟨i.p,i.inst⟩,rfl,rfl,rfl,rfl,rfl,rfl,rfl,rfl,rfl,rfl,rfl,rfl,hp,λ_ _=>Cv.cnd.mk (λe=> ?_) (λe=> ?_)⟩
 ·have e:(i.p.legs i.inst).2.2=ap:=by simpa using e
  have h0:f8 i.p i.inst i.price=(0,0,20):=by rw[f8,y5d e]
  rw[h0];exact⟨(),rfl,rfl,rfl,trivial⟩
 have e:(i.p.legs i.inst).2.2=aq:=by simpa using e
 refine⟨⟨i.p,i.inst,i.price⟩,rfl,rfl,rfl,rfl,rfl,rfl,rfl,rfl,rfl,rfl,rfl,rfl,rfl,hp,λ_ _=>Cv.cnd.mk (λe2=> ?_) (λe2=> ?_)⟩
 ·have e2:¬i.p.price i.inst i.price=0:=by simpa using e2
  have h0:f8 i.p i.inst i.price=(0,0,i.p.price i.inst i.price):=by rw[f8,y5b (by rw[e];decide),y5d e2]
  rw[h0];exact⟨(),rfl,rfl,rfl,trivial⟩
 have e2:i.p.price i.inst i.price=0:=by simpa using e2
 have hin:=zNx e2;have hbd:=lC hc e2;have ok:=kD hc;have b1:=ok.b1;have b2:=ok.b2;have b3:=ok.b3;have s1:=ok.s1;have s2:=ok.s2;have s3:=ok.s3;obtain⟨k,hk⟩:∃k:Nat,i.inst=k:=⟨i.inst.toNat,by omega⟩
 have hl:=g8 hc (k:=k) (by omega);rw[<- hk]at hl;rcases hl with⟨_,_,_,l3,l4⟩|⟨x,_⟩
 rotate_left
 ·rw[e]at x;cases x
 have hsl:(iE i.p.settle).length=i.p.settle.length:=yZ _;obtain⟨n,hn⟩:=yC (l:=i.p.settle) (i:=(i.p.legs i.inst).2.1.toNat) (by omega);have hm:=y5m hn;have m1:=z8l hm;have m2:=z9c hm;have hg:i.p.settle.getD (i.p.legs i.inst).2.1.toNat 0=n:=zU hn;have h0:f8 i.p i.inst i.price=(if(if i.p.high<n+i.price then(i.p.high,i.p.high-i.price)else(n+i.price,n)).1<i.p.low then(i.p.low,i.p.low-i.price,0)else((if i.p.high<n+i.price then(i.p.high,i.p.high-i.price)else(n+i.price,n)).1,(if i.p.high<n+i.price then(i.p.high,i.p.high-i.price)else(n+i.price,n)).2,0)):=by
  rw[f8,y5b (by rw[e];decide),y5b (by rw[e2];decide)];dsimp only;rw[hg]
 dsimp only;refine⟨⟨l3,by omega⟩,n,elI hn,(0,0),λa=>a=if i.p.high<n+i.price then(i.p.high,i.p.high-i.price)else(n+i.price,n),zI (λc=>⟨(i.p.high,i.p.high-i.price),rfl,(w64 (by omega)).symm,?_,by(repeat'(first|exact trivial|exact rfl|apply ar))⟩) (λc=>⟨(n+i.price,n),(w64 (by omega)).symm,rfl,?_,by(repeat'(first|exact trivial|exact rfl|apply ar))⟩),?_⟩
 ·rw[w64 (by omega)]at c;rw[y5d c]
 ·rw[w64 (by omega)]at c;rw[y5b c]
 rintro _ rfl;generalize (if i.p.high<n+i.price then(i.p.high,i.p.high-i.price)else(n+i.price,n))=a at h0 ⊢;refine⟨(0,0),λb=>b=if a.1<i.p.low then(i.p.low,i.p.low-i.price)else a,zI (λc=>⟨(i.p.low,i.p.low-i.price),rfl,(w64 (by omega)).symm,by rw[y5d c],by(repeat'(first|exact trivial|exact rfl|apply ar))⟩) (λc=>⟨a,rfl,rfl,by rw[y5b c],by(repeat'(first|exact trivial|exact rfl|apply ar))⟩),?_⟩;rintro _ rfl;rw[h0];by_cases c:a.1<i.p.low
 ·rw[y5d c,y5d c];exact⟨(),rfl,rfl,rfl,trivial⟩
 ·rw[y5b c,y5b c];exact⟨(),rfl,rfl,rfl,trivial⟩
def z2v:lpricesC.ok Tryz.prog 201:=okw mixed (gokc eF (gokc lN (gokc lL gok0))) 0 (λ_=>lpJ) (λ_=>[]) [] Tryz.func201 yGp
def yLq {l:List Quote} {k:Nat} {q:Quote} (h:l[k]? =av q):zE (l.map zJ) k 0 6=av [D.v (.int .i64 q.price),D.v (.int .i64 q.qty),D.v (.int .i64 q.a.inst),D.v (.int .i64 q.a.side),D.v (.int .i64 q.b.inst),D.v (.int .i64 q.b.side)]:=elA h (by simp[zJ]) rfl
def yXe (i:RunI) (h:stuckC.cnd i):yHo i:=by
 have h':i.ok:=h;obtain⟨hR,hB,⟨h0,h1⟩,hq1,hq2⟩:=h';have hwf:=hR.wf hB;obtain⟨k1,k2,k3⟩:=pO (inst:=i.inst) (sd:=i.sd) (price:=i.price) _ i.q i.B (y5x _) hwf;have hcl:=xK i.p;unfold yHo fF zBv qO gX gS jQ kF fD dE dI;refine⟨i.s,rfl,hR.small hB,λ_ _=>⟨i,rfl,rfl,rfl,rfl,rfl,h,λo ho=> ?_⟩⟩;have er:i.r=wH i.p i.B i.inst i.sd i.price i.q:=rfl;have es:mF i.p i.B i.inst i.sd i.price i.q=(decide ((wH i.p i.B i.inst i.sd i.price i.q).left≠0) && (kJ ⟨i.p,(wH i.p i.B i.inst i.sd i.price i.q).B.map qW,i.inst⟩ (zC (!i.sd))).any λx=>cY i.sd i.price x.price):=rfl;rw[er]at ho ⊢;rw[es];generalize wH i.p i.B i.inst i.sd i.price i.q=R at*;obtain⟨ts,lf,RB⟩:=R;dsimp only at*;refine Cv.cnd.mk (λe=>⟨(),?_,rfl,trivial⟩) (λe=> ?_)
 ·have e:lf=0:=by simpa using e
  rw[e];rfl
 have e:lf≠0:=by simpa using e
 rw[y5s e,y7z];have ep:=ho.ep;have hB':=k1.ok;have hbl:=hB'.bl;have hcnt:o.cntOk:=ho.cnt (by omega);have hps:o.p.small:=by rw[ep];exact hB'.ps
 have hto:vG (RB.map qW):=hB'.tops;have hle:=zFm ⟨o.p,RB.map qW,i.inst⟩ (zC (!i.sd));refine⟨o,rfl,rfl,rfl,rfl,rfl,rfl,rfl,rfl,rfl,rfl,rfl,rfl,rfl,hcnt,λ_ _=>⟨⟨rfl,trivial,rfl,rfl,rfl,rfl,rfl,rfl,rfl,rfl,trivial,trivial⟩,i.sd,rfl,trivial,λ_ _=>⟨⟨rfl,trivial,rfl,rfl,rfl,rfl,rfl,rfl,rfl,rfl,trivial,trivial⟩,⟨⟨o.p,RB.map qW,i.inst⟩,!i.sd⟩,rfl,rfl,rfl,rfl,rfl,rfl,rfl,rfl,rfl,rfl,rfl,by rw[ho.tops],rfl,rfl,⟨hps,hto⟩,λ_ _=> ?_⟩⟩⟩;dsimp only;rw[<- ep];generalize kJ ⟨o.p,RB.map qW,i.inst⟩ (zC (!i.sd))=Q at*;have e4:(Q.map zJ).length=Q.length:=y5c ..;refine⟨0,rfl,λj=>j<=Q.length/\(Q.take j).any (λx=>cY i.sd i.price x.price)=ap,λj=>Q.length-j,⟨y6i _,rfl⟩,?_⟩;rintro j ⟨j1,j2⟩;refine zI (λc=> ?_) (λc=>⟨(),?_,rfl,trivial⟩)
 ·obtain⟨q,hq⟩:=yC (l:=Q) (i:=j) (by omega);refine⟨⟨by omega,by omega⟩,_,_,_,_,_,_,yLq hq,⟨i.sd,i.price,q.price⟩,rfl,rfl,rfl,trivial,λ_ _=>Cv.cnd.mk (λg=>⟨(),?_,rfl,trivial⟩) (λg=>⟨j+1,wjn (by omega),⟨by omega,?_⟩,by dsimp only;omega,by(repeat'(first|exact trivial|exact rfl|apply ar))⟩)⟩
  ·rw[List.any_eq_true];exact⟨q,y5m hq,g⟩
  ·rw[y6m,hq,List.any_append,j2];show(ap||([q].any λx=>cY i.sd i.price x.price))=ap;simp only[List.any_cons,List.any_nil,Bool.or_false,xAx];exact g
 ·have:j=Q.length:=by omega
  rw[this,y5n (y5x _)]at j2;exact j2
def zZn:stuckC.ok Tryz.prog 167:=okw mixed (gokc zLz (gokc z1t (gokc z0p (gokc yDi (gokc zTd (gokc zWp gok0)))))) 0 (λ_=>yUu) (λ_=>yXf) [] Tryz.func167 yXe
def m9 (c:Cmd) (why:Int):List Rep:=[⟨2,c.id,0,0,0,0,0,why⟩]
def ofF (x:jW) (k:Int):Int:=match x.fills.find? λf=>decide (f.inst=k)with
 |some f=>f.price
 |none=>x.price
def wQ (p:Prd) (inst:Int) (x:jW):Int×Int:=if x.implied=ap then((f8 p inst x.price).1,(f8 p inst x.price).2.1)else(ofF x (p.legs inst).1,ofF x (p.legs inst).2.1)
def zEg (p:Prd) (r:Rep) (near far:Int):List Rep:=[{r with inst:=(p.legs r.inst).1,price:=near},{r with inst:=(p.legs r.inst).2.1,side:=3-r.side,price:=far}]
def m4 (p:Prd) (x:jW) (r:Rep):List Rep:=r::if(p.legs r.inst).2.2=aq then zEg p r (wQ p r.inst x).1 (wQ p r.inst x).2 else[]
def zEq (f:cK):Rep:=⟨3,f.id,f.inst,f.side,f.price,f.qty,f.left,0⟩
def mZ (p:Prd) (c:Cmd) (x:jW) (left:Int):List Rep:=x.fills.flatMap (λf=>m4 p x (zEq f))++m4 p x ⟨3,c.id,c.inst,c.side,x.price,x.qty,left,0⟩
def aP (p:Prd) (c:Cmd):List jW->Int->List Rep
 |[],_=>[]
 |x::l,left=>mZ p c x (left-x.qty)++aP p c l (left-x.qty)
structure MkX where
 B:List (List zH)
 U:List Int
 R:List Rep
def zQc (U:List Int) (id:Int):List Int:=if id∈U then U else U++[id]
def cV (p:Prd) (B:List (List zH)) (U:List Int) (c:Cmd):MkX:=match wH p B c.inst (decide (c.side=2)) c.price c.qty with
 |⟨ts,left,B'⟩=>⟨if left≠0/\c.time=1 then(z4m p B' c.inst c.id c.side c.price left).1 else B',zQc U c.id,
  (⟨1,c.id,c.inst,c.side,c.price,c.qty,c.qty,0⟩::aP p c ts c.qty)++if left≠0/\c.time≠1 then[⟨4,c.id,c.inst,c.side,c.price,left,0,0⟩]else[]⟩
def Cmd.lst (c:Cmd):Int:=if c.time=3 then c.qty else c.least
def nB (p:Prd) (B:List (List zH)) (U:List Int) (c:Cmd):MkX:=
 if p.price c.inst c.price≠0 then⟨B,U,m9 c (p.price c.inst c.price)⟩
 else if c.id∈U then⟨B,U,m9 c 25⟩
 else if 250<=zVh B then⟨B,U,m9 c 13⟩
 else if 0<c.lst/\c.qty-(wH p B c.inst (decide (c.side=2)) c.price c.qty).left<c.lst then⟨B,U,m9 c 28⟩
 else if c.time=1/\mF p B c.inst (decide (c.side=2)) c.price c.qty=aq then⟨B,U,m9 c 23⟩
 else cV p B U c
def uN (B:List (List zH)) (U:List Int) (id inst:Int) (o:zH):MkX:=⟨(kI B id o.qty).1,U,[⟨4,id,inst,o.side,o.price,o.qty,0,0⟩]⟩
def bI (B:List (List zH)) (U:List Int) (id q inst:Int) (o:zH):MkX:=⟨(kI B id q).1,U,[⟨5,id,inst,o.side,o.price,q,o.qty-q,0⟩]⟩
def fZ (p:Prd) (B:List (List zH)) (U:List Int) (c:Cmd) (inst:Int) (o:zH):MkX:=
 if p.price inst c.price≠0 then⟨B,U,m9 c (p.price inst c.price)⟩
 else if c.price=o.price/\c.qty<=o.qty then bI B U c.id (o.qty-c.qty) inst o
 else if mF p (kI B c.id o.qty).1 inst (decide (o.side=2)) c.price c.qty=aq then⟨B,U,m9 c 23⟩
 else
  let x:=uN B U c.id inst o
  let y:=cV p x.B U ⟨1,c.id,inst,o.side,c.price,c.qty,0,1,[]⟩
  ⟨y.B,y.U,x.R++y.R⟩
def doF (p:Prd) (B:List (List zH)) (U:List Int) (c:Cmd):MkX:=
 if c.right≠0 then⟨B,U,m9 c c.right⟩
 else if c.kind=1 then nB p B U c
 else if(zQ B c.id).2.2=ap then⟨B,U,m9 c 26⟩
 else if c.kind=4 then fZ p B U c (zQ B c.id).1 (zQ B c.id).2.1
 else if c.kind=2\/(zQ B c.id).2.1.qty<=c.qty then uN B U c.id (zQ B c.id).1 (zQ B c.id).2.1
 else bI B U c.id c.qty (zQ B c.id).1 (zQ B c.id).2.1
structure Mkt.Rep (m:Mkt) (p:Prd) (B:List (List zH)) (U:List Int):Prop where
 ep:m.p=p
 s:m.s.Rep p B
 u:m.used=U
@[reducible] def zBj (m:Mkt):List AObj:=[yW m 0,yW m 1,yW m 2,yW m 3,yW m 4]
@[reducible] def yRb (x:jW):V:= .agg [zA x.price,zA x.qty,yP x.implied,roV 6 (x.fills.map yV)]
@[reducible] def tRp:Nat:=65
@[reducible] def z5b (l:List Rep):AObj:= .own tRp 8 (l.map xQ)
structure RjI where
 c:Cmd
 why:Int
def rejC:Con:=con1 RjI (λi=>[zGd i.c,zA i.why]) (λ_=>[]) (λ_=>True) (λ_=> .own 0) (λi=>[z5b (m9 i.c i.why)])
structure MsI where
 m:Mkt
 r:Rep
 near:Int
 far:Int
@[reducible] def Mkt.fine (m:Mkt):Prop:=m.p.check=0/\m.p.small
def mspreadC:Con:=con1 MsI (λi=>[.nm 0 0,y2r i.r,zA i.near,zA i.far]) (λi=>zBj i.m) (λi=>i.m.fine/\(i.r.side=1\/i.r.side=2)) (λ_=> .own 5) (λi=>zBj i.m++[z5b (zEg i.m.p i.r i.near i.far)])
structure MiN where
 m:Mkt
 inst:Int
def misC:Con:=con1 MiN (λi=>[.nm 0 0,zA i.inst]) (λi=>zBj i.m) (λi=>i.m.fine) (λi=>yP (i.m.p.legs i.inst).2.2) (λi=>zBj i.m)
structure OfI where
 x:jW
 k:Int
@[reducible] def zXf (x:jW) (n:Nat):List AObj:=[.cells [zA x.price,zA x.qty,yP x.implied,.own n] 290,.fro 6 (x.fills.map yV)]
def ofC:Con:=con1 OfI (λi=>[zA i.k,.nm 0 0]) (λi=>zXf i.x 1) (λi=>i.x.fills.length<=1000000) (λi=>zA (ofF i.x i.k)) (λi=>zXf i.x 1)
def ofA:List SAnn:=[{ι:=Nat,slots:=λj=>[(9,zA j)],rows:=λ_=>[]}]
structure MpI where
 m:Mkt
 inst:Int
 x:jW
def mpricesC:Con:=con1 MpI (λi=>[.nm 0 0,zA i.inst,yRb i.x]) (λi=>zBj i.m) (λi=>i.m.fine/\i64r i.x.price/\i.x.fills.length<=1000000) (λi=> .tup [zA (wQ i.m.p i.inst i.x).1,zA (wQ i.m.p i.inst i.x).2]) (λi=>zBj i.m)
structure StI' where
 m:Mkt
 c:Cmd
 x:jW
 left:Int
def StI'.out (i:StI') (j:Nat):List Rep:=(i.x.fills.take j).flatMap λf=>m4 i.m.p i.x (zEq f)
def mstepC:Con:=con1 StI' (λi=>[.nm 0 0,zGd i.c,yRb i.x,zA i.left]) (λi=>zBj i.m) (λi=>i.m.fine/\i64r i.x.price/\i.x.fills.length<=1000000/\(i.c.side=1\/i.c.side=2)/\∀f∈i.x.fills,f.side=1\/f.side=2) (λ_=> .own 5) (λi=>zBj i.m++[z5b (mZ i.m.p i.c i.x i.left)])
def yWy (i:StI'):List SAnn:=[{ι:=Nat,slots:=λj=>[(9,.nm 0 0),(17,zA j)],rows:=λj=>[.cells [.own 1] 89,z5b (i.out j)]}]
def y3n (i:RjI):Prop:=
 ∃(o:Unit),[xQ (Rep.mk 2 i.c.id 0 0 0 0 0 i.why)]=[[D.v (.int .i64 2),D.v (.int .i64 i.c.id),D.v (.int .i64 0),D.v (.int .i64 0),D.v (.int .i64 0),D.v (.int .i64 0),D.v (.int .i64 0),D.v (.int .i64 i.why)]]/\True
def uB (a:MsI):Prop:=a.r.kind=a.r.kind/\dh a.r.id/\dh a.r.inst/\dh a.r.side/\dh a.r.price/\dh a.r.qty/\dh a.r.left/\dh a.r.why/\True
def fK (a:MsI):=(Rep.mk a.r.kind a.r.id (a.m.p.legs a.r.inst).snd.fst (3-a.r.side) a.far a.r.qty a.r.left a.r.why)
def fX (a:MsI):=(Rep.mk a.r.kind a.r.id (a.m.p.legs a.r.inst).fst a.r.side a.near a.r.qty a.r.left a.r.why)
def eI (a:MsI) (b:cM):Prop:=(uB a)/\(uB a)/\(uB a)/\(uB a)/\(uB a)/\dh a.r.side/\∃(c:Unit),dh (sb a.m.p.code)/\dh a.m.p.tick/\dh a.m.p.low/\dh a.m.p.high/\dh a.m.p.wide/\dh a.m.p.rule/\dh a.m.p.top/\dh a.m.p.least/\dh a.m.p.part/\zD a.m.s=yW a.m 1/\dh (zV a.m.used)/\aa 1 (iE a.m.p.months)=yW a.m 3/\aa 1 (iE a.m.p.settle)=yW a.m 4/\[xQ (fX a),xQ (fK a)]=[[dI a.r.kind,dI a.r.id,dI ((b.p.legs b.n).fst),dI a.r.side,dI a.near,dI a.r.qty,dI a.r.left,dI a.r.why],[dI a.r.kind,dI a.r.id,dI (vE b),dI (aj.wrap (3-a.r.side)),dI a.far,dI a.r.qty,dI a.r.left,dI a.r.why]]/\True
def zXj (i:MsI):Prop:=
 ∃(a:cM),sb a.p.code=sb i.m.p.code/\iE a.p.months=iE i.m.p.months/\a.p.tick=i.m.p.tick/\a.p.low=i.m.p.low/\a.p.high=i.m.p.high/\a.p.wide=i.m.p.wide/\a.p.rule=i.m.p.rule/\a.p.top=i.m.p.top/\a.p.least=i.m.p.least/\a.p.part=i.m.p.part/\iE a.p.settle=iE i.m.p.settle/\a.n=i.r.inst/\(jF a)/\∀(b:Unit),True->(eI i a)/\eI i a
def y3t (i:MiN):Prop:=
 ∃(i_1:cM),sb i_1.p.code=sb i.m.p.code/\iE i_1.p.months=iE i.m.p.months/\i_1.p.tick=i.m.p.tick/\i_1.p.low=i.m.p.low/\i_1.p.high=i.m.p.high/\i_1.p.wide=i.m.p.wide/\i_1.p.rule=i.m.p.rule/\i_1.p.top=i.m.p.top/\i_1.p.least=i.m.p.least/\i_1.p.part=i.m.p.part/\iE i_1.p.settle=iE i.m.p.settle/\i_1.n=i.inst/\(i_1.p.code.length<=1099511627776/\i_1.p.months.length<=1099511627776/\i_1.p.settle.length<=1099511627776)/\∀(o:Unit),True->∃(o:Unit),(i.m.p.legs i.inst).snd.snd=(i_1.p.legs i_1.n).snd.snd/\dh (sb i.m.p.code)/\dh i.m.p.tick/\dh i.m.p.low/\dh i.m.p.high/\dh i.m.p.wide/\dh i.m.p.rule/\dh i.m.p.top/\dh i.m.p.least/\dh i.m.p.part/\zD i.m.s=yW i.m 1/\dh (zV i.m.used)/\aa 1 (iE i.m.p.months)=yW i.m 3/\aa 1 (iE i.m.p.settle)=yW i.m 4/\True
def zTr (a:OfI):Prop:=a.x.price=a.x.price/\dh a.x.qty/\dh a.x.implied/\dh (aa 6 (am yV a.x.fills))/\True
def Vof (i:OfI):Prop:=
 ∃(a:Nat),(↑a:Int)=0/\∃(b:Nat->Prop),∃(c:Nat->Nat),b a/\∀(d:Nat),b d->cnd (decide ((↑d:Int)<(↑(am yV i.x.fills).length:Int))) ((0<=(↑d:Int)/\(↑d:Int)<(↑(am yV i.x.fills).length:Int))/\∃(e:Int),∃(f:Int),∃(g:Int),∃(h:Int),∃(j:Int),∃(k:Int),zE (am yV i.x.fills) (↑d:Int).toNat 0 6=av [dI e,dI f,dI g,dI h,dI j,dI k]/\cnd (f==i.k) (∃(l:Unit),ofF i.x i.k=h/\zTr i) (∃(l:Nat),(↑l:Int)=aj.wrap ((↑d:Int)+1)/\b l/\c l<c d/\dh (ab [zA i.x.price,zA i.x.qty,yP i.x.implied,V.own 1] (290:bc))/\dh (aa 6 (am yV i.x.fills)))) (∃(e:Unit),ofF i.x i.k=i.x.price/\zTr i)
def rP (a:MpI):Prop:=sb a.m.p.code=sb a.m.p.code/\dh a.m.p.tick/\dh a.m.p.low/\dh a.m.p.high/\dh a.m.p.wide/\dh a.m.p.rule/\dh a.m.p.top/\dh a.m.p.least/\dh a.m.p.part/\zD a.m.s=yW a.m 1/\dh (zV a.m.used)/\aa 1 (iE a.m.p.months)=yW a.m 3/\aa 1 (iE a.m.p.settle)=yW a.m 4/\True
def qK (a:MpI):=(wQ a.m.p a.inst a.x)
def zYv (i:MpI):Prop:=
 cnd (!i.x.implied) (∃(a:LpI),sb a.p.code=sb i.m.p.code/\iE a.p.months=iE i.m.p.months/\a.p.tick=i.m.p.tick/\a.p.low=i.m.p.low/\a.p.high=i.m.p.high/\a.p.wide=i.m.p.wide/\a.p.rule=i.m.p.rule/\a.p.top=i.m.p.top/\a.p.least=i.m.p.least/\a.p.part=i.m.p.part/\iE a.p.settle=iE i.m.p.settle/\a.inst=i.inst/\a.price=i.x.price/\(a.p.check=0/\(a.p.code.length<=1099511627776/\a.p.months.length<=1099511627776/\a.p.settle.length<=1099511627776)/\(-9223372036854775808)<=a.price/\a.price<=9223372036854775807)/\∀(b:Unit),True->∃(c:Unit),(qK i).fst=(y5 a).fst/\(qK i).snd=(y5 a).snd.fst/\rP i) (∃(a:cM),sb a.p.code=sb i.m.p.code/\iE a.p.months=iE i.m.p.months/\a.p.tick=i.m.p.tick/\a.p.low=i.m.p.low/\a.p.high=i.m.p.high/\a.p.wide=i.m.p.wide/\a.p.rule=i.m.p.rule/\a.p.top=i.m.p.top/\a.p.least=i.m.p.least/\a.p.part=i.m.p.part/\iE a.p.settle=iE i.m.p.settle/\a.n=i.inst/\(jF a)/\∀(b:Unit),True->∃(c:OfI),c.k=(a.p.legs a.n).fst/\c.x.price=i.x.price/\c.x.qty=i.x.qty/\c.x.implied=i.x.implied/\aa 6 (am yV c.x.fills)=aa 6 (am yV i.x.fills)/\c.x.fills.length<=1000000/\∀(d:Unit),True->∃(e:OfI),e.k=(a.p.legs a.n).snd.fst/\e.x.price=c.x.price/\e.x.qty=c.x.qty/\e.x.implied=c.x.implied/\aa 6 (am yV e.x.fills)=aa 6 (am yV c.x.fills)/\e.x.fills.length<=1000000/\∀(f:Unit),True->∃(g:Unit),(qK i).fst=ofF c.x c.k/\(qK i).snd=ofF e.x e.k/\rP i)
def zCw (a:MpI):Prop:=(a.m.p.check=0/\a.m.p.code.length<=1099511627776/\a.m.p.months.length<=1099511627776/\a.m.p.settle.length<=1099511627776)/\((-9223372036854775808)<=a.x.price/\a.x.price<=9223372036854775807)/\a.x.fills.length<=1000000
def zCx (a:MsI):Prop:=(a.m.p.check=0/\a.m.p.code.length<=1099511627776/\a.m.p.months.length<=1099511627776/\a.m.p.settle.length<=1099511627776)/\(a.r.side=1\/a.r.side=2)
def zCz (a:MiN):Prop:=a.m.p.check=0/\a.m.p.code.length<=1099511627776/\a.m.p.months.length<=1099511627776/\a.m.p.settle.length<=1099511627776
def mE (a:StI'):=(D.v (az (sb a.c.label)))
def yEr (i:StI'):Prop:=
 ∃(a:Nat),(↑a:Int)=0/\am xQ (i.out a)=[]/\∃(b:Nat->Prop),∃(c:Nat->Nat),b a/\∀(d:Nat),b d->cnd (decide ((↑d:Int)<(↑(am yV i.x.fills).length:Int))) ((0<=(↑d:Int)/\(↑d:Int)<(↑(am yV i.x.fills).length:Int))/\∃(e:Int),∃(f:Int),∃(g:Int),∃(h:Int),∃(j:Int),∃(k:Int),zE (am yV i.x.fills) (↑d:Int).toNat 0 6=av [dI e,dI f,dI g,dI h,dI j,dI k]/\((am xQ (i.out d)).length+1)*(64:Nat)<=(140737488355328:Nat)/\∃(l:MiN),l.inst=f/\sb l.m.p.code=sb i.m.p.code/\l.m.p.tick=i.m.p.tick/\l.m.p.low=i.m.p.low/\l.m.p.high=i.m.p.high/\l.m.p.wide=i.m.p.wide/\l.m.p.rule=i.m.p.rule/\l.m.p.top=i.m.p.top/\l.m.p.least=i.m.p.least/\l.m.p.part=i.m.p.part/\zD l.m.s=yW i.m 1/\zV l.m.used=zV i.m.used/\aa 1 (iE l.m.p.months)=yW i.m 3/\aa 1 (iE l.m.p.settle)=yW i.m 4/\(zCz l)/\∀(m:Unit),True->cnd (l.m.p.legs l.inst).snd.snd (∃(n:MpI),n.inst=f/\n.x.price=i.x.price/\n.x.qty=i.x.qty/\n.x.implied=i.x.implied/\am yV n.x.fills=am yV i.x.fills/\sb n.m.p.code=sb l.m.p.code/\n.m.p.tick=l.m.p.tick/\n.m.p.low=l.m.p.low/\n.m.p.high=l.m.p.high/\n.m.p.wide=l.m.p.wide/\n.m.p.rule=l.m.p.rule/\n.m.p.top=l.m.p.top/\n.m.p.least=l.m.p.least/\n.m.p.part=l.m.p.part/\zD n.m.s=zD l.m.s/\zV n.m.used=zV l.m.used/\aa 1 (iE n.m.p.months)=aa 1 (iE l.m.p.months)/\aa 1 (iE n.m.p.settle)=aa 1 (iE l.m.p.settle)/\(zCw n)/\∀(p:Unit),True->∃(q:MsI),q.r.kind=3/\q.r.id=e/\q.r.inst=f/\q.r.side=g/\q.r.price=h/\q.r.qty=j/\q.r.left=k/\q.r.why=0/\q.near=(qK n).fst/\q.far=(qK n).snd/\sb q.m.p.code=sb n.m.p.code/\q.m.p.tick=n.m.p.tick/\q.m.p.low=n.m.p.low/\q.m.p.high=n.m.p.high/\q.m.p.wide=n.m.p.wide/\q.m.p.rule=n.m.p.rule/\q.m.p.top=n.m.p.top/\q.m.p.least=n.m.p.least/\q.m.p.part=n.m.p.part/\zD q.m.s=zD n.m.s/\zV q.m.used=zV n.m.used/\aa 1 (iE q.m.p.months)=aa 1 (iE n.m.p.months)/\aa 1 (iE q.m.p.settle)=aa 1 (iE n.m.p.settle)/\(zCx q)/\∀(r:Unit),True->True/\((am xQ (i.out d)++[[dI 3,dI e,dI f,dI g,dI h,dI j,dI k,dI 0]]).length+2)*(64:Nat)<=(140737488355328:Nat)/\∃(s:Nat),(↑s:Int)=aj.wrap ((↑d:Int)+1)/\am xQ (i.out s)=am xQ (i.out d)++[[dI 3,dI e,dI f,dI g,dI h,dI j,dI k,dI 0]]++[xQ (fX q),xQ (fK q)]/\b s/\c s<c d/\dh (ab [V.d (dI i.x.price),V.d (dI i.x.qty),V.d (D.v (.bool i.x.implied)),V.own 7] 290)/\dh (aa 6 (am yV i.x.fills))/\dh (ab [V.d (dI i.c.kind),V.d (dI i.c.id),V.d (dI i.c.inst),V.d (dI i.c.side),V.d (dI i.c.price),V.d (dI i.c.qty),V.d (dI i.c.least),V.d (dI i.c.time),V.d (mE i)] 44)/\dh (ab [V.nm 0 0] 59)/\ab [V.d (D.v (az (sb q.m.p.code))),V.own 3,V.d (dI q.m.p.tick),V.d (dI q.m.p.low),V.d (dI q.m.p.high),V.d (dI q.m.p.wide),V.d (dI q.m.p.rule),V.d (dI q.m.p.top),V.d (dI q.m.p.least),V.d (dI q.m.p.part),V.own 4,V.nm 1 0,V.mp 2] (114:bc)=yW i.m 0/\zD q.m.s=yW i.m 1/\af (zV q.m.used)=yW i.m 2/\aa 1 (iE q.m.p.months)=yW i.m 3/\aa 1 (iE q.m.p.settle)=yW i.m 4) (∃(n:Nat),(↑n:Int)=aj.wrap ((↑d:Int)+1)/\am xQ (i.out n)=am xQ (i.out d)++[[dI 3,dI e,dI f,dI g,dI h,dI j,dI k,dI 0]]/\b n/\c n<c d/\dh (ab [V.d (dI i.x.price),V.d (dI i.x.qty),V.d (D.v (.bool i.x.implied)),V.own 7] 290)/\dh (aa 6 (am yV i.x.fills))/\dh (ab [V.d (dI i.c.kind),V.d (dI i.c.id),V.d (dI i.c.inst),V.d (dI i.c.side),V.d (dI i.c.price),V.d (dI i.c.qty),V.d (dI i.c.least),V.d (dI i.c.time),V.d (mE i)] 44)/\dh (ab [V.nm 0 0] 59)/\ab [V.d (D.v (az (sb l.m.p.code))),V.own 3,V.d (dI l.m.p.tick),V.d (dI l.m.p.low),V.d (dI l.m.p.high),V.d (dI l.m.p.wide),V.d (dI l.m.p.rule),V.d (dI l.m.p.top),V.d (dI l.m.p.least),V.d (dI l.m.p.part),V.own 4,V.nm 1 0,V.mp 2] (114:bc)=yW i.m 0/\zD l.m.s=yW i.m 1/\af (zV l.m.used)=yW i.m 2/\aa 1 (iE l.m.p.months)=yW i.m 3/\aa 1 (iE l.m.p.settle)=yW i.m 4)) (((am xQ (i.out d)).length+1)*(64:Nat)<=(140737488355328:Nat)/\∃(e:MiN),e.inst=i.c.inst/\sb e.m.p.code=sb i.m.p.code/\e.m.p.tick=i.m.p.tick/\e.m.p.low=i.m.p.low/\e.m.p.high=i.m.p.high/\e.m.p.wide=i.m.p.wide/\e.m.p.rule=i.m.p.rule/\e.m.p.top=i.m.p.top/\e.m.p.least=i.m.p.least/\e.m.p.part=i.m.p.part/\zD e.m.s=yW i.m 1/\zV e.m.used=zV i.m.used/\aa 1 (iE e.m.p.months)=yW i.m 3/\aa 1 (iE e.m.p.settle)=yW i.m 4/\(zCz e)/\∀(f:Unit),True->cnd (e.m.p.legs e.inst).snd.snd (∃(g:MpI),g.inst=i.c.inst/\g.x.price=i.x.price/\g.x.qty=i.x.qty/\g.x.implied=i.x.implied/\am yV g.x.fills=am yV i.x.fills/\sb g.m.p.code=sb e.m.p.code/\g.m.p.tick=e.m.p.tick/\g.m.p.low=e.m.p.low/\g.m.p.high=e.m.p.high/\g.m.p.wide=e.m.p.wide/\g.m.p.rule=e.m.p.rule/\g.m.p.top=e.m.p.top/\g.m.p.least=e.m.p.least/\g.m.p.part=e.m.p.part/\zD g.m.s=zD e.m.s/\zV g.m.used=zV e.m.used/\aa 1 (iE g.m.p.months)=aa 1 (iE e.m.p.months)/\aa 1 (iE g.m.p.settle)=aa 1 (iE e.m.p.settle)/\(zCw g)/\∀(h:Unit),True->∃(j:MsI),j.r.kind=3/\j.r.id=i.c.id/\j.r.inst=i.c.inst/\j.r.side=i.c.side/\j.r.price=i.x.price/\j.r.qty=i.x.qty/\j.r.left=i.left/\j.r.why=0/\j.near=(qK g).fst/\j.far=(qK g).snd/\sb j.m.p.code=sb g.m.p.code/\j.m.p.tick=g.m.p.tick/\j.m.p.low=g.m.p.low/\j.m.p.high=g.m.p.high/\j.m.p.wide=g.m.p.wide/\j.m.p.rule=g.m.p.rule/\j.m.p.top=g.m.p.top/\j.m.p.least=g.m.p.least/\j.m.p.part=g.m.p.part/\zD j.m.s=zD g.m.s/\zV j.m.used=zV g.m.used/\aa 1 (iE j.m.p.months)=aa 1 (iE g.m.p.months)/\aa 1 (iE j.m.p.settle)=aa 1 (iE g.m.p.settle)/\(zCx j)/\∀(k:Unit),True->True/\((am xQ (i.out d)++[[dI 3,dI i.c.id,dI i.c.inst,dI i.c.side,dI i.x.price,dI i.x.qty,dI i.left,dI 0]]).length+2)*(64:Nat)<=(140737488355328:Nat)/\∃(l:Unit),sb i.m.p.code=sb j.m.p.code/\i.m.p.tick=j.m.p.tick/\i.m.p.low=j.m.p.low/\i.m.p.high=j.m.p.high/\i.m.p.wide=j.m.p.wide/\i.m.p.rule=j.m.p.rule/\i.m.p.top=j.m.p.top/\i.m.p.least=j.m.p.least/\i.m.p.part=j.m.p.part/\zD i.m.s=zD j.m.s/\zV i.m.used=zV j.m.used/\aa 1 (iE i.m.p.months)=aa 1 (iE j.m.p.months)/\aa 1 (iE i.m.p.settle)=aa 1 (iE j.m.p.settle)/\am xQ (mZ i.m.p i.c i.x i.left)=am xQ (i.out d)++[[dI 3,dI i.c.id,dI i.c.inst,dI i.c.side,dI i.x.price,dI i.x.qty,dI i.left,dI 0]]++[xQ (fX j),xQ (fK j)]/\True) (∃(g:Unit),sb i.m.p.code=sb e.m.p.code/\i.m.p.tick=e.m.p.tick/\i.m.p.low=e.m.p.low/\i.m.p.high=e.m.p.high/\i.m.p.wide=e.m.p.wide/\i.m.p.rule=e.m.p.rule/\i.m.p.top=e.m.p.top/\i.m.p.least=e.m.p.least/\i.m.p.part=e.m.p.part/\zD i.m.s=zD e.m.s/\zV i.m.used=zV e.m.used/\aa 1 (iE i.m.p.months)=aa 1 (iE e.m.p.months)/\aa 1 (iE i.m.p.settle)=aa 1 (iE e.m.p.settle)/\am xQ (mZ i.m.p i.c i.x i.left)=am xQ (i.out d)++[[dI 3,dI i.c.id,dI i.c.inst,dI i.c.side,dI i.x.price,dI i.x.qty,dI i.left,dI 0]]/\True))
def z4b:rejC.ok Tryz.prog 137:=okw (V:=y3n) mixed gok0 0 (λ_=>[]) (λ_=>[]) [] Tryz.func137 λ(i:RjI) _=>⟨(),rfl,trivial⟩
def yHi (i:MsI) (h:mspreadC.cnd i):zXj i:=by
 obtain⟨⟨hc,hp⟩,hs⟩:i.m.fine/\(i.r.side=1\/i.r.side=2):=h;have hw:aj.wrap (3-i.r.side)=3-i.r.side:=w64 (by omega);unfold zXj eI fX fK uB vE jF dI;rw[hw];refine⟨⟨i.m.p,i.r.inst⟩,rfl,rfl,rfl,rfl,rfl,rfl,rfl,rfl,rfl,rfl,rfl,rfl,hp,λ_ _=> ?_⟩;exact kpp
def z2u:mspreadC.ok Tryz.prog 195:=okw mixed (gokc lN gok0) 0 (λ_=>[]) (λ_=>[]) [] Tryz.func195 yHi
def yWf:misC.ok Tryz.prog 193:=okw (V:=y3t) mixed (gokc lN gok0) 0 (λ_=>[]) (λ_=>[]) [] Tryz.func193 λ(i:MiN) h=>by
 obtain⟨hc,hp⟩:i.m.fine:=h;exact⟨⟨i.m.p,i.inst⟩,rfl,rfl,rfl,rfl,rfl,rfl,rfl,rfl,rfl,rfl,rfl,rfl,hp,λ_ _=>kpp⟩
def y2j {l:List cK} {k:Nat} {f:cK} (h:l[k]? =av f):zE (l.map yV) k 0 6=av [D.v (.int .i64 f.id),D.v (.int .i64 f.inst),D.v (.int .i64 f.side),D.v (.int .i64 f.price),D.v (.int .i64 f.qty),D.v (.int .i64 f.left)]:=elA h (by simp[yV]) rfl
def vof (i:OfI) (h:ofC.cnd i):Vof i:=by
 have hl:i.x.fills.length<=1000000:=h;have e4:(i.x.fills.map yV).length=i.x.fills.length:=y5c ..;unfold Vof zTr dI;refine⟨0,rfl,λj=>j<=i.x.fills.length/\(i.x.fills.take j).find? (λf=>decide (f.inst=i.k))=aw,λj=>i.x.fills.length-j,⟨y6i _,rfl⟩,?_⟩;rintro j ⟨j1,j2⟩;refine zI (λc=> ?_) (λc=> ?_)
 ·obtain⟨f,hf⟩:=yC (l:=i.x.fills) (i:=j) (by omega);refine⟨⟨by omega,by omega⟩,_,_,_,_,_,_,y2j hf,Cv.cnd.mk (λg=>⟨(),?_,by(repeat'(first|exact trivial|exact rfl|apply ar))⟩) (λg=>⟨j+1,wjn (by omega),⟨by omega,?_⟩,by dsimp only;omega,by(repeat'(first|exact trivial|exact rfl|apply ar))⟩)⟩
  ·have g:f.inst=i.k:=by simpa using g
   have e:i.x.fills.find? (λf=>decide (f.inst=i.k))=av f:=by
    rw[<- y7g j i.x.fills,List.find?_append,j2,y7j (by omega),(y5f.1 hf).2,List.find?_cons_of_pos (by simpa using g)];rfl
   rw[ofF,e]
  ·have g:¬f.inst=i.k:=by simpa using g
   rw[y6m,hf,List.find?_append,j2];simp[g]
 ·have:j=i.x.fills.length:=by omega
  rw[this,y5n (y5x _)]at j2;exact⟨(),by rw[ofF,j2],by(repeat'(first|exact trivial|exact rfl|apply ar))⟩
def y1y:ofC.ok Tryz.prog 202:=okw mixed gok0 0 (λ_=>[]) (λ_=>ofA) [] Tryz.func202 vof
def yJx (i:MpI) (h:mpricesC.cnd i):zYv i:=by
 obtain⟨⟨hc,hp⟩,hpr,hl⟩:i.m.fine/\i64r i.x.price/\i.x.fills.length<=1000000:=h;unfold zYv qK rP y5 jF;refine Cv.cnd.mk (λe=> ?_) (λe=> ?_)
 ·have e:i.x.implied=ap:=by simpa using e
  have h0:wQ i.m.p i.inst i.x=((f8 i.m.p i.inst i.x.price).1,(f8 i.m.p i.inst i.x.price).2.1):=by rw[wQ,y5d e]
  rw[h0];exact⟨⟨i.m.p,i.inst,i.x.price⟩,rfl,rfl,rfl,rfl,rfl,rfl,rfl,rfl,rfl,rfl,rfl,rfl,rfl,⟨hc,hp,hpr⟩,λ_ _=>kpp⟩
 ·have e:¬i.x.implied=ap:=by simpa using e
  have h0:wQ i.m.p i.inst i.x=(ofF i.x (i.m.p.legs i.inst).1,ofF i.x (i.m.p.legs i.inst).2.1):=by rw[wQ,y5b e]
  rw[h0];exact⟨⟨i.m.p,i.inst⟩,rfl,rfl,rfl,rfl,rfl,rfl,rfl,rfl,rfl,rfl,rfl,rfl,hp,λ_ _=>⟨⟨i.x,(i.m.p.legs i.inst).1⟩,rfl,rfl,rfl,rfl,rfl,hl,λ_ _=>⟨⟨i.x,(i.m.p.legs i.inst).2.1⟩,rfl,rfl,rfl,rfl,rfl,hl,λ_ _=>kpp⟩⟩⟩
def z3i:mpricesC.ok Tryz.prog 194:=okw mixed (gokc lN (gokc z2v (gokc y1y gok0))) 0 (λ_=>[]) (λ_=>[]) [] Tryz.func194 yJx
def zMj (p:Prd) (x:jW) (r:Rep):(m4 p x r).length<=3:=by
 rw[m4,y5g];split
 ·rw[zEg];simp
 ·simp
def z7q {p:Prd} {x:jW} {r:Rep} (h:(p.legs r.inst).2.2=ap):m4 p x r=[r]:=by
 rw[m4,y5b (by rw[h];decide)]
def zZp {p:Prd} {x:jW} {r:Rep} (h:(p.legs r.inst).2.2=aq):m4 p x r=r::zEg p r (wQ p r.inst x).1 (wQ p r.inst x).2:=by
 rw[m4,y5d h]
def StI'.out_len (i:StI'):∀j,(i.out j).length<=3*j
 |0=>y5x _
 |j+1=>by
  have ih:=StI'.out_len i j;rw[StI'.out]at ih ⊢;rw[y6m,y7a,y5a];cases e:i.x.fills[j]? with
  |none=>simp only[Option.toList_none,xAg,y6v];omega
  |some f=>
   have:=zMj i.m.p i.x (zEq f);simp only[y8f,y6w,xAg,y6a];omega
def StI'.out_succ (i:StI') {j:Nat} {f:cK} (h:i.x.fills[j]? =av f):i.out (j+1)=i.out j++m4 i.m.p i.x (zEq f):=by
 rw[StI'.out,StI'.out,y6m,y7a,h];simp
def ySt (i:StI') (h:mstepC.cnd i):yEr i:=by
 obtain⟨hf,hpr,hl,hcs,hfs⟩:i.m.fine/\i64r i.x.price/\i.x.fills.length<=1000000/\(i.c.side=1\/i.c.side=2)/\∀f∈i.x.fills,f.side=1\/f.side=2:=h;have e4:(i.x.fills.map yV).length=i.x.fills.length:=y5c ..;unfold yEr mE zCz zCx zCw fX fK qK dI;refine⟨0,rfl,rfl,λj=>j<=i.x.fills.length,λj=>i.x.fills.length-j,y6i _,?_⟩;intro j hj;have ho:=i.out_len j;have e5:((i.out j).map xQ).length=(i.out j).length:=y5c ..;refine zI (λc=> ?_) (λc=> ?_)
 ·obtain⟨f,hfj⟩:=yC (l:=i.x.fills) (i:=j) (by omega);have hos:=i.out_succ hfj;have hfj2:=hfs f (y5m hfj);refine⟨⟨by omega,by omega⟩,_,_,_,_,_,_,y2j hfj,by omega,⟨i.m,f.inst⟩,rfl,rfl,rfl,rfl,rfl,rfl,rfl,rfl,rfl,rfl,rfl,rfl,rfl,rfl,hf,λ_ _=>Cv.cnd.mk (λe=> ?_) (λe=> ?_)⟩
  ·have e:(i.m.p.legs (zEq f).inst).2.2=aq:=e;rw[zZp e]at hos;refine⟨⟨i.m,f.inst,i.x⟩,rfl,rfl,rfl,rfl,rfl,rfl,rfl,rfl,rfl,rfl,rfl,rfl,rfl,rfl,rfl,rfl,rfl,rfl,⟨hf,hpr,hl⟩,λ_ _=>⟨⟨i.m,zEq f,(wQ i.m.p f.inst i.x).1,(wQ i.m.p f.inst i.x).2⟩,rfl,rfl,rfl,rfl,rfl,rfl,rfl,rfl,rfl,rfl,rfl,rfl,rfl,rfl,rfl,rfl,rfl,rfl,rfl,rfl,rfl,rfl,rfl,⟨hf,hfj2⟩,λ_ _=>⟨trivial,by rw[y5a,e5];simp only[y5g,y6v];omega,j+1,wjn (by omega),?_,by omega,by dsimp only;omega,by(repeat'(first|exact trivial|exact rfl|apply ar))⟩⟩⟩;rw[hos,y5l,y5i];rfl
  ·have e:(i.m.p.legs (zEq f).inst).2.2=ap:=e;rw[z7q e]at hos;refine⟨j+1,wjn (by omega),?_,by omega,by dsimp only;omega,by(repeat'(first|exact trivial|exact rfl|apply ar))⟩;rw[hos,y5l];rfl
 ·have hj:j=i.x.fills.length:=by omega
  have ho2:i.x.fills.flatMap (λf=>m4 i.m.p i.x (zEq f))=i.out j:=by rw[StI'.out,hj,y5n (y5x _)]
  have hR:mZ i.m.p i.c i.x i.left=i.out j++m4 i.m.p i.x ⟨3,i.c.id,i.c.inst,i.c.side,i.x.price,i.x.qty,i.left,0⟩:=by rw[mZ,ho2]
  refine⟨by omega,⟨i.m,i.c.inst⟩,rfl,rfl,rfl,rfl,rfl,rfl,rfl,rfl,rfl,rfl,rfl,rfl,rfl,rfl,hf,λ_ _=>Cv.cnd.mk (λe=> ?_) (λe=> ?_)⟩
  ·have e:(i.m.p.legs (⟨3,i.c.id,i.c.inst,i.c.side,i.x.price,i.x.qty,i.left,0⟩:Rep).inst).2.2=aq:=e;rw[zZp e]at hR;refine⟨⟨i.m,i.c.inst,i.x⟩,rfl,rfl,rfl,rfl,rfl,rfl,rfl,rfl,rfl,rfl,rfl,rfl,rfl,rfl,rfl,rfl,rfl,rfl,⟨hf,hpr,hl⟩,λ_ _=>⟨⟨i.m,⟨3,i.c.id,i.c.inst,i.c.side,i.x.price,i.x.qty,i.left,0⟩,(wQ i.m.p i.c.inst i.x).1,(wQ i.m.p i.c.inst i.x).2⟩,rfl,rfl,rfl,rfl,rfl,rfl,rfl,rfl,rfl,rfl,rfl,rfl,rfl,rfl,rfl,rfl,rfl,rfl,rfl,rfl,rfl,rfl,rfl,⟨hf,hcs⟩,λ_ _=>⟨trivial,by rw[y5a,e5];simp only[y5g,y6v];omega,?_⟩⟩⟩;rw[hR,y5l,y5i];exact kpp
  ·have e:(i.m.p.legs (⟨3,i.c.id,i.c.inst,i.c.side,i.x.price,i.x.qty,i.left,0⟩:Rep).inst).2.2=ap:=e;rw[z7q e]at hR;rw[hR,y5l];exact kpp
def yDc:mstepC.ok Tryz.prog 185:=okw mixed (gokc yWf (gokc z3i (gokc z2u gok0))) 1 (λ_=>[]) (λi=>yWy i) [] Tryz.func185 ySt
structure EnI where
 m:Mkt
 p:Prd
 B:List (List zH)
 U:List Int
 c:Cmd
 X:MkX
@[reducible] def EnI.std (i:EnI):Prop:=i.m.Rep i.p i.B i.U/\BOk i.p i.B
@[reducible] def EnI.good (i:EnI):Prop:=(0<=i.c.inst/\i.c.inst<i.B.length)/\(1<=i.c.qty/\i.c.qty<=1000000)/\(i.c.side=1\/i.c.side=2)
@[reducible] def zXg (X:MkX) (p:Prd):Alt:={o:=Mkt,res:=λ_=> .own 5,post:=λo=>zBj o++[z5b X.R],rel:=λo=>o.Rep p X.B X.U}
def enterC:Con where
 ι:=EnI
 pat:=λi=>[.nm 0 0,zGd i.c]
 pre:=λi=>zBj i.m
 cnd:=λi=>i.std/\i.good/\i.p.price i.c.inst i.c.price=0/\i.X=cV i.p i.B i.U i.c
 alts:=λi=>[zXg i.X i.p]
structure EnJ where
 left:Int
 k:Nat
 out:List Rep
def yXk (i:EnI):List SAnn:=[{ι:=EnJ,slots:=λj=>[(5,.own 0),(8,zA j.left),(51,zA j.k)],rows:=λj=>[z5b j.out]}]
def orderC:Con where
 ι:=EnI
 pat:=λi=>[.nm 0 0,zGd i.c]
 pre:=λi=>zBj i.m
 cnd:=λi=>i.std/\i.c.right=0/\i.c.kind=1/\i.X=nB i.p i.B i.U i.c
 alts:=λi=>[zXg i.X i.p]
def yWp:List (Nat×SAnn):=[(22,ij 6),(44,bj 47),(52,bj 69)]
structure CaI where
 m:Mkt
 p:Prd
 B:List (List zH)
 U:List Int
 id:Int
 q:Int
 inst:Int
 o:zH
 X:MkX
@[reducible] def CaI.std (i:CaI):Prop:=i.m.Rep i.p i.B i.U/\BOk i.p i.B
def cancelC:Con where
 ι:=CaI
 pat:=λi=>[.nm 0 0,zA i.id,zA i.inst,z2n i.o]
 pre:=λi=>zBj i.m
 cnd:=λi=>i.std/\i.X=uN i.B i.U i.id i.inst i.o
 alts:=λi=>[zXg i.X i.p]
def reduceC:Con where
 ι:=CaI
 pat:=λi=>[.nm 0 0,zA i.id,zA i.q,zA i.inst,z2n i.o]
 pre:=λi=>zBj i.m
 cnd:=λi=>i.std/\i64r (i.o.qty-i.q)/\i.X=bI i.B i.U i.id i.q i.inst i.o
 alts:=λi=>[zXg i.X i.p]
structure yAy where
 m:Mkt
 p:Prd
 B:List (List zH)
 U:List Int
 c:Cmd
 inst:Int
 o:zH
 X:MkX
def replaceC:Con where
 ι:=yAy
 pat:=λi=>[.nm 0 0,zGd i.c,zA i.inst,z2n i.o]
 pre:=λi=>zBj i.m
 cnd:=λi=>i.m.Rep i.p i.B i.U/\BOk i.p i.B/\zQ i.B i.c.id=(i.inst,i.o,aq)/\(1<=i.c.qty/\i.c.qty<=1000000)/\i.X=fZ i.p i.B i.U i.c i.inst i.o
 alts:=λi=>[zXg i.X i.p]
def doC:Con where
 ι:=EnI
 pat:=λi=>[.nm 0 0,zGd i.c]
 pre:=λi=>[jA i.m]
 cnd:=λi=>i.std/\i.c.label.length<=140737488355328/\i64r i.c.qty/\i.X=doF i.p i.B i.U i.c
 alts:=λi=>[{o:=Mkt,res:=λ_=> .own 1,post:=λo=>[jA o,z5b i.X.R],rel:=λo=>o.Rep i.p i.X.B i.X.U}]
structure MfI where
 m:Mkt
 p:Prd
 B:List (List zH)
 U:List Int
 id:Int
def mfindC:Con:=con1 MfI (λi=>[.nm 0 0,zA i.id]) (λi=>[jA i.m]) (λi=>i.m.Rep i.p i.B i.U/\BOk i.p i.B) (λi=> .tup [zA (zQ i.B i.id).1,z2n (zQ i.B i.id).2.1,yP (zQ i.B i.id).2.2]) (λi=>[jA i.m])
end Sx
