/- Texts of ours. No condition. -/
import Derived.Shelf.Spec.SlicesGrow
import Derived.Test.YtaafldgiafcgfaaGreatD9
set_option linter.all false
open Sx.AObj renaming fro->aa,cells->ab,adt->ac,objs->ae,map->af,own->ag
open Go.IntKind renaming i64->aj,u8->ak,u64->am
open List renaming map->ao
open Bool renaming false->ap,true->aq
open Go.Builtin renaming zeroCells->ar
open Go.Value renaming string->au
open Option renaming some->av,none->aw
open ByteArray renaming mk->ax
open BitVec renaming ofInt->ay
open Go renaming grownCap->az,TypeId->ba,size_zeroCells->bc
open Go.Utf8 renaming decode->be
namespace Sx
set_option maxRecDepth 100000
open Go Cv Go.Proofs
def growR:Go.Shelf.Ren:=⟨λx=>if x=4 then 100 else x,λx=>if x=22 then 32 else if x=25 then 5 else x,λx=>x⟩
def yYp:Lays8.n4 Tryz.prog growR where
 mixed:=mixed
 f4:=⟨Tryz.f100.name,by decide+kernel,by kernel_rfl⟩
 t0:=by kernel_rfl
 a0:=λ_=>by kernel_rfl
 z0:=λ_=>by kernel_rfl
 v0:=λ_=>by kernel_rfl
 t3:=by kernel_rfl
 a3:=λ_=>by kernel_rfl
 z3:=λ_=>by kernel_rfl
 v3:=λ_=>by kernel_rfl
 t4:=by kernel_rfl
 a4:=λ_=>by kernel_rfl
 z4:=λ_=>by kernel_rfl
 v4:=λ_=>by kernel_rfl
 t9:=by kernel_rfl
 a9:=λ_=>by kernel_rfl
 z9:=λ_=>by kernel_rfl
 v9:=λ_=>by kernel_rfl
 t20:=by kernel_rfl
 a20:=λ_=>by kernel_rfl
 z20:=λ_=>by kernel_rfl
 v20:=λ_=>by kernel_rfl
 t22:=by kernel_rfl
 a22:=λ_=>by kernel_rfl
 z22:=λ_=>by kernel_rfl
 v22:=λ_=>by kernel_rfl
def yXy:wS Tryz.prog 32=av (5,1,1,#[.int .u8 0]):=by kernel_rfl
def yLy:growC.ok Tryz.prog 100:=by
 intro(n:Nat) hc k L E w ys R hv;obtain⟨c1,c2⟩:1<=n/\n<=1099511627776:=hc;simp only[growC,zR,VRL,VR,DR]at hv;obtain⟨_,_,rfl,⟨rfl,_⟩,_,_,rfl,⟨rfl,_⟩,rfl⟩:=hv;obtain⟨inf,zv,q1,q2,q3,q4,q5,q6⟩:=qO yXy;have hcall:=Any8.slices_Grow_grow yYp inf zv q2 q5 oM aw 0 0 n [] w (y1u _) oM (by rw[q4];omega) oM (by simp) (λ_=>rfl) (λa h=>by cases h);rw[show growR.t 25=5 from rfl]at hcall;refine bL (by kernel_rfl) (hcall.mono ?_);rintro en w' ⟨rfl,rfl⟩;have hG:=grownCap_ge w (0+n) 0 5;have H:=((R.hp.drew).new (.cells (([]:List Value).toArray++ar zv.cells (0+n-0)++ar zv.cells (az w (0+n) 0 5-(0+n))) 5))
 have ha:(([]:List Value).toArray++ar zv.cells (0+n-0)++ar zv.cells (az w (0+n) 0 5-(0+n)))=([]++((ar zv.cells (0+n-0)).toList++(ar zv.cells (az w (0+n) 0 5-(0+n))).toList)).toArray:=by
  apply Array.ext';simp
 have hz:zv.cells.size=1:=by rw[q6];rfl
 have hl:([]++((ar zv.cells (0+n-0)).toList++(ar zv.cells (az w (0+n) 0 5-(0+n))).toList)).length=az w (0+n) 0 5*1:=by
  rw[y3k,y0x,y4t,y4t,bc,bc,hz];omega
 rw[ha]at H ⊢;have H3:=H.slmk (n:=0) (sz:=1) (by simp) hl (y2a _);obtain⟨E',r1,r2,r3⟩:=dH (rows:=[]) (els:=[]) (nx:=0) R.nx (by simp[DRL]) (λx hx=>by cases hx) H3;exact⟨_,rfl,_,y2l.2 rfl,(),trivial,E',r1,r3,⟨r2.nx,r2.hp⟩⟩
def zYw {ls:List (List UInt8)} {k:Nat} {l:List UInt8} (h:ls[k]? =av l):zE (ls.map rcE) k 0 1=av [D.ro 1 (bE l)]:=elA h (by simp[rcE]) rfl
def pK {α:Type} {ls:List (List α)} {k:Nat} {l:List α} (h:ls[k]? =av l):(ls.take (k+1)).flatten=(ls.take k).flatten++l:=by
 rw[y2e,h,y3z,y5t];simp
def z4x {α:Type} (ls:List (List α)) (k:Nat):(ls.take k).flatten.length<=ls.flatten.length:=by
 conv=>rhs;rw[<- y3s k ls,y5t,y0x]
 omega
def yYm (ls:List (List UInt8)) (h:flatC.cnd ls):z3c ls:=by
 obtain⟨h1,h2,h3⟩:1<=ls.flatten.length/\ls.flatten.length<=1099511627776/\ls.length<=1000:=h;unfold z3c cQ qW;rw[y0z];refine⟨0,rfl,rfl,λk=>k<=ls.length,λk=>ls.length-k,y2a _,λk hk=>zH (λhlt=> ?_) (λhlt=> ?_)⟩
 ·obtain⟨l,hl⟩:=yE (l:=ls) (i:=k) oM;have hk:k<=ls.length:=hk;have e1:=z4x ls (k+1);rw[pK hl,y0x]at e1;refine⟨⟨oM,oM⟩,bE l,zYw hl,zH (λc=> ?_) (λ_=>⟨k+1,?_,wjn oM,Z9,Z9,trivial⟩)⟩
  ·rw[yL,w64 (by omega)]at c;omega
  ·rw[pK hl,y0x,yL,w64 (by omega)];simp
 ·obtain rfl:k=ls.length:=by have hk:k<=ls.length:=hk;omega
  rw[y3w];refine⟨ls.flatten.length,trivial,rfl,⟨h1,h2⟩,λ_ _=>⟨0,rfl,rfl,λk=>k<=ls.length,λk=>ls.length-k,y2a _,λk hk=>zH (λhlt=> ?_) (λhlt=> ?_)⟩⟩
  ·obtain⟨l,hl⟩:=yE (l:=ls) (i:=k) oM;have hk:k<=ls.length:=hk;have e1:=z4x ls (k+1);rw[pK hl,y0x]at e1;refine⟨⟨oM,oM⟩,bE l,zYw hl,by rw[yL,yL];omega,k+1,wjn oM,by rw[pK hl,zGu],Z9,Z9,trivial⟩
  ·obtain rfl:k=ls.length:=by have hk:k<=ls.length:=hk;omega
   rw[y3w];exact⟨(),rfl,trivial⟩
def zSu:flatC.ok Tryz.prog 43:=yPf (gokc yLy gok0) yYm
def dnew_ok:dnewC.ok Tryz.prog 32:=okw (V:=yUm) mixed gok0 0 (λ_=>[]) (λ_=>[]) [] Tryz.func32 λ(_:Unit) _=>⟨(),rfl,rfl,trivial⟩
def dapp_ok:dappC.ok Tryz.prog 33:=okw (V:=yNu) mixed gok0 0 (λ_=>[]) (λ_=>[]) [0] Tryz.func33 λ(i:DbI) h=>by
 have h:i.d.b.length+i.l.length<=1048576:=h;unfold yNu eW;rw[yL,yL];refine zH (λc=> ?_) (λ_=>⟨oM,(),rfl,rfl,zGu _ _,trivial⟩);rw[w64 (by omega)]at c;omega
def yId:dsynC.ok Tryz.prog 104:=okw (V:=yVg) mixed gok0 0 (λ_=>[]) (λ_=>[]) [0] Tryz.func104 λ(d:Dk) h=>⟨(),by rw[yL],rfl,trivial⟩
def z4y:dbytC.ok Tryz.prog 106:=okw (V:=yUd) mixed (gokc zMq gok0) 0 (λ_=>[]) (λ_=>[]) [0] Tryz.func106 λ(d:Dk) h=>by
 obtain⟨h1,h2⟩:d.ok:=h;exact⟨_,rfl,by rw[yL];omega,λ_ _=>⟨(),rF3 trivial⟩⟩
def zYs:cloneBN.ok Tryz.prog 116:=z9g gok0 λi h=>λb hb=>
 Cv.cnd.mk (λe=>⟨(),hb e,trivial⟩) (λ_=>⟨by rw[y1x,Nat.mul_one];exact h,(),rfl,trivial⟩)
def yHq:dswpC.ok Tryz.prog 108:=okw (V:=yMb) mixed (gokc zYs gok0) 0 (λ_=>[]) (λ_=>[]) [0] Tryz.func108 λ(i:DbI) h=>by
 have h:i.l.length<=1048576:=h;unfold yMb;refine zH (λc=> ?_) (λ_=>⟨_,rfl,by rw[yL];omega,λ_ _=>⟨(),rfl,by rw[yL],rfl,trivial⟩⟩);rw[yL]at c;omega
def yIa:dcraC.ok Tryz.prog 17:=okw (V:=yMx) mixed gok0 0 (λ_=>[]) (λ_=>[]) [0] Tryz.func17 λ(i:DnI) h=>by
 obtain⟨h1,h2⟩:i.d.ok:=h;have e0:(if(0:Int)>i.n then(0:Int)else i.n)=max i.n 0:=by rw[Int.max_def];split<;>split<;>omega
 have e1:aj.wrap (((bE i.d.b).length:Int)-i.d.safe)=(i.d.b.length:Int)-i.d.safe:=by rw[yL,w64 (by omega)]
 have hk:(i.d.keep i.n:Int)=i.d.safe+min (max i.n 0) ((i.d.b.length:Int)-i.d.safe):=by rw[Dk.keep];omega
 have e2:aj.wrap ((i.d.safe:Int)+min (max i.n 0) ((i.d.b.length:Int)-i.d.safe))=i.d.keep i.n:=by rw[w64 (by omega),hk]
 unfold yMx mW;rw[e0,e1,e2,y1o,yL,y1q,yL,<- tW];exact⟨⟨oM,oM⟩,(),oM,rfl,trivial⟩
def yUw:∀n:Fin 256,lob (aj.wrap (ay aj.bits (if aj.signed=aq then(-1:Int)else aj.max) ^^^ ay aj.bits (n.val:Int)).toNat)=UInt8.ofNat (255-n.val):=by decide+kernel
def yZz:∀n:Fin 256,ak.wrap (ay ak.bits (if ak.signed=aq then(-1:Int)else ak.max) ^^^ ay ak.bits (n.val:Int)).toNat=255-(n.val:Int):=by decide+kernel
def wT (l:List UInt8):(yW l).length=l.length+6:=by
 simp only[yW,y1d,y0x,kD]
def yPv (l:List UInt8) (h:frameC.cnd l):yDm l:=by
 have h:l.length<=255:=h;have hn:=yUw ⟨l.length,oM⟩;dsimp only at hn;unfold yDm;rw[yL];revert hn;generalize aj.wrap (ay aj.bits (if aj.signed=aq then(-1:Int)else aj.max) ^^^ ay aj.bits (l.length:Int)).toNat=X;intro hn;refine zH (λc=>by omega) (λ_=>⟨(),trivial,λ_ _=>⟨⟨[],l.length⟩,rfl,rfl,by simp[WN.ok],λ_ _=>⟨⟨_,_⟩,rfl,rfl,by simp[WN.ok],λ_ _=>⟨?_,l,rfl,oM,λ_ _=>⟨⟨_,bP l⟩,rfl,zGu _ _,⟨?_,tH l⟩,λ_ _=>⟨_,rfl,?_,λ_ _=>⟨(),rfl,?_,trivial⟩⟩⟩⟩⟩⟩⟩)
 ·rw[yL];simp;omega
 ·dsimp only;simp;omega
 ·dsimp only;simp[kD];omega
 ·dsimp only;rw[hn,yW];simp
def zVp:frameC.ok Tryz.prog 99:=okw mixed (gokc z3h (gokc z6a (gokc z0k (gokc yGp (gokc z4d gok0))))) 0 (λ_=>yRk) (λ_=>[]) [] Tryz.func99 yPv
def z9s {c:Int} (h:0<=c/\c<4294967296):qE (le c 4)=c:=by
 simp only[le,qE,yYb];omega
def zRf {l:List UInt8} (h:l.length<=255) (r:List UInt8):fF (yW l++r)=(l,6+l.length,0):=by
 have h0:((yW l++r).getD 0 0).toNat=l.length:=by
  have:=yUc (n:=(l.length:Int)) oM;show(lob (l.length:Int)).toNat=l.length;omega
 have h1:((yW l++r).getD 1 0).toNat=255-l.length:=by
  show(UInt8.ofNat (255-l.length)).toNat=_;exact UInt8.toNat_ofNat_of_lt' (by
                                     have:255-l.length<256:=by omega
                                     simpa using this)
 have h2:(yW l++r).drop 2=l++(le (bP l) 4++r):=by
  show(l++le (bP l) 4)++r=_;rw[y1e]
 have h3:(yW l++r).drop (2+l.length)=le (bP l) 4++r:=by
  rw[<- y5a,h2,List.drop_left]
 unfold fF;rw[h0,h1,h2,h3,y6u,List.take_left' (kD 4 _),z9s (tH l)];rw[y0y (by rw[y0x,wT];omega),y0y (by omega),y0y (by rw[y0x,wT];omega),y0y (by simp)]
def yZg (i:OpI) (h:wopC.cnd i):yWc i:=by
 obtain⟨h1,h2⟩:i.k<=i.b.length/\i.b.length<=1099511627776:=h;have ex:i.x=fF (i.b.drop i.k):=rfl;have hll:(i.b.drop i.k).length<=1099511627776:=by rw[y1w];omega
 have bad:∀e:Int,e≠0->i.x.2.2=e->∀{A:Prop},A\/∃o:Unit,True/\(0:Int)=0/\i.x.2.2=e/\(i.x.2.2=0->False):=λe he hx=> .inr ⟨(),trivial,rfl,hx,λh=>he (hx▸h)⟩
 unfold yWc sZ zCb zJt gG dR bS zKd;rw[y1o,<- zCf,yL i.b];generalize i.b.drop i.k=l at*;rw[yL l];refine zH (λc=>by omega) (λ_=>⟨⟨oM,oM⟩,zH (λc=>bad 10 Z8 (by rw[ex,fF,y1a (by omega)])) (λc=> ?_)⟩);obtain⟨a,ha⟩:∃a,l[0]? =av a:=⟨_,y2h oM⟩
 obtain⟨b,hb⟩:∃b,l[1]? =av b:=⟨_,y2h oM⟩
 have ea:l.getD 0 0=a:=by rw[y1h,ha];rfl
 have eb:l.getD 1 0=b:=by rw[y1h,hb];rfl
 have la:=a.toNat_lt;have hn:=yZz ⟨a.toNat,la⟩;dsimp only at hn;refine⟨⟨oM,oM⟩,b.toNat,fH hb,⟨oM,oM⟩,a.toNat,fH ha,?_⟩;rw[hn];have wa:aj.wrap (a.toNat:Int)=a.toNat:=w64 oM;have w2:aj.wrap ((2:Int)+a.toNat)=2+a.toNat:=w64 oM;have w3:aj.wrap ((2:Int)+a.toNat+4)=2+a.toNat+4:=w64 oM;have w4:aj.wrap ((i.k:Int)+(2+a.toNat))=i.k+(2+a.toNat):=w64 oM;have w5:aj.wrap ((i.k:Int)+(2+a.toNat)+4)=i.k+(2+a.toNat)+4:=w64 oM;have t1:((2:Int)+a.toNat).toNat=2+a.toNat:=by omega
 have t2:((2:Int)+a.toNat+4).toNat=2+a.toNat+4:=by omega
 refine Cv.cnd.mk (λc2=>bad 14 Z8 ?_) (λc2=>⟨⟨oM,oM⟩,a.toNat,fH ha,?_⟩)
 ·have c2:¬((b.toNat:Int)=255-a.toNat):=by simpa using c2
  rw[ex,fF,y0y (by omega),ea,eb,y1a (by omega)]
 have c2:(b.toNat:Int)=255-a.toNat:=by simpa using c2
 rw[wa,w2,w3,w4,w5,t1,t2,show Int.toNat 2=2 from rfl];refine zH (λc3=>bad 10 Z8 ?_) (λc3=> ?_)
 ·rw[ex,fF,y0y (by omega),ea,eb,y0y (by omega),y1a (by omega)]
 have l1:((l.take (2+a.toNat+4)).drop (2+a.toNat)).length=4:=by rw[y1w,y1q];omega
 have g1:(l.take (2+a.toNat+4)).drop (2+a.toNat)=(l.drop (2+a.toNat)).take 4:=by rw[List.drop_take];congr 1;omega
 have g2:(l.take (2+a.toNat)).drop 2=(l.drop 2).take a.toNat:=by rw[List.drop_take];congr 1;omega
 have g3:RN.got ⟨(l.take (2+a.toNat+4)).drop (2+a.toNat),ap,4⟩=(l.drop (2+a.toNat)).take 4:=by
  rw[RN.got,y0y (by simp only[RN.bad,l1];decide)];dsimp only;rw[y1k (by omega),g1]
 have l2:((l.drop 2).take a.toNat).length=a.toNat:=by rw[y1q,y1w];omega
 refine⟨⟨oM,oM,oM⟩,(l.take (2+a.toNat+4)).drop (2+a.toNat),by rw[zCf,tW],oM,λ_ _=>⟨⟨oM,oM,oM⟩,⟨_,ap,4⟩,rfl,rfl,⟨Z9,Z9⟩,λ_ _=>⟨(l.take (2+a.toNat)).drop 2,by rw[zCf,tW],by rw[g2];omega,λ_ _=> ?_⟩⟩⟩;rw[g2,g3];have hr:=bT ((l.drop (2+a.toNat)).take 4);have hl4:((l.drop (2+a.toNat)).take 4).length=4:=by rw[<- g1];exact l1
 rw[hl4]at hr;rw[yWm (by omega)];refine Cv.cnd.mk (λc4=>bad 14 Z8 ?_) (λc4=> ?_)
 ·rw[ex,fF,y0y (by omega),ea,eb,y0y (by omega),y0y (by omega),y1a (by simpa using c4)]
 have ex2:i.x=((l.drop 2).take a.toNat,6+a.toNat,0):=by
  rw[ex,fF,y0y (by omega),ea,eb,y0y (by omega),y0y (by omega),y0y (by simpa using c4)]
 rw[ex2,<- tW,<- zCf,g2,yL,l2];exact⟨⟨oM,oM,oM⟩,oM,.inl ⟨(),Z9,rfl,rfl,rfl⟩⟩
def yDj:wopC.ok Tryz.prog 145:=okw mixed (gokc z3p (gokc z1c (gokc z0k gok0))) 0 (λ_=>[]) (λ_=>[]) [] Tryz.func145 yZg
def yLw (A B:List (List UInt8)):fsB (A++B)=fsB A++fsB B:=by rw[fsB,y2u];rfl
def zLj (l:List UInt8) (L:List (List UInt8)):fsB (l::L)=yW l++fsB L:=rfl
def yBz {L:List (List UInt8)} {k:Nat} {l:List UInt8} (h:L[k]? =av l):fsB (L.take (k+1))=fsB (L.take k)++yW l:=m4 h
def zPy (L:List (List UInt8)) (k:Nat):fsB L=fsB (L.take k)++fsB (L.drop k):=by rw[<- yLw,y3s]
def z5k (L:List (List UInt8)):L.length<=(fsB L).length:=by
 induction L with
 |nil=>exact y1u _
 |cons l L ih=>rw[zLj,y0x,wT,y1d];omega
def yYj (i:ScI) (h:scanC.cnd i):yMc i:=by
 obtain⟨h1,h2,h3⟩:i.ok:=h;have hn:=z5k i.L;have hsp:∀k,(fsB i.L).length=(fsB (i.L.take k)).length+(fsB (i.L.drop k)).length:=λk=>by
  have:=congrArg List.length (zPy i.L k);rwa [y0x]at this
 unfold yMc zFj hU;rw[yL,y0x];refine⟨0,rfl,rfl,λk=>k<=i.L.length,λk=>i.L.length-k,y2a _,λk hk=>zH (λhlt=> ?_) (λhlt=> ?_)⟩
 ·have hk:k<=i.L.length:=hk;have hs:=hsp k;have hx:(OpI.mk (fsB i.L++i.t) (fsB (i.L.take k)).length).x=fF (fsB (i.L.drop k)++i.t):=by
   show fF ((fsB i.L++i.t).drop _)=_;rw[zPy i.L k,y1e,List.drop_left]
  refine⟨⟨fsB i.L++i.t,(fsB (i.L.take k)).length⟩,rfl,rfl,⟨by dsimp only;rw[y0x];omega,by dsimp only;rw[y0x];omega⟩,λ_ e0=> ?_,λ_ e1=> ?_⟩
  ·rw[hx]at e0 ⊢;rcases y3q k i.L.length with hk2|hk2
   ·obtain⟨l,hl⟩:=yE hk2;have hd:i.L.drop k=l::i.L.drop (k+1):=by
     rw[y3f hk2];congr 1;rw[y2h hk2]at hl;exact Option.some.inj hl
    have hl255:=h1 l (y1j hl);rw[hd,zLj,y1e,zRf hl255];refine⟨by rw[y0z,y1q];omega,k+1,?_,?_,Z9,Z9,trivial⟩
    ·rw[yBz hl,y0x,wT];dsimp only;omega
    ·rw[y2e,hl];simp[rcE]
   ·rw[y4j hk2]at e0;rw[show fsB ([]:List (List UInt8))++i.t=i.t from rfl,h2]at e0;cases e0
  ·rw[hx]at e1 ⊢;rcases y3q k i.L.length with hk2|hk2
   ·obtain⟨l,hl⟩:=yE hk2;have hd:i.L.drop k=l::i.L.drop (k+1):=by
     rw[y3f hk2];congr 1;rw[y2h hk2]at hl;exact Option.some.inj hl
    have hl255:=h1 l (y1j hl);rw[hd,zLj,y1e,zRf hl255]at e1;exact absurd rfl e1
   ·obtain rfl:k=i.L.length:=by omega
    rw[List.drop_length,show fsB ([]:List (List UInt8))++i.t=i.t from rfl,h2,y3w];exact Cv.cnd.mk (λe=>by cases e) (λ_=>Cv.cnd.mk (λ_=>⟨(),rF3 trivial⟩) (λe=>by cases e))
 ·have hk:k<=i.L.length:=hk;have hs:=hsp k;have h5:=z5k (i.L.drop k);rw[y1w]at h5;obtain rfl:k=i.L.length:=by omega
  rw[y3w];exact⟨(),rF3 trivial⟩
def yHx:scanC.ok Tryz.prog 107:=okw mixed (gokc yDj gok0) 0 (λ_=>[]) (λi=>yWu i) [] Tryz.func107 yYj
def yDh:jopC.ok Tryz.prog 48:=okw (V:=yUo) mixed (gokc z4y (gokc yHx (gokc yHq gok0))) 0 (λ_=>[]) (λ_=>[]) [] Tryz.func48 λ(i:JoI) h=>by
 obtain⟨hs,hd⟩:(ScI.mk i.L i.t).ok/\i.d.ok:=h;have e0:(bE i.d.b).length=(fsB i.L).length+i.t.length:=by rw[yL,JoI.d,y0x]
 have h3:=hs.2.2;dsimp only at h3;unfold yUo;refine⟨i.d,rfl,hd,λ_ _=>⟨⟨i.L,i.t⟩,rfl,hs,λ_ _=>zH (λc=> ?_) (λc=> ?_)⟩⟩
 ·have ht:i.t≠[]:=λe=>by rw[e0,e]at c;simp at c
  refine⟨⟨oM,by rw[e0];dsimp only;omega⟩,⟨i.d,fsB i.L⟩,?_,rfl,Z9,λ_ _=>⟨(),rfl,?_,by rw[y0z],rfl,trivial⟩⟩
  ·dsimp only;rw[y1o,<- tW,JoI.d,y6u]
  ·rw[JoI.d',y0y ht]
 ·have ht:i.t=[]:=List.length_eq_zero_iff.1 (by rw[e0]at c;dsimp only at c;omega);refine⟨(),rfl,?_,by rw[y0z],rfl,trivial⟩;rw[JoI.d',y1a ht]
def yHm:jappC.ok Tryz.prog 42:=okw (V:=yVw) mixed (gokc zVp (gokc dapp_ok gok0)) 0 (λ_=>[]) (λ_=>[]) [] Tryz.func42 λ(i:JaI) h=>by
 obtain⟨h1,h2,h3,h4⟩:i.l.length<=255/\i.d.b.length+i.l.length+6<=1048576/\0<=i.n/\i.n<=1048576:=h;exact⟨i.l,rfl,h1,λ_ _=>⟨⟨i.d,yW i.l⟩,rfl,rfl,by dsimp only;rw[wT];omega,λ_ _=>⟨(),rfl,by rw[w64 (by omega)],rfl,trivial⟩⟩⟩
def yLv:jsynC.ok Tryz.prog 46:=okw (V:=yVc) mixed (gokc yId gok0) 0 (λ_=>[]) (λ_=>[]) [] Tryz.func46 λ(i:JaI) h=>⟨i.d,rfl,h,λ_ _=>⟨(),rfl,rfl,trivial⟩⟩
open Classical
def tD (i:RN):i.left.length<=i.l.length:=by
 unfold RN.left;split
 ·omega
 ·rw[y1w];omega
def aV {r:RB} (h:r.ok):r.byte.2.ok:=y3u (tD _) h
def uJ {r:RB} (h:r.ok):r.long.2.ok:=y3u (tD _) h
def mJ (l:List UInt8):bE l=qF ⟨l.toArray⟩:=rfl
def fbyteC:Con:=zR WN (λi=>[roV 1 (bE i.l),zA i.n]) (λ_=>[]) WN.ok (λ_=> .own 0) (λi=>[.own tU8 1 (bE (i.l++[lob i.n]))])
def flongC:Con:=zR WN (λi=>[roV 1 (bE i.l),zA i.n]) (λ_=>[]) WN.ok (λ_=> .own 0) (λi=>[.own tU8 1 (bE (i.l++le i.n 8))])
def yPs (i:WN):List SAnn:=[{ι:=Nat,slots:=λj=>[(5,.own 0),(6,sC ((8*j:Nat):Int))],rows:=λj=>[.own tU8 1 (bE (i.l++le i.n j))]}]
def yOg (i:WN):Prop:=
 (0+(bE i.l).length)*(1:Nat)<=(140737488355328:Nat)/\(([]++bE i.l).length+1)*(1:Nat)<=(140737488355328:Nat)/\∃(o:Unit),bE (i.l++[lob i.n])=[]++bE i.l++[[D.v (.int .u8 (ak.wrap i.n))]]/\True
def yOz (i:WN):Prop:=
 (0+(bE i.l).length)*(1:Nat)<=(140737488355328:Nat)/\∃(i0:Nat),(↑(8*i0):Int)=0/\bE (i.l++le i.n i0)=[]++bE i.l/\∃(I:Nat->Prop),∃(μ:Nat->Nat),I i0/\∀(i_1:Nat),I i_1->cnd (decide ((↑(8*i_1):Int)<64)) (0<=(↑(8*i_1):Int)/\((bE (i.l++le i.n i_1)).length+1)*(1:Nat)<=(140737488355328:Nat)/\∃(i':Nat),(↑(8*i'):Int)=am.wrap ((↑(8*i_1):Int)+8)/\bE (i.l++le i.n i')=bE (i.l++le i.n i_1)++[[D.v (.int .u8 (ak.wrap (cE am (am.wrap i.n) (↑(8*i_1):Int))))]]/\I i'/\μ i'<μ i_1/\True) (∃(o:Unit),bE (i.l++le i.n 8)=bE (i.l++le i.n i_1)/\True)
def zRi:∀(k m:Nat) (n:Int),k<=m->(le n m).take k=le n k
 |0,m,n,h=>by simp[le]
 |k+1,m+1,n,h=>by simp only[le,y2j];rw[zRi k m _ (by omega)]
def z5i {k:Nat} (h:k<=8) (n:Int):le (am.wrap n) k=le n k:=by
 rw[<- zRi k 8 _ h,zPs,zRi k 8 _ h]
def zXu:fbyteC.ok Tryz.prog 85:=okw (V:=yOg) mixed gok0 0 (λ_=>[]) (λ_=>[]) [] Tryz.func85 λ(i:WN) h=>by
 have h:i.l.length+8<=1099511627776:=h;refine⟨by rw[yL];omega,by rw[y3k,yL];omega,(),?_,trivial⟩;rw[zGu,nZ];rfl
def yBo:flongC.ok Tryz.prog 84:=okw (V:=yOz) mixed gok0 0 (λ_=>[]) (λi=>yPs i) [] Tryz.func84 λ(i:WN) h=>by
 have h:i.l.length+8<=1099511627776:=h;refine⟨by rw[yL];omega,0,rfl,by simp[le],λj=>j<=8,λj=>8-j,Z8,λj hj=>zH (λhlt=> ?_) (λhlt=> ?_)⟩
 ·dsimp only at hj;have hu:=fK i.n;refine⟨oM,?_,j+1,?_,?_,by(first|omega|(dsimp only;omega)),by(first|omega|(dsimp only;omega)),trivial⟩
  ·rw[yL,y0x,kD];omega
  ·rw[lX (by omega)];omega
  ·rw[nZ,lG .u64 _ (8*j) (by show 8*j<=64;omega),show(2:Int) ^ (8*j)=256 ^ j by rw[show(256:Int)=2 ^ 8 from rfl,<- Int.pow_mul],<- z5i (k:=j+1) (by omega) i.n,z3q,z5i (by omega),<- y1e,zGu];rfl
 ·dsimp only at hj;obtain rfl:j=8:=by omega
  exact⟨(),rfl,trivial⟩
def yUk (s:List UInt8):Prop:=
 ∃(a:Nat×Nat),(↑a.snd:Int)=0/\sb s=sb s/\a.fst=0/\∃(b:Nat×Nat->Prop),∃(c:Nat×Nat->Nat),b a/\∀(d:Nat×Nat),b d->cnd (d.fst.blt (sb s).size) (cnd (decide ((↑(be (sb s) d.fst).fst:Int)<32)) (∃(e:Unit),gN s=ap/\True) (cnd ((↑(be (sb s) d.fst).fst:Int)==127) (∃(e:Unit),gN s=ap/\True) (cnd ((↑(be (sb s) d.fst).fst:Int)==65533) (∃(e:Unit),gN s=ap/\True) (rM d s b c)))) (cnd (decide ((↑d.snd:Int)>=1)) (∃(e:Unit),gN s=decide ((↑d.snd:Int)<=12)/\True) (∃(e:Unit),gN s=ap/\True))
def zEm (a:Cmd):Prop:=∃(b:List UInt8),sb b=sb a.label/\b.length<=140737488355328/\∀(c:Unit),True->cnd (!gN b) (∃(d:Unit),a.orderE=29/\True) (cnd (decide (a.price>=(-2000000))) (cnd (!decide (a.price<=2000000)) (∃(d:Unit),a.orderE=23/\True) (cnd (decide (a.inst<0)) (∃(d:Unit),a.orderE=20/\True) (cnd (decide (a.inst>255)) (∃(d:Unit),a.orderE=20/\True) (∃(d:Unit),a.orderE=0/\True)))) (∃(d:Unit),a.orderE=23/\True))
def nK (a:Cmd):=(!(sb a.label).toList==(ax #[]).toList)
def yMv (c:Cmd):Prop:=
 cnd (c.side !=1) (cnd (c.side !=2) (∃(a:Unit),c.orderE=21/\True) (cnd (decide (c.time<1)) (∃(a:Unit),c.orderE=27/\True) (cnd (decide (c.time>3)) (∃(a:Unit),c.orderE=27/\True) (cnd (decide (c.qty>=1)) (cnd (!decide (c.qty<=1000000)) (∃(a:Unit),c.orderE=24/\True) (cnd (decide (c.least<0)) (∃(a:Unit),c.orderE=28/\True) (cnd (decide (c.least>c.qty)) (∃(a:Unit),c.orderE=28/\True) (cnd (nK c) (zEm c) (cnd (decide (c.price>=(-2000000))) (cnd (!decide (c.price<=2000000)) (∃(a:Unit),c.orderE=23/\True) (cnd (decide (c.inst<0)) (∃(a:Unit),c.orderE=20/\True) (cnd (decide (c.inst>255)) (∃(a:Unit),c.orderE=20/\True) (∃(a:Unit),c.orderE=0/\True)))) (∃(a:Unit),c.orderE=23/\True)))))) (∃(a:Unit),c.orderE=24/\True))))) (cnd (decide (c.time<1)) (∃(a:Unit),c.orderE=27/\True) (cnd (decide (c.time>3)) (∃(a:Unit),c.orderE=27/\True) (cnd (decide (c.qty>=1)) (cnd (!decide (c.qty<=1000000)) (∃(a:Unit),c.orderE=24/\True) (cnd (decide (c.least<0)) (∃(a:Unit),c.orderE=28/\True) (cnd (decide (c.least>c.qty)) (∃(a:Unit),c.orderE=28/\True) (cnd (nK c) (zEm c) (cnd (decide (c.price>=(-2000000))) (cnd (!decide (c.price<=2000000)) (∃(a:Unit),c.orderE=23/\True) (cnd (decide (c.inst<0)) (∃(a:Unit),c.orderE=20/\True) (cnd (decide (c.inst>255)) (∃(a:Unit),c.orderE=20/\True) (∃(a:Unit),c.orderE=0/\True)))) (∃(a:Unit),c.orderE=23/\True)))))) (∃(a:Unit),c.orderE=24/\True))))
def yAg (c:Cmd):Prop:=
 cnd (decide (c.kind<1)) (∃(a:Unit),c.right=31/\True) (cnd (decide (c.kind>4)) (∃(a:Unit),c.right=31/\True) (cnd (decide (c.id<1)) (∃(a:Unit),c.right=1/\True) (cnd (decide (c.id>1099511627776)) (∃(a:Unit),c.right=1/\True) (cnd (c.kind==1) (∃(a:Cmd),a.kind=c.kind/\a.id=c.id/\a.inst=c.inst/\a.side=c.side/\a.price=c.price/\a.qty=c.qty/\a.least=c.least/\a.time=c.time/\sb a.label=sb c.label/\a.label.length<=140737488355328/\∀(b:Unit),True->∃(d:Unit),c.right=a.orderE/\True) (cnd (c.kind !=2) (cnd (decide (c.qty>=1)) (cnd (!decide (c.qty<=1000000)) (∃(a:Unit),c.right=24/\True) (cnd (c.kind==4) (cnd (decide (c.price>=(-2000000))) (cnd (!decide (c.price<=2000000)) (∃(a:Unit),c.right=23/\True) (∃(a:Unit),c.right=0/\True)) (∃(a:Unit),c.right=23/\True)) (∃(a:Unit),c.right=0/\True))) (∃(a:Unit),c.right=24/\True)) (cnd (c.kind==4) (cnd (decide (c.price>=(-2000000))) (cnd (!decide (c.price<=2000000)) (∃(a:Unit),c.right=23/\True) (∃(a:Unit),c.right=0/\True)) (∃(a:Unit),c.right=23/\True)) (∃(a:Unit),c.right=0/\True)))))))
def yZl (s:List UInt8) (h:labC.cnd s):yUk s:=by
 have h:s.length<=140737488355328:=h;have hr:=zOu s;unfold yUk rM;refine⟨(0,0),rfl,rfl,rfl,λx=>x.1<=s.length/\x.2+(gK s x.1).length=(wU s).length/\(wU s).all zNz=(gK s x.1).all λx=>zNz x.2,λx=>s.length-x.1,⟨oM,by rw[wU,y0z];simp,by rw[wU,List.all_map];rfl⟩,?_⟩;rintro⟨p,n⟩ ⟨h1,h2,h3⟩;dsimp only at h1 h2 h3 ⊢;refine Cv.cnd.mk (λhp=> ?_) (λhp=> ?_)
 ·have hp:p<s.length:=by simpa[y4a]using hp
  have hw:=bG s hp;rw[h9 hp,y1d]at h2;rw[h9 hp,List.all_cons]at h3;generalize hc:(be (sb s) p).1=c at h2 h3 ⊢;generalize hww:(be (sb s) p).2=w at h2 h3 hw ⊢;dsimp only at h3;have bad:zNz c=ap->∃(o:Unit),gN s=ap/\True:=λe=>⟨(),by rw[gN,h3,e];rfl,trivial⟩
  refine zH (λc1=>bad ?_) (λc1=>Cv.cnd.mk (λc2=>bad ?_) (λc2=>Cv.cnd.mk (λc3=>bad ?_) (λc3=> ?_)))
  ·simp[zNz];omega
  ·have c2:(c:Int)=127:=by simpa using c2
   simp[zNz];omega
  ·have c3:(c:Int)=65533:=by simpa using c3
   simp[zNz];omega
  ·have c2:¬(c:Int)=127:=by simpa using c2
   have c3:¬(c:Int)=65533:=by simpa using c3
   have e:zNz c=aq:=by simp[zNz];omega
   refine⟨(p+w,n+1),?_,rfl,rfl,⟨hw.2,by(first|omega|(dsimp only;omega)),by rw[h3,e];rfl⟩,by(first|omega|(dsimp only;omega)),trivial⟩;rw[w64 (by omega)];rfl
 ·have hp:s.length<=p:=by have:=yBh hp;simpa using this
  rw[uV hp]at h2 h3;have h2:n=(wU s).length:=h2;have h3:(wU s).all zNz=aq:=h3;refine zH (λc=>⟨(),?_,trivial⟩) (λc=>⟨(),?_,trivial⟩)
  ·rw[gN,h3,<- h2,y1v (show 1<=n by omega)];simp only[y4b];congr 1;simp only[eq_iff_iff];omega
  ·rw[gN,<- h2,y1s (show ¬1<=n by omega)];simp
def yQt:labC.ok Tryz.prog 148:=okw mixed gok0 0 (λ_=>[]) (λs=>yZy s) [] Tryz.func148 yZl
def yYx (a b:Int):(a==b)=decide (a=b):=by
 by_cases h:a=b
 ·subst h;simp
 ·simp[h]
def yWz (a b:Int):(a !=b)=decide (a≠b):=by
 by_cases h:a=b
 ·subst h;simp
 ·simp[h]
def eqB (a b:List UInt8):((sb a).toList==(sb b).toList)=decide (a=b):=by
 rw[mZ,mZ];by_cases h:a=b
 ·subst h;simp
 ·simp[h]
def yPr:ax #[]=sb []:=rfl
def yXn (c:Cmd) (h:cmdOrdC.cnd c):yMv c:=by
 have h:c.label.length<=140737488355328:=h;unfold yMv nK zEm;simp only[yPr,eqB,yWz];have tail:¬(c.side≠1/\c.side≠2)->cnd (decide (c.time<1)) (∃(o:Unit),c.orderE=27/\True) (cnd (decide (c.time>3)) (∃(o:Unit),c.orderE=27/\True) (cnd (decide (c.qty>=1)) (cnd (!decide (c.qty<=1000000)) (∃(o:Unit),c.orderE=24/\True) (cnd (decide (c.least<0)) (∃(o:Unit),c.orderE=28/\True) (cnd (decide (c.least>c.qty)) (∃(o:Unit),c.orderE=28/\True) (cnd (!decide (c.label=[])) (∃(i:List UInt8),sb i=sb c.label/\i.length<=140737488355328/\∀(o:Unit),True->cnd (!gN i) (∃(o:Unit),c.orderE=29/\True) (cnd (decide (c.price>=-2000000)) (cnd (!decide (c.price<=2000000)) (∃(o:Unit),c.orderE=23/\True) (cnd (decide (c.inst<0)) (∃(o:Unit),c.orderE=20/\True) (cnd (decide (c.inst>255)) (∃(o:Unit),c.orderE=20/\True) (∃(o:Unit),c.orderE=0/\True)))) (∃(o:Unit),c.orderE=23/\True))) (cnd (decide (c.price>=-2000000)) (cnd (!decide (c.price<=2000000)) (∃(o:Unit),c.orderE=23/\True) (cnd (decide (c.inst<0)) (∃(o:Unit),c.orderE=20/\True) (cnd (decide (c.inst>255)) (∃(o:Unit),c.orderE=20/\True) (∃(o:Unit),c.orderE=0/\True)))) (∃(o:Unit),c.orderE=23/\True)))))) (∃(o:Unit),c.orderE=24/\True))):=by
  intro hs;have e1:c.orderE=if c.time<1\/3<c.time then 27 else if jO c.qty=ap then 24 else if c.least<0\/c.qty<c.least then 28
   else if c.label≠[]/\gN c.label=ap then 29 else if uO c.price=ap then 23 else if c.inst<0\/255<c.inst then 20 else 0:=by rw[Cmd.orderE,y0y hs]
  refine zH (λd1=>⟨(),by rw[e1,y1a (.inl d1)],trivial⟩) λd1=>zH (λd2=>⟨(),by rw[e1,y1a (.inr d2)],trivial⟩) λd2=> ?_
  rw[y0y (by omega)]at e1;have q (hq:jO c.qty=ap):∃(o:Unit),c.orderE=24/\True:=⟨(),by rw[e1,y1a hq],trivial⟩
  refine zH (λd3=>Cv.cnd.mk (λd4=>q ?_) λd4=> ?_) λd3=>q ?_
  ·have d4:¬c.qty<=1000000:=by simpa using d4
   simp[jO,d4]
  ·have d4:c.qty<=1000000:=by simpa using d4
   have hq:¬jO c.qty=ap:=by simp[jO,d4];omega
   rw[y0y hq]at e1;refine zH (λd5=>⟨(),by rw[e1,y1a (.inl d5)],trivial⟩) λd5=>zH (λd6=>⟨(),by rw[e1,y1a (.inr d6)],trivial⟩) λd6=> ?_
   rw[y0y (by omega)]at e1;have last:¬(c.label≠[]/\gN c.label=ap)->cnd (decide (c.price>=-2000000)) (cnd (!decide (c.price<=2000000)) (∃(o:Unit),c.orderE=23/\True) (cnd (decide (c.inst<0)) (∃(o:Unit),c.orderE=20/\True) (cnd (decide (c.inst>255)) (∃(o:Unit),c.orderE=20/\True) (∃(o:Unit),c.orderE=0/\True)))) (∃(o:Unit),c.orderE=23/\True):=by
    intro hl;rw[y0y hl]at e1;have pr (hq:uO c.price=ap):∃(o:Unit),c.orderE=23/\True:=⟨(),by rw[e1,y1a hq],trivial⟩
    refine zH (λg1=>Cv.cnd.mk (λg2=>pr ?_) λg2=> ?_) λg1=>pr ?_
    ·have g2:¬c.price<=2000000:=by simpa using g2
     simp[uO,g2]
    ·have g2:c.price<=2000000:=by simpa using g2
     have hp:¬uO c.price=ap:=by simp[uO,g2];omega
     rw[y0y hp]at e1;refine zH (λg3=>⟨(),by rw[e1,y1a (.inl g3)],trivial⟩) λg3=>zH (λg4=>⟨(),by rw[e1,y1a (.inr g4)],trivial⟩) λg4=>⟨(),by rw[e1,y0y (by omega)],trivial⟩
    ·simp[uO];omega
   refine Cv.cnd.mk (λd7=>⟨c.label,rfl,h,λ_ _=>Cv.cnd.mk (λd8=> ?_) λd8=>last ?_⟩) λd7=>last ?_
   ·have d7:¬c.label=[]:=by simpa using d7
    have d8:gN c.label=ap:=by simpa using d8
    exact⟨(),by rw[e1,y1a ⟨d7,d8⟩],trivial⟩
   ·have d8:gN c.label=aq:=by simpa using d8
    simp[d8]
   ·have d7:c.label=[]:=by simpa using d7
    simp[d7]
  ·simp[jO];omega
 refine zH (λc1=>zH (λc2=>⟨(),by rw[Cmd.orderE,y1a ⟨c1,c2⟩],trivial⟩) λc2=>tail ?_) λc1=>tail ?_
 ·omega
 ·omega
def yIp:cmdOrdC.ok Tryz.prog 112:=okw mixed (gokc yQt gok0) 1 (λ_=>[]) (λ_=>[]) [] Tryz.func112 yXn
def yTo (c:Cmd) (h:cmdRtC.cnd c):yAg c:=by
 have h:c.label.length<=140737488355328:=h;unfold yAg;simp only[yYx,yWz];refine zH (λc1=>⟨(),by rw[Cmd.right,y1a (.inl c1)],trivial⟩) λc1=>zH (λc2=>⟨(),by rw[Cmd.right,y1a (.inr c2)],trivial⟩) λc2=> ?_
 refine zH (λc3=>⟨(),by rw[Cmd.right,y0y (by omega),y1a (.inl c3)],trivial⟩) λc3=>zH (λc4=>⟨(),by rw[Cmd.right,y0y (by omega),y1a (.inr c4)],trivial⟩) λc4=> ?_
 have e0:c.right=if c.kind=1 then c.orderE else if c.kind≠2/\jO c.qty=ap then 24 else if c.kind=4/\uO c.price=ap then 23 else 0:=by rw[Cmd.right,y0y (by omega),y0y (by omega)]
 refine zH (λc5=>⟨c,?_⟩) λc5=> ?_
 ·rw[y1a c5]at e0;exact kp
 rw[y0y c5]at e0;have last (hn:¬(c.kind≠2/\jO c.qty=ap)):cnd (decide (c.kind=4)) (cnd (decide (c.price>=-2000000)) (cnd (!decide (c.price<=2000000)) (∃(o:Unit),c.right=23/\True) (∃(o:Unit),c.right=0/\True)) (∃(o:Unit),c.right=23/\True)) (∃(o:Unit),c.right=0/\True):=by
  rw[y0y hn]at e0;refine zH (λd1=>zH (λd2=>Cv.cnd.mk (λd3=> ?_) λd3=> ?_) λd2=> ?_) λd1=> ?_
  ·have d3:¬c.price<=2000000:=by simpa using d3
   exact⟨(),by rw[e0,y1a ⟨d1,by simp[uO,d3]⟩],trivial⟩
  ·have d3:c.price<=2000000:=by simpa using d3
   exact⟨(),by rw[e0,y0y (by simp[uO,d3];omega)],trivial⟩
  ·exact⟨(),by rw[e0,y1a ⟨d1,by simp[uO];omega⟩],trivial⟩
  ·exact⟨(),by rw[e0,y0y (by simp[d1])],trivial⟩
 refine zH (λd1=>zH (λd2=>Cv.cnd.mk (λd3=> ?_) λd3=>last ?_) λd2=> ?_) λd1=>last ?_
 ·have d3:¬c.qty<=1000000:=by simpa using d3
  exact⟨(),by rw[e0,y1a ⟨d1,by simp[jO,d3]⟩],trivial⟩
 ·have d3:c.qty<=1000000:=by simpa using d3
  simp[jO,d3];omega
 ·exact⟨(),by rw[e0,y1a ⟨d1,by simp[jO];omega⟩],trivial⟩
 ·omega
def zWc:cmdRtC.ok Tryz.prog 57:=okw mixed (gokc yIp gok0) 1 (λ_=>[]) (λ_=>[]) [] Tryz.func57 yTo
def rtextC:Con:=zR RB (λi=>[.nm 0 0]) (λi=>[RdB i]) RB.ok (λi=>sV i.text.1) (λi=>[RdB i.text.2])
structure TxB where
 l:List UInt8
 s:List UInt8
def ftextC:Con:=zR TxB (λi=>[roV 1 (bE i.l),sV i.s]) (λ_=>[]) (λi=>i.l.length+300<=1099511627776/\i.s.length<=255) (λ_=> .own 0) (λi=>[.own tU8 1 (bE (i.l++zMv i.s))])
def r6rightC:Con:=zR Cmd (λc=>[zIi c]) (λ_=>[]) (λc=>c.label=[]/\c.right=0) (λc=>zA 0) (λ_=>[])
def unJ:SAnn:={ι:=Unit,slots:=λ_=>[],rows:=λ_=>[]}
def yCy:List (Nat×SAnn):=[(4,bj 10),(12,bj 18),(22,unJ),(40,bj 50),(50,unJ),(68,bj 90),(76,bj 103)]
def r6encC:Con:=zR Cmd (λc=>[zIi c]) (λ_=>[]) (λc=>c.label=[]/\c.right=0) (λc=> .tup [roV 1 (bE c.enc),zA 0]) (λ_=>[])
def cdecC:Con:=zR (List UInt8) (λb=>[roV 1 (bE b)]) (λ_=>[]) (λb=>b.length<=1099511627776) (λb=> .tup [zIi (xD b).1,zA (xD b).2]) (λ_=>[])
def yWh:List (Nat×SAnn):=[(12,bj 19),(26,{ι:=Cmd×RB,slots:=λ_=>[(4,.nm 0 0),(5,.nm 1 0)],rows:=λx=>[RdB x.2,.cells x.1.cells 44],slots0:=λ_=>[(4,.nm 0 0),(5,.nm 1 0)],rows0:=λx=>[RdB x.2,.cells x.1.cells 44]})]
def yTs (i:RB):Prop:=
 ∃(i_1:RB),ac (List UInt8×Bool) 1 RdU (i_1.l,i_1.b)=RdB i/\i_1.l.length<=1099511627776/\∀(o:Unit),True->∃(i_2:RN),(↑i_2.n:Int)=qE (i_1.n 1).got/\ac (List UInt8×Bool) 1 RdU (i_2.l,i_2.b)=ac (List UInt8×Bool) 1 RdU ((i_1.n 1).left,(i_1.n 1).bad)/\(i_2.n<=255/\i_2.l.length<=1099511627776)/\∀(o:Unit),True->∃(b:ByteArray),da ((1:Nat))/\bE i_2.got=qF b/\∃(o:Unit),sb ((RB.mk (i.n 1).left (i.n 1).bad).n (qE (i.n 1).got).toNat).got=b/\ac (List UInt8×Bool) 1 RdU (((RB.mk (i.n 1).left (i.n 1).bad).n (qE (i.n 1).got).toNat).left,((RB.mk (i.n 1).left (i.n 1).bad).n (qE (i.n 1).got).toNat).bad)=ac (List UInt8×Bool) 1 RdU (i_2.left,i_2.bad)/\True
def yQm (i:TxB):Prop:=
 cnd (decide ((↑(sb i.s).size:Int)>255)) (((0:Int)<=(255:Int)/\255<=(↑(sb i.s).size:Int))/\∃(i_1:WN),bE i_1.l=bE i.l/\i_1.n=(↑((sb i.s).extract 0 (Int.toNat 255)).size:Int)/\i_1.ok/\∀(o:Unit),True->((bE (i_1.l++[lob i_1.n])).length+(qF ((sb i.s).extract 0 (Int.toNat 255))).length)*(1:Nat)<=(140737488355328:Nat)/\∃(o:Unit),bE (i.l++zMv i.s)=bE (i_1.l++[lob i_1.n])++qF ((sb i.s).extract 0 (Int.toNat 255))/\True) (∃(i_1:WN),bE i_1.l=bE i.l/\i_1.n=(↑(sb i.s).size:Int)/\i_1.ok/\∀(o:Unit),True->((bE (i_1.l++[lob i_1.n])).length+(qF (sb i.s)).length)*(1:Nat)<=(140737488355328:Nat)/\∃(o:Unit),bE (i.l++zMv i.s)=bE (i_1.l++[lob i_1.n])++qF (sb i.s)/\True)
def rO (a:Cmd):Prop:=ab [V.d (dI a.kind),V.d (dI a.id),V.d (dI a.inst),V.d (dI a.side),V.d (dI a.price),V.d (dI a.qty),V.d (dI a.least),V.d (dI a.time),V.d (D.v (au (sb a.label)))] 44=ab [V.d (dI a.kind),V.d (dI a.id),V.d (dI a.inst),V.d (dI a.side),V.d (dI a.price),V.d (dI a.qty),V.d (dI a.least),V.d (dI a.time),V.d (D.v (au (sb a.label)))] 44
def kK (a:Bool->Prop) (b:Bool) (c:Cmd):Prop:=a b/\rO c
def rE (a:Cmd) (b:Bool->Prop):Prop:=∃(c:Bool),c=decide (a.price>2000000)/\kK b c a
def cI (a:Bool->Prop) (b:Cmd):Prop:=∃(c:Bool),c=ap/\kK a c b
def jX (a:Bool->Prop) (b:Cmd):Prop:=∃(c:Bool),c=aq/\kK a c b
def vN (a:Unit->Prop) (b:Cmd):Prop:=∃(c:Unit),a c/\rO b
def zXr (c:Cmd):Prop:=
 ∃(a:Bool),∃(b:Bool->Prop),cnd (decide (c.kind<1)) (jX b c) (∃(d:Bool),d=decide (c.kind>4)/\kK b d c)/\∀(d:Bool),b d->cnd d (∃(e:Unit),(0:Int)=(31:Int)/\True) (∃(e:Bool),∃(f:Bool->Prop),cnd (decide (c.id<1)) (jX f c) (∃(g:Bool),g=decide (c.id>1099511627776)/\kK f g c)/\∀(g:Bool),f g->cnd g (∃(h:Unit),(0:Int)=(1:Int)/\True) (∃(h:Unit),∃(j:Unit->Prop),cnd (c.kind==1) (cnd (c.side !=1) (cnd (c.side !=2) (∃(k:Unit),(0:Int)=(21:Int)/\True) (cnd (decide (c.time<1)) (∃(k:Unit),(0:Int)=(27:Int)/\True) (cnd (decide (c.time>3)) (∃(k:Unit),(0:Int)=(27:Int)/\True) (vN j c)))) (cnd (decide (c.time<1)) (∃(k:Unit),(0:Int)=(27:Int)/\True) (cnd (decide (c.time>3)) (∃(k:Unit),(0:Int)=(27:Int)/\True) (vN j c)))) (vN j c)/\∀(k:Unit),j k->∃(l:Bool),∃(m:Bool->Prop),cnd (c.kind !=2) (cnd (decide (c.qty<1)) (jX m c) (∃(n:Bool),n=decide (c.qty>1000000)/\kK m n c)) (cI m c)/\∀(n:Bool),m n->cnd n (∃(p:Unit),(0:Int)=(24:Int)/\True) (∃(p:Unit),∃(q:Unit->Prop),cnd (c.kind==1) (cnd (decide (c.least<0)) (∃(r:Unit),(0:Int)=(28:Int)/\True) (cnd (decide (c.least>c.qty)) (∃(r:Unit),(0:Int)=(28:Int)/\True) (cnd (nK c) False (vN q c)))) (vN q c)/\∀(r:Unit),q r->∃(s:Bool),∃(t:Bool->Prop),cnd (c.kind==1) (cnd (decide (c.price<(-2000000))) (jX t c) (rE c t)) (cnd (c.kind==4) (cnd (decide (c.price<(-2000000))) (jX t c) (rE c t)) (cI t c))/\∀(u:Bool),t u->cnd u (∃(v:Unit),(0:Int)=(23:Int)/\True) (∃(v:Bool),∃(w:Bool->Prop),cnd (c.kind==1) (cnd (decide (c.inst<0)) (jX w c) (∃(x:Bool),x=decide (c.inst>255)/\kK w x c)) (cI w c)/\∀(x:Bool),w x->cnd x (∃(y:Unit),(0:Int)=(20:Int)/\True) (∃(y:Unit),da ((0:Int))/\True)))))
def zAq (a:WN) (b:Cmd):Prop:=∃(c:WN),bE c.l=bE (a.l++le a.n 8)/\c.n=b.qty/\c.ok/\∀(d:Unit),True->∃(e:Unit),bE b.enc=bE (c.l++le c.n 8)/\da ((0:Int))/\True
def yEs (c:Cmd):Prop:=
 ∃(a:Cmd),a.kind=c.kind/\a.id=c.id/\a.inst=c.inst/\a.side=c.side/\a.price=c.price/\a.qty=c.qty/\a.least=c.least/\a.time=c.time/\sb a.label=sb c.label/\(a.label=[]/\a.right=0)/\∀(b:Unit),True->∃(d:WN),bE d.l=[]/\d.n=c.kind/\d.ok/\∀(e:Unit),True->da c.id/\∃(f:WN),bE f.l=bE (d.l++[lob d.n])/\f.n=c.id/\f.ok/\∀(g:Unit),True->cnd (c.kind==1) (∃(h:WN),bE h.l=bE (f.l++le f.n 8)/\h.n=c.inst/\h.ok/\∀(j:Unit),True->da c.time/\da c.side/\∃(k:WN),bE k.l=bE (h.l++[lob h.n])/\k.n=c.side/\k.ok/\∀(l:Unit),True->da c.time/\∃(m:WN),bE m.l=bE (k.l++[lob k.n])/\m.n=c.time/\m.ok/\∀(n:Unit),True->∃(p:WN),bE p.l=bE (m.l++[lob m.n])/\p.n=c.price/\p.ok/\∀(q:Unit),True->da c.least/\da c.qty/\∃(r:WN),bE r.l=bE (p.l++le p.n 8)/\r.n=c.qty/\r.ok/\∀(s:Unit),True->da c.least/\∃(t:WN),bE t.l=bE (r.l++le r.n 8)/\t.n=c.least/\t.ok/\∀(u:Unit),True->∃(v:TxB),bE v.l=bE (t.l++le t.n 8)/\sb v.s=sb c.label/\(v.l.length+(300:Nat)<=(1099511627776:Nat)/\v.s.length<=255)/\∀(w:Unit),True->∃(x:Unit),bE c.enc=bE (v.l++zMv v.s)/\da ((0:Int))/\True) (cnd (c.kind==3) (zAq f c) (cnd (c.kind==4) (∃(h:WN),bE h.l=bE (f.l++le f.n 8)/\h.n=c.price/\h.ok/\∀(j:Unit),True->da c.qty/\zAq h c) (∃(h:Unit),bE c.enc=bE (f.l++le f.n 8)/\da ((0:Int))/\True)))
def mI:=(D.v (au (ax #[])))
def zEn:Prop:=ab (Sx.V.agg [V.d (dI 0),V.d (dI 0),V.d (dI 0),V.d (dI 0),V.d (dI 0),V.d (dI 0),V.d (dI 0),V.d (dI 0),V.d mI]).cl 44=ab (Sx.V.agg [V.d (dI 0),V.d (dI 0),V.d (dI 0),V.d (dI 0),V.d (dI 0),V.d (dI 0),V.d (dI 0),V.d (dI 0),V.d mI]).cl 44
def zKh (a:Bool->Prop) (b:Bool) (c:RB):Prop:=a b/\da (ab [V.d (dI (qE (c.n 1).got)),V.d (dI 0),V.d (dI 0),V.d (dI 0),V.d (dI 0),V.d (dI 0),V.d (dI 0),V.d (dI 0),V.d mI] 44)/\da (ac (List UInt8×Bool) 1 RdU ((c.n 1).left,(c.n 1).bad))/\zEn
def zFo (a:Cmd×RB->Prop) (b:Cmd×RB):Prop:=a b/\zEn
def zEo (a:Cmd×RB) (b:Cmd×RB) (c:Cmd×RB->Prop):Prop:=a.fst.least=b.fst.least/\a.fst.time=b.fst.time/\sb a.fst.label=sb b.fst.label/\zFo c a
def zFi (a:Cmd×RB) (b:RB) (c:Cmd×RB) (d:Cmd×RB->Prop):Prop:=a.fst.qty=aj.wrap (qE (b.n 8).got)/\zEo a c d
def lB (a:RB):=((RB.mk (a.n 1).left (a.n 1).bad).n (qE (a.n 1).got).toNat)
def yNc (b:List UInt8):Prop:=
 ∃(a:List UInt8),bE a=bE b/\a.length<=1099511627776/\∀(c:Unit),True->∃(d:RB),ac (List UInt8×Bool) 1 RdU (d.l,d.b)=ac (List UInt8×Bool) 1 RdU (a,ap)/\d.l.length<=1099511627776/\∀(e:Unit),True->∃(f:Bool),∃(g:Bool->Prop),cnd (decide (qE (d.n 1).got<1)) (∃(h:Bool),h=aq/\zKh g h d) (∃(h:Bool),h=decide (qE (d.n 1).got>4)/\zKh g h d)/\∀(h:Bool),g h->cnd h (∃(j:Unit),(xD b).fst.kind=0/\(xD b).fst.id=0/\(xD b).fst.inst=0/\(xD b).fst.side=0/\(xD b).fst.price=0/\(xD b).fst.qty=0/\(xD b).fst.least=0/\(xD b).fst.time=0/\sb (xD b).fst.label=ax #[]/\(xD b).snd=31/\True) (∃(j:RB),ac (List UInt8×Bool) 1 RdU (j.l,j.b)=ac (List UInt8×Bool) 1 RdU ((d.n 1).left,(d.n 1).bad)/\j.l.length<=1099511627776/\∀(k:Unit),True->∃(l:Cmd×RB),ac (List UInt8×Bool) 1 RdU (l.snd.l,l.snd.b)=ac (List UInt8×Bool) 1 RdU ((j.n 8).left,(j.n 8).bad)/\l.fst.kind=qE (d.n 1).got/\l.fst.id=aj.wrap (qE (j.n 8).got)/\l.fst.inst=0/\l.fst.side=0/\l.fst.price=0/\l.fst.qty=0/\l.fst.least=0/\l.fst.time=0/\sb l.fst.label=ax #[]/\∃(m:Cmd×RB->Prop),cnd (l.fst.kind==1) (∃(n:RB),ac (List UInt8×Bool) 1 RdU (n.l,n.b)=ac (List UInt8×Bool) 1 RdU (l.snd.l,l.snd.b)/\n.l.length<=1099511627776/\∀(p:Unit),True->∃(q:RB),ac (List UInt8×Bool) 1 RdU (q.l,q.b)=ac (List UInt8×Bool) 1 RdU ((n.n 1).left,(n.n 1).bad)/\q.l.length<=1099511627776/\∀(r:Unit),True->∃(s:RB),ac (List UInt8×Bool) 1 RdU (s.l,s.b)=ac (List UInt8×Bool) 1 RdU ((q.n 1).left,(q.n 1).bad)/\s.l.length<=1099511627776/\∀(t:Unit),True->∃(u:RB),ac (List UInt8×Bool) 1 RdU (u.l,u.b)=ac (List UInt8×Bool) 1 RdU ((s.n 1).left,(s.n 1).bad)/\u.l.length<=1099511627776/\∀(v:Unit),True->∃(w:RB),ac (List UInt8×Bool) 1 RdU (w.l,w.b)=ac (List UInt8×Bool) 1 RdU ((u.n 8).left,(u.n 8).bad)/\w.l.length<=1099511627776/\∀(x:Unit),True->∃(y:RB),ac (List UInt8×Bool) 1 RdU (y.l,y.b)=ac (List UInt8×Bool) 1 RdU ((w.n 8).left,(w.n 8).bad)/\y.l.length<=1099511627776/\∀(z:Unit),True->∃(a_1:RB),ac (List UInt8×Bool) 1 RdU (a_1.l,a_1.b)=ac (List UInt8×Bool) 1 RdU ((y.n 8).left,(y.n 8).bad)/\a_1.ok/\∀(a_2:Unit),True->∃(a_3:Cmd×RB),ac (List UInt8×Bool) 1 RdU (a_3.snd.l,a_3.snd.b)=ac (List UInt8×Bool) 1 RdU ((lB a_1).left,(lB a_1).bad)/\a_3.fst.kind=l.fst.kind/\a_3.fst.id=l.fst.id/\a_3.fst.inst=qE (n.n 1).got/\a_3.fst.side=qE (q.n 1).got/\a_3.fst.price=aj.wrap (qE (u.n 8).got)/\a_3.fst.qty=aj.wrap (qE (w.n 8).got)/\a_3.fst.least=aj.wrap (qE (y.n 8).got)/\a_3.fst.time=qE (s.n 1).got/\sb a_3.fst.label=sb (lB a_1).got/\zFo m a_3) (cnd (l.fst.kind==3) (∃(n:RB),ac (List UInt8×Bool) 1 RdU (n.l,n.b)=ac (List UInt8×Bool) 1 RdU (l.snd.l,l.snd.b)/\n.l.length<=1099511627776/\∀(p:Unit),True->∃(q:Cmd×RB),ac (List UInt8×Bool) 1 RdU (q.snd.l,q.snd.b)=ac (List UInt8×Bool) 1 RdU ((n.n 8).left,(n.n 8).bad)/\q.fst.kind=l.fst.kind/\q.fst.id=l.fst.id/\q.fst.inst=l.fst.inst/\q.fst.side=l.fst.side/\q.fst.price=l.fst.price/\zFi q n l m) (cnd (l.fst.kind==4) (∃(n:RB),ac (List UInt8×Bool) 1 RdU (n.l,n.b)=ac (List UInt8×Bool) 1 RdU (l.snd.l,l.snd.b)/\n.l.length<=1099511627776/\∀(p:Unit),True->∃(q:RB),ac (List UInt8×Bool) 1 RdU (q.l,q.b)=ac (List UInt8×Bool) 1 RdU ((n.n 8).left,(n.n 8).bad)/\q.l.length<=1099511627776/\∀(r:Unit),True->∃(s:Cmd×RB),ac (List UInt8×Bool) 1 RdU (s.snd.l,s.snd.b)=ac (List UInt8×Bool) 1 RdU ((q.n 8).left,(q.n 8).bad)/\s.fst.kind=l.fst.kind/\s.fst.id=l.fst.id/\s.fst.inst=l.fst.inst/\s.fst.side=l.fst.side/\s.fst.price=aj.wrap (qE (n.n 8).got)/\zFi s q l m) (∃(n:Cmd×RB),ac (List UInt8×Bool) 1 RdU (n.snd.l,n.snd.b)=ac (List UInt8×Bool) 1 RdU (l.snd.l,l.snd.b)/\n.fst.kind=l.fst.kind/\n.fst.id=l.fst.id/\n.fst.inst=l.fst.inst/\n.fst.side=l.fst.side/\n.fst.price=l.fst.price/\n.fst.qty=l.fst.qty/\zEo n l m)))/\∀(n:Cmd×RB),m n->∃(p:RB),ac (List UInt8×Bool) 1 RdU (p.l,p.b)=ac (List UInt8×Bool) 1 RdU (n.snd.l,n.snd.b)/\p.l.length<=1099511627776/\∀(q:Unit),True->cnd ((if p.b=aq then(10:Int)else if 0<p.l.length then(15:Int)else(0:Int)) !=0) (∃(r:Unit),(xD b).fst.kind=0/\(xD b).fst.id=0/\(xD b).fst.inst=0/\(xD b).fst.side=0/\(xD b).fst.price=0/\(xD b).fst.qty=0/\(xD b).fst.least=0/\(xD b).fst.time=0/\sb (xD b).fst.label=ax #[]/\(xD b).snd=12/\True) (∃(r:Cmd),r.kind=n.fst.kind/\r.id=n.fst.id/\r.inst=n.fst.inst/\r.side=n.fst.side/\r.price=n.fst.price/\r.qty=n.fst.qty/\r.least=n.fst.least/\r.time=n.fst.time/\sb r.label=sb n.fst.label/\r.label.length<=140737488355328/\∀(s:Unit),True->cnd (r.right !=0) (∃(t:Unit),(xD b).fst.kind=0/\(xD b).fst.id=0/\(xD b).fst.inst=0/\(xD b).fst.side=0/\(xD b).fst.price=0/\(xD b).fst.qty=0/\(xD b).fst.least=0/\(xD b).fst.time=0/\sb (xD b).fst.label=ax #[]/\(xD b).snd=r.right/\True) (∃(t:Unit),(xD b).fst.kind=n.fst.kind/\(xD b).fst.id=n.fst.id/\(xD b).fst.inst=n.fst.inst/\(xD b).fst.side=n.fst.side/\(xD b).fst.price=n.fst.price/\(xD b).fst.qty=n.fst.qty/\(xD b).fst.least=n.fst.least/\(xD b).fst.time=n.fst.time/\sb (xD b).fst.label=sb n.fst.label/\(xD b).snd=0/\True)))
def zUs (r:RB):0<=r.byte.1/\r.byte.1<=255:=by
 have h:=bT (r.n 1).got;have hl:(r.n 1).got.length<=1:=zIy (r.n 1);show 0<=qE (r.n 1).got/\qE (r.n 1).got<=255;obtain e|e:(r.n 1).got.length=0\/(r.n 1).got.length=1:=by omega
 ·rw[e]at h;omega
 ·rw[e]at h;omega
def yJn {r:RB} (h:r.ok):r.text.2.ok:=y3u (tD _) (y3u (tD _) h)
def yDx:rtextC.ok Tryz.prog 163:=okw (V:=yTs) mixed (gokc zUp (gokc z6k gok0)) 0 (λ_=>[]) (λ_=>[]) [] Tryz.func163 λ(i:RB) h=>by
 have h:i.l.length<=1099511627776:=h;have hb:=zUs i;exact⟨i,rfl,h,λ_ _=>⟨⟨(i.n 1).left,(i.n 1).bad,i.byte.1.toNat⟩,by dsimp only;exact Int.toNat_of_nonneg hb.1,rfl,⟨Z9,y3u (tD _) h⟩,λ_ _=>⟨_,rfl,mJ _,(),rfl,rfl,trivial⟩⟩⟩
def yBv:ftextC.ok Tryz.prog 86:=okw (V:=yQm) mixed (gokc zXu gok0) 0 (λ_=>[]) (λ_=>[]) [] Tryz.func86 λ(i:TxB) h=>by
 obtain⟨l,s⟩:=i;obtain⟨h,hl⟩:l.length+300<=1099511627776/\s.length<=255:=h;have hs:(sb s).size=s.length:=zIz s;refine zH (λe=> ?_) (λe=> ?_)
 ·have e:((sb s).size:Int)>255:=e;omega
 ·have et:s.take 255=s:=y1k oM;refine⟨⟨l,s.length⟩,rfl,by dsimp only;rw[hs],by dsimp only[WN.ok];omega,λ_ _=>⟨?_,(),?_,trivial⟩⟩
  ·dsimp only;rw[zPl,yL,yL,y0x];simp[sb];omega
  ·dsimp only;rw[zPl,<- zGu,zMv,et];simp[sb]
def yDz (c:Cmd) (h:r6rightC.cnd c):zXr c:=by
 obtain⟨hl,hr⟩:c.label=[]/\c.right=0:=h;obtain⟨hk,hi,hq,hp,ho⟩:=zTp hr;unfold zXr vN jX cI rE kK rO nK dI;refine⟨ap,λb=>b=ap,zH (λe=>absurd e oM) (λ_=>⟨_,rfl,y1s oM,k0q⟩),?_⟩;rintro _ rfl;refine Cv.cnd.mk (λe=>absurd e Z8) (λ_=> ?_);refine⟨ap,λb=>b=ap,zH (λe=>absurd e oM) (λ_=>⟨_,rfl,y1s oM,k0q⟩),?_⟩;rintro _ rfl;refine Cv.cnd.mk (λe=>absurd e Z8) (λ_=> ?_);refine⟨(),λ_=>True,Cv.cnd.mk (λe=> ?_) (λ_=>⟨(),trivial,k0q⟩),λ_ _=> ?_⟩
 ·obtain⟨s1,s2,s3,s4,s5⟩:=ho (by simpa using e);refine Cv.cnd.mk (λe1=>Cv.cnd.mk (λe2=> ?_) (λ_=> ?_)) (λ_=> ?_)
  ·have e1:c.side≠1:=by simpa using e1
   have e2:c.side≠2:=by simpa using e2
   omega
  all_goals exact zH (λe=>absurd e oM) (λ_=>zH (λe=>absurd e oM) (λ_=>⟨(),trivial,k0q⟩))
 refine⟨ap,λb=>b=ap,Cv.cnd.mk (λe=> ?_) (λ_=>⟨_,rfl,rfl,k0q⟩),?_⟩
 ·have hq:=hq (by simpa using e);exact zH (λe=>absurd e oM) (λ_=>⟨_,rfl,y1s oM,k0q⟩)
 rintro _ rfl;refine Cv.cnd.mk (λe=>absurd e Z8) (λ_=> ?_);refine⟨(),λ_=>True,Cv.cnd.mk (λe=> ?_) (λ_=>⟨(),trivial,k0q⟩),λ_ _=> ?_⟩
 ·obtain⟨s1,s2,s3,s4,s5⟩:=ho (by simpa using e);refine zH (λe=>absurd e oM) (λ_=>zH (λe=>absurd e oM) (λ_=>Cv.cnd.mk (λe=> ?_) (λ_=>⟨(),trivial,k0q⟩)));rw[hl]at e;exact absurd e (by decide+kernel)
 have hpr:∀{Q:Prop},Q->(c.kind=1\/c.kind=4)->cnd (decide (c.price< -2000000)) (∃i':Bool,i'=aq/\i'=ap/\Q) (∃i':Bool,i'=decide (c.price>2000000)/\i'=ap/\Q):=λhQ hk=>by
  have:=hp hk;exact zH (λe=>absurd e oM) (λ_=>⟨_,rfl,y1s oM,hQ⟩)
 refine⟨ap,λb=>b=ap,Cv.cnd.mk (λe=>hpr (k0q) (.inl (by simpa using e))) (λ_=>Cv.cnd.mk (λe=>hpr (k0q) (.inr (by simpa using e))) (λ_=>⟨_,rfl,rfl,k0q⟩)),?_⟩;rintro _ rfl;refine Cv.cnd.mk (λe=>absurd e Z8) (λ_=> ?_);refine⟨ap,λb=>b=ap,Cv.cnd.mk (λe=> ?_) (λ_=>⟨_,rfl,rfl,k0q⟩),?_⟩
 ·obtain⟨s1,s2,s3,s4,s5⟩:=ho (by simpa using e);exact zH (λe=>absurd e oM) (λ_=>⟨_,rfl,y1s oM,k0q⟩)
 rintro _ rfl;exact Cv.cnd.mk (λe=>absurd e Z8) (λ_=>⟨(),rfl,trivial⟩)
def z0y:r6rightC.ok Tryz.prog 83:=okw mixed gok0 0 (λ_=>yCy) (λ_=>[]) [] Tryz.func83 yDz
def ySl (c:Cmd) (h:r6encC.cnd c):yEs c:=by
 obtain⟨hl,hr⟩:c.label=[]/\c.right=0:=h;have he:c.enc=lob c.kind::(le c.id 8++c.tail):=by rw[Cmd.enc,y0y (by simp[hr])]
 unfold yEs zAq;refine⟨c,rF8 ⟨rfl,⟨hl,hr⟩,λ_ _=>⟨⟨[],c.kind⟩,rfl,rfl,by simp[WN.ok],λ_ _=>⟨rfl,⟨[lob c.kind],c.id⟩,rfl,rfl,by simp[WN.ok],λ_ _=> ?_⟩⟩⟩⟩;dsimp only;refine Cv.cnd.mk (λe=> ?_) (λe=>Cv.cnd.mk (λe3=> ?_) (λe3=>Cv.cnd.mk (λe4=> ?_) (λe4=> ?_)))
 ·have e:c.kind=1:=by simpa using e
  have ht:c.tail=lob c.inst::lob c.side::lob c.time::(le c.price 8++(le c.qty 8++(le c.least 8++zMv c.label))):=by rw[Cmd.tail,y1a e]
  refine⟨⟨[lob c.kind]++le c.id 8,c.inst⟩,rfl,rfl,by simp[WN.ok,kD],λ_ _=>⟨rfl,rfl,⟨_,c.side⟩,rfl,rfl,by simp[WN.ok,kD],λ_ _=>⟨rfl,⟨_,c.time⟩,rfl,rfl,by simp[WN.ok,kD],λ_ _=>⟨⟨_,c.price⟩,rfl,rfl,by simp[WN.ok,kD],λ_ _=>⟨rfl,rfl,⟨_,c.qty⟩,rfl,rfl,by simp[WN.ok,kD],λ_ _=>⟨rfl,⟨_,c.least⟩,rfl,rfl,by simp[WN.ok,kD],λ_ _=>⟨⟨_,c.label⟩,rfl,rfl,⟨by simp[kD],by show c.label.length<=255;rw[hl];decide⟩,λ_ _=>⟨(),?_,rfl,trivial⟩⟩⟩⟩⟩⟩⟩⟩;dsimp only;rw[he,ht];simp
 ·have e3:c.kind=3:=by simpa using e3
  have ht:c.tail=le c.qty 8:=by rw[Cmd.tail,y0y (by omega),y1a e3]
  refine⟨⟨[lob c.kind]++le c.id 8,c.qty⟩,rfl,rfl,by simp[WN.ok,kD],λ_ _=>⟨(),?_,rfl,trivial⟩⟩;dsimp only;rw[he,ht];simp
 ·have e4:c.kind=4:=by simpa using e4
  have ht:c.tail=le c.price 8++le c.qty 8:=by rw[Cmd.tail,y0y (by omega),y0y (by omega),y1a e4]
  refine⟨⟨[lob c.kind]++le c.id 8,c.price⟩,rfl,rfl,by simp[WN.ok,kD],λ_ _=>⟨rfl,⟨_,c.qty⟩,rfl,rfl,by simp[WN.ok,kD],λ_ _=>⟨(),?_,rfl,trivial⟩⟩⟩;dsimp only;rw[he,ht];simp
 ·have e:¬c.kind=1:=by simpa using e
  have e3:¬c.kind=3:=by simpa using e3
  have e4:¬c.kind=4:=by simpa using e4
  have ht:c.tail=[]:=by rw[Cmd.tail,y0y e,y0y e3,y0y e4]
  refine⟨(),?_,rfl,trivial⟩;rw[he,ht];simp
def r6enc_ok:r6encC.ok Tryz.prog 34:=okw mixed (gokc z0y (gokc zXu (gokc yBo (gokc yBv gok0)))) 0 (λ_=>[]) (λ_=>[]) [] Tryz.func34 ySl
def yOc {k id:Int} {r:RB} (h:r.ok):(xX k id r).2.ok/\(xX k id r).1.label.length<=255:=by
 rw[xX];split
 ·have h6:=uJ (uJ (uJ (aV (aV (aV h)))));refine⟨yJn h6,?_⟩;show(RB.text (r.byte.2.byte.2.byte.2.long.2.long.2.long.2)).1.length<=255;generalize r.byte.2.byte.2.byte.2.long.2.long.2.long.2=q;have:=zUs q;have:(q.text.1).length<=q.byte.1.toNat:=zIy _;omega
 split
 ·exact⟨uJ h,y2a _⟩
 split
 ·exact⟨uJ (uJ h),y2a _⟩
 ·exact⟨h,y2a _⟩
def yUx (b:List UInt8) (h:cdecC.cnd b):yNc b:=by
 have h:b.length<=1099511627776:=h;obtain⟨r0,hr⟩:∃r0,r0=RB.mk b ap:=⟨_,rfl⟩
 have hr0:r0.ok:=by rw[hr];exact h
 have hk2:=aV hr0;have hk3:=uJ hk2;have hdec:xD b=if r0.byte.1<1\/4<r0.byte.1 then(zWs,31)else if(xX r0.byte.1 r0.byte.2.long.1 r0.byte.2.long.2).2.endOf≠0 then(zWs,12)else if(xX r0.byte.1 r0.byte.2.long.1 r0.byte.2.long.2).1.right≠0 then(zWs,(xX r0.byte.1 r0.byte.2.long.1 r0.byte.2.long.2).1.right)else((xX r0.byte.1 r0.byte.2.long.1 r0.byte.2.long.2).1,0):=by
  rw[hr];rfl
 unfold yNc zKh lB zFi zEo zFo zEn mI dI;generalize xD b=X at hdec ⊢;refine⟨b,rfl,h,λ_ _=>⟨r0,by rw[hr],hr0,λ_ _=>⟨aq,λx=>x=decide (r0.byte.1<1\/4<r0.byte.1),zH (λe=>⟨aq,rfl,(y1v (.inl e)).symm,k0q⟩) (λe=>⟨_,rfl,decide_eq_decide.2 ⟨.inr,λx=>x.resolve_left e⟩,k0q⟩),?_⟩⟩⟩;rintro _ rfl;refine zH (λe=> ?_) (λe=> ?_)
 ·rw[hdec,y1a e];exact⟨(),rF7 (rF3 trivial)⟩
 rw[y0y e]at hdec;generalize hk:r0.byte.1=k at hdec;refine⟨r0.byte.2,rfl,hk2,λ_ _=>⟨(⟨r0.byte.1,r0.byte.2.long.1,0,0,0,0,0,0,[]⟩,r0.byte.2.long.2),rF6 (rF3 ⟨rfl,λx=>x=xX r0.byte.1 r0.byte.2.long.1 r0.byte.2.long.2,?_,?_⟩)⟩⟩
 ·generalize r0.byte.2.long.2=r2 at*;generalize r0.byte.2.long.1=id at*;rw[hk];refine Cv.cnd.mk (λe=> ?_) (λe1=>Cv.cnd.mk (λe=> ?_) (λe3=>Cv.cnd.mk (λe=> ?_) (λe4=> ?_)))
  ·have e:k=1:=by simpa using e
   have h1:=aV hk3;have h2:=aV h1;have h3:=aV h2;have h4:=uJ h3;have h5:=uJ h4;have h6:=uJ h5;exact⟨r2,rfl,hk3,λ_ _=>⟨_,rfl,h1,λ_ _=>⟨_,rfl,h2,λ_ _=>⟨_,rfl,h3,λ_ _=>⟨_,rfl,h4,λ_ _=>⟨_,rfl,h5,λ_ _=>⟨_,rfl,h6,λ_ _=>⟨xX k id r2,by rw[xX,y1a e];rfl,by rw[xX,y1a e],by rw[xX,y1a e],by rw[xX,y1a e];rfl,by rw[xX,y1a e];rfl,by rw[xX,y1a e];rfl,by rw[xX,y1a e];rfl,by rw[xX,y1a e];rfl,by rw[xX,y1a e];rfl,by rw[xX,y1a e];rfl,rfl,k0q⟩⟩⟩⟩⟩⟩⟩⟩
  ·have e1:¬k=1:=by simpa using e1
   have e:k=3:=by simpa using e
   have hd:xX k id r2=(⟨k,id,0,0,0,r2.long.1,0,0,[]⟩,r2.long.2):=by rw[xX,y0y e1,y1a e]
   exact⟨r2,rfl,hk3,λ_ _=>⟨(⟨k,id,0,0,0,r2.long.1,0,0,[]⟩,r2.long.2),rF6 (rF3 ⟨rfl,hd.symm,k0q⟩)⟩⟩
  ·have e1:¬k=1:=by simpa using e1
   have e3:¬k=3:=by simpa using e3
   have e:k=4:=by simpa using e
   have hd:xX k id r2=(⟨k,id,0,0,r2.long.1,r2.long.2.long.1,0,0,[]⟩,r2.long.2.long.2):=by rw[xX,y0y e1,y0y e3,y1a e]
   exact⟨r2,rfl,hk3,λ_ _=>⟨_,rfl,uJ hk3,λ_ _=>⟨(⟨k,id,0,0,r2.long.1,r2.long.2.long.1,0,0,[]⟩,r2.long.2.long.2),rF6 (rF3 ⟨rfl,hd.symm,k0q⟩)⟩⟩⟩
  ·have e1:¬k=1:=by simpa using e1
   have e3:¬k=3:=by simpa using e3
   have e4:¬k=4:=by simpa using e4
   have hd:xX k id r2=(⟨k,id,0,0,0,0,0,0,[]⟩,r2):=by rw[xX,y0y e1,y0y e3,y0y e4]
   exact⟨(⟨k,id,0,0,0,0,0,0,[]⟩,r2),rF6 (rF3 ⟨rfl,hd.symm,k0q⟩)⟩
 ·rintro x hx;obtain⟨o1,o2⟩:=yOc (k:=r0.byte.1) (id:=r0.byte.2.long.1) hk3;rw[<- hx]at o1 o2;rw[<- hk,<- hx]at hdec;obtain⟨c,q⟩:=x;refine⟨q,rfl,o1,λ_ _=>Cv.cnd.mk (λe=> ?_) (λe=>⟨c,rF8 ⟨rfl,y3u o2 Z8,λ_ _=>Cv.cnd.mk (λe2=> ?_) (λe2=> ?_)⟩⟩)⟩
  ·have e:q.endOf≠0:=by simpa[RB.endOf]using e
   rw[hdec,y1a e];exact⟨(),rF7 (rF3 trivial)⟩
  ·have e:¬q.endOf≠0:=by simpa[RB.endOf]using e
   have e2:c.right≠0:=by simpa using e2
   rw[hdec,y0y e,y1a e2];exact⟨(),rF7 (rF3 trivial)⟩
  ·have e:¬q.endOf≠0:=by simpa[RB.endOf]using e
   have e2:¬c.right≠0:=by simpa using e2
   rw[hdec,y0y e,y0y e2];exact⟨(),rF7 (rF3 trivial)⟩
def yLh:cdecC.ok Tryz.prog 135:=okw mixed (gokc z3p (gokc zUp (gokc yBl (gokc yDx (gokc yLj (gokc zWc gok0)))))) 0 (λ_=>yWh) (λ_=>[]) [] Tryz.func135 yUx
structure SoI where
 s:MSt
 p:Prd
 B:List (List zG)
 inst:Int
 sd:Bool
@[reducible] def SoI.ok (i:SoI):Prop:=i.s.Rep i.p i.B/\i.B.length<=1000
def atB (B:List (List zG)) (inst:Int):List zG:=if inst<0 then[]else B.getD inst.toNat []
def sladC:Con:=zR SoI (λi=>[.nm 0 0,zA i.inst,zA (zC i.sd)]) (λi=>[zD i.s]) (λi=>i.ok) (λ_=> .own 1) (λi=>[zD i.s,.own 127 3 ((uD (atB i.B i.inst) (zC i.sd)).map lvE)])
def cW (a:SoI):=(uD (atB a.B a.inst) (zC a.sd))
def zKs (a:SoI):Prop:=∃(b:Unit),da (sb a.s.p.code)/\da a.s.p.tick/\da a.s.p.low/\da a.s.p.high/\da a.s.p.wide/\da a.s.p.rule/\da a.s.p.top/\da a.s.p.least/\da a.s.p.part/\da (ae 197 Book 6 zO a.s.books aw)/\da (yM a.s.wh)/\da (aa 1 (iE a.s.p.months))/\da (aa 1 (iE a.s.p.settle))/\ao lvE (cW a)=[]/\True
def yMp (i:SoI):Prop:=
 cnd (decide (i.inst>=0)) (cnd (!decide (i.inst<(↑i.s.books.length:Int))) (zKs i) ((0<=i.inst/\i.inst<(↑i.s.books.length:Int))/\i.inst.toNat<i.s.books.length/\∃(a:Book),i.s.books[i.inst.toNat]?=av a/\∃(b:BkT),zC b.s=zC i.sd/\z6 b.b=z6 a/\b.b.Rep b.L/\∀(c:Unit),True->∃(d:Book),z6 b.b=z6 d/\da i.inst.toNat/\i.inst.toNat<i.s.books.length/\∃(e:Unit),da (sb i.s.p.code)/\da i.s.p.tick/\da i.s.p.low/\da i.s.p.high/\da i.s.p.wide/\da i.s.p.rule/\da i.s.p.top/\da i.s.p.least/\da i.s.p.part/\ae 197 Book 6 zO i.s.books aw=ae 197 Book 6 zO (i.s.books.set i.inst.toNat d) aw/\da (yM i.s.wh)/\da (aa 1 (iE i.s.p.months))/\da (aa 1 (iE i.s.p.settle))/\ao lvE (cW i)=ao lvE (uD b.L (zC b.s))/\True)) (zKs i)
def yKm {B:List (List zG)} {inst:Int} {L:List zG} (h0:0<=inst) (hL:B[inst.toNat]? =av L):atB B inst=L:=by
 rw[atB,y0y (by omega),zV hL]
def yKn {B:List (List zG)} {inst:Int} (h:inst<0\/(B.length:Int)<=inst):atB B inst=[]:=by
 rw[atB];split
 ·rfl
 ·rw[y1h,y2i (by omega)];rfl
def yYd (i:SoI) (h:sladC.cnd i):yMp i:=by
 obtain⟨hR,hB⟩:i.s.Rep i.p i.B/\i.B.length<=1000:=h;have hbl:=hR.bl;have out (hx:i.inst<0\/(i.B.length:Int)<=i.inst):ao lvE (uD (atB i.B i.inst) (zC i.sd))=[]:=by
  rw[yKn hx];rfl
 unfold yMp zKs cW;refine zH (λc=>Cv.cnd.mk (λd=> ?_) (λd=> ?_)) (λc=> ?_)
 ·have d:¬i.inst<(i.s.books.length:Int):=by simpa using d
  rw[out (.inr (by omega))];exact⟨(),k0q⟩
 ·have d:i.inst<(i.s.books.length:Int):=by simpa using d
  obtain⟨b,hb⟩:=yE (l:=i.s.books) (i:=i.inst.toNat) oM;obtain⟨L,hL⟩:=yE (l:=i.B) (i:=i.inst.toNat) oM;refine⟨⟨c,d⟩,oM,b,hb,⟨b,L,i.sd⟩,rfl,rfl,hR.bk _ b L hb hL,λ_ _=>⟨b,rfl,rfl,oM,?_⟩⟩;rw[vQ hb,yKm c hL];exact⟨(),k0q⟩
 ·rw[out (.inl (by omega))];exact⟨(),k0q⟩
def yJg:sladC.ok Tryz.prog 79:=okw mixed (gokc yRx gok0) 1 (λ_=>[]) (λ_=>[]) [0] Tryz.func79 yYd
def zYe (s:Int) (F:List zG):Prop:=F.Pairwise λo o'=>btr s o'.price o.price=ap
def sW (L:List zG) (s:Int):List zG:=L.filter λo=>decide (o.side=s)
structure BWf (p:Prd) (B:List (List zG)):Prop where
 ok:BOk p B
 od:yLx B
 ub:((whL 0 B).map (·.1)).Nodup
 srt:∀(k:Nat) (L:List zG),B[k]? =av L->∀s,s=1\/s=2->zYe s (sW L s)
def zVz {s:Int} {b:Book} {Q:List (List Nat)}:∀{R:List xC},(R.Pairwise λr r'=>btr s r.price r'.price=aq)->zYe s (R.flatMap (b.rOrds Q s))
 |[],_=>List.Pairwise.nil
 |r::R,h=>by
  rw[y4n]at h;rw[y2q,zYe,List.pairwise_append];refine⟨List.pairwise_of_forall_mem_list λo ho o' ho'=> ?_,zVz h.2,λo ho o' ho'=> ?_⟩
  ·rw[(x0 ho).2,(x0 ho').2];exact eR _ _
  ·obtain⟨r',hr',ho'⟩:=y3t.1 ho';rw[(x0 ho).2,(x0 ho').2];exact zXm (h.1 r' hr')
def Book.Rep.srt {b:Book} {L:List zG} (h:b.Rep L) {s:Int} (hs:s=1\/s=2):zYe s (sW L s):=by
 obtain⟨Q,c,ht,rfl⟩:=h;rw[sW,zQs hs];exact zVz (c.srt s hs)
def MSt.Rep.wf {s:MSt} {p:Prd} {B:List (List zG)} (h:s.Rep p B) (hb:BOk p B):BWf p B:=by
 refine⟨hb,h.ords,h.ids,λk L hL=> ?_⟩;obtain⟨b,hb⟩:=yE (l:=s.books) (i:=k) (by rw[h.bl];exact(y1c.1 hL).1);exactλs hs=>(h.bk k b L hb hL).srt hs
def yEu {L:List zG} (h:∀o∈L,zMt o) (hn:(L.map (·.id)).Nodup) (id q:Int):∀o∈(xR L id q).1,zMt o:=by
 intro o ho;rw[xR]at ho;split at ho
 ·exact h o ho
 split at ho
 ·exact h o ho
 rename_i hb;obtain⟨o',ho',e⟩:=y6a.1 ho;have h0:=h o' ho';split at e
 ·rename_i e1;have hg:=pT hn ho';rw[e1]at hg;rw[hg]at hb;split at e
  ·cases e
  ·rename_i e2;cases e;have:=h0.q;exact⟨h0.s,Z9⟩
 ·cases e;exact h0
def yFn (L:List zG) (id q:Int):(xR L id q).1.length<=L.length:=by
 rw[xR];split
 ·exact y1u _
 split
 ·exact y1u _
 exact List.length_filterMap_le _ _
def z9v {L:List zG} {s:Int} (h:zYe s (sW L s)) (id q:Int):zYe s (sW (xR L id q).1 s):=by
 rw[xR];split
 ·exact h
 split
 ·exact h
 have e:sW (vX L id q) s=vX (sW L s) id q:=by
  rw[sW,sW,vX,vX,List.filter_filterMap,List.filterMap_filter];refine bY λo _=> ?_
  by_cases e1:o.id=id
  ·rw[y1a e1];by_cases e2:o.qty=q
   ·rw[y1a e2];simp
   ·rw[y0y e2];by_cases e3:o.side=s<;>simp[Option.filter,e3]
  ·rw[y0y e1];by_cases e3:o.side=s<;>simp[Option.filter,e3]
 rw[e,vX];refine List.Pairwise.filterMap _ (λa a' haa b hb b' hb'=> ?_) h;have g:∀{a b:zG},(if a.id=id then(if a.qty=q then aw else av {a with qty:=a.qty-q})else av a)=av b->b.price=a.price:=by
  intro a b e;split at e
  ·split at e
   ·cases e
   ·cases e;rfl
  ·cases e;rfl
 rw[g hb,g hb'];exact haa
def yLr {B:List (List zG)} (h:((whL 0 B).map (·.1)).Nodup) {k:Nat} {L L':List zG} (hL:B[k]? =av L) (hs:(L'.map (·.id)).Sublist (L.map (·.id))):((whL 0 (B.set k L')).map (·.1)).Nodup:=by
 have hk:=(y1c.1 hL).1;obtain⟨rest,hr⟩:=zIp (B:=B) 0 k hk;have h0:=hr L;rw[vQ hL]at h0;have h1:=(h0.map (·.1)).nodup_iff.1 h
 refine((hr L').map (·.1)).nodup_iff.2 ?_
 rw[y1i,y3j]at h1 ⊢;exact h1.sublist (List.Sublist.append hs (List.Sublist.refl _))
def BWf.take {p:Prd} {B:List (List zG)} (h:BWf p B) (id q:Int):BWf p (qM B id q).1:=by
 refine⟨h.ok.take id q,?_,?_,?_⟩
 all_goals
  rw[qM];cases hi:bI B id with
  |none=>first|exact h.od|exact h.ub|exact h.srt
  |some k=>
   obtain⟨L,hL,hh⟩:=uM hi;have ho:=h.od k L hL;dsimp only;rw[zV hL]
   first
   |(intro j M hM
     rcases cK hM with⟨rfl,rfl⟩|⟨_,hM⟩
     ·refine⟨yEu ho.1 ho.2.1 id q,?_,y3u (yFn L id q) ho.2.2⟩;rcases zMy ho.2.1 id q with⟨e,_⟩|⟨e,_⟩
      ·rw[e];exact ho.2.1
      ·rw[e];exact ho.2.1.sublist (List.Sublist.map _ y6l)
     ·exact h.od j M hM)
   |(refine yLr h.ub hL ?_
     rcases zMy ho.2.1 id q with⟨e,_⟩|⟨e,_⟩
     ·rw[e];exact List.Sublist.refl _
     ·rw[e];exact List.Sublist.map _ y6l)
   |(intro j M hM s hs
     rcases cK hM with⟨rfl,rfl⟩|⟨_,hM⟩
     ·exact z9v (h.srt _ L hL s hs) id q
     ·exact h.srt j M hM s hs)
def BWf.takes {p:Prd}:∀{fs:List dF} {B:List (List zG)},BWf p B->BWf p (qZ B fs)
 |[],B,h=>h
 |f::fs,B,h=>BWf.takes (fs:=fs) (h.take f.id f.qty)
def zRb {p:Prd} {B:List (List zG)} (h:BWf p B) {inst:Int} {sd:Bool} {price q:Int} {t:jT} {B':List (List zG)} (e:aJ p B inst sd price q=av (t,B')):BWf p B'/\B'.length=B.length:=by
 rw[aJ]at e;dsimp only at e;split at e
 ·split at e
  ·cases e;exact⟨h.takes.takes,by rw[vS,vS]⟩
  ·cases e;exact⟨h.takes,by rw[vS]⟩
 ·cases e
def m8 {p:Prd} {inst:Int} {sd:Bool} {price:Int}:∀(m:Nat) (q:Int) (B:List (List zG)),q.toNat<=m->BWf p B->BWf p (jP p B inst sd price q).B/\(jP p B inst sd price q).B.length=B.length/\(0<=q->0<=(jP p B inst sd price q).left/\(jP p B inst sd price q).left<=q)
 |m,q,B,hm,h=>by
  by_cases hq:q<=0
  ·rw[tK (.inl hq)];exact⟨h,rfl,λx=>⟨x,y4s _⟩⟩
  cases hs:aJ p B inst sd price q with
  |none=>
   rw[tK (.inr hs)];exact⟨h,rfl,λx=>⟨x,y4s _⟩⟩
  |some x=>
   obtain⟨t,C⟩:=x;obtain⟨k1,k2⟩:=zRb h hs;have hq2:=zKk oM hs;cases m with
   |zero=>omega
   |succ m=>
   obtain⟨i1,i2,i3⟩:=m8 (p:=p) (inst:=inst) (sd:=sd) (price:=price) m (q-t.qty) C oM k1;rw[zLa (by omega) hs];exact⟨i1,i2.trans k2,λ_=>⟨(i3 oM).1,by dsimp only;have:=(i3 oM).2;omega⟩⟩
@[reducible] def RunI.ok (i:RunI):Prop:=i.s.Rep i.p i.B/\BOk i.p i.B/\(0<=i.inst/\i.inst<i.B.length)/\1<=i.q/\i.q<=1000000
def scouldC:Con:=zR RunI (λi=>[.nm 0 0,zA i.inst,zA (zC i.sd),zA i.price,zA i.q]) (λi=>[zD i.s]) (λi=>i.ok) (λi=>zA (i.q-i.r.left)) (λi=>[zD i.s])
def bR (p:Prd) (B:List (List zG)) (inst:Int) (sd:Bool) (price q:Int):Bool:=
 decide ((jP p B inst sd price q).left≠0) && (qP ⟨p,(jP p B inst sd price q).B.map qI,inst⟩ (zC (!sd))).any λx=>dX sd price x.price
def stuckC:Con:=zR RunI (λi=>[.nm 0 0,zA i.inst,zA (zC i.sd),zA i.price,zA i.q]) (λi=>[zD i.s]) (λi=>i.ok) (λi=>yT (bR i.p i.B i.inst i.sd i.price i.q)) (λi=>[zD i.s])
def zTg (B:List (List zG)):Nat:=(whL 0 B).length
def countC16:Con:=zR SoI (λi=>[.nm 0 0]) (λi=>[zD i.s]) (λi=>i.ok) (λi=>zA (zTg i.B)) (λi=>[zD i.s])
def gX (p:Prd) (inst price:Int):Int×Int×Int:=
 if(p.legs inst).2.2=ap then(0,0,20)else if p.price inst price≠0 then(0,0,p.price inst price)else
 let far:=p.settle.getD (p.legs inst).2.1.toNat 0
 let a:=if p.high<far+price then(p.high,p.high-price)else(far+price,far)
 if a.1<p.low then(p.low,p.low-price,0)else(a.1,a.2,0)
structure LpI where
 p:Prd
 inst:Int
 price:Int
def lpricesC:Con:=zR LpI (λi=>[mD i.p,zA i.inst,zA i.price]) (λ_=>[]) (λi=>i.p.check=0/\i.p.small/\y9 i.price) (λi=> .tup [zA (gX i.p i.inst i.price).1,zA (gX i.p i.inst i.price).2.1,zA (gX i.p i.inst i.price).2.2]) (λ_=>[])
def ijj (t u:Nat):SAnn:={ι:=Int×Int,slots:=λn=>[(t,zA n.1),(u,zA n.2)],rows:=λ_=>[]}
def lpJ:List (Nat×SAnn):=[(50,ijj 15 14),(58,ijj 15 14)]
def ySq:List SAnn:=[{ι:=Nat,slots:=λj=>[(40,zA j)],rows:=λ_=>[]}]
def ySy:List (Nat×SAnn):=[(8,{ι:=Unit,slots:=λ_=>[],rows:=λ_=>[],opn:=[11]})]
def hZ (a:MSt):Prop:=a.books.length<=1000000/\∀(b:Book),b∈a.books->(b.a.slots.length<=1000000/\b.a.queues.length<=1000000)/\b.buys.length<=1000000/\b.sells.length<=1000000/\b.spare.length<=1000000
def x7 (a:RunI):Prop:=a.s.Rep a.p a.B/\BOk a.p a.B/\(0<=a.inst/\a.inst<(↑a.B.length:Int))/\1<=a.q/\a.q<=1000000
def zAc (a:RunI):Prop:=∃(b:MSt),sb b.p.code=sb a.s.p.code/\b.p.tick=a.s.p.tick/\b.p.low=a.s.p.low/\b.p.high=a.s.p.high/\b.p.wide=a.s.p.wide/\b.p.rule=a.s.p.rule/\b.p.top=a.s.p.top/\b.p.least=a.s.p.least/\b.p.part=a.s.p.part/\ae 197 Book 6 zO b.books aw=ae 197 Book 6 zO a.s.books aw/\yM b.wh=yM a.s.wh/\aa 1 (iE b.p.months)=aa 1 (iE a.s.p.months)/\aa 1 (iE b.p.settle)=aa 1 (iE a.s.p.settle)/\(hZ b)/\∀(c:Unit),True->∃(d:RunI),d.inst=a.inst/\zC d.sd=zC a.sd/\d.price=a.price/\d.q=a.q/\zD d.s=zD b/\(x7 d)/\∀(e:MSt),e.Rep d.p d.r.B->∃(f:Unit),a.q-a.r.left=aj.wrap (a.q-d.r.left)/\zD a.s=zD b/\True
def wW (a:RunI):Prop:=∃(b:Unit),a.q-a.r.left=0/\da (sb a.s.p.code)/\da a.s.p.tick/\da a.s.p.low/\da a.s.p.high/\da a.s.p.wide/\da a.s.p.rule/\da a.s.p.top/\da a.s.p.least/\da a.s.p.part/\da (ae 197 Book 6 zO a.s.books aw)/\da (yM a.s.wh)/\da (aa 1 (iE a.s.p.months))/\da (aa 1 (iE a.s.p.settle))/\True
def z5v (i:RunI):Prop:=
 cnd (decide (i.inst>=0)) (cnd (decide (i.inst<(↑i.s.books.length:Int))) (cnd (zC i.sd==1) (cnd (decide (i.q>=1)) (cnd (!decide (i.q<=1000000)) (wW i) (zAc i)) (wW i)) (cnd (zC i.sd==2) (cnd (decide (i.q>=1)) (cnd (!decide (i.q<=1000000)) (wW i) (zAc i)) (wW i)) (wW i))) (wW i)) (wW i)
def zWz (i:SoI):Prop:=
 ∃(a:Unit),(↑(zTg i.B):Int)=(↑(yM i.s.wh).length:Int)/\da (sb i.s.p.code)/\da i.s.p.tick/\da i.s.p.low/\da i.s.p.high/\da i.s.p.wide/\da i.s.p.rule/\da i.s.p.top/\da i.s.p.least/\da i.s.p.part/\da (ae 197 Book 6 zO i.s.books aw)/\da (yM i.s.wh)/\da (aa 1 (iE i.s.p.months))/\da (aa 1 (iE i.s.p.settle))/\True
def dG (a:Int×Int->Prop) (b:Int×Int) (c:LpI):Prop:=a b/\da (ab [V.d (D.v (au (sb c.p.code))),V.own 0,V.d (dI c.p.tick),V.d (dI c.p.low),V.d (dI c.p.high),V.d (dI c.p.wide),V.d (dI c.p.rule),V.d (dI c.p.top),V.d (dI c.p.least),V.d (dI c.p.part),V.own 1] 25)/\da (aa 1 (iE c.p.settle))/\da (aa 1 (iE c.p.months))
def yV (a:LpI):=(gX a.p a.inst a.price)
def zWl (i:LpI):Prop:=
 ∃(a:Prd),sb a.code=sb i.p.code/\iE a.months=iE i.p.months/\a.tick=i.p.tick/\a.low=i.p.low/\a.high=i.p.high/\a.wide=i.p.wide/\a.rule=i.p.rule/\a.top=i.p.top/\a.least=i.p.least/\a.part=i.p.part/\iE a.settle=iE i.p.settle/\(yC a)/\∀(b:Unit),True->cnd (a.check !=0) (∃(c:Unit),(yV i).fst=0/\(yV i).snd.fst=0/\(yV i).snd.snd=1/\True) (∃(c:zAo),sb c.p.code=sb i.p.code/\iE c.p.months=iE i.p.months/\c.p.tick=i.p.tick/\c.p.low=i.p.low/\c.p.high=i.p.high/\c.p.wide=i.p.wide/\c.p.rule=i.p.rule/\c.p.top=i.p.top/\c.p.least=i.p.least/\c.p.part=i.p.part/\iE c.p.settle=iE i.p.settle/\c.n=i.inst/\(wE c)/\∀(d:Unit),True->cnd (!(c.p.legs c.n).snd.snd) (∃(e:Unit),(yV i).fst=0/\(yV i).snd.fst=0/\(yV i).snd.snd=20/\True) (∃(e:rZ),sb e.p.code=sb i.p.code/\iE e.p.months=iE i.p.months/\e.p.tick=i.p.tick/\e.p.low=i.p.low/\e.p.high=i.p.high/\e.p.wide=i.p.wide/\e.p.rule=i.p.rule/\e.p.top=i.p.top/\e.p.least=i.p.least/\e.p.part=i.p.part/\iE e.p.settle=iE i.p.settle/\e.a=i.inst/\e.b=i.price/\(xS e)/\∀(f:Unit),True->cnd (e.p.price e.a e.b !=0) (∃(g:Unit),(yV i).fst=0/\(yV i).snd.fst=0/\(yV i).snd.snd=e.p.price e.a e.b/\True) ((0<=(c.p.legs c.n).snd.fst/\(c.p.legs c.n).snd.fst<(↑(iE i.p.settle).length:Int))/\∃(g:Int),zE (iE i.p.settle) (c.p.legs c.n).snd.fst.toNat 0 1=av [dI g]/\∃(h:Int×Int),∃(j:Int×Int->Prop),cnd (decide (aj.wrap (g+i.price)>i.p.high)) (∃(k:Int×Int),k.fst=i.p.high/\k.snd=aj.wrap (i.p.high-i.price)/\dG j k i) (∃(k:Int×Int),k.fst=aj.wrap (g+i.price)/\k.snd=g/\dG j k i)/\∀(k:Int×Int),j k->∃(l:Int×Int),∃(m:Int×Int->Prop),cnd (decide (k.fst<i.p.low)) (∃(n:Int×Int),n.fst=i.p.low/\n.snd=aj.wrap (i.p.low-i.price)/\dG m n i) (∃(n:Int×Int),n.fst=k.fst/\n.snd=k.snd/\dG m n i)/\∀(n:Int×Int),m n->∃(p:Unit),(yV i).fst=n.fst/\(yV i).snd.fst=n.snd/\(yV i).snd.snd=0/\True)))
def zAs (a:MSt) (b:MSt):Prop:=sb a.p.code=sb b.p.code/\True/\a.p.tick=b.p.tick/\a.p.low=b.p.low/\a.p.high=b.p.high/\a.p.wide=b.p.wide/\a.p.rule=b.p.rule/\a.p.top=b.p.top/\a.p.least=b.p.least/\a.p.part=b.p.part/\True/\True
def yFb (i:RunI):Prop:=
 ∃(a:MSt),zD a=zD i.s/\(hZ a)/\∀(b:Unit),True->∃(c:RunI),c.inst=i.inst/\zC c.sd=zC i.sd/\c.price=i.price/\c.q=i.q/\zD c.s=zD a/\(x7 c)/\∀(d:MSt),d.Rep c.p c.r.B->cnd (c.r.left==0) (∃(e:Unit),bR i.p i.B i.inst i.sd i.price i.q=ap/\zD i.s=zD a/\True) (∃(e:MSt),sb e.p.code=sb d.p.code/\e.p.tick=d.p.tick/\e.p.low=d.p.low/\e.p.high=d.p.high/\e.p.wide=d.p.wide/\e.p.rule=d.p.rule/\e.p.top=d.p.top/\e.p.least=d.p.least/\e.p.part=d.p.part/\ae 197 Book 6 zO e.books aw=ae 197 Book 6 zO d.books aw/\yM e.wh=yM d.wh/\aa 1 (iE e.p.months)=aa 1 (iE d.p.months)/\aa 1 (iE e.p.settle)=aa 1 (iE d.p.settle)/\(g7 e)/\∀(f:Unit),True->(zAs e d)/\∃(g:Bool),zC g=zC i.sd/\True/\∀(h:Unit),True->(zAs e d)/\∃(j:tQ),sb j.i.p.code=sb d.p.code/\iE j.i.p.months=iE e.p.months/\j.i.p.tick=d.p.tick/\j.i.p.low=d.p.low/\j.i.p.high=d.p.high/\j.i.p.wide=d.p.wide/\j.i.p.rule=d.p.rule/\j.i.p.top=d.p.top/\j.i.p.least=d.p.least/\j.i.p.part=d.p.part/\iE j.i.p.settle=iE e.p.settle/\ao zZ j.i.tops=ao zZ e.tops/\j.i.inst=i.inst/\zC j.s=zC !g/\(qN j)/\∀(k:Unit),True->∃(l:Nat),(↑l:Int)=0/\∃(m:Nat->Prop),∃(n:Nat->Nat),m l/\∀(p:Nat),m p->cnd (decide ((↑p:Int)<(gB j))) ((0<=(↑p:Int)/\(↑p:Int)<(gB j))/\∃(q:Int),∃(r:Int),∃(s:Int),∃(t:Int),∃(u:Int),∃(v:Int),zE (kJ j) (↑p:Int).toNat 0 6=av [dI q,dI r,dI s,dI t,dI u,dI v]/\∃(w:GoI),zC w.s=zC i.sd/\w.p=i.price/\w.x=q/\True/\∀(x:Unit),True->cnd (dX w.s w.p w.x) (∃(y:Unit),bR i.p i.B i.inst i.sd i.price i.q=aq/\zD i.s=zD a/\True) (∃(y:Nat),(↑y:Int)=aj.wrap ((↑p:Int)+1)/\m y/\n y<n p/\da (ag 172 6 (kJ j))/\da (ab [V.d (hJ e),V.own 5,V.d (dI e.p.tick),V.d (dI e.p.low),V.d (dI e.p.high),V.d (dI e.p.wide),V.d (dI e.p.rule),V.d (dI e.p.top),V.d (dI e.p.least),V.d (dI e.p.part),V.own 6,V.own 3,V.mp 4] (195:ba))/\da (ae 197 Book 6 zO e.books aw)/\da (af (yM e.wh))/\da (aa 1 (iE e.p.months))/\da (aa 1 (iE e.p.settle))/\da (aa 6 (ao zZ e.tops))/\da (aa 1 (iE d.p.months))/\da (aa 1 (iE d.p.settle))/\da (ag 290 4 (ao jN c.r.steps))/\zD a=zD a)) (∃(q:Unit),bR i.p i.B i.inst i.sd i.price i.q=ap/\zD i.s=zD a/\True))
def MSt.Rep.small {s:MSt} {p:Prd} {B:List (List zG)} (h:s.Rep p B) (hb:BOk p B):s.small:=by
 have:=xN p;refine⟨by rw[h.bl,hb.bl];omega,λb hm=> ?_⟩;obtain⟨k,hk⟩:=y3m.1 hm;have hlt:=(y1c.1 hk).1;rw[h.bl]at hlt;obtain⟨L,hL⟩:=yE hlt;obtain⟨Q,c,_⟩:=h.bk k b L hk hL;exact c.small
def yHv (i:RunI) (h:scouldC.cnd i):z5v i:=by
 have h':i.ok:=h;obtain⟨hR,hB,⟨h0,h1⟩,hq1,hq2⟩:=h';have hbl:=hR.bl;have hl:=(m8 (inst:=i.inst) (sd:=i.sd) (price:=i.price) _ i.q i.B (y1u _) (hR.wf hB)).2.2 oM;have er:i.r=jP i.p i.B i.inst i.sd i.price i.q:=rfl;unfold z5v wW zAc x7 hZ;refine(λhT=>zH (λc=>zH (λc2=>Cv.cnd.mk (λ_=>zH (λ_=>Cv.cnd.mk (λe=>absurd hq2 (by simpa using e)) (λ_=>hT)) (λe=>absurd hq1 e)) (λe1=>Cv.cnd.mk (λ_=>zH (λ_=>Cv.cnd.mk (λe=>absurd hq2 (by simpa using e)) (λ_=>hT)) (λe=>absurd hq1 e)) (λe2=>by
  rcases zEb i.sd with e|e
  ·rw[e]at e1;cases e1
  ·rw[e]at e2;cases e2))) (λc2=>absurd oM c2)) (λc=>absurd h0 c)) ?_
 refine⟨i.s,rF8 (rF4 ⟨rfl,hR.small hB,λ_ _=>⟨i,rF4 ⟨rfl,h,λo ho=>⟨(),?_,rfl,trivial⟩⟩⟩⟩)⟩;rw[w64 (by rw[er];omega)]
def z9c:scouldC.ok Tryz.prog 166:=okw mixed (gokc zKb (gokc z1d gok0)) 2 (λ_=>[]) (λ_=>[]) [0] Tryz.func166 yHv
def z9y (i:SoI) (h:countC16.cnd i):zWz i:=by
 obtain⟨hR,hB⟩:i.s.Rep i.p i.B/\i.B.length<=1000:=h;unfold zWz;have e:(yM i.s.wh).length=zTg i.B:=by rw[yM,y0z,hR.wh.length_eq,zTg]
 exact⟨(),by rw[e],k0q⟩
def z2f:countC16.ok Tryz.prog 165:=okw mixed gok0 0 (λ_=>[]) (λ_=>[]) [0] Tryz.func165 z9y
def zJu {p:Prd} {i n:Int} (h:p.price i n=0):0<=i/\i<p.count:=by
 rw[Prd.price]at h;split at h
 ·cases h
 split at h
 ·cases h
 omega
def yEy (i:LpI) (h:lpricesC.cnd i):zWl i:=by
 obtain⟨hc,hp,hpr⟩:i.p.check=0/\i.p.small/\y9 i.price:=h;unfold zWl dG yV yC wE xS dI;refine⟨i.p,rF7 (rF3 ⟨rfl,hp,λ_ _=>Cv.cnd.mk (λe=>by rw[hc]at e;cases e) (λ_=> ?_)⟩)⟩;refine⟨⟨i.p,i.inst⟩,rF8 (rF3 ⟨rfl,hp,λ_ _=>Cv.cnd.mk (λe=> ?_) (λe=> ?_)⟩)⟩
 ·have e:(i.p.legs i.inst).2.2=ap:=by simpa using e
  have h0:gX i.p i.inst i.price=(0,0,20):=by rw[gX,y1a e]
  rw[h0];exact⟨(),rF3 trivial⟩
 have e:(i.p.legs i.inst).2.2=aq:=by simpa using e
 refine⟨⟨i.p,i.inst,i.price⟩,rF8 (rF4 ⟨rfl,hp,λ_ _=>Cv.cnd.mk (λe2=> ?_) (λe2=> ?_)⟩)⟩
 ·have e2:¬i.p.price i.inst i.price=0:=by simpa using e2
  have h0:gX i.p i.inst i.price=(0,0,i.p.price i.inst i.price):=by rw[gX,y0y (by rw[e];decide),y1a e2]
  rw[h0];exact⟨(),rF3 trivial⟩
 have e2:i.p.price i.inst i.price=0:=by simpa using e2
 have hin:=zJu e2;have hbd:=sG hc e2;have ok:=jJ hc;have b1:=ok.b1;have b2:=ok.b2;have b3:=ok.b3;have s1:=ok.s1;have s2:=ok.s2;have s3:=ok.s3;obtain⟨k,hk⟩:∃k:Nat,i.inst=k:=⟨i.inst.toNat,oM⟩
 have hl:=dN hc (k:=k) oM;rw[<- hk]at hl;rcases hl with⟨_,_,_,l3,l4⟩|⟨x,_⟩
 rotate_left
 ·rw[e]at x;cases x
 have hsl:(iE i.p.settle).length=i.p.settle.length:=y3 _;obtain⟨n,hn⟩:=yE (l:=i.p.settle) (i:=(i.p.legs i.inst).2.1.toNat) oM;have hm:=y1j hn;have m1:=yKt hm;have m2:=yLf hm;have hg:i.p.settle.getD (i.p.legs i.inst).2.1.toNat 0=n:=zV hn;have h0:gX i.p i.inst i.price=(if(if i.p.high<n+i.price then(i.p.high,i.p.high-i.price)else(n+i.price,n)).1<i.p.low then(i.p.low,i.p.low-i.price,0)else((if i.p.high<n+i.price then(i.p.high,i.p.high-i.price)else(n+i.price,n)).1,(if i.p.high<n+i.price then(i.p.high,i.p.high-i.price)else(n+i.price,n)).2,0)):=by
  rw[gX,y0y (by rw[e];decide),y0y (by rw[e2];decide)];dsimp only;rw[hg]
 dsimp only;refine⟨⟨l3,oM⟩,n,elI hn,(0,0),λa=>a=if i.p.high<n+i.price then(i.p.high,i.p.high-i.price)else(n+i.price,n),zH (λc=>⟨(i.p.high,i.p.high-i.price),rfl,(w64 oM).symm,?_,k0q⟩) (λc=>⟨(n+i.price,n),(w64 oM).symm,rfl,?_,k0q⟩),?_⟩
 ·rw[w64 (by omega)]at c;rw[y1a c]
 ·rw[w64 (by omega)]at c;rw[y0y c]
 rintro _ rfl;generalize (if i.p.high<n+i.price then(i.p.high,i.p.high-i.price)else(n+i.price,n))=a at h0 ⊢;refine⟨(0,0),λb=>b=if a.1<i.p.low then(i.p.low,i.p.low-i.price)else a,zH (λc=>⟨(i.p.low,i.p.low-i.price),rfl,(w64 oM).symm,by rw[y1a c],k0q⟩) (λc=>⟨a,rfl,rfl,by rw[y0y c],k0q⟩),?_⟩;rintro _ rfl;rw[h0];by_cases c:a.1<i.p.low
 ·rw[y1a c,y1a c];exact⟨(),rF3 trivial⟩
 ·rw[y0y c,y0y c];exact⟨(),rF3 trivial⟩
def z1r:lpricesC.ok Tryz.prog 201:=okw mixed (gokc s9 (gokc tY (gokc tA gok0))) 0 (λ_=>lpJ) (λ_=>[]) [] Tryz.func201 yEy
def yIn {l:List Quote} {k:Nat} {q:Quote} (h:l[k]? =av q):zE (l.map zI) k 0 6=av [D.v (.int .i64 q.price),D.v (.int .i64 q.qty),D.v (.int .i64 q.a.inst),D.v (.int .i64 q.a.side),D.v (.int .i64 q.b.inst),D.v (.int .i64 q.b.side)]:=elA h (by simp[zI]) rfl
def ySm (i:RunI) (h:stuckC.cnd i):yFb i:=by
 have h':i.ok:=h;obtain⟨hR,hB,⟨h0,h1⟩,hq1,hq2⟩:=h';have hwf:=hR.wf hB;obtain⟨k1,k2,k3⟩:=m8 (inst:=i.inst) (sd:=i.sd) (price:=i.price) _ i.q i.B (y1u _) hwf;have hcl:=xN i.p;unfold yFb hJ zAs x7 hZ gB kJ qN u9 g7 dI;refine⟨i.s,rfl,hR.small hB,λ_ _=>⟨i,rF4 ⟨rfl,h,λo ho=> ?_⟩⟩⟩;have er:i.r=jP i.p i.B i.inst i.sd i.price i.q:=rfl;have es:bR i.p i.B i.inst i.sd i.price i.q=(decide ((jP i.p i.B i.inst i.sd i.price i.q).left≠0) && (qP ⟨i.p,(jP i.p i.B i.inst i.sd i.price i.q).B.map qI,i.inst⟩ (zC (!i.sd))).any λx=>dX i.sd i.price x.price):=rfl;rw[er]at ho ⊢;rw[es];generalize jP i.p i.B i.inst i.sd i.price i.q=R at*;obtain⟨ts,lf,RB⟩:=R;dsimp only at*;refine Cv.cnd.mk (λe=>⟨(),?_,rfl,trivial⟩) (λe=> ?_)
 ·have e:lf=0:=by simpa using e
  rw[e];rfl
 have e:lf≠0:=by simpa using e
 rw[y1v e,y4b];have ep:=ho.ep;have hB':=k1.ok;have hbl:=hB'.bl;have hcnt:o.cntOk:=ho.cnt oM;have hps:o.p.small:=by rw[ep];exact hB'.ps
 have hto:wJ (RB.map qI):=hB'.tops;have hle:=zCd ⟨o.p,RB.map qI,i.inst⟩ (zC (!i.sd));refine⟨o,rF8 (rF4 ⟨rfl,hcnt,λ_ _=>⟨⟨rfl,trivial,rF7 ⟨rfl,trivial,trivial⟩⟩,i.sd,rfl,trivial,λ_ _=>⟨⟨rfl,trivial,rF7 ⟨rfl,trivial,trivial⟩⟩,⟨⟨o.p,RB.map qI,i.inst⟩,!i.sd⟩,rF7 (rF3 ⟨rfl,by rw[ho.tops],rfl,rfl,⟨hps,hto⟩,λ_ _=> ?_⟩)⟩⟩⟩)⟩;dsimp only;rw[<- ep];generalize qP ⟨o.p,RB.map qI,i.inst⟩ (zC (!i.sd))=Q at*;have e4:(Q.map zI).length=Q.length:=y0z ..;refine⟨0,rfl,λj=>j<=Q.length/\(Q.take j).any (λx=>dX i.sd i.price x.price)=ap,λj=>Q.length-j,⟨y2a _,rfl⟩,?_⟩;rintro j ⟨j1,j2⟩;refine zH (λc=> ?_) (λc=>⟨(),?_,rfl,trivial⟩)
 ·obtain⟨q,hq⟩:=yE (l:=Q) (i:=j) oM;refine⟨⟨oM,oM⟩,_,_,_,_,_,_,yIn hq,⟨i.sd,i.price,q.price⟩,rfl,rfl,rfl,trivial,λ_ _=>Cv.cnd.mk (λg=>⟨(),?_,rfl,trivial⟩) (λg=>⟨j+1,wjn oM,⟨oM,?_⟩,Z9,k0q⟩)⟩
  ·rw[List.any_eq_true];exact⟨q,y1j hq,g⟩
  ·rw[y2e,hq,List.any_append,j2];show(ap||([q].any λx=>dX i.sd i.price x.price))=ap;simp only[List.any_cons,List.any_nil,Bool.or_false,Bool.false_or];exact g
 ·have:j=Q.length:=by omega
  rw[this,y1k (y1u _)]at j2;exact j2
def zYd:stuckC.ok Tryz.prog 167:=okw mixed (gokc zKb (gokc z1d (gokc zWh (gokc yFs (gokc zQt (gokc zUu gok0)))))) 0 (λ_=>ySy) (λ_=>ySq) [] Tryz.func167 ySm
def a8 (c:Cmd) (why:Int):List Rep:=[⟨2,c.id,0,0,0,0,0,why⟩]
def ofF (x:jT) (k:Int):Int:=match x.fills.find? λf=>decide (f.inst=k)with
 |some f=>f.price
 |none=>x.price
def j0 (p:Prd) (inst:Int) (x:jT):Int×Int:=if x.implied=ap then((gX p inst x.price).1,(gX p inst x.price).2.1)else(ofF x (p.legs inst).1,ofF x (p.legs inst).2.1)
def zJh (p:Prd) (r:Rep) (near far:Int):List Rep:=[{r with inst:=(p.legs r.inst).1,price:=near},{r with inst:=(p.legs r.inst).2.1,side:=3-r.side,price:=far}]
def rW (p:Prd) (x:jT) (r:Rep):List Rep:=r::if(p.legs r.inst).2.2=aq then zJh p r (j0 p r.inst x).1 (j0 p r.inst x).2 else[]
def zCt (f:dF):Rep:=⟨3,f.id,f.inst,f.side,f.price,f.qty,f.left,0⟩
def nN (p:Prd) (c:Cmd) (x:jT) (left:Int):List Rep:=x.fills.flatMap (λf=>rW p x (zCt f))++rW p x ⟨3,c.id,c.inst,c.side,x.price,x.qty,left,0⟩
def pM (p:Prd) (c:Cmd):List jT->Int->List Rep
 |[],_=>[]
 |x::l,left=>nN p c x (left-x.qty)++pM p c l (left-x.qty)
structure MkX where
 B:List (List zG)
 U:List Int
 R:List Rep
def zOg (U:List Int) (id:Int):List Int:=if id∈U then U else U++[id]
def mC (p:Prd) (B:List (List zG)) (U:List Int) (c:Cmd):MkX:=match jP p B c.inst (decide (c.side=2)) c.price c.qty with
 |⟨ts,left,B'⟩=>⟨if left≠0/\c.time=1 then(z2n p B' c.inst c.id c.side c.price left).1 else B',zOg U c.id,
  (⟨1,c.id,c.inst,c.side,c.price,c.qty,c.qty,0⟩::pM p c ts c.qty)++if left≠0/\c.time≠1 then[⟨4,c.id,c.inst,c.side,c.price,left,0,0⟩]else[]⟩
def Cmd.lst (c:Cmd):Int:=if c.time=3 then c.qty else c.least
def nX (p:Prd) (B:List (List zG)) (U:List Int) (c:Cmd):MkX:=
 if p.price c.inst c.price≠0 then⟨B,U,a8 c (p.price c.inst c.price)⟩
 else if c.id∈U then⟨B,U,a8 c 25⟩
 else if 250<=zTg B then⟨B,U,a8 c 13⟩
 else if 0<c.lst/\c.qty-(jP p B c.inst (decide (c.side=2)) c.price c.qty).left<c.lst then⟨B,U,a8 c 28⟩
 else if c.time=1/\bR p B c.inst (decide (c.side=2)) c.price c.qty=aq then⟨B,U,a8 c 23⟩
 else mC p B U c
def gI (B:List (List zG)) (U:List Int) (id inst:Int) (o:zG):MkX:=⟨(qM B id o.qty).1,U,[⟨4,id,inst,o.side,o.price,o.qty,0,0⟩]⟩
def pV (B:List (List zG)) (U:List Int) (id q inst:Int) (o:zG):MkX:=⟨(qM B id q).1,U,[⟨5,id,inst,o.side,o.price,q,o.qty-q,0⟩]⟩
def dD (p:Prd) (B:List (List zG)) (U:List Int) (c:Cmd) (inst:Int) (o:zG):MkX:=
 if p.price inst c.price≠0 then⟨B,U,a8 c (p.price inst c.price)⟩
 else if c.price=o.price/\c.qty<=o.qty then pV B U c.id (o.qty-c.qty) inst o
 else if bR p (qM B c.id o.qty).1 inst (decide (o.side=2)) c.price c.qty=aq then⟨B,U,a8 c 23⟩
 else
  let x:=gI B U c.id inst o
  let y:=mC p x.B U ⟨1,c.id,inst,o.side,c.price,c.qty,0,1,[]⟩
  ⟨y.B,y.U,x.R++y.R⟩
def doF (p:Prd) (B:List (List zG)) (U:List Int) (c:Cmd):MkX:=
 if c.right≠0 then⟨B,U,a8 c c.right⟩
 else if c.kind=1 then nX p B U c
 else if(zP B c.id).2.2=ap then⟨B,U,a8 c 26⟩
 else if c.kind=4 then dD p B U c (zP B c.id).1 (zP B c.id).2.1
 else if c.kind=2\/(zP B c.id).2.1.qty<=c.qty then gI B U c.id (zP B c.id).1 (zP B c.id).2.1
 else pV B U c.id c.qty (zP B c.id).1 (zP B c.id).2.1
structure Mkt.Rep (m:Mkt) (p:Prd) (B:List (List zG)) (U:List Int):Prop where
 ep:m.p=p
 s:m.s.Rep p B
 u:m.used=U
@[reducible] def lU (m:Mkt):List AObj:=[yS m 0,yS m 1,yS m 2,yS m 3,yS m 4]
@[reducible] def yMa (x:jT):V:= .agg [zA x.price,zA x.qty,yT x.implied,roV 6 (x.fills.map yR)]
@[reducible] def tRp:Nat:=65
@[reducible] def z1y (l:List Rep):AObj:= .own tRp 8 (l.map xJ)
structure RjI where
 c:Cmd
 why:Int
def rejC:Con:=zR RjI (λi=>[zIi i.c,zA i.why]) (λ_=>[]) (λ_=>True) (λ_=> .own 0) (λi=>[z1y (a8 i.c i.why)])
structure MsI where
 m:Mkt
 r:Rep
 near:Int
 far:Int
@[reducible] def Mkt.fine (m:Mkt):Prop:=m.p.check=0/\m.p.small
def mspreadC:Con:=zR MsI (λi=>[.nm 0 0,y0h i.r,zA i.near,zA i.far]) (λi=>lU i.m) (λi=>i.m.fine/\(i.r.side=1\/i.r.side=2)) (λ_=> .own 5) (λi=>lU i.m++[z1y (zJh i.m.p i.r i.near i.far)])
structure MiN where
 m:Mkt
 inst:Int
def misC:Con:=zR MiN (λi=>[.nm 0 0,zA i.inst]) (λi=>lU i.m) (λi=>i.m.fine) (λi=>yT (i.m.p.legs i.inst).2.2) (λi=>lU i.m)
structure OfI where
 x:jT
 k:Int
@[reducible] def zVe (x:jT) (n:Nat):List AObj:=[.cells [zA x.price,zA x.qty,yT x.implied,.own n] 290,.fro 6 (x.fills.map yR)]
def ofC:Con:=zR OfI (λi=>[zA i.k,.nm 0 0]) (λi=>zVe i.x 1) (λi=>i.x.fills.length<=1000000) (λi=>zA (ofF i.x i.k)) (λi=>zVe i.x 1)
def ofA:List SAnn:=[{ι:=Nat,slots:=λj=>[(9,zA j)],rows:=λ_=>[]}]
structure MpI where
 m:Mkt
 inst:Int
 x:jT
def mpricesC:Con:=zR MpI (λi=>[.nm 0 0,zA i.inst,yMa i.x]) (λi=>lU i.m) (λi=>i.m.fine/\y9 i.x.price/\i.x.fills.length<=1000000) (λi=> .tup [zA (j0 i.m.p i.inst i.x).1,zA (j0 i.m.p i.inst i.x).2]) (λi=>lU i.m)
structure StI' where
 m:Mkt
 c:Cmd
 x:jT
 left:Int
def StI'.out (i:StI') (j:Nat):List Rep:=(i.x.fills.take j).flatMap λf=>rW i.m.p i.x (zCt f)
def mstepC:Con:=zR StI' (λi=>[.nm 0 0,zIi i.c,yMa i.x,zA i.left]) (λi=>lU i.m) (λi=>i.m.fine/\y9 i.x.price/\i.x.fills.length<=1000000/\(i.c.side=1\/i.c.side=2)/\∀f∈i.x.fills,f.side=1\/f.side=2) (λ_=> .own 5) (λi=>lU i.m++[z1y (nN i.m.p i.c i.x i.left)])
def yRz (i:StI'):List SAnn:=[{ι:=Nat,slots:=λj=>[(9,.nm 0 0),(17,zA j)],rows:=λj=>[.cells [.own 1] 89,z1y (i.out j)]}]
def yZc (i:RjI):Prop:=
 ∃(o:Unit),[xJ (Rep.mk 2 i.c.id 0 0 0 0 0 i.why)]=[[D.v (.int .i64 2),D.v (.int .i64 i.c.id),D.v (.int .i64 0),D.v (.int .i64 0),D.v (.int .i64 0),D.v (.int .i64 0),D.v (.int .i64 0),D.v (.int .i64 i.why)]]/\True
def vU (a:MsI):Prop:=a.r.kind=a.r.kind/\da a.r.id/\da a.r.inst/\da a.r.side/\da a.r.price/\da a.r.qty/\da a.r.left/\da a.r.why/\True
def gO (a:MsI):=(Rep.mk a.r.kind a.r.id (a.m.p.legs a.r.inst).snd.fst (3-a.r.side) a.far a.r.qty a.r.left a.r.why)
def gP (a:MsI):=(Rep.mk a.r.kind a.r.id (a.m.p.legs a.r.inst).fst a.r.side a.near a.r.qty a.r.left a.r.why)
def sX (a:MsI) (b:zAo):Prop:=(vU a)/\(vU a)/\(vU a)/\(vU a)/\(vU a)/\da a.r.side/\∃(c:Unit),da (sb a.m.p.code)/\da a.m.p.tick/\da a.m.p.low/\da a.m.p.high/\da a.m.p.wide/\da a.m.p.rule/\da a.m.p.top/\da a.m.p.least/\da a.m.p.part/\zD a.m.s=yS a.m 1/\da (zT a.m.used)/\aa 1 (iE a.m.p.months)=yS a.m 3/\aa 1 (iE a.m.p.settle)=yS a.m 4/\[xJ (gP a),xJ (gO a)]=[[dI a.r.kind,dI a.r.id,dI ((b.p.legs b.n).fst),dI a.r.side,dI a.near,dI a.r.qty,dI a.r.left,dI a.r.why],[dI a.r.kind,dI a.r.id,dI (wH b),dI (aj.wrap (3-a.r.side)),dI a.far,dI a.r.qty,dI a.r.left,dI a.r.why]]/\True
def zVc (i:MsI):Prop:=
 ∃(a:zAo),sb a.p.code=sb i.m.p.code/\iE a.p.months=iE i.m.p.months/\a.p.tick=i.m.p.tick/\a.p.low=i.m.p.low/\a.p.high=i.m.p.high/\a.p.wide=i.m.p.wide/\a.p.rule=i.m.p.rule/\a.p.top=i.m.p.top/\a.p.least=i.m.p.least/\a.p.part=i.m.p.part/\iE a.p.settle=iE i.m.p.settle/\a.n=i.r.inst/\(wE a)/\∀(b:Unit),True->(sX i a)/\sX i a
def y0r (i:MiN):Prop:=
 ∃(i_1:zAo),sb i_1.p.code=sb i.m.p.code/\iE i_1.p.months=iE i.m.p.months/\i_1.p.tick=i.m.p.tick/\i_1.p.low=i.m.p.low/\i_1.p.high=i.m.p.high/\i_1.p.wide=i.m.p.wide/\i_1.p.rule=i.m.p.rule/\i_1.p.top=i.m.p.top/\i_1.p.least=i.m.p.least/\i_1.p.part=i.m.p.part/\iE i_1.p.settle=iE i.m.p.settle/\i_1.n=i.inst/\(i_1.p.code.length<=1099511627776/\i_1.p.months.length<=1099511627776/\i_1.p.settle.length<=1099511627776)/\∀(o:Unit),True->∃(o:Unit),(i.m.p.legs i.inst).snd.snd=(i_1.p.legs i_1.n).snd.snd/\da (sb i.m.p.code)/\da i.m.p.tick/\da i.m.p.low/\da i.m.p.high/\da i.m.p.wide/\da i.m.p.rule/\da i.m.p.top/\da i.m.p.least/\da i.m.p.part/\zD i.m.s=yS i.m 1/\da (zT i.m.used)/\aa 1 (iE i.m.p.months)=yS i.m 3/\aa 1 (iE i.m.p.settle)=yS i.m 4/\True
def zUe (a:OfI):Prop:=a.x.price=a.x.price/\da a.x.qty/\da a.x.implied/\da (aa 6 (ao yR a.x.fills))/\True
def Vof (i:OfI):Prop:=
 ∃(a:Nat),(↑a:Int)=0/\∃(b:Nat->Prop),∃(c:Nat->Nat),b a/\∀(d:Nat),b d->cnd (decide ((↑d:Int)<(↑(ao yR i.x.fills).length:Int))) ((0<=(↑d:Int)/\(↑d:Int)<(↑(ao yR i.x.fills).length:Int))/\∃(e:Int),∃(f:Int),∃(g:Int),∃(h:Int),∃(j:Int),∃(k:Int),zE (ao yR i.x.fills) (↑d:Int).toNat 0 6=av [dI e,dI f,dI g,dI h,dI j,dI k]/\cnd (f==i.k) (∃(l:Unit),ofF i.x i.k=h/\zUe i) (∃(l:Nat),(↑l:Int)=aj.wrap ((↑d:Int)+1)/\b l/\c l<c d/\da (ab [zA i.x.price,zA i.x.qty,yT i.x.implied,V.own 1] (290:ba))/\da (aa 6 (ao yR i.x.fills)))) (∃(e:Unit),ofF i.x i.k=i.x.price/\zUe i)
def pA (a:MpI):Prop:=sb a.m.p.code=sb a.m.p.code/\da a.m.p.tick/\da a.m.p.low/\da a.m.p.high/\da a.m.p.wide/\da a.m.p.rule/\da a.m.p.top/\da a.m.p.least/\da a.m.p.part/\zD a.m.s=yS a.m 1/\da (zT a.m.used)/\aa 1 (iE a.m.p.months)=yS a.m 3/\aa 1 (iE a.m.p.settle)=yS a.m 4/\True
def x6 (a:MpI):=(j0 a.m.p a.inst a.x)
def zXb (i:MpI):Prop:=
 cnd (!i.x.implied) (∃(a:LpI),sb a.p.code=sb i.m.p.code/\iE a.p.months=iE i.m.p.months/\a.p.tick=i.m.p.tick/\a.p.low=i.m.p.low/\a.p.high=i.m.p.high/\a.p.wide=i.m.p.wide/\a.p.rule=i.m.p.rule/\a.p.top=i.m.p.top/\a.p.least=i.m.p.least/\a.p.part=i.m.p.part/\iE a.p.settle=iE i.m.p.settle/\a.inst=i.inst/\a.price=i.x.price/\(a.p.check=0/\(a.p.code.length<=1099511627776/\a.p.months.length<=1099511627776/\a.p.settle.length<=1099511627776)/\(-9223372036854775808)<=a.price/\a.price<=9223372036854775807)/\∀(b:Unit),True->∃(c:Unit),(x6 i).fst=(yV a).fst/\(x6 i).snd=(yV a).snd.fst/\pA i) (∃(a:zAo),sb a.p.code=sb i.m.p.code/\iE a.p.months=iE i.m.p.months/\a.p.tick=i.m.p.tick/\a.p.low=i.m.p.low/\a.p.high=i.m.p.high/\a.p.wide=i.m.p.wide/\a.p.rule=i.m.p.rule/\a.p.top=i.m.p.top/\a.p.least=i.m.p.least/\a.p.part=i.m.p.part/\iE a.p.settle=iE i.m.p.settle/\a.n=i.inst/\(wE a)/\∀(b:Unit),True->∃(c:OfI),c.k=(a.p.legs a.n).fst/\c.x.price=i.x.price/\c.x.qty=i.x.qty/\c.x.implied=i.x.implied/\aa 6 (ao yR c.x.fills)=aa 6 (ao yR i.x.fills)/\c.x.fills.length<=1000000/\∀(d:Unit),True->∃(e:OfI),e.k=(a.p.legs a.n).snd.fst/\e.x.price=c.x.price/\e.x.qty=c.x.qty/\e.x.implied=c.x.implied/\aa 6 (ao yR e.x.fills)=aa 6 (ao yR c.x.fills)/\e.x.fills.length<=1000000/\∀(f:Unit),True->∃(g:Unit),(x6 i).fst=ofF c.x c.k/\(x6 i).snd=ofF e.x e.k/\pA i)
def zAd (a:MpI):Prop:=(a.m.p.check=0/\a.m.p.code.length<=1099511627776/\a.m.p.months.length<=1099511627776/\a.m.p.settle.length<=1099511627776)/\((-9223372036854775808)<=a.x.price/\a.x.price<=9223372036854775807)/\a.x.fills.length<=1000000
def zBl (a:MsI):Prop:=(a.m.p.check=0/\a.m.p.code.length<=1099511627776/\a.m.p.months.length<=1099511627776/\a.m.p.settle.length<=1099511627776)/\(a.r.side=1\/a.r.side=2)
def zAn (a:MiN):Prop:=a.m.p.check=0/\a.m.p.code.length<=1099511627776/\a.m.p.months.length<=1099511627776/\a.m.p.settle.length<=1099511627776
def b7 (a:StI'):=(D.v (au (sb a.c.label)))
def yBt (i:StI'):Prop:=
 ∃(a:Nat),(↑a:Int)=0/\ao xJ (i.out a)=[]/\∃(b:Nat->Prop),∃(c:Nat->Nat),b a/\∀(d:Nat),b d->cnd (decide ((↑d:Int)<(↑(ao yR i.x.fills).length:Int))) ((0<=(↑d:Int)/\(↑d:Int)<(↑(ao yR i.x.fills).length:Int))/\∃(e:Int),∃(f:Int),∃(g:Int),∃(h:Int),∃(j:Int),∃(k:Int),zE (ao yR i.x.fills) (↑d:Int).toNat 0 6=av [dI e,dI f,dI g,dI h,dI j,dI k]/\((ao xJ (i.out d)).length+1)*(64:Nat)<=(140737488355328:Nat)/\∃(l:MiN),l.inst=f/\sb l.m.p.code=sb i.m.p.code/\l.m.p.tick=i.m.p.tick/\l.m.p.low=i.m.p.low/\l.m.p.high=i.m.p.high/\l.m.p.wide=i.m.p.wide/\l.m.p.rule=i.m.p.rule/\l.m.p.top=i.m.p.top/\l.m.p.least=i.m.p.least/\l.m.p.part=i.m.p.part/\zD l.m.s=yS i.m 1/\zT l.m.used=zT i.m.used/\aa 1 (iE l.m.p.months)=yS i.m 3/\aa 1 (iE l.m.p.settle)=yS i.m 4/\(zAn l)/\∀(m:Unit),True->cnd (l.m.p.legs l.inst).snd.snd (∃(n:MpI),n.inst=f/\n.x.price=i.x.price/\n.x.qty=i.x.qty/\n.x.implied=i.x.implied/\ao yR n.x.fills=ao yR i.x.fills/\sb n.m.p.code=sb l.m.p.code/\n.m.p.tick=l.m.p.tick/\n.m.p.low=l.m.p.low/\n.m.p.high=l.m.p.high/\n.m.p.wide=l.m.p.wide/\n.m.p.rule=l.m.p.rule/\n.m.p.top=l.m.p.top/\n.m.p.least=l.m.p.least/\n.m.p.part=l.m.p.part/\zD n.m.s=zD l.m.s/\zT n.m.used=zT l.m.used/\aa 1 (iE n.m.p.months)=aa 1 (iE l.m.p.months)/\aa 1 (iE n.m.p.settle)=aa 1 (iE l.m.p.settle)/\(zAd n)/\∀(p:Unit),True->∃(q:MsI),q.r.kind=3/\q.r.id=e/\q.r.inst=f/\q.r.side=g/\q.r.price=h/\q.r.qty=j/\q.r.left=k/\q.r.why=0/\q.near=(x6 n).fst/\q.far=(x6 n).snd/\sb q.m.p.code=sb n.m.p.code/\q.m.p.tick=n.m.p.tick/\q.m.p.low=n.m.p.low/\q.m.p.high=n.m.p.high/\q.m.p.wide=n.m.p.wide/\q.m.p.rule=n.m.p.rule/\q.m.p.top=n.m.p.top/\q.m.p.least=n.m.p.least/\q.m.p.part=n.m.p.part/\zD q.m.s=zD n.m.s/\zT q.m.used=zT n.m.used/\aa 1 (iE q.m.p.months)=aa 1 (iE n.m.p.months)/\aa 1 (iE q.m.p.settle)=aa 1 (iE n.m.p.settle)/\(zBl q)/\∀(r:Unit),True->True/\((ao xJ (i.out d)++[[dI 3,dI e,dI f,dI g,dI h,dI j,dI k,dI 0]]).length+2)*(64:Nat)<=(140737488355328:Nat)/\∃(s:Nat),(↑s:Int)=aj.wrap ((↑d:Int)+1)/\ao xJ (i.out s)=ao xJ (i.out d)++[[dI 3,dI e,dI f,dI g,dI h,dI j,dI k,dI 0]]++[xJ (gP q),xJ (gO q)]/\b s/\c s<c d/\da (ab [V.d (dI i.x.price),V.d (dI i.x.qty),V.d (D.v (.bool i.x.implied)),V.own 7] 290)/\da (aa 6 (ao yR i.x.fills))/\da (ab [V.d (dI i.c.kind),V.d (dI i.c.id),V.d (dI i.c.inst),V.d (dI i.c.side),V.d (dI i.c.price),V.d (dI i.c.qty),V.d (dI i.c.least),V.d (dI i.c.time),V.d (b7 i)] 44)/\da (ab [V.nm 0 0] 59)/\ab [V.d (D.v (au (sb q.m.p.code))),V.own 3,V.d (dI q.m.p.tick),V.d (dI q.m.p.low),V.d (dI q.m.p.high),V.d (dI q.m.p.wide),V.d (dI q.m.p.rule),V.d (dI q.m.p.top),V.d (dI q.m.p.least),V.d (dI q.m.p.part),V.own 4,V.nm 1 0,V.mp 2] (114:ba)=yS i.m 0/\zD q.m.s=yS i.m 1/\af (zT q.m.used)=yS i.m 2/\aa 1 (iE q.m.p.months)=yS i.m 3/\aa 1 (iE q.m.p.settle)=yS i.m 4) (∃(n:Nat),(↑n:Int)=aj.wrap ((↑d:Int)+1)/\ao xJ (i.out n)=ao xJ (i.out d)++[[dI 3,dI e,dI f,dI g,dI h,dI j,dI k,dI 0]]/\b n/\c n<c d/\da (ab [V.d (dI i.x.price),V.d (dI i.x.qty),V.d (D.v (.bool i.x.implied)),V.own 7] 290)/\da (aa 6 (ao yR i.x.fills))/\da (ab [V.d (dI i.c.kind),V.d (dI i.c.id),V.d (dI i.c.inst),V.d (dI i.c.side),V.d (dI i.c.price),V.d (dI i.c.qty),V.d (dI i.c.least),V.d (dI i.c.time),V.d (b7 i)] 44)/\da (ab [V.nm 0 0] 59)/\ab [V.d (D.v (au (sb l.m.p.code))),V.own 3,V.d (dI l.m.p.tick),V.d (dI l.m.p.low),V.d (dI l.m.p.high),V.d (dI l.m.p.wide),V.d (dI l.m.p.rule),V.d (dI l.m.p.top),V.d (dI l.m.p.least),V.d (dI l.m.p.part),V.own 4,V.nm 1 0,V.mp 2] (114:ba)=yS i.m 0/\zD l.m.s=yS i.m 1/\af (zT l.m.used)=yS i.m 2/\aa 1 (iE l.m.p.months)=yS i.m 3/\aa 1 (iE l.m.p.settle)=yS i.m 4)) (((ao xJ (i.out d)).length+1)*(64:Nat)<=(140737488355328:Nat)/\∃(e:MiN),e.inst=i.c.inst/\sb e.m.p.code=sb i.m.p.code/\e.m.p.tick=i.m.p.tick/\e.m.p.low=i.m.p.low/\e.m.p.high=i.m.p.high/\e.m.p.wide=i.m.p.wide/\e.m.p.rule=i.m.p.rule/\e.m.p.top=i.m.p.top/\e.m.p.least=i.m.p.least/\e.m.p.part=i.m.p.part/\zD e.m.s=yS i.m 1/\zT e.m.used=zT i.m.used/\aa 1 (iE e.m.p.months)=yS i.m 3/\aa 1 (iE e.m.p.settle)=yS i.m 4/\(zAn e)/\∀(f:Unit),True->cnd (e.m.p.legs e.inst).snd.snd (∃(g:MpI),g.inst=i.c.inst/\g.x.price=i.x.price/\g.x.qty=i.x.qty/\g.x.implied=i.x.implied/\ao yR g.x.fills=ao yR i.x.fills/\sb g.m.p.code=sb e.m.p.code/\g.m.p.tick=e.m.p.tick/\g.m.p.low=e.m.p.low/\g.m.p.high=e.m.p.high/\g.m.p.wide=e.m.p.wide/\g.m.p.rule=e.m.p.rule/\g.m.p.top=e.m.p.top/\g.m.p.least=e.m.p.least/\g.m.p.part=e.m.p.part/\zD g.m.s=zD e.m.s/\zT g.m.used=zT e.m.used/\aa 1 (iE g.m.p.months)=aa 1 (iE e.m.p.months)/\aa 1 (iE g.m.p.settle)=aa 1 (iE e.m.p.settle)/\(zAd g)/\∀(h:Unit),True->∃(j:MsI),j.r.kind=3/\j.r.id=i.c.id/\j.r.inst=i.c.inst/\j.r.side=i.c.side/\j.r.price=i.x.price/\j.r.qty=i.x.qty/\j.r.left=i.left/\j.r.why=0/\j.near=(x6 g).fst/\j.far=(x6 g).snd/\sb j.m.p.code=sb g.m.p.code/\j.m.p.tick=g.m.p.tick/\j.m.p.low=g.m.p.low/\j.m.p.high=g.m.p.high/\j.m.p.wide=g.m.p.wide/\j.m.p.rule=g.m.p.rule/\j.m.p.top=g.m.p.top/\j.m.p.least=g.m.p.least/\j.m.p.part=g.m.p.part/\zD j.m.s=zD g.m.s/\zT j.m.used=zT g.m.used/\aa 1 (iE j.m.p.months)=aa 1 (iE g.m.p.months)/\aa 1 (iE j.m.p.settle)=aa 1 (iE g.m.p.settle)/\(zBl j)/\∀(k:Unit),True->True/\((ao xJ (i.out d)++[[dI 3,dI i.c.id,dI i.c.inst,dI i.c.side,dI i.x.price,dI i.x.qty,dI i.left,dI 0]]).length+2)*(64:Nat)<=(140737488355328:Nat)/\∃(l:Unit),sb i.m.p.code=sb j.m.p.code/\i.m.p.tick=j.m.p.tick/\i.m.p.low=j.m.p.low/\i.m.p.high=j.m.p.high/\i.m.p.wide=j.m.p.wide/\i.m.p.rule=j.m.p.rule/\i.m.p.top=j.m.p.top/\i.m.p.least=j.m.p.least/\i.m.p.part=j.m.p.part/\zD i.m.s=zD j.m.s/\zT i.m.used=zT j.m.used/\aa 1 (iE i.m.p.months)=aa 1 (iE j.m.p.months)/\aa 1 (iE i.m.p.settle)=aa 1 (iE j.m.p.settle)/\ao xJ (nN i.m.p i.c i.x i.left)=ao xJ (i.out d)++[[dI 3,dI i.c.id,dI i.c.inst,dI i.c.side,dI i.x.price,dI i.x.qty,dI i.left,dI 0]]++[xJ (gP j),xJ (gO j)]/\True) (∃(g:Unit),sb i.m.p.code=sb e.m.p.code/\i.m.p.tick=e.m.p.tick/\i.m.p.low=e.m.p.low/\i.m.p.high=e.m.p.high/\i.m.p.wide=e.m.p.wide/\i.m.p.rule=e.m.p.rule/\i.m.p.top=e.m.p.top/\i.m.p.least=e.m.p.least/\i.m.p.part=e.m.p.part/\zD i.m.s=zD e.m.s/\zT i.m.used=zT e.m.used/\aa 1 (iE i.m.p.months)=aa 1 (iE e.m.p.months)/\aa 1 (iE i.m.p.settle)=aa 1 (iE e.m.p.settle)/\ao xJ (nN i.m.p i.c i.x i.left)=ao xJ (i.out d)++[[dI 3,dI i.c.id,dI i.c.inst,dI i.c.side,dI i.x.price,dI i.x.qty,dI i.left,dI 0]]/\True))
def z1b:rejC.ok Tryz.prog 137:=okw (V:=yZc) mixed gok0 0 (λ_=>[]) (λ_=>[]) [] Tryz.func137 λ(i:RjI) _=>⟨(),rfl,trivial⟩
def yFr (i:MsI) (h:mspreadC.cnd i):zVc i:=by
 obtain⟨⟨hc,hp⟩,hs⟩:i.m.fine/\(i.r.side=1\/i.r.side=2):=h;have hw:aj.wrap (3-i.r.side)=3-i.r.side:=w64 oM;unfold zVc sX gP gO vU wH wE dI;rw[hw];refine⟨⟨i.m.p,i.r.inst⟩,rF8 (rF3 ⟨rfl,hp,λ_ _=> ?_⟩)⟩;exact kp
def z1h:mspreadC.ok Tryz.prog 195:=okw mixed (gokc tY gok0) 0 (λ_=>[]) (λ_=>[]) [] Tryz.func195 yFr
def yRn:misC.ok Tryz.prog 193:=okw (V:=y0r) mixed (gokc tY gok0) 0 (λ_=>[]) (λ_=>[]) [] Tryz.func193 λ(i:MiN) h=>by
 obtain⟨hc,hp⟩:i.m.fine:=h;exact⟨⟨i.m.p,i.inst⟩,rF8 (rF3 ⟨rfl,hp,λ_ _=>kp⟩)⟩
def yUz {l:List dF} {k:Nat} {f:dF} (h:l[k]? =av f):zE (l.map yR) k 0 6=av [D.v (.int .i64 f.id),D.v (.int .i64 f.inst),D.v (.int .i64 f.side),D.v (.int .i64 f.price),D.v (.int .i64 f.qty),D.v (.int .i64 f.left)]:=elA h (by simp[yR]) rfl
def vof (i:OfI) (h:ofC.cnd i):Vof i:=by
 have hl:i.x.fills.length<=1000000:=h;have e4:(i.x.fills.map yR).length=i.x.fills.length:=y0z ..;unfold Vof zUe dI;refine⟨0,rfl,λj=>j<=i.x.fills.length/\(i.x.fills.take j).find? (λf=>decide (f.inst=i.k))=aw,λj=>i.x.fills.length-j,⟨y2a _,rfl⟩,?_⟩;rintro j ⟨j1,j2⟩;refine zH (λc=> ?_) (λc=> ?_)
 ·obtain⟨f,hf⟩:=yE (l:=i.x.fills) (i:=j) oM;refine⟨⟨oM,oM⟩,_,_,_,_,_,_,yUz hf,Cv.cnd.mk (λg=>⟨(),?_,k0q⟩) (λg=>⟨j+1,wjn oM,⟨oM,?_⟩,Z9,k0q⟩)⟩
  ·have g:f.inst=i.k:=by simpa using g
   have e:i.x.fills.find? (λf=>decide (f.inst=i.k))=av f:=by
    rw[<- y3s j i.x.fills,List.find?_append,j2,y3f (by omega),(y1c.1 hf).2,List.find?_cons_of_pos (by simpa using g)];rfl
   rw[ofF,e]
  ·have g:¬f.inst=i.k:=by simpa using g
   rw[y2e,hf,List.find?_append,j2];simp[g]
 ·have:j=i.x.fills.length:=by omega
  rw[this,y1k (y1u _)]at j2;exact⟨(),by rw[ofF,j2],k0q⟩
def yUf:ofC.ok Tryz.prog 202:=okw mixed gok0 0 (λ_=>[]) (λ_=>ofA) [] Tryz.func202 vof
def yCw (i:MpI) (h:mpricesC.cnd i):zXb i:=by
 obtain⟨⟨hc,hp⟩,hpr,hl⟩:i.m.fine/\y9 i.x.price/\i.x.fills.length<=1000000:=h;unfold zXb x6 pA yV wE;refine Cv.cnd.mk (λe=> ?_) (λe=> ?_)
 ·have e:i.x.implied=ap:=by simpa using e
  have h0:j0 i.m.p i.inst i.x=((gX i.m.p i.inst i.x.price).1,(gX i.m.p i.inst i.x.price).2.1):=by rw[j0,y1a e]
  rw[h0];exact⟨⟨i.m.p,i.inst,i.x.price⟩,rF8 (rF4 ⟨rfl,⟨hc,hp,hpr⟩,λ_ _=>kp⟩)⟩
 ·have e:¬i.x.implied=ap:=by simpa using e
  have h0:j0 i.m.p i.inst i.x=(ofF i.x (i.m.p.legs i.inst).1,ofF i.x (i.m.p.legs i.inst).2.1):=by rw[j0,y0y e]
  rw[h0];exact⟨⟨i.m.p,i.inst⟩,rF8 (rF3 ⟨rfl,hp,λ_ _=>⟨⟨i.x,(i.m.p.legs i.inst).1⟩,rF4 ⟨rfl,hl,λ_ _=>⟨⟨i.x,(i.m.p.legs i.inst).2.1⟩,rF4 ⟨rfl,hl,λ_ _=>kp⟩⟩⟩⟩⟩)⟩
def z0b:mpricesC.ok Tryz.prog 194:=okw mixed (gokc tY (gokc z1r (gokc yUf gok0))) 0 (λ_=>[]) (λ_=>[]) [] Tryz.func194 yCw
def zLq (p:Prd) (x:jT) (r:Rep):(rW p x r).length<=3:=by
 rw[rW,y1d];split
 ·rw[zJh];simp
 ·simp
def z3m {p:Prd} {x:jT} {r:Rep} (h:(p.legs r.inst).2.2=ap):rW p x r=[r]:=by
 rw[rW,y0y (by rw[h];decide)]
def zVq {p:Prd} {x:jT} {r:Rep} (h:(p.legs r.inst).2.2=aq):rW p x r=r::zJh p r (j0 p r.inst x).1 (j0 p r.inst x).2:=by
 rw[rW,y1a h]
def StI'.out_len (i:StI'):∀j,(i.out j).length<=3*j
 |0=>y1u _
 |j+1=>by
  have ih:=StI'.out_len i j;rw[StI'.out]at ih ⊢;rw[y2e,y2u,y0x];cases e:i.x.fills[j]? with
  |none=>simp only[Option.toList_none,y5y,y2r];omega
  |some f=>
   have:=zLq i.m.p i.x (zCt f);simp only[y3z,y2q,y5y,y1t];omega
def StI'.out_succ (i:StI') {j:Nat} {f:dF} (h:i.x.fills[j]? =av f):i.out (j+1)=i.out j++rW i.m.p i.x (zCt f):=by
 rw[StI'.out,StI'.out,y2e,y2u,h];simp
def yTh (i:StI') (h:mstepC.cnd i):yBt i:=by
 obtain⟨hf,hpr,hl,hcs,hfs⟩:i.m.fine/\y9 i.x.price/\i.x.fills.length<=1000000/\(i.c.side=1\/i.c.side=2)/\∀f∈i.x.fills,f.side=1\/f.side=2:=h;have e4:(i.x.fills.map yR).length=i.x.fills.length:=y0z ..;unfold yBt b7 zAn zBl zAd gP gO x6 dI;refine⟨0,rfl,rfl,λj=>j<=i.x.fills.length,λj=>i.x.fills.length-j,y2a _,?_⟩;intro j hj;have ho:=i.out_len j;have e5:((i.out j).map xJ).length=(i.out j).length:=y0z ..;refine zH (λc=> ?_) (λc=> ?_)
 ·obtain⟨f,hfj⟩:=yE (l:=i.x.fills) (i:=j) oM;have hos:=i.out_succ hfj;have hfj2:=hfs f (y1j hfj);refine⟨⟨oM,oM⟩,_,_,_,_,_,_,yUz hfj,oM,⟨i.m,f.inst⟩,rfl,rfl,rfl,rfl,rfl,rfl,rfl,rfl,rfl,rfl,rfl,rfl,rfl,rfl,hf,λ_ _=>Cv.cnd.mk (λe=> ?_) (λe=> ?_)⟩
  ·have e:(i.m.p.legs (zCt f).inst).2.2=aq:=e;rw[zVq e]at hos;refine⟨⟨i.m,f.inst,i.x⟩,rF8 (rF6 (rF3 ⟨rfl,⟨hf,hpr,hl⟩,λ_ _=>⟨⟨i.m,zCt f,(j0 i.m.p f.inst i.x).1,(j0 i.m.p f.inst i.x).2⟩,rF8 (rF8 (rF6 ⟨rfl,⟨hf,hfj2⟩,λ_ _=>⟨trivial,by rw[y0x,e5];simp only[y1d,y2r];omega,j+1,wjn oM,?_,oM,Z9,k0q⟩⟩))⟩⟩))⟩;rw[hos,y1i,y1e];rfl
  ·have e:(i.m.p.legs (zCt f).inst).2.2=ap:=e;rw[z3m e]at hos;refine⟨j+1,wjn oM,?_,oM,Z9,k0q⟩;rw[hos,y1i];rfl
 ·have hj:j=i.x.fills.length:=by omega
  have ho2:i.x.fills.flatMap (λf=>rW i.m.p i.x (zCt f))=i.out j:=by rw[StI'.out,hj,y1k (y1u _)]
  have hR:nN i.m.p i.c i.x i.left=i.out j++rW i.m.p i.x ⟨3,i.c.id,i.c.inst,i.c.side,i.x.price,i.x.qty,i.left,0⟩:=by rw[nN,ho2]
  refine⟨oM,⟨i.m,i.c.inst⟩,rF8 (rF5 ⟨rfl,hf,λ_ _=>Cv.cnd.mk (λe=> ?_) (λe=> ?_)⟩)⟩
  ·have e:(i.m.p.legs (⟨3,i.c.id,i.c.inst,i.c.side,i.x.price,i.x.qty,i.left,0⟩:Rep).inst).2.2=aq:=e;rw[zVq e]at hR;refine⟨⟨i.m,i.c.inst,i.x⟩,rF8 (rF6 (rF3 ⟨rfl,⟨hf,hpr,hl⟩,λ_ _=>⟨⟨i.m,⟨3,i.c.id,i.c.inst,i.c.side,i.x.price,i.x.qty,i.left,0⟩,(j0 i.m.p i.c.inst i.x).1,(j0 i.m.p i.c.inst i.x).2⟩,rF8 (rF8 (rF6 ⟨rfl,⟨hf,hcs⟩,λ_ _=>⟨trivial,by rw[y0x,e5];simp only[y1d,y2r];omega,?_⟩⟩))⟩⟩))⟩;rw[hR,y1i,y1e];exact kp
  ·have e:(i.m.p.legs (⟨3,i.c.id,i.c.inst,i.c.side,i.x.price,i.x.qty,i.left,0⟩:Rep).inst).2.2=ap:=e;rw[z3m e]at hR;rw[hR,y1i];exact kp
def yCt:mstepC.ok Tryz.prog 185:=okw mixed (gokc yRn (gokc z0b (gokc z1h gok0))) 1 (λ_=>[]) (λi=>yRz i) [] Tryz.func185 yTh
structure EnI where
 m:Mkt
 p:Prd
 B:List (List zG)
 U:List Int
 c:Cmd
 X:MkX
@[reducible] def EnI.std (i:EnI):Prop:=i.m.Rep i.p i.B i.U/\BOk i.p i.B
@[reducible] def EnI.good (i:EnI):Prop:=(0<=i.c.inst/\i.c.inst<i.B.length)/\(1<=i.c.qty/\i.c.qty<=1000000)/\(i.c.side=1\/i.c.side=2)
@[reducible] def zXw (X:MkX) (p:Prd):Alt:={o:=Mkt,res:=λ_=> .own 5,post:=λo=>lU o++[z1y X.R],rel:=λo=>o.Rep p X.B X.U}
def enterC:Con where
 ι:=EnI
 pat:=λi=>[.nm 0 0,zIi i.c]
 pre:=λi=>lU i.m
 cnd:=λi=>i.std/\i.good/\i.p.price i.c.inst i.c.price=0/\i.X=mC i.p i.B i.U i.c
 alts:=λi=>[zXw i.X i.p]
structure EnJ where
 left:Int
 k:Nat
 out:List Rep
def yQg (i:EnI):List SAnn:=[{ι:=EnJ,slots:=λj=>[(5,.own 0),(8,zA j.left),(51,zA j.k)],rows:=λj=>[z1y j.out]}]
def orderC:Con where
 ι:=EnI
 pat:=λi=>[.nm 0 0,zIi i.c]
 pre:=λi=>lU i.m
 cnd:=λi=>i.std/\i.c.right=0/\i.c.kind=1/\i.X=nX i.p i.B i.U i.c
 alts:=λi=>[zXw i.X i.p]
def ySi:List (Nat×SAnn):=[(22,ij 6),(44,bj 47),(52,bj 69)]
structure CaI where
 m:Mkt
 p:Prd
 B:List (List zG)
 U:List Int
 id:Int
 q:Int
 inst:Int
 o:zG
 X:MkX
@[reducible] def CaI.std (i:CaI):Prop:=i.m.Rep i.p i.B i.U/\BOk i.p i.B
def cancelC:Con where
 ι:=CaI
 pat:=λi=>[.nm 0 0,zA i.id,zA i.inst,z0x i.o]
 pre:=λi=>lU i.m
 cnd:=λi=>i.std/\i.X=gI i.B i.U i.id i.inst i.o
 alts:=λi=>[zXw i.X i.p]
def reduceC:Con where
 ι:=CaI
 pat:=λi=>[.nm 0 0,zA i.id,zA i.q,zA i.inst,z0x i.o]
 pre:=λi=>lU i.m
 cnd:=λi=>i.std/\y9 (i.o.qty-i.q)/\i.X=pV i.B i.U i.id i.q i.inst i.o
 alts:=λi=>[zXw i.X i.p]
structure z6x where
 m:Mkt
 p:Prd
 B:List (List zG)
 U:List Int
 c:Cmd
 inst:Int
 o:zG
 X:MkX
def replaceC:Con where
 ι:=z6x
 pat:=λi=>[.nm 0 0,zIi i.c,zA i.inst,z0x i.o]
 pre:=λi=>lU i.m
 cnd:=λi=>i.m.Rep i.p i.B i.U/\BOk i.p i.B/\zP i.B i.c.id=(i.inst,i.o,aq)/\(1<=i.c.qty/\i.c.qty<=1000000)/\i.X=dD i.p i.B i.U i.c i.inst i.o
 alts:=λi=>[zXw i.X i.p]
def doC:Con where
 ι:=EnI
 pat:=λi=>[.nm 0 0,zIi i.c]
 pre:=λi=>[qR i.m]
 cnd:=λi=>i.std/\i.c.label.length<=140737488355328/\y9 i.c.qty/\i.X=doF i.p i.B i.U i.c
 alts:=λi=>[{o:=Mkt,res:=λ_=> .own 1,post:=λo=>[qR o,z1y i.X.R],rel:=λo=>o.Rep i.p i.X.B i.X.U}]
structure MfI where
 m:Mkt
 p:Prd
 B:List (List zG)
 U:List Int
 id:Int
def mfindC:Con:=zR MfI (λi=>[.nm 0 0,zA i.id]) (λi=>[qR i.m]) (λi=>i.m.Rep i.p i.B i.U/\BOk i.p i.B) (λi=> .tup [zA (zP i.B i.id).1,z0x (zP i.B i.id).2.1,yT (zP i.B i.id).2.2]) (λi=>[qR i.m])
end Sx
