/- Texts of ours. No condition. -/
import Derived.Shelf.Spec.SlicesGrow
import Derived.Test.YtaafldgiafcgfaaGreatE9
set_option linter.all false
open Sx.AObj renaming fro->aa,cells->ab,adt->ac,objs->ae,map->af,own->ag
open Go.IntKind renaming i64->aj,u8->ak
open List renaming map->am,drop_take->ao
open Bool renaming false->ap,true->aq
open Go.Builtin renaming zeroCells->ar
open Option renaming some->au,none->av
open ByteArray renaming mk->aw
open BitVec renaming ofInt->ax
open Go.Value renaming string->ay
open Go renaming grownCap->az,TypeId->ba,size_zeroCells->bc
namespace Sx
set_option maxRecDepth 100000
open Go Cv Go.Proofs
def growR:Go.Shelf.Ren:=⟨λx=>if x=4 then 100 else x,λx=>if x=22 then 32 else if x=25 then 5 else x,λx=>x⟩
def y1z:Lays8.n4 Tryz.prog growR where
 mixed:=mixed
 f4:=⟨Tryz.f100.name,by decide+kernel,by kernel_rfl⟩
 t0:=by kernel_rfl
 a0:=λ_=>by kernel_rfl
 z0:=λ_=>by kernel_rfl
 v0:=λ_=>by kernel_rfl
 t3:=by kernel_rfl
 a3:=λ_=>by kernel_rfl
 z3:=λ_=>by kernel_rfl
 v3:=λ_=>by kernel_rfl
 t4:=by kernel_rfl
 a4:=λ_=>by kernel_rfl
 z4:=λ_=>by kernel_rfl
 v4:=λ_=>by kernel_rfl
 t9:=by kernel_rfl
 a9:=λ_=>by kernel_rfl
 z9:=λ_=>by kernel_rfl
 v9:=λ_=>by kernel_rfl
 t20:=by kernel_rfl
 a20:=λ_=>by kernel_rfl
 z20:=λ_=>by kernel_rfl
 v20:=λ_=>by kernel_rfl
 t22:=by kernel_rfl
 a22:=λ_=>by kernel_rfl
 z22:=λ_=>by kernel_rfl
 v22:=λ_=>by kernel_rfl
def yYz:vT Tryz.prog 32=au (5,1,1,#[.int .u8 0]):=by kernel_rfl
def yMx:growC.ok Tryz.prog 100:=by
 intro(n:Nat) hc k L E w ys R hv;obtain⟨c1,c2⟩:1<=n/\n<=1099511627776:=hc;simp only[growC,con1,VRL,VR,DR]at hv;obtain⟨_,_,rfl,⟨rfl,_⟩,_,_,rfl,⟨rfl,_⟩,rfl⟩:=hv;obtain⟨inf,zv,q1,q2,q3,q4,q5,q6⟩:=kM yYz;have hcall:=Any8.slices_Grow_grow y1z inf zv q2 q5 oM av 0 0 n [] w (y6v _) oM (by rw[q4];omega) oM (by simp) (λ_=>rfl) (λa h=>by cases h);rw[show growR.t 25=5 from rfl]at hcall;refine aC (by kernel_rfl) (hcall.mono ?_);rintro en w' ⟨rfl,rfl⟩;have hG:=grownCap_ge w (0+n) 0 5;have H:=((R.hp.drew).new (.cells (([]:List Value).toArray++ar zv.cells (0+n-0)++ar zv.cells (az w (0+n) 0 5-(0+n))) 5))
 have ha:(([]:List Value).toArray++ar zv.cells (0+n-0)++ar zv.cells (az w (0+n) 0 5-(0+n)))=([]++((ar zv.cells (0+n-0)).toList++(ar zv.cells (az w (0+n) 0 5-(0+n))).toList)).toArray:=by
  apply Array.ext';simp
 have hz:zv.cells.size=1:=by rw[q6];rfl
 have hl:([]++((ar zv.cells (0+n-0)).toList++(ar zv.cells (az w (0+n) 0 5-(0+n))).toList)).length=az w (0+n) 0 5*1:=by
  rw[y8s,y5y,y9w,y9w,bc,bc,hz];omega
 rw[ha]at H ⊢;have H3:=H.slmk (n:=0) (sz:=1) (by simp) hl (y7e _);obtain⟨E',r1,r2,r3⟩:=cO (rows:=[]) (els:=[]) (nx:=0) R.nx (by simp[DRL]) (λx hx=>by cases hx) H3;exact⟨_,rfl,_,y7q.2 rfl,(),trivial,E',r1,r3,⟨r2.nx,r2.hp⟩⟩
def z2k {ls:List (List UInt8)} {k:Nat} {l:List UInt8} (h:ls[k]? =au l):zE (ls.map rcE) k 0 1=au [D.ro 1 (bE l)]:=elA h (by simp[rcE]) rfl
def sA {α:Type} {ls:List (List α)} {k:Nat} {l:List α} (h:ls[k]? =au l):(ls.take (k+1)).flatten=(ls.take k).flatten++l:=by
 rw[y7h,h,y9b,xAy];simp
def z7v {α:Type} (ls:List (List α)) (k:Nat):(ls.take k).flatten.length<=ls.flatten.length:=by
 conv=>rhs;rw[<- y8f k ls,xAy,y5y]
 omega
def y0t (ls:List (List UInt8)) (h:flatC.cnd ls):z8h ls:=by
 obtain⟨h1,h2,h3⟩:1<=ls.flatten.length/\ls.flatten.length<=1099511627776/\ls.length<=1000:=h;unfold z8h bQ kT;rw[y5z];refine⟨0,rfl,rfl,λk=>k<=ls.length,λk=>ls.length-k,y7e _,λk hk=>zI (λhlt=> ?_) (λhlt=> ?_)⟩
 ·obtain⟨l,hl⟩:=yC (l:=ls) (i:=k) oM;have hk:k<=ls.length:=hk;have e1:=z7v ls (k+1);rw[sA hl,y5y]at e1;refine⟨⟨oM,oM⟩,bE l,z2k hl,zI (λc=> ?_) (λ_=>⟨k+1,?_,wjn oM,Z9,Z9,trivial⟩)⟩
  ·rw[xC,w64 (by omega)]at c;omega
  ·rw[sA hl,y5y,xC,w64 (by omega)];simp
 ·obtain rfl:k=ls.length:=by have hk:k<=ls.length:=hk;omega
  rw[y8x];refine⟨ls.flatten.length,trivial,rfl,⟨h1,h2⟩,λ_ _=>⟨0,rfl,rfl,λk=>k<=ls.length,λk=>ls.length-k,y7e _,λk hk=>zI (λhlt=> ?_) (λhlt=> ?_)⟩⟩
  ·obtain⟨l,hl⟩:=yC (l:=ls) (i:=k) oM;have hk:k<=ls.length:=hk;have e1:=z7v ls (k+1);rw[sA hl,y5y]at e1;refine⟨⟨oM,oM⟩,bE l,z2k hl,by rw[xC,xC];omega,k+1,wjn oM,by rw[sA hl,zVk],Z9,Z9,trivial⟩
  ·obtain rfl:k=ls.length:=by have hk:k<=ls.length:=hk;omega
   rw[y8x];exact⟨(),rfl,trivial⟩
def z7a:flatC.ok Tryz.prog 43:=yWi (gokc yMx gok0) y0t
def z7u:dnewC.ok Tryz.prog 32:=okw (V:=y2g) mixed gok0 0 (λ_=>[]) (λ_=>[]) [] Tryz.func32 λ(_:Unit) _=>⟨(),rfl,rfl,trivial⟩
def yQl:dappC.ok Tryz.prog 33:=okw (V:=ySs) mixed gok0 0 (λ_=>[]) (λ_=>[]) [0] Tryz.func33 λ(i:DbI) h=>by
 have h:i.d.b.length+i.l.length<=1048576:=h;unfold ySs;rw[xC,xC];refine zI (λc=> ?_) (λ_=>⟨oM,(),rfl,rfl,zVk _ _,trivial⟩);rw[w64 (by omega)]at c;omega
def yMu:dbytC.ok Tryz.prog 106:=okw (V:=y2n) mixed (gokc zNr gok0) 0 (λ_=>[]) (λ_=>[]) [0] Tryz.func106 λ(d:Dk) h=>by
 obtain⟨h1,h2⟩:d.ok:=h;exact⟨_,rfl,by rw[xC];omega,λ_ _=>⟨(),rF3 trivial⟩⟩
def z1y:cloneBN.ok Tryz.prog 116:=yAu gok0 λi h=>λb hb=>
 Cv.cnd.mk (λe=>⟨(),hb e,trivial⟩) (λ_=>⟨by rw[y6x,Nat.mul_one];exact h,(),rfl,trivial⟩)
def yOd:dswpC.ok Tryz.prog 108:=okw (V:=ySl) mixed (gokc z1y gok0) 0 (λ_=>[]) (λ_=>[]) [0] Tryz.func108 λ(i:DbI) h=>by
 have h:i.l.length<=1048576:=h;unfold ySl;refine zI (λc=> ?_) (λ_=>⟨_,rfl,by rw[xC];omega,λ_ _=>⟨(),rfl,by rw[xC],rfl,trivial⟩⟩);rw[xC]at c;omega
def y1n:∀n:Fin 256,lob (aj.wrap (ax aj.bits (if aj.signed=aq then(-1:Int)else aj.max) ^^^ ax aj.bits (n.val:Int)).toNat)=UInt8.ofNat (255-n.val):=by decide+kernel
def y4u:∀n:Fin 256,ak.wrap (ax ak.bits (if ak.signed=aq then(-1:Int)else ak.max) ^^^ ax ak.bits (n.val:Int)).toNat=255-(n.val:Int):=by decide+kernel
def dQ (l:List UInt8):(kF l).length=l.length+6:=by
 simp only[kF,y6d,y5y,xV]
def yVg (l:List UInt8) (h:frameC.cnd l):yGr l:=by
 have h:l.length<=255:=h;have hn:=y1n ⟨l.length,oM⟩;dsimp only at hn;unfold yGr;rw[xC];revert hn;generalize aj.wrap (ax aj.bits (if aj.signed=aq then(-1:Int)else aj.max) ^^^ ax aj.bits (l.length:Int)).toNat=X;intro hn;refine zI (λc=>by omega) (λ_=>⟨(),trivial,λ_ _=>⟨⟨[],l.length⟩,rfl,rfl,by simp[WN.ok],λ_ _=>⟨⟨_,_⟩,rfl,rfl,by simp[WN.ok],λ_ _=>⟨?_,l,rfl,oM,λ_ _=>⟨⟨_,mB l⟩,rfl,zVk _ _,⟨?_,tT l⟩,λ_ _=>⟨_,rfl,?_,λ_ _=>⟨(),rfl,?_,trivial⟩⟩⟩⟩⟩⟩⟩)
 ·rw[xC];simp;omega
 ·dsimp only;simp;omega
 ·dsimp only;simp[xV];omega
 ·dsimp only;rw[hn,kF];simp
def yGg:frameC.ok Tryz.prog 99:=okw mixed (gokc zUn (gokc zLm (gokc z5w (gokc yFx (gokc zVd gok0))))) 0 (λ_=>yUg) (λ_=>[]) [] Tryz.func99 yVg
def yGp {c:Int} (h:0<=c/\c<4294967296):qL (le c 4)=c:=by
 simp only[le,qL,yMi];omega
def zSi {l:List UInt8} (h:l.length<=255) (r:List UInt8):zCd (kF l++r)=(l,6+l.length,0):=by
 have h0:((kF l++r).getD 0 0).toNat=l.length:=by
  have:=zZd (n:=(l.length:Int)) oM;show(lob (l.length:Int)).toNat=l.length;omega
 have h1:((kF l++r).getD 1 0).toNat=255-l.length:=by
  show(UInt8.ofNat (255-l.length)).toNat=_;exact UInt8.toNat_ofNat_of_lt' (by
                                     have:255-l.length<256:=by omega
                                     simpa using this)
 have h2:(kF l++r).drop 2=l++(le (mB l) 4++r):=by
  show(l++le (mB l) 4)++r=_;rw[y6f]
 have h3:(kF l++r).drop (2+l.length)=le (mB l) 4++r:=by
  rw[<- y9j,h2,List.drop_left]
 unfold zCd;rw[h0,h1,h2,h3,xCg,List.take_left' (xV 4 _),yGp (tT l)];rw[y5x (by rw[y5y,dQ];omega),y5x (by omega),y5x (by rw[y5y,dQ];omega),y5x (by simp)]
def y3x (i:OpI) (h:wopC.cnd i):y2m i:=by
 obtain⟨h1,h2⟩:i.k<=i.b.length/\i.b.length<=1099511627776:=h;have ex:i.x=zCd (i.b.drop i.k):=rfl;have hll:(i.b.drop i.k).length<=1099511627776:=by rw[y6u];omega
 have bad:∀e:Int,e≠0->i.x.2.2=e->∀{A:Prop},A\/∃o:Unit,True/\(0:Int)=0/\i.x.2.2=e/\(i.x.2.2=0->False):=λe he hx=> .inr ⟨(),trivial,rfl,hx,λh=>he (hx▸h)⟩
 unfold y2m eJ zEk zMb fP cN aJ zMs;rw[y6r,<- zFh,xC i.b];generalize i.b.drop i.k=l at*;rw[xC l];refine zI (λc=>by omega) (λ_=>⟨⟨oM,oM⟩,zI (λc=>bad 10 Z8 (by rw[ex,zCd,y6a (by omega)])) (λc=> ?_)⟩);obtain⟨a,ha⟩:∃a,l[0]? =au a:=⟨_,y6z oM⟩
 obtain⟨b,hb⟩:∃b,l[1]? =au b:=⟨_,y6z oM⟩
 have ea:l.getD 0 0=a:=by rw[y6h,ha];rfl
 have eb:l.getD 1 0=b:=by rw[y6h,hb];rfl
 have la:=a.toNat_lt;have hn:=y4u ⟨a.toNat,la⟩;dsimp only at hn;refine⟨⟨oM,oM⟩,b.toNat,dN hb,⟨oM,oM⟩,a.toNat,dN ha,?_⟩;rw[hn];have wa:aj.wrap (a.toNat:Int)=a.toNat:=w64 oM;have w2:aj.wrap ((2:Int)+a.toNat)=2+a.toNat:=w64 oM;have w3:aj.wrap ((2:Int)+a.toNat+4)=2+a.toNat+4:=w64 oM;have w4:aj.wrap ((i.k:Int)+(2+a.toNat))=i.k+(2+a.toNat):=w64 oM;have w5:aj.wrap ((i.k:Int)+(2+a.toNat)+4)=i.k+(2+a.toNat)+4:=w64 oM;have t1:((2:Int)+a.toNat).toNat=2+a.toNat:=by omega
 have t2:((2:Int)+a.toNat+4).toNat=2+a.toNat+4:=by omega
 refine Cv.cnd.mk (λc2=>bad 14 Z8 ?_) (λc2=>⟨⟨oM,oM⟩,a.toNat,dN ha,?_⟩)
 ·have c2:¬((b.toNat:Int)=255-a.toNat):=by simpa using c2
  rw[ex,zCd,y5x (by omega),ea,eb,y6a (by omega)]
 have c2:(b.toNat:Int)=255-a.toNat:=by simpa using c2
 rw[wa,w2,w3,w4,w5,t1,t2,show Int.toNat 2=2 from rfl];refine zI (λc3=>bad 10 Z8 ?_) (λc3=> ?_)
 ·rw[ex,zCd,y5x (by omega),ea,eb,y5x (by omega),y6a (by omega)]
 have l1:((l.take (2+a.toNat+4)).drop (2+a.toNat)).length=4:=by rw[y6u,y6t];omega
 have g1:(l.take (2+a.toNat+4)).drop (2+a.toNat)=(l.drop (2+a.toNat)).take 4:=by rw[ao];congr 1;omega
 have g2:(l.take (2+a.toNat)).drop 2=(l.drop 2).take a.toNat:=by rw[ao];congr 1;omega
 have g3:RN.got ⟨(l.take (2+a.toNat+4)).drop (2+a.toNat),ap,4⟩=(l.drop (2+a.toNat)).take 4:=by
  rw[RN.got,y5x (by simp only[RN.bad,l1];decide)];dsimp only;rw[y6k (by omega),g1]
 have l2:((l.drop 2).take a.toNat).length=a.toNat:=by rw[y6t,y6u];omega
 refine⟨⟨oM,oM,oM⟩,(l.take (2+a.toNat+4)).drop (2+a.toNat),by rw[zFh,zEc],oM,λ_ _=>⟨⟨oM,oM,oM⟩,⟨_,ap,4⟩,rfl,rfl,⟨Z9,Z9⟩,λ_ _=>⟨(l.take (2+a.toNat)).drop 2,by rw[zFh,zEc],by rw[g2];omega,λ_ _=> ?_⟩⟩⟩;rw[g2,g3];have hr:=mF ((l.drop (2+a.toNat)).take 4);have hl4:((l.drop (2+a.toNat)).take 4).length=4:=by rw[<- g1];exact l1
 rw[hl4]at hr;rw[y1i (by omega)];refine Cv.cnd.mk (λc4=>bad 14 Z8 ?_) (λc4=> ?_)
 ·rw[ex,zCd,y5x (by omega),ea,eb,y5x (by omega),y5x (by omega),y6a (by simpa using c4)]
 have ex2:i.x=((l.drop 2).take a.toNat,6+a.toNat,0):=by
  rw[ex,zCd,y5x (by omega),ea,eb,y5x (by omega),y5x (by omega),y5x (by simpa using c4)]
 rw[ex2,<- zEc,<- zFh,g2,xC,l2];exact⟨⟨oM,oM,oM⟩,oM,.inl ⟨(),Z9,rfl,rfl,rfl⟩⟩
def yUm:wopC.ok Tryz.prog 145:=okw mixed (gokc z6b (gokc z3v (gokc z5w gok0))) 0 (λ_=>[]) (λ_=>[]) [] Tryz.func145 y3x
def yMc (A B:List (List UInt8)):fsB (A++B)=fsB A++fsB B:=by rw[fsB,y7w];rfl
def zPr (l:List UInt8) (L:List (List UInt8)):fsB (l::L)=kF l++fsB L:=rfl
def yGm {L:List (List UInt8)} {k:Nat} {l:List UInt8} (h:L[k]? =au l):fsB (L.take (k+1))=fsB (L.take k)++kF l:=nS h
def zTv (L:List (List UInt8)) (k:Nat):fsB L=fsB (L.take k)++fsB (L.drop k):=by rw[<- yMc,y8f]
def z9z (L:List (List UInt8)):L.length<=(fsB L).length:=by
 induction L with
 |nil=>exact y6v _
 |cons l L ih=>rw[zPr,y5y,dQ,y6d];omega
def y1t (i:ScI) (h:scanC.cnd i):yQx i:=by
 obtain⟨h1,h2,h3⟩:i.ok:=h;have hn:=z9z i.L;have hsp:∀k,(fsB i.L).length=(fsB (i.L.take k)).length+(fsB (i.L.drop k)).length:=λk=>by
  have:=congrArg List.length (zTv i.L k);rwa [y5y]at this
 unfold yQx zIb fJ;rw[xC,y5y];refine⟨0,rfl,rfl,λk=>k<=i.L.length,λk=>i.L.length-k,y7e _,λk hk=>zI (λhlt=> ?_) (λhlt=> ?_)⟩
 ·have hk:k<=i.L.length:=hk;have hs:=hsp k;have hx:(OpI.mk (fsB i.L++i.t) (fsB (i.L.take k)).length).x=zCd (fsB (i.L.drop k)++i.t):=by
   show zCd ((fsB i.L++i.t).drop _)=_;rw[zTv i.L k,y6f,List.drop_left]
  refine⟨⟨fsB i.L++i.t,(fsB (i.L.take k)).length⟩,rfl,rfl,⟨by dsimp only;rw[y5y];omega,by dsimp only;rw[y5y];omega⟩,λ_ e0=> ?_,λ_ e1=> ?_⟩
  ·rw[hx]at e0 ⊢;rcases y8h k i.L.length with hk2|hk2
   ·obtain⟨l,hl⟩:=yC hk2;have hd:i.L.drop k=l::i.L.drop (k+1):=by
     rw[y8g hk2];congr 1;rw[y6z hk2]at hl;exact Option.some.inj hl
    have hl255:=h1 l (y6j hl);rw[hd,zPr,y6f,zSi hl255];refine⟨by rw[y5z,y6t];omega,k+1,?_,?_,Z9,Z9,trivial⟩
    ·rw[yGm hl,y5y,dQ];dsimp only;omega
    ·rw[y7h,hl];simp[rcE]
   ·rw[y9g hk2]at e0;rw[show fsB ([]:List (List UInt8))++i.t=i.t from rfl,h2]at e0;cases e0
  ·rw[hx]at e1 ⊢;rcases y8h k i.L.length with hk2|hk2
   ·obtain⟨l,hl⟩:=yC hk2;have hd:i.L.drop k=l::i.L.drop (k+1):=by
     rw[y8g hk2];congr 1;rw[y6z hk2]at hl;exact Option.some.inj hl
    have hl255:=h1 l (y6j hl);rw[hd,zPr,y6f,zSi hl255]at e1;exact absurd rfl e1
   ·obtain rfl:k=i.L.length:=by omega
    rw[List.drop_length,show fsB ([]:List (List UInt8))++i.t=i.t from rfl,h2,y8x];exact Cv.cnd.mk (λe=>by cases e) (λ_=>Cv.cnd.mk (λ_=>⟨(),rF3 trivial⟩) (λe=>by cases e))
 ·have hk:k<=i.L.length:=hk;have hs:=hsp k;have h5:=z9z (i.L.drop k);rw[y6u]at h5;obtain rfl:k=i.L.length:=by omega
  rw[y8x];exact⟨(),rF3 trivial⟩
def yNs:scanC.ok Tryz.prog 107:=okw mixed (gokc yUm gok0) 0 (λ_=>[]) (λi=>y2j i) [] Tryz.func107 y1t
def yXr:jopC.ok Tryz.prog 48:=okw (V:=y0g) mixed (gokc yMu (gokc yNs (gokc yOd gok0))) 0 (λ_=>[]) (λ_=>[]) [] Tryz.func48 λ(i:JoI) h=>by
 obtain⟨hs,hd⟩:(ScI.mk i.L i.t).ok/\i.d.ok:=h;have e0:(bE i.d.b).length=(fsB i.L).length+i.t.length:=by rw[xC,JoI.d,y5y]
 have h3:=hs.2.2;dsimp only at h3;unfold y0g;refine⟨i.d,rfl,hd,λ_ _=>⟨⟨i.L,i.t⟩,rfl,hs,λ_ _=>zI (λc=> ?_) (λc=> ?_)⟩⟩
 ·have ht:i.t≠[]:=λe=>by rw[e0,e]at c;simp at c
  refine⟨⟨oM,by rw[e0];dsimp only;omega⟩,⟨i.d,fsB i.L⟩,?_,rfl,Z9,λ_ _=>⟨(),rfl,?_,by rw[y5z],rfl,trivial⟩⟩
  ·dsimp only;rw[y6r,<- zEc,JoI.d,xCg]
  ·rw[JoI.d',y5x ht]
 ·have ht:i.t=[]:=List.length_eq_zero_iff.1 (by rw[e0]at c;dsimp only at c;omega);refine⟨(),rfl,?_,by rw[y5z],rfl,trivial⟩;rw[JoI.d',y6a ht]
def yMs:jappC.ok Tryz.prog 42:=okw (V:=yZz) mixed (gokc yGg (gokc yQl gok0)) 0 (λ_=>[]) (λ_=>[]) [] Tryz.func42 λ(i:JaI) h=>by
 obtain⟨h1,h2,h3,h4⟩:i.l.length<=255/\i.d.b.length+i.l.length+6<=1048576/\0<=i.n/\i.n<=1048576:=h;exact⟨i.l,rfl,h1,λ_ _=>⟨⟨i.d,kF i.l⟩,rfl,rfl,by dsimp only;rw[dQ];omega,λ_ _=>⟨(),rfl,by rw[w64 (by omega)],rfl,trivial⟩⟩⟩
open Classical
def eV (i:RN):i.left.length<=i.l.length:=by
 unfold RN.left;split
 ·omega
 ·rw[y6u];omega
def mR {r:RB} (h:r.ok):r.byte.2.ok:=y8u (eV _) h
def gG {r:RB} (h:r.ok):r.long.2.ok:=y8u (eV _) h
def zIe (l:List UInt8):bE l=jW ⟨l.toArray⟩:=rfl
def y1q (s:List UInt8):Prop:=
 ∃(a:Nat×Nat),(↑a.snd:Int)=0/\sb s=sb s/\a.fst=0/\∃(b:Nat×Nat->Prop),∃(c:Nat×Nat->Nat),b a/\∀(d:Nat×Nat),b d->cnd (d.fst.blt (sb s).size) (cnd (decide ((qC s d)<32)) (∃(e:Unit),fL s=ap/\True) (cnd ((qC s d)==127) (∃(e:Unit),fL s=ap/\True) (cnd ((qC s d)==65533) (∃(e:Unit),fL s=ap/\True) (dJ d s b c)))) (cnd (decide ((↑d.snd:Int)>=1)) (∃(e:Unit),fL s=decide ((↑d.snd:Int)<=12)/\True) (∃(e:Unit),fL s=ap/\True))
def zHr (a:Cmd):Prop:=∃(b:List UInt8),sb b=sb a.label/\b.length<=140737488355328/\∀(c:Unit),True->cnd (!fL b) (∃(d:Unit),a.orderE=29/\True) (cnd (decide (a.price>=(-2000000))) (cnd (!decide (a.price<=2000000)) (∃(d:Unit),a.orderE=23/\True) (cnd (decide (a.inst<0)) (∃(d:Unit),a.orderE=20/\True) (cnd (decide (a.inst>255)) (∃(d:Unit),a.orderE=20/\True) (∃(d:Unit),a.orderE=0/\True)))) (∃(d:Unit),a.orderE=23/\True))
def yRe (c:Cmd):Prop:=
 cnd (c.side !=1) (cnd (c.side !=2) (∃(a:Unit),c.orderE=21/\True) (cnd (decide (c.time<1)) (∃(a:Unit),c.orderE=27/\True) (cnd (decide (c.time>3)) (∃(a:Unit),c.orderE=27/\True) (cnd (decide (c.qty>=1)) (cnd (!decide (c.qty<=1000000)) (∃(a:Unit),c.orderE=24/\True) (cnd (decide (c.least<0)) (∃(a:Unit),c.orderE=28/\True) (cnd (decide (c.least>c.qty)) (∃(a:Unit),c.orderE=28/\True) (cnd (!(sb c.label).toList==(aw #[]).toList) (zHr c) (cnd (decide (c.price>=(-2000000))) (cnd (!decide (c.price<=2000000)) (∃(a:Unit),c.orderE=23/\True) (cnd (decide (c.inst<0)) (∃(a:Unit),c.orderE=20/\True) (cnd (decide (c.inst>255)) (∃(a:Unit),c.orderE=20/\True) (∃(a:Unit),c.orderE=0/\True)))) (∃(a:Unit),c.orderE=23/\True)))))) (∃(a:Unit),c.orderE=24/\True))))) (cnd (decide (c.time<1)) (∃(a:Unit),c.orderE=27/\True) (cnd (decide (c.time>3)) (∃(a:Unit),c.orderE=27/\True) (cnd (decide (c.qty>=1)) (cnd (!decide (c.qty<=1000000)) (∃(a:Unit),c.orderE=24/\True) (cnd (decide (c.least<0)) (∃(a:Unit),c.orderE=28/\True) (cnd (decide (c.least>c.qty)) (∃(a:Unit),c.orderE=28/\True) (cnd (!(sb c.label).toList==(aw #[]).toList) (zHr c) (cnd (decide (c.price>=(-2000000))) (cnd (!decide (c.price<=2000000)) (∃(a:Unit),c.orderE=23/\True) (cnd (decide (c.inst<0)) (∃(a:Unit),c.orderE=20/\True) (cnd (decide (c.inst>255)) (∃(a:Unit),c.orderE=20/\True) (∃(a:Unit),c.orderE=0/\True)))) (∃(a:Unit),c.orderE=23/\True)))))) (∃(a:Unit),c.orderE=24/\True))))
def yJt (c:Cmd):Prop:=
 cnd (decide (c.kind<1)) (∃(a:Unit),c.right=31/\True) (cnd (decide (c.kind>4)) (∃(a:Unit),c.right=31/\True) (cnd (decide (c.id<1)) (∃(a:Unit),c.right=1/\True) (cnd (decide (c.id>1099511627776)) (∃(a:Unit),c.right=1/\True) (cnd (c.kind==1) (∃(a:Cmd),a.kind=c.kind/\a.id=c.id/\a.inst=c.inst/\a.side=c.side/\a.price=c.price/\a.qty=c.qty/\a.least=c.least/\a.time=c.time/\sb a.label=sb c.label/\a.label.length<=140737488355328/\∀(b:Unit),True->∃(d:Unit),c.right=a.orderE/\True) (cnd (c.kind !=2) (cnd (decide (c.qty>=1)) (cnd (!decide (c.qty<=1000000)) (∃(a:Unit),c.right=24/\True) (cnd (c.kind==4) (cnd (decide (c.price>=(-2000000))) (cnd (!decide (c.price<=2000000)) (∃(a:Unit),c.right=23/\True) (∃(a:Unit),c.right=0/\True)) (∃(a:Unit),c.right=23/\True)) (∃(a:Unit),c.right=0/\True))) (∃(a:Unit),c.right=24/\True)) (cnd (c.kind==4) (cnd (decide (c.price>=(-2000000))) (cnd (!decide (c.price<=2000000)) (∃(a:Unit),c.right=23/\True) (∃(a:Unit),c.right=0/\True)) (∃(a:Unit),c.right=23/\True)) (∃(a:Unit),c.right=0/\True)))))))
def y4o (s:List UInt8) (h:labC.cnd s):y1q s:=by
 have h:s.length<=140737488355328:=h;have hr:=zIv s;unfold y1q qC dJ;refine⟨(0,0),rfl,rfl,rfl,λx=>x.1<=s.length/\x.2+(uZ s x.1).length=(kR s).length/\(kR s).all zQw=(uZ s x.1).all λx=>zQw x.2,λx=>s.length-x.1,⟨oM,by rw[kR,y5z];simp,by rw[kR,List.all_map];rfl⟩,?_⟩;rintro⟨p,n⟩ ⟨h1,h2,h3⟩;dsimp only at h1 h2 h3 ⊢;refine Cv.cnd.mk (λhp=> ?_) (λhp=> ?_)
 ·have hp:p<s.length:=by simpa[y8z]using hp
  have hw:=cR s hp;rw[jL hp,y6d]at h2;rw[jL hp,List.all_cons]at h3;generalize hc:(Utf8.decode (sb s) p).1=c at h2 h3 ⊢;generalize hww:(Utf8.decode (sb s) p).2=w at h2 h3 hw ⊢;dsimp only at h3;have bad:zQw c=ap->∃(o:Unit),fL s=ap/\True:=λe=>⟨(),by rw[fL,h3,e];rfl,trivial⟩
  refine zI (λc1=>bad ?_) (λc1=>Cv.cnd.mk (λc2=>bad ?_) (λc2=>Cv.cnd.mk (λc3=>bad ?_) (λc3=> ?_)))
  ·simp[zQw];omega
  ·have c2:(c:Int)=127:=by simpa using c2
   simp[zQw];omega
  ·have c3:(c:Int)=65533:=by simpa using c3
   simp[zQw];omega
  ·have c2:¬(c:Int)=127:=by simpa using c2
   have c3:¬(c:Int)=65533:=by simpa using c3
   have e:zQw c=aq:=by simp[zQw];omega
   refine⟨(p+w,n+1),?_,rfl,rfl,⟨hw.2,by(first|omega|(dsimp only;omega)),by rw[h3,e];rfl⟩,by(first|omega|(dsimp only;omega)),trivial⟩;rw[w64 (by omega)];rfl
 ·have hp:s.length<=p:=by have:=yAc hp;simpa using this
  rw[vV hp]at h2 h3;have h2:n=(kR s).length:=h2;have h3:(kR s).all zQw=aq:=h3;refine zI (λc=>⟨(),?_,trivial⟩) (λc=>⟨(),?_,trivial⟩)
  ·rw[fL,h3,<- h2,y6p (show 1<=n by omega)];simp only[y8v];congr 1;simp only[eq_iff_iff];omega
  ·rw[fL,<- h2,y6n (show ¬1<=n by omega)];simp
def yXo:labC.ok Tryz.prog 148:=okw mixed gok0 0 (λ_=>[]) (λs=>y4r s) [] Tryz.func148 y4o
def y5i (a b:Int):(a==b)=decide (a=b):=by
 by_cases h:a=b
 ·subst h;simp
 ·simp[h]
def y0z (a b:Int):(a !=b)=decide (a≠b):=by
 by_cases h:a=b
 ·subst h;simp
 ·simp[h]
def eqB (a b:List UInt8):((sb a).toList==(sb b).toList)=decide (a=b):=by
 rw[pO,pO];by_cases h:a=b
 ·subst h;simp
 ·simp[h]
def yYq:aw #[]=sb []:=rfl
def y2d (c:Cmd) (h:cmdOrdC.cnd c):yRe c:=by
 have h:c.label.length<=140737488355328:=h;unfold yRe zHr;simp only[yYq,eqB,y0z];have tail:¬(c.side≠1/\c.side≠2)->cnd (decide (c.time<1)) (∃(o:Unit),c.orderE=27/\True) (cnd (decide (c.time>3)) (∃(o:Unit),c.orderE=27/\True) (cnd (decide (c.qty>=1)) (cnd (!decide (c.qty<=1000000)) (∃(o:Unit),c.orderE=24/\True) (cnd (decide (c.least<0)) (∃(o:Unit),c.orderE=28/\True) (cnd (decide (c.least>c.qty)) (∃(o:Unit),c.orderE=28/\True) (cnd (!decide (c.label=[])) (∃(i:List UInt8),sb i=sb c.label/\i.length<=140737488355328/\∀(o:Unit),True->cnd (!fL i) (∃(o:Unit),c.orderE=29/\True) (cnd (decide (c.price>=-2000000)) (cnd (!decide (c.price<=2000000)) (∃(o:Unit),c.orderE=23/\True) (cnd (decide (c.inst<0)) (∃(o:Unit),c.orderE=20/\True) (cnd (decide (c.inst>255)) (∃(o:Unit),c.orderE=20/\True) (∃(o:Unit),c.orderE=0/\True)))) (∃(o:Unit),c.orderE=23/\True))) (cnd (decide (c.price>=-2000000)) (cnd (!decide (c.price<=2000000)) (∃(o:Unit),c.orderE=23/\True) (cnd (decide (c.inst<0)) (∃(o:Unit),c.orderE=20/\True) (cnd (decide (c.inst>255)) (∃(o:Unit),c.orderE=20/\True) (∃(o:Unit),c.orderE=0/\True)))) (∃(o:Unit),c.orderE=23/\True)))))) (∃(o:Unit),c.orderE=24/\True))):=by
  intro hs;have e1:c.orderE=if c.time<1\/3<c.time then 27 else if qQ c.qty=ap then 24 else if c.least<0\/c.qty<c.least then 28
   else if c.label≠[]/\fL c.label=ap then 29 else if j9 c.price=ap then 23 else if c.inst<0\/255<c.inst then 20 else 0:=by rw[Cmd.orderE,y5x hs]
  refine zI (λd1=>⟨(),by rw[e1,y6a (.inl d1)],trivial⟩) λd1=>zI (λd2=>⟨(),by rw[e1,y6a (.inr d2)],trivial⟩) λd2=> ?_
  rw[y5x (by omega)]at e1;have q (hq:qQ c.qty=ap):∃(o:Unit),c.orderE=24/\True:=⟨(),by rw[e1,y6a hq],trivial⟩
  refine zI (λd3=>Cv.cnd.mk (λd4=>q ?_) λd4=> ?_) λd3=>q ?_
  ·have d4:¬c.qty<=1000000:=by simpa using d4
   simp[qQ,d4]
  ·have d4:c.qty<=1000000:=by simpa using d4
   have hq:¬qQ c.qty=ap:=by simp[qQ,d4];omega
   rw[y5x hq]at e1;refine zI (λd5=>⟨(),by rw[e1,y6a (.inl d5)],trivial⟩) λd5=>zI (λd6=>⟨(),by rw[e1,y6a (.inr d6)],trivial⟩) λd6=> ?_
   rw[y5x (by omega)]at e1;have last:¬(c.label≠[]/\fL c.label=ap)->cnd (decide (c.price>=-2000000)) (cnd (!decide (c.price<=2000000)) (∃(o:Unit),c.orderE=23/\True) (cnd (decide (c.inst<0)) (∃(o:Unit),c.orderE=20/\True) (cnd (decide (c.inst>255)) (∃(o:Unit),c.orderE=20/\True) (∃(o:Unit),c.orderE=0/\True)))) (∃(o:Unit),c.orderE=23/\True):=by
    intro hl;rw[y5x hl]at e1;have pr (hq:j9 c.price=ap):∃(o:Unit),c.orderE=23/\True:=⟨(),by rw[e1,y6a hq],trivial⟩
    refine zI (λg1=>Cv.cnd.mk (λg2=>pr ?_) λg2=> ?_) λg1=>pr ?_
    ·have g2:¬c.price<=2000000:=by simpa using g2
     simp[j9,g2]
    ·have g2:c.price<=2000000:=by simpa using g2
     have hp:¬j9 c.price=ap:=by simp[j9,g2];omega
     rw[y5x hp]at e1;refine zI (λg3=>⟨(),by rw[e1,y6a (.inl g3)],trivial⟩) λg3=>zI (λg4=>⟨(),by rw[e1,y6a (.inr g4)],trivial⟩) λg4=>⟨(),by rw[e1,y5x (by omega)],trivial⟩
    ·simp[j9];omega
   refine Cv.cnd.mk (λd7=>⟨c.label,rfl,h,λ_ _=>Cv.cnd.mk (λd8=> ?_) λd8=>last ?_⟩) λd7=>last ?_
   ·have d7:¬c.label=[]:=by simpa using d7
    have d8:fL c.label=ap:=by simpa using d8
    exact⟨(),by rw[e1,y6a ⟨d7,d8⟩],trivial⟩
   ·have d8:fL c.label=aq:=by simpa using d8
    simp[d8]
   ·have d7:c.label=[]:=by simpa using d7
    simp[d7]
  ·simp[qQ];omega
 refine zI (λc1=>zI (λc2=>⟨(),by rw[Cmd.orderE,y6a ⟨c1,c2⟩],trivial⟩) λc2=>tail ?_) λc1=>tail ?_
 ·omega
 ·omega
def yOc:cmdOrdC.ok Tryz.prog 112:=okw mixed (gokc yXo gok0) 1 (λ_=>[]) (λ_=>[]) [] Tryz.func112 y2d
def yTp (c:Cmd) (h:cmdRtC.cnd c):yJt c:=by
 have h:c.label.length<=140737488355328:=h;unfold yJt;simp only[y5i,y0z];refine zI (λc1=>⟨(),by rw[Cmd.right,y6a (.inl c1)],trivial⟩) λc1=>zI (λc2=>⟨(),by rw[Cmd.right,y6a (.inr c2)],trivial⟩) λc2=> ?_
 refine zI (λc3=>⟨(),by rw[Cmd.right,y5x (by omega),y6a (.inl c3)],trivial⟩) λc3=>zI (λc4=>⟨(),by rw[Cmd.right,y5x (by omega),y6a (.inr c4)],trivial⟩) λc4=> ?_
 have e0:c.right=if c.kind=1 then c.orderE else if c.kind≠2/\qQ c.qty=ap then 24 else if c.kind=4/\j9 c.price=ap then 23 else 0:=by rw[Cmd.right,y5x (by omega),y5x (by omega)]
 refine zI (λc5=>⟨c,?_⟩) λc5=> ?_
 ·rw[y6a c5]at e0;exact kp
 rw[y5x c5]at e0;have last (hn:¬(c.kind≠2/\qQ c.qty=ap)):cnd (decide (c.kind=4)) (cnd (decide (c.price>=-2000000)) (cnd (!decide (c.price<=2000000)) (∃(o:Unit),c.right=23/\True) (∃(o:Unit),c.right=0/\True)) (∃(o:Unit),c.right=23/\True)) (∃(o:Unit),c.right=0/\True):=by
  rw[y5x hn]at e0;refine zI (λd1=>zI (λd2=>Cv.cnd.mk (λd3=> ?_) λd3=> ?_) λd2=> ?_) λd1=> ?_
  ·have d3:¬c.price<=2000000:=by simpa using d3
   exact⟨(),by rw[e0,y6a ⟨d1,by simp[j9,d3]⟩],trivial⟩
  ·have d3:c.price<=2000000:=by simpa using d3
   exact⟨(),by rw[e0,y5x (by simp[j9,d3];omega)],trivial⟩
  ·exact⟨(),by rw[e0,y6a ⟨d1,by simp[j9];omega⟩],trivial⟩
  ·exact⟨(),by rw[e0,y5x (by simp[d1])],trivial⟩
 refine zI (λd1=>zI (λd2=>Cv.cnd.mk (λd3=> ?_) λd3=>last ?_) λd2=> ?_) λd1=>last ?_
 ·have d3:¬c.qty<=1000000:=by simpa using d3
  exact⟨(),by rw[e0,y6a ⟨d1,by simp[qQ,d3]⟩],trivial⟩
 ·have d3:c.qty<=1000000:=by simpa using d3
  simp[qQ,d3];omega
 ·exact⟨(),by rw[e0,y6a ⟨d1,by simp[qQ];omega⟩],trivial⟩
 ·omega
def zMq:cmdRtC.ok Tryz.prog 57:=okw mixed (gokc yOc gok0) 1 (λ_=>[]) (λ_=>[]) [] Tryz.func57 yTp
def rtextC:Con:=con1 RB (λi=>[.nm 0 0]) (λi=>[RdB i]) RB.ok (λi=>sV i.text.1) (λi=>[RdB i.text.2])
structure TxB where
 l:List UInt8
 s:List UInt8
def cdecC:Con:=con1 (List UInt8) (λb=>[roV 1 (bE b)]) (λ_=>[]) (λb=>b.length<=1099511627776) (λb=> .tup [zGc (xI b).1,zA (xI b).2]) (λ_=>[])
def y2u:List (Nat×SAnn):=[(12,bj 19),(26,{ι:=Cmd×RB,slots:=λ_=>[(4,.nm 0 0),(5,.nm 1 0)],rows:=λx=>[RdB x.2,.cells x.1.cells 44],slots0:=λ_=>[(4,.nm 0 0),(5,.nm 1 0)],rows0:=λx=>[RdB x.2,.cells x.1.cells 44]})]
def yVc (i:RB):Prop:=
 ∃(i_1:RB),ac (List UInt8×Bool) 1 RdU (i_1.l,i_1.b)=RdB i/\i_1.l.length<=1099511627776/\∀(o:Unit),True->∃(i_2:RN),(↑i_2.n:Int)=qL (i_1.n 1).got/\ac (List UInt8×Bool) 1 RdU (i_2.l,i_2.b)=ac (List UInt8×Bool) 1 RdU ((i_1.n 1).left,(i_1.n 1).bad)/\(i_2.n<=255/\i_2.l.length<=1099511627776)/\∀(o:Unit),True->∃(b:ByteArray),dh ((1:Nat))/\bE i_2.got=jW b/\∃(o:Unit),sb ((RB.mk (i.n 1).left (i.n 1).bad).n (qL (i.n 1).got).toNat).got=b/\ac (List UInt8×Bool) 1 RdU (((RB.mk (i.n 1).left (i.n 1).bad).n (qL (i.n 1).got).toNat).left,((RB.mk (i.n 1).left (i.n 1).bad).n (qL (i.n 1).got).toNat).bad)=ac (List UInt8×Bool) 1 RdU (i_2.left,i_2.bad)/\True
def zHt:Prop:=ab (Sx.V.agg [V.d (dI 0),V.d (dI 0),V.d (dI 0),V.d (dI 0),V.d (dI 0),V.d (dI 0),V.d (dI 0),V.d (dI 0),V.d kY]).cl 44=ab (Sx.V.agg [V.d (dI 0),V.d (dI 0),V.d (dI 0),V.d (dI 0),V.d (dI 0),V.d (dI 0),V.d (dI 0),V.d (dI 0),V.d kY]).cl 44
def zQi (a:Bool->Prop) (b:Bool) (c:RB):Prop:=a b/\dh (ab [V.d (dI (qL (c.n 1).got)),V.d (dI 0),V.d (dI 0),V.d (dI 0),V.d (dI 0),V.d (dI 0),V.d (dI 0),V.d (dI 0),V.d kY] 44)/\dh (ac (List UInt8×Bool) 1 RdU ((c.n 1).left,(c.n 1).bad))/\zHt
def zHo (a:Cmd×RB->Prop) (b:Cmd×RB):Prop:=a b/\zHt
def zId (a:Cmd×RB) (b:Cmd×RB) (c:Cmd×RB->Prop):Prop:=a.fst.least=b.fst.least/\a.fst.time=b.fst.time/\sb a.fst.label=sb b.fst.label/\zHo c a
def zIs (a:Cmd×RB) (b:RB) (c:Cmd×RB) (d:Cmd×RB->Prop):Prop:=a.fst.qty=aj.wrap (qL (b.n 8).got)/\zId a c d
def l9 (a:RB):=((RB.mk (a.n 1).left (a.n 1).bad).n (qL (a.n 1).got).toNat)
def yRn (b:List UInt8):Prop:=
 ∃(a:List UInt8),bE a=bE b/\a.length<=1099511627776/\∀(c:Unit),True->∃(d:RB),ac (List UInt8×Bool) 1 RdU (d.l,d.b)=ac (List UInt8×Bool) 1 RdU (a,ap)/\d.l.length<=1099511627776/\∀(e:Unit),True->∃(f:Bool),∃(g:Bool->Prop),cnd (decide (qL (d.n 1).got<1)) (∃(h:Bool),h=aq/\zQi g h d) (∃(h:Bool),h=decide (qL (d.n 1).got>4)/\zQi g h d)/\∀(h:Bool),g h->cnd h (∃(j:Unit),(xI b).fst.kind=0/\(xI b).fst.id=0/\(xI b).fst.inst=0/\(xI b).fst.side=0/\(xI b).fst.price=0/\(xI b).fst.qty=0/\(xI b).fst.least=0/\(xI b).fst.time=0/\sb (xI b).fst.label=aw #[]/\(xI b).snd=31/\True) (∃(j:RB),ac (List UInt8×Bool) 1 RdU (j.l,j.b)=ac (List UInt8×Bool) 1 RdU ((d.n 1).left,(d.n 1).bad)/\j.l.length<=1099511627776/\∀(k:Unit),True->∃(l:Cmd×RB),ac (List UInt8×Bool) 1 RdU (l.snd.l,l.snd.b)=ac (List UInt8×Bool) 1 RdU ((j.n 8).left,(j.n 8).bad)/\l.fst.kind=qL (d.n 1).got/\l.fst.id=aj.wrap (qL (j.n 8).got)/\l.fst.inst=0/\l.fst.side=0/\l.fst.price=0/\l.fst.qty=0/\l.fst.least=0/\l.fst.time=0/\sb l.fst.label=aw #[]/\∃(m:Cmd×RB->Prop),cnd (l.fst.kind==1) (∃(n:RB),ac (List UInt8×Bool) 1 RdU (n.l,n.b)=ac (List UInt8×Bool) 1 RdU (l.snd.l,l.snd.b)/\n.l.length<=1099511627776/\∀(p:Unit),True->∃(q:RB),ac (List UInt8×Bool) 1 RdU (q.l,q.b)=ac (List UInt8×Bool) 1 RdU ((n.n 1).left,(n.n 1).bad)/\q.l.length<=1099511627776/\∀(r:Unit),True->∃(s:RB),ac (List UInt8×Bool) 1 RdU (s.l,s.b)=ac (List UInt8×Bool) 1 RdU ((q.n 1).left,(q.n 1).bad)/\s.l.length<=1099511627776/\∀(t:Unit),True->∃(u:RB),ac (List UInt8×Bool) 1 RdU (u.l,u.b)=ac (List UInt8×Bool) 1 RdU ((s.n 1).left,(s.n 1).bad)/\u.l.length<=1099511627776/\∀(v:Unit),True->∃(w:RB),ac (List UInt8×Bool) 1 RdU (w.l,w.b)=ac (List UInt8×Bool) 1 RdU ((u.n 8).left,(u.n 8).bad)/\w.l.length<=1099511627776/\∀(x:Unit),True->∃(y:RB),ac (List UInt8×Bool) 1 RdU (y.l,y.b)=ac (List UInt8×Bool) 1 RdU ((w.n 8).left,(w.n 8).bad)/\y.l.length<=1099511627776/\∀(z:Unit),True->∃(a_1:RB),ac (List UInt8×Bool) 1 RdU (a_1.l,a_1.b)=ac (List UInt8×Bool) 1 RdU ((y.n 8).left,(y.n 8).bad)/\a_1.ok/\∀(a_2:Unit),True->∃(a_3:Cmd×RB),ac (List UInt8×Bool) 1 RdU (a_3.snd.l,a_3.snd.b)=ac (List UInt8×Bool) 1 RdU ((l9 a_1).left,(l9 a_1).bad)/\a_3.fst.kind=l.fst.kind/\a_3.fst.id=l.fst.id/\a_3.fst.inst=qL (n.n 1).got/\a_3.fst.side=qL (q.n 1).got/\a_3.fst.price=aj.wrap (qL (u.n 8).got)/\a_3.fst.qty=aj.wrap (qL (w.n 8).got)/\a_3.fst.least=aj.wrap (qL (y.n 8).got)/\a_3.fst.time=qL (s.n 1).got/\sb a_3.fst.label=sb (l9 a_1).got/\zHo m a_3) (cnd (l.fst.kind==3) (∃(n:RB),ac (List UInt8×Bool) 1 RdU (n.l,n.b)=ac (List UInt8×Bool) 1 RdU (l.snd.l,l.snd.b)/\n.l.length<=1099511627776/\∀(p:Unit),True->∃(q:Cmd×RB),ac (List UInt8×Bool) 1 RdU (q.snd.l,q.snd.b)=ac (List UInt8×Bool) 1 RdU ((n.n 8).left,(n.n 8).bad)/\q.fst.kind=l.fst.kind/\q.fst.id=l.fst.id/\q.fst.inst=l.fst.inst/\q.fst.side=l.fst.side/\q.fst.price=l.fst.price/\zIs q n l m) (cnd (l.fst.kind==4) (∃(n:RB),ac (List UInt8×Bool) 1 RdU (n.l,n.b)=ac (List UInt8×Bool) 1 RdU (l.snd.l,l.snd.b)/\n.l.length<=1099511627776/\∀(p:Unit),True->∃(q:RB),ac (List UInt8×Bool) 1 RdU (q.l,q.b)=ac (List UInt8×Bool) 1 RdU ((n.n 8).left,(n.n 8).bad)/\q.l.length<=1099511627776/\∀(r:Unit),True->∃(s:Cmd×RB),ac (List UInt8×Bool) 1 RdU (s.snd.l,s.snd.b)=ac (List UInt8×Bool) 1 RdU ((q.n 8).left,(q.n 8).bad)/\s.fst.kind=l.fst.kind/\s.fst.id=l.fst.id/\s.fst.inst=l.fst.inst/\s.fst.side=l.fst.side/\s.fst.price=aj.wrap (qL (n.n 8).got)/\zIs s q l m) (∃(n:Cmd×RB),ac (List UInt8×Bool) 1 RdU (n.snd.l,n.snd.b)=ac (List UInt8×Bool) 1 RdU (l.snd.l,l.snd.b)/\n.fst.kind=l.fst.kind/\n.fst.id=l.fst.id/\n.fst.inst=l.fst.inst/\n.fst.side=l.fst.side/\n.fst.price=l.fst.price/\n.fst.qty=l.fst.qty/\zId n l m)))/\∀(n:Cmd×RB),m n->∃(p:RB),ac (List UInt8×Bool) 1 RdU (p.l,p.b)=ac (List UInt8×Bool) 1 RdU (n.snd.l,n.snd.b)/\p.l.length<=1099511627776/\∀(q:Unit),True->cnd ((if p.b=aq then(10:Int)else if 0<p.l.length then(15:Int)else(0:Int)) !=0) (∃(r:Unit),(xI b).fst.kind=0/\(xI b).fst.id=0/\(xI b).fst.inst=0/\(xI b).fst.side=0/\(xI b).fst.price=0/\(xI b).fst.qty=0/\(xI b).fst.least=0/\(xI b).fst.time=0/\sb (xI b).fst.label=aw #[]/\(xI b).snd=12/\True) (∃(r:Cmd),r.kind=n.fst.kind/\r.id=n.fst.id/\r.inst=n.fst.inst/\r.side=n.fst.side/\r.price=n.fst.price/\r.qty=n.fst.qty/\r.least=n.fst.least/\r.time=n.fst.time/\sb r.label=sb n.fst.label/\r.label.length<=140737488355328/\∀(s:Unit),True->cnd (r.right !=0) (∃(t:Unit),(xI b).fst.kind=0/\(xI b).fst.id=0/\(xI b).fst.inst=0/\(xI b).fst.side=0/\(xI b).fst.price=0/\(xI b).fst.qty=0/\(xI b).fst.least=0/\(xI b).fst.time=0/\sb (xI b).fst.label=aw #[]/\(xI b).snd=r.right/\True) (∃(t:Unit),(xI b).fst.kind=n.fst.kind/\(xI b).fst.id=n.fst.id/\(xI b).fst.inst=n.fst.inst/\(xI b).fst.side=n.fst.side/\(xI b).fst.price=n.fst.price/\(xI b).fst.qty=n.fst.qty/\(xI b).fst.least=n.fst.least/\(xI b).fst.time=n.fst.time/\sb (xI b).fst.label=sb n.fst.label/\(xI b).snd=0/\True)))
def zYu (r:RB):0<=r.byte.1/\r.byte.1<=255:=by
 have h:=mF (r.n 1).got;have hl:(r.n 1).got.length<=1:=zLw (r.n 1);show 0<=qL (r.n 1).got/\qL (r.n 1).got<=255;obtain e|e:(r.n 1).got.length=0\/(r.n 1).got.length=1:=by omega
 ·rw[e]at h;omega
 ·rw[e]at h;omega
def yMl {r:RB} (h:r.ok):r.text.2.ok:=y8u (eV _) (y8u (eV _) h)
def yIu:rtextC.ok Tryz.prog 163:=okw (V:=yVc) mixed (gokc zXo (gokc z8i gok0)) 0 (λ_=>[]) (λ_=>[]) [] Tryz.func163 λ(i:RB) h=>by
 have h:i.l.length<=1099511627776:=h;have hb:=zYu i;exact⟨i,rfl,h,λ_ _=>⟨⟨(i.n 1).left,(i.n 1).bad,i.byte.1.toNat⟩,by dsimp only;exact Int.toNat_of_nonneg hb.1,rfl,⟨Z9,y8u (eV _) h⟩,λ_ _=>⟨_,rfl,zIe _,(),rfl,rfl,trivial⟩⟩⟩
def yQr {k id:Int} {r:RB} (h:r.ok):(xY k id r).2.ok/\(xY k id r).1.label.length<=255:=by
 rw[xY];split
 ·have h6:=gG (gG (gG (mR (mR (mR h)))));refine⟨yMl h6,?_⟩;show(RB.text (r.byte.2.byte.2.byte.2.long.2.long.2.long.2)).1.length<=255;generalize r.byte.2.byte.2.byte.2.long.2.long.2.long.2=q;have:=zYu q;have:(q.text.1).length<=q.byte.1.toNat:=zLw _;omega
 split
 ·exact⟨gG h,y7e _⟩
 split
 ·exact⟨gG (gG h),y7e _⟩
 ·exact⟨h,y7e _⟩
def yZb (b:List UInt8) (h:cdecC.cnd b):yRn b:=by
 have h:b.length<=1099511627776:=h;obtain⟨r0,hr⟩:∃r0,r0=RB.mk b ap:=⟨_,rfl⟩
 have hr0:r0.ok:=by rw[hr];exact h
 have hk2:=mR hr0;have hk3:=gG hk2;have hdec:xI b=if r0.byte.1<1\/4<r0.byte.1 then(cmd0,31)else if(xY r0.byte.1 r0.byte.2.long.1 r0.byte.2.long.2).2.endOf≠0 then(cmd0,12)else if(xY r0.byte.1 r0.byte.2.long.1 r0.byte.2.long.2).1.right≠0 then(cmd0,(xY r0.byte.1 r0.byte.2.long.1 r0.byte.2.long.2).1.right)else((xY r0.byte.1 r0.byte.2.long.1 r0.byte.2.long.2).1,0):=by
  rw[hr];rfl
 unfold yRn zQi l9 zIs zId zHo zHt kY dI;generalize xI b=X at hdec ⊢;refine⟨b,rfl,h,λ_ _=>⟨r0,by rw[hr],hr0,λ_ _=>⟨aq,λx=>x=decide (r0.byte.1<1\/4<r0.byte.1),zI (λe=>⟨aq,rfl,(y6p (.inl e)).symm,k0q⟩) (λe=>⟨_,rfl,decide_eq_decide.2 ⟨.inr,λx=>x.resolve_left e⟩,k0q⟩),?_⟩⟩⟩;rintro _ rfl;refine zI (λe=> ?_) (λe=> ?_)
 ·rw[hdec,y6a e];exact⟨(),rF7 (rF3 trivial)⟩
 rw[y5x e]at hdec;generalize hk:r0.byte.1=k at hdec;refine⟨r0.byte.2,rfl,hk2,λ_ _=>⟨(⟨r0.byte.1,r0.byte.2.long.1,0,0,0,0,0,0,[]⟩,r0.byte.2.long.2),rF6 (rF3 ⟨rfl,λx=>x=xY r0.byte.1 r0.byte.2.long.1 r0.byte.2.long.2,?_,?_⟩)⟩⟩
 ·generalize r0.byte.2.long.2=r2 at*;generalize r0.byte.2.long.1=id at*;rw[hk];refine Cv.cnd.mk (λe=> ?_) (λe1=>Cv.cnd.mk (λe=> ?_) (λe3=>Cv.cnd.mk (λe=> ?_) (λe4=> ?_)))
  ·have e:k=1:=by simpa using e
   have h1:=mR hk3;have h2:=mR h1;have h3:=mR h2;have h4:=gG h3;have h5:=gG h4;have h6:=gG h5;exact⟨r2,rfl,hk3,λ_ _=>⟨_,rfl,h1,λ_ _=>⟨_,rfl,h2,λ_ _=>⟨_,rfl,h3,λ_ _=>⟨_,rfl,h4,λ_ _=>⟨_,rfl,h5,λ_ _=>⟨_,rfl,h6,λ_ _=>⟨xY k id r2,by rw[xY,y6a e];rfl,by rw[xY,y6a e],by rw[xY,y6a e],by rw[xY,y6a e];rfl,by rw[xY,y6a e];rfl,by rw[xY,y6a e];rfl,by rw[xY,y6a e];rfl,by rw[xY,y6a e];rfl,by rw[xY,y6a e];rfl,by rw[xY,y6a e];rfl,rfl,k0q⟩⟩⟩⟩⟩⟩⟩⟩
  ·have e1:¬k=1:=by simpa using e1
   have e:k=3:=by simpa using e
   have hd:xY k id r2=(⟨k,id,0,0,0,r2.long.1,0,0,[]⟩,r2.long.2):=by rw[xY,y5x e1,y6a e]
   exact⟨r2,rfl,hk3,λ_ _=>⟨(⟨k,id,0,0,0,r2.long.1,0,0,[]⟩,r2.long.2),rF6 (rF3 ⟨rfl,hd.symm,k0q⟩)⟩⟩
  ·have e1:¬k=1:=by simpa using e1
   have e3:¬k=3:=by simpa using e3
   have e:k=4:=by simpa using e
   have hd:xY k id r2=(⟨k,id,0,0,r2.long.1,r2.long.2.long.1,0,0,[]⟩,r2.long.2.long.2):=by rw[xY,y5x e1,y5x e3,y6a e]
   exact⟨r2,rfl,hk3,λ_ _=>⟨_,rfl,gG hk3,λ_ _=>⟨(⟨k,id,0,0,r2.long.1,r2.long.2.long.1,0,0,[]⟩,r2.long.2.long.2),rF6 (rF3 ⟨rfl,hd.symm,k0q⟩)⟩⟩⟩
  ·have e1:¬k=1:=by simpa using e1
   have e3:¬k=3:=by simpa using e3
   have e4:¬k=4:=by simpa using e4
   have hd:xY k id r2=(⟨k,id,0,0,0,0,0,0,[]⟩,r2):=by rw[xY,y5x e1,y5x e3,y5x e4]
   exact⟨(⟨k,id,0,0,0,0,0,0,[]⟩,r2),rF6 (rF3 ⟨rfl,hd.symm,k0q⟩)⟩
 ·rintro x hx;obtain⟨o1,o2⟩:=yQr (k:=r0.byte.1) (id:=r0.byte.2.long.1) hk3;rw[<- hx]at o1 o2;rw[<- hk,<- hx]at hdec;obtain⟨c,q⟩:=x;refine⟨q,rfl,o1,λ_ _=>Cv.cnd.mk (λe=> ?_) (λe=>⟨c,rF8 ⟨rfl,y8u o2 Z8,λ_ _=>Cv.cnd.mk (λe2=> ?_) (λe2=> ?_)⟩⟩)⟩
  ·have e:q.endOf≠0:=by simpa[RB.endOf]using e
   rw[hdec,y6a e];exact⟨(),rF7 (rF3 trivial)⟩
  ·have e:¬q.endOf≠0:=by simpa[RB.endOf]using e
   have e2:c.right≠0:=by simpa using e2
   rw[hdec,y5x e,y6a e2];exact⟨(),rF7 (rF3 trivial)⟩
  ·have e:¬q.endOf≠0:=by simpa[RB.endOf]using e
   have e2:¬c.right≠0:=by simpa using e2
   rw[hdec,y5x e,y5x e2];exact⟨(),rF7 (rF3 trivial)⟩
def yOa:cdecC.ok Tryz.prog 135:=okw mixed (gokc z6b (gokc zXo (gokc yJi (gokc yIu (gokc yMt (gokc zMq gok0)))))) 0 (λ_=>y2u) (λ_=>[]) [] Tryz.func135 yZb
structure SoI where
 s:MSt
 p:Prd
 B:List (List zH)
 inst:Int
 sd:Bool
@[reducible] def SoI.ok (i:SoI):Prop:=i.s.Rep i.p i.B/\i.B.length<=1000
def atB (B:List (List zH)) (inst:Int):List zH:=if inst<0 then[]else B.getD inst.toNat []
def sladC:Con:=con1 SoI (λi=>[.nm 0 0,zA i.inst,zA (zC i.sd)]) (λi=>[zD i.s]) (λi=>i.ok) (λ_=> .own 1) (λi=>[zD i.s,.own 127 3 ((hJ (atB i.B i.inst) (zC i.sd)).map lvE)])
def bT (a:SoI):=(hJ (atB a.B a.inst) (zC a.sd))
def zJg (a:SoI):Prop:=∃(b:Unit),dh (sb a.s.p.code)/\dh a.s.p.tick/\dh a.s.p.low/\dh a.s.p.high/\dh a.s.p.wide/\dh a.s.p.rule/\dh a.s.p.top/\dh a.s.p.least/\dh a.s.p.part/\dh (ae 197 Book 6 zR a.s.books av)/\dh (yR a.s.wh)/\dh (aa 1 (iE a.s.p.months))/\dh (aa 1 (iE a.s.p.settle))/\am lvE (bT a)=[]/\True
def yQo (i:SoI):Prop:=
 cnd (decide (i.inst>=0)) (cnd (!decide (i.inst<(↑i.s.books.length:Int))) (zJg i) ((0<=i.inst/\i.inst<(↑i.s.books.length:Int))/\i.inst.toNat<i.s.books.length/\∃(a:Book),i.s.books[i.inst.toNat]?=au a/\∃(b:BkT),zC b.s=zC i.sd/\yA b.b=yA a/\b.b.Rep b.L/\∀(c:Unit),True->∃(d:Book),yA b.b=yA d/\dh i.inst.toNat/\i.inst.toNat<i.s.books.length/\∃(e:Unit),dh (sb i.s.p.code)/\dh i.s.p.tick/\dh i.s.p.low/\dh i.s.p.high/\dh i.s.p.wide/\dh i.s.p.rule/\dh i.s.p.top/\dh i.s.p.least/\dh i.s.p.part/\ae 197 Book 6 zR i.s.books av=ae 197 Book 6 zR (i.s.books.set i.inst.toNat d) av/\dh (yR i.s.wh)/\dh (aa 1 (iE i.s.p.months))/\dh (aa 1 (iE i.s.p.settle))/\am lvE (bT i)=am lvE (hJ b.L (zC b.s))/\True)) (zJg i)
def yPz {B:List (List zH)} {inst:Int} {L:List zH} (h0:0<=inst) (hL:B[inst.toNat]? =au L):atB B inst=L:=by
 rw[atB,y5x (by omega),zT hL]
def yNi {B:List (List zH)} {inst:Int} (h:inst<0\/(B.length:Int)<=inst):atB B inst=[]:=by
 rw[atB];split
 ·rfl
 ·rw[y6h,y7c (by omega)];rfl
def yZi (i:SoI) (h:sladC.cnd i):yQo i:=by
 obtain⟨hR,hB⟩:i.s.Rep i.p i.B/\i.B.length<=1000:=h;have hbl:=hR.bl;have out (hx:i.inst<0\/(i.B.length:Int)<=i.inst):am lvE (hJ (atB i.B i.inst) (zC i.sd))=[]:=by
  rw[yNi hx];rfl
 unfold yQo zJg bT;refine zI (λc=>Cv.cnd.mk (λd=> ?_) (λd=> ?_)) (λc=> ?_)
 ·have d:¬i.inst<(i.s.books.length:Int):=by simpa using d
  rw[out (.inr (by omega))];exact⟨(),k0q⟩
 ·have d:i.inst<(i.s.books.length:Int):=by simpa using d
  obtain⟨b,hb⟩:=yC (l:=i.s.books) (i:=i.inst.toNat) oM;obtain⟨L,hL⟩:=yC (l:=i.B) (i:=i.inst.toNat) oM;refine⟨⟨c,d⟩,oM,b,hb,⟨b,L,i.sd⟩,rfl,rfl,hR.bk _ b L hb hL,λ_ _=>⟨b,rfl,rfl,oM,?_⟩⟩;rw[vM hb,yPz c hL];exact⟨(),k0q⟩
 ·rw[out (.inl (by omega))];exact⟨(),k0q⟩
def yNa:sladC.ok Tryz.prog 79:=okw mixed (gokc yYt gok0) 1 (λ_=>[]) (λ_=>[]) [0] Tryz.func79 yZi
def zXf (s:Int) (F:List zH):Prop:=F.Pairwise λo o'=>btr s o'.price o.price=ap
def eX (L:List zH) (s:Int):List zH:=L.filter λo=>decide (o.side=s)
structure BWf (p:Prd) (B:List (List zH)):Prop where
 ok:BOk p B
 od:yMk B
 ub:((whL 0 B).map (·.1)).Nodup
 srt:∀(k:Nat) (L:List zH),B[k]? =au L->∀s,s=1\/s=2->zXf s (eX L s)
def z0y {s:Int} {b:Book} {Q:List (List Nat)}:∀{R:List xK},(R.Pairwise λr r'=>btr s r.price r'.price=aq)->zXf s (R.flatMap (b.rOrds Q s))
 |[],_=>List.Pairwise.nil
 |r::R,h=>by
  rw[y9s]at h;rw[y7t,zXf,List.pairwise_append];refine⟨List.pairwise_of_forall_mem_list λo ho o' ho'=> ?_,z0y h.2,λo ho o' ho'=> ?_⟩
  ·rw[(qG ho).2,(qG ho').2];exact lQ _ _
  ·obtain⟨r',hr',ho'⟩:=y8r.1 ho';rw[(qG ho).2,(qG ho').2];exact zYm (h.1 r' hr')
def Book.Rep.srt {b:Book} {L:List zH} (h:b.Rep L) {s:Int} (hs:s=1\/s=2):zXf s (eX L s):=by
 obtain⟨Q,c,ht,rfl⟩:=h;rw[eX,zSc hs];exact z0y (c.srt s hs)
def MSt.Rep.wf {s:MSt} {p:Prd} {B:List (List zH)} (h:s.Rep p B) (hb:BOk p B):BWf p B:=by
 refine⟨hb,h.ords,h.ids,λk L hL=> ?_⟩;obtain⟨b,hb⟩:=yC (l:=s.books) (i:=k) (by rw[h.bl];exact(y6c.1 hL).1);exactλs hs=>(h.bk k b L hb hL).srt hs
def yIt {L:List zH} (h:∀o∈L,zNg o) (hn:(L.map (·.id)).Nodup) (id q:Int):∀o∈(xZ L id q).1,zNg o:=by
 intro o ho;rw[xZ]at ho;split at ho
 ·exact h o ho
 split at ho
 ·exact h o ho
 rename_i hb;obtain⟨o',ho',e⟩:=xBf.1 ho;have h0:=h o' ho';split at e
 ·rename_i e1;have hg:=sH hn ho';rw[e1]at hg;rw[hg]at hb;split at e
  ·cases e
  ·rename_i e2;cases e;have:=h0.q;exact⟨h0.s,Z9⟩
 ·cases e;exact h0
def yLb (L:List zH) (id q:Int):(xZ L id q).1.length<=L.length:=by
 rw[xZ];split
 ·exact y6v _
 split
 ·exact y6v _
 exact List.length_filterMap_le _ _
def yHz {L:List zH} {s:Int} (h:zXf s (eX L s)) (id q:Int):zXf s (eX (xZ L id q).1 s):=by
 rw[xZ];split
 ·exact h
 split
 ·exact h
 have e:eX (uX L id q) s=uX (eX L s) id q:=by
  rw[eX,eX,uX,uX,List.filter_filterMap,List.filterMap_filter];refine aR λo _=> ?_
  by_cases e1:o.id=id
  ·rw[y6a e1];by_cases e2:o.qty=q
   ·rw[y6a e2];simp
   ·rw[y5x e2];by_cases e3:o.side=s<;>simp[Option.filter,e3]
  ·rw[y5x e1];by_cases e3:o.side=s<;>simp[Option.filter,e3]
 rw[e,uX];refine List.Pairwise.filterMap _ (λa a' haa b hb b' hb'=> ?_) h;have g:∀{a b:zH},(if a.id=id then(if a.qty=q then av else au {a with qty:=a.qty-q})else au a)=au b->b.price=a.price:=by
  intro a b e;split at e
  ·split at e
   ·cases e
   ·cases e;rfl
  ·cases e;rfl
 rw[g hb,g hb'];exact haa
def yNo {B:List (List zH)} (h:((whL 0 B).map (·.1)).Nodup) {k:Nat} {L L':List zH} (hL:B[k]? =au L) (hs:(L'.map (·.id)).Sublist (L.map (·.id))):((whL 0 (B.set k L')).map (·.1)).Nodup:=by
 have hk:=(y6c.1 hL).1;obtain⟨rest,hr⟩:=zLc (B:=B) 0 k hk;have h0:=hr L;rw[vM hL]at h0;have h1:=(h0.map (·.1)).nodup_iff.1 h
 refine((hr L').map (·.1)).nodup_iff.2 ?_
 rw[y6i,y8n]at h1 ⊢;exact h1.sublist (List.Sublist.append hs (List.Sublist.refl _))
def BWf.take {p:Prd} {B:List (List zH)} (h:BWf p B) (id q:Int):BWf p (qW B id q).1:=by
 refine⟨h.ok.take id q,?_,?_,?_⟩
 all_goals
  rw[qW];cases hi:aU B id with
  |none=>first|exact h.od|exact h.ub|exact h.srt
  |some k=>
   obtain⟨L,hL,hh⟩:=wX hi;have ho:=h.od k L hL;dsimp only;rw[zT hL]
   first
   |(intro j M hM
     rcases cZ hM with⟨rfl,rfl⟩|⟨_,hM⟩
     ·refine⟨yIt ho.1 ho.2.1 id q,?_,y8u (yLb L id q) ho.2.2⟩;rcases zOj ho.2.1 id q with⟨e,_⟩|⟨e,_⟩
      ·rw[e];exact ho.2.1
      ·rw[e];exact ho.2.1.sublist (List.Sublist.map _ xBu)
     ·exact h.od j M hM)
   |(refine yNo h.ub hL ?_
     rcases zOj ho.2.1 id q with⟨e,_⟩|⟨e,_⟩
     ·rw[e];exact List.Sublist.refl _
     ·rw[e];exact List.Sublist.map _ xBu)
   |(intro j M hM s hs
     rcases cZ hM with⟨rfl,rfl⟩|⟨_,hM⟩
     ·exact yHz (h.srt _ L hL s hs) id q
     ·exact h.srt j M hM s hs)
def BWf.takes {p:Prd}:∀{fs:List cK} {B:List (List zH)},BWf p B->BWf p (kW B fs)
 |[],B,h=>h
 |f::fs,B,h=>BWf.takes (fs:=fs) (h.take f.id f.qty)
def zSe {p:Prd} {B:List (List zH)} (h:BWf p B) {inst:Int} {sd:Bool} {price q:Int} {t:jZ} {B':List (List zH)} (e:aF p B inst sd price q=au (t,B')):BWf p B'/\B'.length=B.length:=by
 rw[aF]at e;dsimp only at e;split at e
 ·split at e
  ·cases e;exact⟨h.takes.takes,by rw[uS,uS]⟩
  ·cases e;exact⟨h.takes,by rw[uS]⟩
 ·cases e
def pV {p:Prd} {inst:Int} {sd:Bool} {price:Int}:∀(m:Nat) (q:Int) (B:List (List zH)),q.toNat<=m->BWf p B->BWf p (wL p B inst sd price q).B/\(wL p B inst sd price q).B.length=B.length/\(0<=q->0<=(wL p B inst sd price q).left/\(wL p B inst sd price q).left<=q)
 |m,q,B,hm,h=>by
  by_cases hq:q<=0
  ·rw[eD (.inl hq)];exact⟨h,rfl,λx=>⟨x,y9i _⟩⟩
  cases hs:aF p B inst sd price q with
  |none=>
   rw[eD (.inr hs)];exact⟨h,rfl,λx=>⟨x,y9i _⟩⟩
  |some x=>
   obtain⟨t,C⟩:=x;obtain⟨k1,k2⟩:=zSe h hs;have hq2:=zPs oM hs;cases m with
   |zero=>omega
   |succ m=>
   obtain⟨i1,i2,i3⟩:=pV (p:=p) (inst:=inst) (sd:=sd) (price:=price) m (q-t.qty) C oM k1;rw[zQc (by omega) hs];exact⟨i1,i2.trans k2,λ_=>⟨(i3 oM).1,by dsimp only;have:=(i3 oM).2;omega⟩⟩
@[reducible] def RunI.ok (i:RunI):Prop:=i.s.Rep i.p i.B/\BOk i.p i.B/\(0<=i.inst/\i.inst<i.B.length)/\1<=i.q/\i.q<=1000000
def scouldC:Con:=con1 RunI (λi=>[.nm 0 0,zA i.inst,zA (zC i.sd),zA i.price,zA i.q]) (λi=>[zD i.s]) (λi=>i.ok) (λi=>zA (i.q-i.r.left)) (λi=>[zD i.s])
def aM (p:Prd) (B:List (List zH)) (inst:Int) (sd:Bool) (price q:Int):Bool:=
 decide ((wL p B inst sd price q).left≠0) && (kO ⟨p,(wL p B inst sd price q).B.map kD,inst⟩ (zC (!sd))).any λx=>cX sd price x.price
def stuckC:Con:=con1 RunI (λi=>[.nm 0 0,zA i.inst,zA (zC i.sd),zA i.price,zA i.q]) (λi=>[zD i.s]) (λi=>i.ok) (λi=>yP (aM i.p i.B i.inst i.sd i.price i.q)) (λi=>[zD i.s])
def zVo (B:List (List zH)):Nat:=(whL 0 B).length
def countC16:Con:=con1 SoI (λi=>[.nm 0 0]) (λi=>[zD i.s]) (λi=>i.ok) (λi=>zA (zVo i.B)) (λi=>[zD i.s])
def fM (p:Prd) (inst price:Int):Int×Int×Int:=
 if(p.legs inst).2.2=ap then(0,0,20)else if p.price inst price≠0 then(0,0,p.price inst price)else
 let far:=p.settle.getD (p.legs inst).2.1.toNat 0
 let a:=if p.high<far+price then(p.high,p.high-price)else(far+price,far)
 if a.1<p.low then(p.low,p.low-price,0)else(a.1,a.2,0)
structure LpI where
 p:Prd
 inst:Int
 price:Int
def lpricesC:Con:=con1 LpI (λi=>[prdV i.p,zA i.inst,zA i.price]) (λ_=>[]) (λi=>i.p.check=0/\i.p.small/\i64r i.price) (λi=> .tup [zA (fM i.p i.inst i.price).1,zA (fM i.p i.inst i.price).2.1,zA (fM i.p i.inst i.price).2.2]) (λ_=>[])
def ijj (t u:Nat):SAnn:={ι:=Int×Int,slots:=λn=>[(t,zA n.1),(u,zA n.2)],rows:=λ_=>[]}
def lpJ:List (Nat×SAnn):=[(50,ijj 15 14),(58,ijj 15 14)]
def yXa:List SAnn:=[{ι:=Nat,slots:=λj=>[(40,zA j)],rows:=λ_=>[]}]
def yWr:List (Nat×SAnn):=[(8,{ι:=Unit,slots:=λ_=>[],rows:=λ_=>[],opn:=[11]})]
def gY (a:MSt):Prop:=a.books.length<=1000000/\∀(b:Book),b∈a.books->(b.a.slots.length<=1000000/\b.a.queues.length<=1000000)/\b.buys.length<=1000000/\b.sells.length<=1000000/\b.spare.length<=1000000
def qP (a:RunI):Prop:=a.s.Rep a.p a.B/\BOk a.p a.B/\(0<=a.inst/\a.inst<(↑a.B.length:Int))/\1<=a.q/\a.q<=1000000
def zCa (a:RunI):Prop:=∃(b:MSt),sb b.p.code=sb a.s.p.code/\b.p.tick=a.s.p.tick/\b.p.low=a.s.p.low/\b.p.high=a.s.p.high/\b.p.wide=a.s.p.wide/\b.p.rule=a.s.p.rule/\b.p.top=a.s.p.top/\b.p.least=a.s.p.least/\b.p.part=a.s.p.part/\ae 197 Book 6 zR b.books av=ae 197 Book 6 zR a.s.books av/\yR b.wh=yR a.s.wh/\aa 1 (iE b.p.months)=aa 1 (iE a.s.p.months)/\aa 1 (iE b.p.settle)=aa 1 (iE a.s.p.settle)/\(gY b)/\∀(c:Unit),True->∃(d:RunI),d.inst=a.inst/\zC d.sd=zC a.sd/\d.price=a.price/\d.q=a.q/\zD d.s=zD b/\(qP d)/\∀(e:MSt),e.Rep d.p d.r.B->∃(f:Unit),a.q-a.r.left=aj.wrap (a.q-d.r.left)/\zD a.s=zD b/\True
def wO (a:RunI):Prop:=∃(b:Unit),a.q-a.r.left=0/\dh (sb a.s.p.code)/\dh a.s.p.tick/\dh a.s.p.low/\dh a.s.p.high/\dh a.s.p.wide/\dh a.s.p.rule/\dh a.s.p.top/\dh a.s.p.least/\dh a.s.p.part/\dh (ae 197 Book 6 zR a.s.books av)/\dh (yR a.s.wh)/\dh (aa 1 (iE a.s.p.months))/\dh (aa 1 (iE a.s.p.settle))/\True
def z8f (i:RunI):Prop:=
 cnd (decide (i.inst>=0)) (cnd (decide (i.inst<(↑i.s.books.length:Int))) (cnd (zC i.sd==1) (cnd (decide (i.q>=1)) (cnd (!decide (i.q<=1000000)) (wO i) (zCa i)) (wO i)) (cnd (zC i.sd==2) (cnd (decide (i.q>=1)) (cnd (!decide (i.q<=1000000)) (wO i) (zCa i)) (wO i)) (wO i))) (wO i)) (wO i)
def z1h (i:SoI):Prop:=
 ∃(a:Unit),(↑(zVo i.B):Int)=(↑(yR i.s.wh).length:Int)/\dh (sb i.s.p.code)/\dh i.s.p.tick/\dh i.s.p.low/\dh i.s.p.high/\dh i.s.p.wide/\dh i.s.p.rule/\dh i.s.p.top/\dh i.s.p.least/\dh i.s.p.part/\dh (ae 197 Book 6 zR i.s.books av)/\dh (yR i.s.wh)/\dh (aa 1 (iE i.s.p.months))/\dh (aa 1 (iE i.s.p.settle))/\True
def cP (a:Int×Int->Prop) (b:Int×Int) (c:LpI):Prop:=a b/\dh (ab [V.d (D.v (ay (sb c.p.code))),V.own 0,V.d (dI c.p.tick),V.d (dI c.p.low),V.d (dI c.p.high),V.d (dI c.p.wide),V.d (dI c.p.rule),V.d (dI c.p.top),V.d (dI c.p.least),V.d (dI c.p.part),V.own 1] 25)/\dh (aa 1 (iE c.p.settle))/\dh (aa 1 (iE c.p.months))
def y3 (a:LpI):=(fM a.p a.inst a.price)
def zZt (i:LpI):Prop:=
 ∃(a:Prd),sb a.code=sb i.p.code/\iE a.months=iE i.p.months/\a.tick=i.p.tick/\a.low=i.p.low/\a.high=i.p.high/\a.wide=i.p.wide/\a.rule=i.p.rule/\a.top=i.p.top/\a.least=i.p.least/\a.part=i.p.part/\iE a.settle=iE i.p.settle/\(z5 a)/\∀(b:Unit),True->cnd (a.check !=0) (∃(c:Unit),(y3 i).fst=0/\(y3 i).snd.fst=0/\(y3 i).snd.snd=1/\True) (∃(c:cG),sb c.p.code=sb i.p.code/\iE c.p.months=iE i.p.months/\c.p.tick=i.p.tick/\c.p.low=i.p.low/\c.p.high=i.p.high/\c.p.wide=i.p.wide/\c.p.rule=i.p.rule/\c.p.top=i.p.top/\c.p.least=i.p.least/\c.p.part=i.p.part/\iE c.p.settle=iE i.p.settle/\c.n=i.inst/\(jF c)/\∀(d:Unit),True->cnd (!(c.p.legs c.n).snd.snd) (∃(e:Unit),(y3 i).fst=0/\(y3 i).snd.fst=0/\(y3 i).snd.snd=20/\True) (∃(e:tP),sb e.p.code=sb i.p.code/\iE e.p.months=iE i.p.months/\e.p.tick=i.p.tick/\e.p.low=i.p.low/\e.p.high=i.p.high/\e.p.wide=i.p.wide/\e.p.rule=i.p.rule/\e.p.top=i.p.top/\e.p.least=i.p.least/\e.p.part=i.p.part/\iE e.p.settle=iE i.p.settle/\e.a=i.inst/\e.b=i.price/\(qA e)/\∀(f:Unit),True->cnd (e.p.price e.a e.b !=0) (∃(g:Unit),(y3 i).fst=0/\(y3 i).snd.fst=0/\(y3 i).snd.snd=e.p.price e.a e.b/\True) ((0<=(c.p.legs c.n).snd.fst/\(c.p.legs c.n).snd.fst<(↑(iE i.p.settle).length:Int))/\∃(g:Int),zE (iE i.p.settle) (c.p.legs c.n).snd.fst.toNat 0 1=au [dI g]/\∃(h:Int×Int),∃(j:Int×Int->Prop),cnd (decide (aj.wrap (g+i.price)>i.p.high)) (∃(k:Int×Int),k.fst=i.p.high/\k.snd=aj.wrap (i.p.high-i.price)/\cP j k i) (∃(k:Int×Int),k.fst=aj.wrap (g+i.price)/\k.snd=g/\cP j k i)/\∀(k:Int×Int),j k->∃(l:Int×Int),∃(m:Int×Int->Prop),cnd (decide (k.fst<i.p.low)) (∃(n:Int×Int),n.fst=i.p.low/\n.snd=aj.wrap (i.p.low-i.price)/\cP m n i) (∃(n:Int×Int),n.fst=k.fst/\n.snd=k.snd/\cP m n i)/\∀(n:Int×Int),m n->∃(p:Unit),(y3 i).fst=n.fst/\(y3 i).snd.fst=n.snd/\(y3 i).snd.snd=0/\True)))
def zDe (a:MSt) (b:MSt):Prop:=sb a.p.code=sb b.p.code/\True/\a.p.tick=b.p.tick/\a.p.low=b.p.low/\a.p.high=b.p.high/\a.p.wide=b.p.wide/\a.p.rule=b.p.rule/\a.p.top=b.p.top/\a.p.least=b.p.least/\a.p.part=b.p.part/\True/\True
def yJd (i:RunI):Prop:=
 ∃(a:MSt),zD a=zD i.s/\(gY a)/\∀(b:Unit),True->∃(c:RunI),c.inst=i.inst/\zC c.sd=zC i.sd/\c.price=i.price/\c.q=i.q/\zD c.s=zD a/\(qP c)/\∀(d:MSt),d.Rep c.p c.r.B->cnd (c.r.left==0) (∃(e:Unit),aM i.p i.B i.inst i.sd i.price i.q=ap/\zD i.s=zD a/\True) (∃(e:MSt),sb e.p.code=sb d.p.code/\e.p.tick=d.p.tick/\e.p.low=d.p.low/\e.p.high=d.p.high/\e.p.wide=d.p.wide/\e.p.rule=d.p.rule/\e.p.top=d.p.top/\e.p.least=d.p.least/\e.p.part=d.p.part/\ae 197 Book 6 zR e.books av=ae 197 Book 6 zR d.books av/\yR e.wh=yR d.wh/\aa 1 (iE e.p.months)=aa 1 (iE d.p.months)/\aa 1 (iE e.p.settle)=aa 1 (iE d.p.settle)/\(dE e)/\∀(f:Unit),True->(zDe e d)/\∃(g:Bool),zC g=zC i.sd/\True/\∀(h:Unit),True->(zDe e d)/\∃(j:lE),sb j.i.p.code=sb d.p.code/\iE j.i.p.months=iE e.p.months/\j.i.p.tick=d.p.tick/\j.i.p.low=d.p.low/\j.i.p.high=d.p.high/\j.i.p.wide=d.p.wide/\j.i.p.rule=d.p.rule/\j.i.p.top=d.p.top/\j.i.p.least=d.p.least/\j.i.p.part=d.p.part/\iE j.i.p.settle=iE e.p.settle/\am z6 j.i.tops=am z6 e.tops/\j.i.inst=i.inst/\zC j.s=zC !g/\(kL j)/\∀(k:Unit),True->∃(l:Nat),(↑l:Int)=0/\∃(m:Nat->Prop),∃(n:Nat->Nat),m l/\∀(p:Nat),m p->cnd (decide ((↑p:Int)<(gZ j))) ((0<=(↑p:Int)/\(↑p:Int)<(gZ j))/\∃(q:Int),∃(r:Int),∃(s:Int),∃(t:Int),∃(u:Int),∃(v:Int),zE (jS j) (↑p:Int).toNat 0 6=au [dI q,dI r,dI s,dI t,dI u,dI v]/\∃(w:GoI),zC w.s=zC i.sd/\w.p=i.price/\w.x=q/\True/\∀(x:Unit),True->cnd (cX w.s w.p w.x) (∃(y:Unit),aM i.p i.B i.inst i.sd i.price i.q=aq/\zD i.s=zD a/\True) (∃(y:Nat),(↑y:Int)=aj.wrap ((↑p:Int)+1)/\m y/\n y<n p/\dh (ag 172 6 (jS j))/\dh (ab [V.d (g8 e),V.own 5,V.d (dI e.p.tick),V.d (dI e.p.low),V.d (dI e.p.high),V.d (dI e.p.wide),V.d (dI e.p.rule),V.d (dI e.p.top),V.d (dI e.p.least),V.d (dI e.p.part),V.own 6,V.own 3,V.mp 4] (195:ba))/\dh (ae 197 Book 6 zR e.books av)/\dh (af (yR e.wh))/\dh (aa 1 (iE e.p.months))/\dh (aa 1 (iE e.p.settle))/\dh (aa 6 (am z6 e.tops))/\dh (aa 1 (iE d.p.months))/\dh (aa 1 (iE d.p.settle))/\dh (ag 290 4 (am wH c.r.steps))/\zD a=zD a)) (∃(q:Unit),aM i.p i.B i.inst i.sd i.price i.q=ap/\zD i.s=zD a/\True))
def MSt.Rep.small {s:MSt} {p:Prd} {B:List (List zH)} (h:s.Rep p B) (hb:BOk p B):s.small:=by
 have:=xL p;refine⟨by rw[h.bl,hb.bl];omega,λb hm=> ?_⟩;obtain⟨k,hk⟩:=y8p.1 hm;have hlt:=(y6c.1 hk).1;rw[h.bl]at hlt;obtain⟨L,hL⟩:=yC hlt;obtain⟨Q,c,_⟩:=h.bk k b L hk hL;exact c.small
def yNn (i:RunI) (h:scouldC.cnd i):z8f i:=by
 have h':i.ok:=h;obtain⟨hR,hB,⟨h0,h1⟩,hq1,hq2⟩:=h';have hbl:=hR.bl;have hl:=(pV (inst:=i.inst) (sd:=i.sd) (price:=i.price) _ i.q i.B (y6v _) (hR.wf hB)).2.2 oM;have er:i.r=wL i.p i.B i.inst i.sd i.price i.q:=rfl;unfold z8f zCa qP gY wO;refine(λhT=>zI (λc=>zI (λc2=>Cv.cnd.mk (λ_=>zI (λ_=>Cv.cnd.mk (λe=>absurd hq2 (by simpa using e)) (λ_=>hT)) (λe=>absurd hq1 e)) (λe1=>Cv.cnd.mk (λ_=>zI (λ_=>Cv.cnd.mk (λe=>absurd hq2 (by simpa using e)) (λ_=>hT)) (λe=>absurd hq1 e)) (λe2=>by
  rcases zFl i.sd with e|e
  ·rw[e]at e1;cases e1
  ·rw[e]at e2;cases e2))) (λc2=>absurd oM c2)) (λc=>absurd h0 c)) ?_
 refine⟨i.s,rF8 (rF4 ⟨rfl,hR.small hB,λ_ _=>⟨i,rF4 ⟨rfl,h,λo ho=>⟨(),?_,rfl,trivial⟩⟩⟩⟩)⟩;rw[w64 (by rw[er];omega)]
def yCh:scouldC.ok Tryz.prog 166:=okw mixed (gokc zFk (gokc z4s gok0)) 2 (λ_=>[]) (λ_=>[]) [0] Tryz.func166 yNn
def yFl (i:SoI) (h:countC16.cnd i):z1h i:=by
 obtain⟨hR,hB⟩:i.s.Rep i.p i.B/\i.B.length<=1000:=h;unfold z1h;have e:(yR i.s.wh).length=zVo i.B:=by rw[yR,y5z,hR.wh.length_eq,zVo]
 exact⟨(),by rw[e],k0q⟩
def z4a:countC16.ok Tryz.prog 165:=okw mixed gok0 0 (λ_=>[]) (λ_=>[]) [0] Tryz.func165 yFl
def zOt {p:Prd} {i n:Int} (h:p.price i n=0):0<=i/\i<p.count:=by
 rw[Prd.price]at h;split at h
 ·cases h
 split at h
 ·cases h
 omega
def yLe (i:LpI) (h:lpricesC.cnd i):zZt i:=by
 obtain⟨hc,hp,hpr⟩:i.p.check=0/\i.p.small/\i64r i.price:=h;unfold zZt cP y3 z5 jF qA dI;refine⟨i.p,rF7 (rF3 ⟨rfl,hp,λ_ _=>Cv.cnd.mk (λe=>by rw[hc]at e;cases e) (λ_=> ?_)⟩)⟩;refine⟨⟨i.p,i.inst⟩,rF8 (rF3 ⟨rfl,hp,λ_ _=>Cv.cnd.mk (λe=> ?_) (λe=> ?_)⟩)⟩
 ·have e:(i.p.legs i.inst).2.2=ap:=by simpa using e
  have h0:fM i.p i.inst i.price=(0,0,20):=by rw[fM,y6a e]
  rw[h0];exact⟨(),rF3 trivial⟩
 have e:(i.p.legs i.inst).2.2=aq:=by simpa using e
 refine⟨⟨i.p,i.inst,i.price⟩,rF8 (rF4 ⟨rfl,hp,λ_ _=>Cv.cnd.mk (λe2=> ?_) (λe2=> ?_)⟩)⟩
 ·have e2:¬i.p.price i.inst i.price=0:=by simpa using e2
  have h0:fM i.p i.inst i.price=(0,0,i.p.price i.inst i.price):=by rw[fM,y5x (by rw[e];decide),y6a e2]
  rw[h0];exact⟨(),rF3 trivial⟩
 have e2:i.p.price i.inst i.price=0:=by simpa using e2
 have hin:=zOt e2;have hbd:=lB hc e2;have ok:=kI hc;have b1:=ok.b1;have b2:=ok.b2;have b3:=ok.b3;have s1:=ok.s1;have s2:=ok.s2;have s3:=ok.s3;obtain⟨k,hk⟩:∃k:Nat,i.inst=k:=⟨i.inst.toNat,oM⟩
 have hl:=g9 hc (k:=k) oM;rw[<- hk]at hl;rcases hl with⟨_,_,_,l3,l4⟩|⟨x,_⟩
 rotate_left
 ·rw[e]at x;cases x
 have hsl:(iE i.p.settle).length=i.p.settle.length:=yY _;obtain⟨n,hn⟩:=yC (l:=i.p.settle) (i:=(i.p.legs i.inst).2.1.toNat) oM;have hm:=y6j hn;have m1:=z6o hm;have m2:=z6c hm;have hg:i.p.settle.getD (i.p.legs i.inst).2.1.toNat 0=n:=zT hn;have h0:fM i.p i.inst i.price=(if(if i.p.high<n+i.price then(i.p.high,i.p.high-i.price)else(n+i.price,n)).1<i.p.low then(i.p.low,i.p.low-i.price,0)else((if i.p.high<n+i.price then(i.p.high,i.p.high-i.price)else(n+i.price,n)).1,(if i.p.high<n+i.price then(i.p.high,i.p.high-i.price)else(n+i.price,n)).2,0)):=by
  rw[fM,y5x (by rw[e];decide),y5x (by rw[e2];decide)];dsimp only;rw[hg]
 dsimp only;refine⟨⟨l3,oM⟩,n,elI hn,(0,0),λa=>a=if i.p.high<n+i.price then(i.p.high,i.p.high-i.price)else(n+i.price,n),zI (λc=>⟨(i.p.high,i.p.high-i.price),rfl,(w64 oM).symm,?_,k0q⟩) (λc=>⟨(n+i.price,n),(w64 oM).symm,rfl,?_,k0q⟩),?_⟩
 ·rw[w64 (by omega)]at c;rw[y6a c]
 ·rw[w64 (by omega)]at c;rw[y5x c]
 rintro _ rfl;generalize (if i.p.high<n+i.price then(i.p.high,i.p.high-i.price)else(n+i.price,n))=a at h0 ⊢;refine⟨(0,0),λb=>b=if a.1<i.p.low then(i.p.low,i.p.low-i.price)else a,zI (λc=>⟨(i.p.low,i.p.low-i.price),rfl,(w64 oM).symm,by rw[y6a c],k0q⟩) (λc=>⟨a,rfl,rfl,by rw[y5x c],k0q⟩),?_⟩;rintro _ rfl;rw[h0];by_cases c:a.1<i.p.low
 ·rw[y6a c,y6a c];exact⟨(),rF3 trivial⟩
 ·rw[y5x c,y5x c];exact⟨(),rF3 trivial⟩
def z2y:lpricesC.ok Tryz.prog 201:=okw mixed (gokc eE (gokc zAb (gokc eZ gok0))) 0 (λ_=>lpJ) (λ_=>[]) [] Tryz.func201 yLe
def yOt {l:List Quote} {k:Nat} {q:Quote} (h:l[k]? =au q):zE (l.map zJ) k 0 6=au [D.v (.int .i64 q.price),D.v (.int .i64 q.qty),D.v (.int .i64 q.a.inst),D.v (.int .i64 q.a.side),D.v (.int .i64 q.b.inst),D.v (.int .i64 q.b.side)]:=elA h (by simp[zJ]) rfl
def yUa (i:RunI) (h:stuckC.cnd i):yJd i:=by
 have h':i.ok:=h;obtain⟨hR,hB,⟨h0,h1⟩,hq1,hq2⟩:=h';have hwf:=hR.wf hB;obtain⟨k1,k2,k3⟩:=pV (inst:=i.inst) (sd:=i.sd) (price:=i.price) _ i.q i.B (y6v _) hwf;have hcl:=xL i.p;unfold yJd g8 zDe qP gY gZ jS kL fF dE dI;refine⟨i.s,rfl,hR.small hB,λ_ _=>⟨i,rF4 ⟨rfl,h,λo ho=> ?_⟩⟩⟩;have er:i.r=wL i.p i.B i.inst i.sd i.price i.q:=rfl;have es:aM i.p i.B i.inst i.sd i.price i.q=(decide ((wL i.p i.B i.inst i.sd i.price i.q).left≠0) && (kO ⟨i.p,(wL i.p i.B i.inst i.sd i.price i.q).B.map kD,i.inst⟩ (zC (!i.sd))).any λx=>cX i.sd i.price x.price):=rfl;rw[er]at ho ⊢;rw[es];generalize wL i.p i.B i.inst i.sd i.price i.q=R at*;obtain⟨ts,lf,RB⟩:=R;dsimp only at*;refine Cv.cnd.mk (λe=>⟨(),?_,rfl,trivial⟩) (λe=> ?_)
 ·have e:lf=0:=by simpa using e
  rw[e];rfl
 have e:lf≠0:=by simpa using e
 rw[y6p e,y8v];have ep:=ho.ep;have hB':=k1.ok;have hbl:=hB'.bl;have hcnt:o.cntOk:=ho.cnt oM;have hps:o.p.small:=by rw[ep];exact hB'.ps
 have hto:vN (RB.map kD):=hB'.tops;have hle:=zFw ⟨o.p,RB.map kD,i.inst⟩ (zC (!i.sd));refine⟨o,rF8 (rF4 ⟨rfl,hcnt,λ_ _=>⟨⟨rfl,trivial,rF7 ⟨rfl,trivial,trivial⟩⟩,i.sd,rfl,trivial,λ_ _=>⟨⟨rfl,trivial,rF7 ⟨rfl,trivial,trivial⟩⟩,⟨⟨o.p,RB.map kD,i.inst⟩,!i.sd⟩,rF7 (rF3 ⟨rfl,by rw[ho.tops],rfl,rfl,⟨hps,hto⟩,λ_ _=> ?_⟩)⟩⟩⟩)⟩;dsimp only;rw[<- ep];generalize kO ⟨o.p,RB.map kD,i.inst⟩ (zC (!i.sd))=Q at*;have e4:(Q.map zJ).length=Q.length:=y5z ..;refine⟨0,rfl,λj=>j<=Q.length/\(Q.take j).any (λx=>cX i.sd i.price x.price)=ap,λj=>Q.length-j,⟨y7e _,rfl⟩,?_⟩;rintro j ⟨j1,j2⟩;refine zI (λc=> ?_) (λc=>⟨(),?_,rfl,trivial⟩)
 ·obtain⟨q,hq⟩:=yC (l:=Q) (i:=j) oM;refine⟨⟨oM,oM⟩,_,_,_,_,_,_,yOt hq,⟨i.sd,i.price,q.price⟩,rfl,rfl,rfl,trivial,λ_ _=>Cv.cnd.mk (λg=>⟨(),?_,rfl,trivial⟩) (λg=>⟨j+1,wjn oM,⟨oM,?_⟩,Z9,k0q⟩)⟩
  ·rw[List.any_eq_true];exact⟨q,y6j hq,g⟩
  ·rw[y7h,hq,List.any_append,j2];show(ap||([q].any λx=>cX i.sd i.price x.price))=ap;simp only[List.any_cons,List.any_nil,Bool.or_false,xBw];exact g
 ·have:j=Q.length:=by omega
  rw[this,y6k (y6v _)]at j2;exact j2
def z0v:stuckC.ok Tryz.prog 167:=okw mixed (gokc zFk (gokc z4s (gokc zYf (gokc yHy (gokc zTr (gokc zZw gok0)))))) 0 (λ_=>yWr) (λ_=>yXa) [] Tryz.func167 yUa
def nE (c:Cmd) (why:Int):List Rep:=[⟨2,c.id,0,0,0,0,0,why⟩]
def ofF (x:jZ) (k:Int):Int:=match x.fills.find? λf=>decide (f.inst=k)with
 |some f=>f.price
 |none=>x.price
def wU (p:Prd) (inst:Int) (x:jZ):Int×Int:=if x.implied=ap then((fM p inst x.price).1,(fM p inst x.price).2.1)else(ofF x (p.legs inst).1,ofF x (p.legs inst).2.1)
def zGe (p:Prd) (r:Rep) (near far:Int):List Rep:=[{r with inst:=(p.legs r.inst).1,price:=near},{r with inst:=(p.legs r.inst).2.1,side:=3-r.side,price:=far}]
def mT (p:Prd) (x:jZ) (r:Rep):List Rep:=r::if(p.legs r.inst).2.2=aq then zGe p r (wU p r.inst x).1 (wU p r.inst x).2 else[]
def zGn (f:cK):Rep:=⟨3,f.id,f.inst,f.side,f.price,f.qty,f.left,0⟩
def m3 (p:Prd) (c:Cmd) (x:jZ) (left:Int):List Rep:=x.fills.flatMap (λf=>mT p x (zGn f))++mT p x ⟨3,c.id,c.inst,c.side,x.price,x.qty,left,0⟩
def aD (p:Prd) (c:Cmd):List jZ->Int->List Rep
 |[],_=>[]
 |x::l,left=>m3 p c x (left-x.qty)++aD p c l (left-x.qty)
structure MkX where
 B:List (List zH)
 U:List Int
 R:List Rep
def zQk (U:List Int) (id:Int):List Int:=if id∈U then U else U++[id]
def cU (p:Prd) (B:List (List zH)) (U:List Int) (c:Cmd):MkX:=match wL p B c.inst (decide (c.side=2)) c.price c.qty with
 |⟨ts,left,B'⟩=>⟨if left≠0/\c.time=1 then(z2w p B' c.inst c.id c.side c.price left).1 else B',zQk U c.id,
  (⟨1,c.id,c.inst,c.side,c.price,c.qty,c.qty,0⟩::aD p c ts c.qty)++if left≠0/\c.time≠1 then[⟨4,c.id,c.inst,c.side,c.price,left,0,0⟩]else[]⟩
def Cmd.lst (c:Cmd):Int:=if c.time=3 then c.qty else c.least
def nB (p:Prd) (B:List (List zH)) (U:List Int) (c:Cmd):MkX:=
 if p.price c.inst c.price≠0 then⟨B,U,nE c (p.price c.inst c.price)⟩
 else if c.id∈U then⟨B,U,nE c 25⟩
 else if 250<=zVo B then⟨B,U,nE c 13⟩
 else if 0<c.lst/\c.qty-(wL p B c.inst (decide (c.side=2)) c.price c.qty).left<c.lst then⟨B,U,nE c 28⟩
 else if c.time=1/\aM p B c.inst (decide (c.side=2)) c.price c.qty=aq then⟨B,U,nE c 23⟩
 else cU p B U c
def uP (B:List (List zH)) (U:List Int) (id inst:Int) (o:zH):MkX:=⟨(qW B id o.qty).1,U,[⟨4,id,inst,o.side,o.price,o.qty,0,0⟩]⟩
def cC (B:List (List zH)) (U:List Int) (id q inst:Int) (o:zH):MkX:=⟨(qW B id q).1,U,[⟨5,id,inst,o.side,o.price,q,o.qty-q,0⟩]⟩
def gC (p:Prd) (B:List (List zH)) (U:List Int) (c:Cmd) (inst:Int) (o:zH):MkX:=
 if p.price inst c.price≠0 then⟨B,U,nE c (p.price inst c.price)⟩
 else if c.price=o.price/\c.qty<=o.qty then cC B U c.id (o.qty-c.qty) inst o
 else if aM p (qW B c.id o.qty).1 inst (decide (o.side=2)) c.price c.qty=aq then⟨B,U,nE c 23⟩
 else
  let x:=uP B U c.id inst o
  let y:=cU p x.B U ⟨1,c.id,inst,o.side,c.price,c.qty,0,1,[]⟩
  ⟨y.B,y.U,x.R++y.R⟩
def doF (p:Prd) (B:List (List zH)) (U:List Int) (c:Cmd):MkX:=
 if c.right≠0 then⟨B,U,nE c c.right⟩
 else if c.kind=1 then nB p B U c
 else if(zK B c.id).2.2=ap then⟨B,U,nE c 26⟩
 else if c.kind=4 then gC p B U c (zK B c.id).1 (zK B c.id).2.1
 else if c.kind=2\/(zK B c.id).2.1.qty<=c.qty then uP B U c.id (zK B c.id).1 (zK B c.id).2.1
 else cC B U c.id c.qty (zK B c.id).1 (zK B c.id).2.1
structure Mkt.Rep (m:Mkt) (p:Prd) (B:List (List zH)) (U:List Int):Prop where
 ep:m.p=p
 s:m.s.Rep p B
 u:m.used=U
@[reducible] def zBh (m:Mkt):List AObj:=[yI m 0,yI m 1,yI m 2,yI m 3,yI m 4]
@[reducible] def yRx (x:jZ):V:= .agg [zA x.price,zA x.qty,yP x.implied,roV 6 (x.fills.map yX)]
@[reducible] def tRp:Nat:=65
@[reducible] def z2h (l:List Rep):AObj:= .own tRp 8 (l.map xQ)
structure RjI where
 c:Cmd
 why:Int
def rejC:Con:=con1 RjI (λi=>[zGc i.c,zA i.why]) (λ_=>[]) (λ_=>True) (λ_=> .own 0) (λi=>[z2h (nE i.c i.why)])
structure MsI where
 m:Mkt
 r:Rep
 near:Int
 far:Int
@[reducible] def Mkt.fine (m:Mkt):Prop:=m.p.check=0/\m.p.small
def mspreadC:Con:=con1 MsI (λi=>[.nm 0 0,y4f i.r,zA i.near,zA i.far]) (λi=>zBh i.m) (λi=>i.m.fine/\(i.r.side=1\/i.r.side=2)) (λ_=> .own 5) (λi=>zBh i.m++[z2h (zGe i.m.p i.r i.near i.far)])
structure MiN where
 m:Mkt
 inst:Int
def misC:Con:=con1 MiN (λi=>[.nm 0 0,zA i.inst]) (λi=>zBh i.m) (λi=>i.m.fine) (λi=>yP (i.m.p.legs i.inst).2.2) (λi=>zBh i.m)
structure OfI where
 x:jZ
 k:Int
@[reducible] def zXs (x:jZ) (n:Nat):List AObj:=[.cells [zA x.price,zA x.qty,yP x.implied,.own n] 290,.fro 6 (x.fills.map yX)]
def ofC:Con:=con1 OfI (λi=>[zA i.k,.nm 0 0]) (λi=>zXs i.x 1) (λi=>i.x.fills.length<=1000000) (λi=>zA (ofF i.x i.k)) (λi=>zXs i.x 1)
def ofA:List SAnn:=[{ι:=Nat,slots:=λj=>[(9,zA j)],rows:=λ_=>[]}]
structure MpI where
 m:Mkt
 inst:Int
 x:jZ
def mpricesC:Con:=con1 MpI (λi=>[.nm 0 0,zA i.inst,yRx i.x]) (λi=>zBh i.m) (λi=>i.m.fine/\i64r i.x.price/\i.x.fills.length<=1000000) (λi=> .tup [zA (wU i.m.p i.inst i.x).1,zA (wU i.m.p i.inst i.x).2]) (λi=>zBh i.m)
structure StI' where
 m:Mkt
 c:Cmd
 x:jZ
 left:Int
def StI'.out (i:StI') (j:Nat):List Rep:=(i.x.fills.take j).flatMap λf=>mT i.m.p i.x (zGn f)
def mstepC:Con:=con1 StI' (λi=>[.nm 0 0,zGc i.c,yRx i.x,zA i.left]) (λi=>zBh i.m) (λi=>i.m.fine/\i64r i.x.price/\i.x.fills.length<=1000000/\(i.c.side=1\/i.c.side=2)/\∀f∈i.x.fills,f.side=1\/f.side=2) (λ_=> .own 5) (λi=>zBh i.m++[z2h (m3 i.m.p i.c i.x i.left)])
def yUz (i:StI'):List SAnn:=[{ι:=Nat,slots:=λj=>[(9,.nm 0 0),(17,zA j)],rows:=λj=>[.cells [.own 1] 89,z2h (i.out j)]}]
def y5k (i:RjI):Prop:=
 ∃(o:Unit),[xQ (Rep.mk 2 i.c.id 0 0 0 0 0 i.why)]=[[D.v (.int .i64 2),D.v (.int .i64 i.c.id),D.v (.int .i64 0),D.v (.int .i64 0),D.v (.int .i64 0),D.v (.int .i64 0),D.v (.int .i64 0),D.v (.int .i64 i.why)]]/\True
def uK (a:MsI):Prop:=a.r.kind=a.r.kind/\dh a.r.id/\dh a.r.inst/\dh a.r.side/\dh a.r.price/\dh a.r.qty/\dh a.r.left/\dh a.r.why/\True
def fN (a:MsI):=(Rep.mk a.r.kind a.r.id (a.m.p.legs a.r.inst).snd.fst (3-a.r.side) a.far a.r.qty a.r.left a.r.why)
def fU (a:MsI):=(Rep.mk a.r.kind a.r.id (a.m.p.legs a.r.inst).fst a.r.side a.near a.r.qty a.r.left a.r.why)
def eH (a:MsI) (b:cG):Prop:=(uK a)/\(uK a)/\(uK a)/\(uK a)/\(uK a)/\dh a.r.side/\∃(c:Unit),dh (sb a.m.p.code)/\dh a.m.p.tick/\dh a.m.p.low/\dh a.m.p.high/\dh a.m.p.wide/\dh a.m.p.rule/\dh a.m.p.top/\dh a.m.p.least/\dh a.m.p.part/\zD a.m.s=yI a.m 1/\dh (zV a.m.used)/\aa 1 (iE a.m.p.months)=yI a.m 3/\aa 1 (iE a.m.p.settle)=yI a.m 4/\[xQ (fU a),xQ (fN a)]=[[dI a.r.kind,dI a.r.id,dI ((b.p.legs b.n).fst),dI a.r.side,dI a.near,dI a.r.qty,dI a.r.left,dI a.r.why],[dI a.r.kind,dI a.r.id,dI (vF b),dI (aj.wrap (3-a.r.side)),dI a.far,dI a.r.qty,dI a.r.left,dI a.r.why]]/\True
def zXv (i:MsI):Prop:=
 ∃(a:cG),sb a.p.code=sb i.m.p.code/\iE a.p.months=iE i.m.p.months/\a.p.tick=i.m.p.tick/\a.p.low=i.m.p.low/\a.p.high=i.m.p.high/\a.p.wide=i.m.p.wide/\a.p.rule=i.m.p.rule/\a.p.top=i.m.p.top/\a.p.least=i.m.p.least/\a.p.part=i.m.p.part/\iE a.p.settle=iE i.m.p.settle/\a.n=i.r.inst/\(jF a)/\∀(b:Unit),True->(eH i a)/\eH i a
def y4x (i:MiN):Prop:=
 ∃(i_1:cG),sb i_1.p.code=sb i.m.p.code/\iE i_1.p.months=iE i.m.p.months/\i_1.p.tick=i.m.p.tick/\i_1.p.low=i.m.p.low/\i_1.p.high=i.m.p.high/\i_1.p.wide=i.m.p.wide/\i_1.p.rule=i.m.p.rule/\i_1.p.top=i.m.p.top/\i_1.p.least=i.m.p.least/\i_1.p.part=i.m.p.part/\iE i_1.p.settle=iE i.m.p.settle/\i_1.n=i.inst/\(i_1.p.code.length<=1099511627776/\i_1.p.months.length<=1099511627776/\i_1.p.settle.length<=1099511627776)/\∀(o:Unit),True->∃(o:Unit),(i.m.p.legs i.inst).snd.snd=(i_1.p.legs i_1.n).snd.snd/\dh (sb i.m.p.code)/\dh i.m.p.tick/\dh i.m.p.low/\dh i.m.p.high/\dh i.m.p.wide/\dh i.m.p.rule/\dh i.m.p.top/\dh i.m.p.least/\dh i.m.p.part/\zD i.m.s=yI i.m 1/\dh (zV i.m.used)/\aa 1 (iE i.m.p.months)=yI i.m 3/\aa 1 (iE i.m.p.settle)=yI i.m 4/\True
def zVw (a:OfI):Prop:=a.x.price=a.x.price/\dh a.x.qty/\dh a.x.implied/\dh (aa 6 (am yX a.x.fills))/\True
def Vof (i:OfI):Prop:=
 ∃(a:Nat),(↑a:Int)=0/\∃(b:Nat->Prop),∃(c:Nat->Nat),b a/\∀(d:Nat),b d->cnd (decide ((↑d:Int)<(↑(am yX i.x.fills).length:Int))) ((0<=(↑d:Int)/\(↑d:Int)<(↑(am yX i.x.fills).length:Int))/\∃(e:Int),∃(f:Int),∃(g:Int),∃(h:Int),∃(j:Int),∃(k:Int),zE (am yX i.x.fills) (↑d:Int).toNat 0 6=au [dI e,dI f,dI g,dI h,dI j,dI k]/\cnd (f==i.k) (∃(l:Unit),ofF i.x i.k=h/\zVw i) (∃(l:Nat),(↑l:Int)=aj.wrap ((↑d:Int)+1)/\b l/\c l<c d/\dh (ab [zA i.x.price,zA i.x.qty,yP i.x.implied,V.own 1] (290:ba))/\dh (aa 6 (am yX i.x.fills)))) (∃(e:Unit),ofF i.x i.k=i.x.price/\zVw i)
def rM (a:MpI):Prop:=sb a.m.p.code=sb a.m.p.code/\dh a.m.p.tick/\dh a.m.p.low/\dh a.m.p.high/\dh a.m.p.wide/\dh a.m.p.rule/\dh a.m.p.top/\dh a.m.p.least/\dh a.m.p.part/\zD a.m.s=yI a.m 1/\dh (zV a.m.used)/\aa 1 (iE a.m.p.months)=yI a.m 3/\aa 1 (iE a.m.p.settle)=yI a.m 4/\True
def qJ (a:MpI):=(wU a.m.p a.inst a.x)
def zYi (i:MpI):Prop:=
 cnd (!i.x.implied) (∃(a:LpI),sb a.p.code=sb i.m.p.code/\iE a.p.months=iE i.m.p.months/\a.p.tick=i.m.p.tick/\a.p.low=i.m.p.low/\a.p.high=i.m.p.high/\a.p.wide=i.m.p.wide/\a.p.rule=i.m.p.rule/\a.p.top=i.m.p.top/\a.p.least=i.m.p.least/\a.p.part=i.m.p.part/\iE a.p.settle=iE i.m.p.settle/\a.inst=i.inst/\a.price=i.x.price/\(a.p.check=0/\(a.p.code.length<=1099511627776/\a.p.months.length<=1099511627776/\a.p.settle.length<=1099511627776)/\(-9223372036854775808)<=a.price/\a.price<=9223372036854775807)/\∀(b:Unit),True->∃(c:Unit),(qJ i).fst=(y3 a).fst/\(qJ i).snd=(y3 a).snd.fst/\rM i) (∃(a:cG),sb a.p.code=sb i.m.p.code/\iE a.p.months=iE i.m.p.months/\a.p.tick=i.m.p.tick/\a.p.low=i.m.p.low/\a.p.high=i.m.p.high/\a.p.wide=i.m.p.wide/\a.p.rule=i.m.p.rule/\a.p.top=i.m.p.top/\a.p.least=i.m.p.least/\a.p.part=i.m.p.part/\iE a.p.settle=iE i.m.p.settle/\a.n=i.inst/\(jF a)/\∀(b:Unit),True->∃(c:OfI),c.k=(a.p.legs a.n).fst/\c.x.price=i.x.price/\c.x.qty=i.x.qty/\c.x.implied=i.x.implied/\aa 6 (am yX c.x.fills)=aa 6 (am yX i.x.fills)/\c.x.fills.length<=1000000/\∀(d:Unit),True->∃(e:OfI),e.k=(a.p.legs a.n).snd.fst/\e.x.price=c.x.price/\e.x.qty=c.x.qty/\e.x.implied=c.x.implied/\aa 6 (am yX e.x.fills)=aa 6 (am yX c.x.fills)/\e.x.fills.length<=1000000/\∀(f:Unit),True->∃(g:Unit),(qJ i).fst=ofF c.x c.k/\(qJ i).snd=ofF e.x e.k/\rM i)
def zDq (a:MpI):Prop:=(a.m.p.check=0/\a.m.p.code.length<=1099511627776/\a.m.p.months.length<=1099511627776/\a.m.p.settle.length<=1099511627776)/\((-9223372036854775808)<=a.x.price/\a.x.price<=9223372036854775807)/\a.x.fills.length<=1000000
def zDa (a:MsI):Prop:=(a.m.p.check=0/\a.m.p.code.length<=1099511627776/\a.m.p.months.length<=1099511627776/\a.m.p.settle.length<=1099511627776)/\(a.r.side=1\/a.r.side=2)
def zCf (a:MiN):Prop:=a.m.p.check=0/\a.m.p.code.length<=1099511627776/\a.m.p.months.length<=1099511627776/\a.m.p.settle.length<=1099511627776
def b8 (a:StI'):=(D.v (ay (sb a.c.label)))
def yHc (i:StI'):Prop:=
 ∃(a:Nat),(↑a:Int)=0/\am xQ (i.out a)=[]/\∃(b:Nat->Prop),∃(c:Nat->Nat),b a/\∀(d:Nat),b d->cnd (decide ((↑d:Int)<(↑(am yX i.x.fills).length:Int))) ((0<=(↑d:Int)/\(↑d:Int)<(↑(am yX i.x.fills).length:Int))/\∃(e:Int),∃(f:Int),∃(g:Int),∃(h:Int),∃(j:Int),∃(k:Int),zE (am yX i.x.fills) (↑d:Int).toNat 0 6=au [dI e,dI f,dI g,dI h,dI j,dI k]/\((am xQ (i.out d)).length+1)*(64:Nat)<=(140737488355328:Nat)/\∃(l:MiN),l.inst=f/\sb l.m.p.code=sb i.m.p.code/\l.m.p.tick=i.m.p.tick/\l.m.p.low=i.m.p.low/\l.m.p.high=i.m.p.high/\l.m.p.wide=i.m.p.wide/\l.m.p.rule=i.m.p.rule/\l.m.p.top=i.m.p.top/\l.m.p.least=i.m.p.least/\l.m.p.part=i.m.p.part/\zD l.m.s=yI i.m 1/\zV l.m.used=zV i.m.used/\aa 1 (iE l.m.p.months)=yI i.m 3/\aa 1 (iE l.m.p.settle)=yI i.m 4/\(zCf l)/\∀(m:Unit),True->cnd (l.m.p.legs l.inst).snd.snd (∃(n:MpI),n.inst=f/\n.x.price=i.x.price/\n.x.qty=i.x.qty/\n.x.implied=i.x.implied/\am yX n.x.fills=am yX i.x.fills/\sb n.m.p.code=sb l.m.p.code/\n.m.p.tick=l.m.p.tick/\n.m.p.low=l.m.p.low/\n.m.p.high=l.m.p.high/\n.m.p.wide=l.m.p.wide/\n.m.p.rule=l.m.p.rule/\n.m.p.top=l.m.p.top/\n.m.p.least=l.m.p.least/\n.m.p.part=l.m.p.part/\zD n.m.s=zD l.m.s/\zV n.m.used=zV l.m.used/\aa 1 (iE n.m.p.months)=aa 1 (iE l.m.p.months)/\aa 1 (iE n.m.p.settle)=aa 1 (iE l.m.p.settle)/\(zDq n)/\∀(p:Unit),True->∃(q:MsI),q.r.kind=3/\q.r.id=e/\q.r.inst=f/\q.r.side=g/\q.r.price=h/\q.r.qty=j/\q.r.left=k/\q.r.why=0/\q.near=(qJ n).fst/\q.far=(qJ n).snd/\sb q.m.p.code=sb n.m.p.code/\q.m.p.tick=n.m.p.tick/\q.m.p.low=n.m.p.low/\q.m.p.high=n.m.p.high/\q.m.p.wide=n.m.p.wide/\q.m.p.rule=n.m.p.rule/\q.m.p.top=n.m.p.top/\q.m.p.least=n.m.p.least/\q.m.p.part=n.m.p.part/\zD q.m.s=zD n.m.s/\zV q.m.used=zV n.m.used/\aa 1 (iE q.m.p.months)=aa 1 (iE n.m.p.months)/\aa 1 (iE q.m.p.settle)=aa 1 (iE n.m.p.settle)/\(zDa q)/\∀(r:Unit),True->True/\((am xQ (i.out d)++[[dI 3,dI e,dI f,dI g,dI h,dI j,dI k,dI 0]]).length+2)*(64:Nat)<=(140737488355328:Nat)/\∃(s:Nat),(↑s:Int)=aj.wrap ((↑d:Int)+1)/\am xQ (i.out s)=am xQ (i.out d)++[[dI 3,dI e,dI f,dI g,dI h,dI j,dI k,dI 0]]++[xQ (fU q),xQ (fN q)]/\b s/\c s<c d/\dh (ab [V.d (dI i.x.price),V.d (dI i.x.qty),V.d (D.v (.bool i.x.implied)),V.own 7] 290)/\dh (aa 6 (am yX i.x.fills))/\dh (ab [V.d (dI i.c.kind),V.d (dI i.c.id),V.d (dI i.c.inst),V.d (dI i.c.side),V.d (dI i.c.price),V.d (dI i.c.qty),V.d (dI i.c.least),V.d (dI i.c.time),V.d (b8 i)] 44)/\dh (ab [V.nm 0 0] 59)/\ab [V.d (D.v (ay (sb q.m.p.code))),V.own 3,V.d (dI q.m.p.tick),V.d (dI q.m.p.low),V.d (dI q.m.p.high),V.d (dI q.m.p.wide),V.d (dI q.m.p.rule),V.d (dI q.m.p.top),V.d (dI q.m.p.least),V.d (dI q.m.p.part),V.own 4,V.nm 1 0,V.mp 2] (114:ba)=yI i.m 0/\zD q.m.s=yI i.m 1/\af (zV q.m.used)=yI i.m 2/\aa 1 (iE q.m.p.months)=yI i.m 3/\aa 1 (iE q.m.p.settle)=yI i.m 4) (∃(n:Nat),(↑n:Int)=aj.wrap ((↑d:Int)+1)/\am xQ (i.out n)=am xQ (i.out d)++[[dI 3,dI e,dI f,dI g,dI h,dI j,dI k,dI 0]]/\b n/\c n<c d/\dh (ab [V.d (dI i.x.price),V.d (dI i.x.qty),V.d (D.v (.bool i.x.implied)),V.own 7] 290)/\dh (aa 6 (am yX i.x.fills))/\dh (ab [V.d (dI i.c.kind),V.d (dI i.c.id),V.d (dI i.c.inst),V.d (dI i.c.side),V.d (dI i.c.price),V.d (dI i.c.qty),V.d (dI i.c.least),V.d (dI i.c.time),V.d (b8 i)] 44)/\dh (ab [V.nm 0 0] 59)/\ab [V.d (D.v (ay (sb l.m.p.code))),V.own 3,V.d (dI l.m.p.tick),V.d (dI l.m.p.low),V.d (dI l.m.p.high),V.d (dI l.m.p.wide),V.d (dI l.m.p.rule),V.d (dI l.m.p.top),V.d (dI l.m.p.least),V.d (dI l.m.p.part),V.own 4,V.nm 1 0,V.mp 2] (114:ba)=yI i.m 0/\zD l.m.s=yI i.m 1/\af (zV l.m.used)=yI i.m 2/\aa 1 (iE l.m.p.months)=yI i.m 3/\aa 1 (iE l.m.p.settle)=yI i.m 4)) (((am xQ (i.out d)).length+1)*(64:Nat)<=(140737488355328:Nat)/\∃(e:MiN),e.inst=i.c.inst/\sb e.m.p.code=sb i.m.p.code/\e.m.p.tick=i.m.p.tick/\e.m.p.low=i.m.p.low/\e.m.p.high=i.m.p.high/\e.m.p.wide=i.m.p.wide/\e.m.p.rule=i.m.p.rule/\e.m.p.top=i.m.p.top/\e.m.p.least=i.m.p.least/\e.m.p.part=i.m.p.part/\zD e.m.s=yI i.m 1/\zV e.m.used=zV i.m.used/\aa 1 (iE e.m.p.months)=yI i.m 3/\aa 1 (iE e.m.p.settle)=yI i.m 4/\(zCf e)/\∀(f:Unit),True->cnd (e.m.p.legs e.inst).snd.snd (∃(g:MpI),g.inst=i.c.inst/\g.x.price=i.x.price/\g.x.qty=i.x.qty/\g.x.implied=i.x.implied/\am yX g.x.fills=am yX i.x.fills/\sb g.m.p.code=sb e.m.p.code/\g.m.p.tick=e.m.p.tick/\g.m.p.low=e.m.p.low/\g.m.p.high=e.m.p.high/\g.m.p.wide=e.m.p.wide/\g.m.p.rule=e.m.p.rule/\g.m.p.top=e.m.p.top/\g.m.p.least=e.m.p.least/\g.m.p.part=e.m.p.part/\zD g.m.s=zD e.m.s/\zV g.m.used=zV e.m.used/\aa 1 (iE g.m.p.months)=aa 1 (iE e.m.p.months)/\aa 1 (iE g.m.p.settle)=aa 1 (iE e.m.p.settle)/\(zDq g)/\∀(h:Unit),True->∃(j:MsI),j.r.kind=3/\j.r.id=i.c.id/\j.r.inst=i.c.inst/\j.r.side=i.c.side/\j.r.price=i.x.price/\j.r.qty=i.x.qty/\j.r.left=i.left/\j.r.why=0/\j.near=(qJ g).fst/\j.far=(qJ g).snd/\sb j.m.p.code=sb g.m.p.code/\j.m.p.tick=g.m.p.tick/\j.m.p.low=g.m.p.low/\j.m.p.high=g.m.p.high/\j.m.p.wide=g.m.p.wide/\j.m.p.rule=g.m.p.rule/\j.m.p.top=g.m.p.top/\j.m.p.least=g.m.p.least/\j.m.p.part=g.m.p.part/\zD j.m.s=zD g.m.s/\zV j.m.used=zV g.m.used/\aa 1 (iE j.m.p.months)=aa 1 (iE g.m.p.months)/\aa 1 (iE j.m.p.settle)=aa 1 (iE g.m.p.settle)/\(zDa j)/\∀(k:Unit),True->True/\((am xQ (i.out d)++[[dI 3,dI i.c.id,dI i.c.inst,dI i.c.side,dI i.x.price,dI i.x.qty,dI i.left,dI 0]]).length+2)*(64:Nat)<=(140737488355328:Nat)/\∃(l:Unit),sb i.m.p.code=sb j.m.p.code/\i.m.p.tick=j.m.p.tick/\i.m.p.low=j.m.p.low/\i.m.p.high=j.m.p.high/\i.m.p.wide=j.m.p.wide/\i.m.p.rule=j.m.p.rule/\i.m.p.top=j.m.p.top/\i.m.p.least=j.m.p.least/\i.m.p.part=j.m.p.part/\zD i.m.s=zD j.m.s/\zV i.m.used=zV j.m.used/\aa 1 (iE i.m.p.months)=aa 1 (iE j.m.p.months)/\aa 1 (iE i.m.p.settle)=aa 1 (iE j.m.p.settle)/\am xQ (m3 i.m.p i.c i.x i.left)=am xQ (i.out d)++[[dI 3,dI i.c.id,dI i.c.inst,dI i.c.side,dI i.x.price,dI i.x.qty,dI i.left,dI 0]]++[xQ (fU j),xQ (fN j)]/\True) (∃(g:Unit),sb i.m.p.code=sb e.m.p.code/\i.m.p.tick=e.m.p.tick/\i.m.p.low=e.m.p.low/\i.m.p.high=e.m.p.high/\i.m.p.wide=e.m.p.wide/\i.m.p.rule=e.m.p.rule/\i.m.p.top=e.m.p.top/\i.m.p.least=e.m.p.least/\i.m.p.part=e.m.p.part/\zD i.m.s=zD e.m.s/\zV i.m.used=zV e.m.used/\aa 1 (iE i.m.p.months)=aa 1 (iE e.m.p.months)/\aa 1 (iE i.m.p.settle)=aa 1 (iE e.m.p.settle)/\am xQ (m3 i.m.p i.c i.x i.left)=am xQ (i.out d)++[[dI 3,dI i.c.id,dI i.c.inst,dI i.c.side,dI i.x.price,dI i.x.qty,dI i.left,dI 0]]/\True))
def z5n:rejC.ok Tryz.prog 137:=okw (V:=y5k) mixed gok0 0 (λ_=>[]) (λ_=>[]) [] Tryz.func137 λ(i:RjI) _=>⟨(),rfl,trivial⟩
def yKe (i:MsI) (h:mspreadC.cnd i):zXv i:=by
 obtain⟨⟨hc,hp⟩,hs⟩:i.m.fine/\(i.r.side=1\/i.r.side=2):=h;have hw:aj.wrap (3-i.r.side)=3-i.r.side:=w64 oM;unfold zXv eH fU fN uK vF jF dI;rw[hw];refine⟨⟨i.m.p,i.r.inst⟩,rF8 (rF3 ⟨rfl,hp,λ_ _=> ?_⟩)⟩;exact kp
def z2j:mspreadC.ok Tryz.prog 195:=okw mixed (gokc zAb gok0) 0 (λ_=>[]) (λ_=>[]) [] Tryz.func195 yKe
def yUp:misC.ok Tryz.prog 193:=okw (V:=y4x) mixed (gokc zAb gok0) 0 (λ_=>[]) (λ_=>[]) [] Tryz.func193 λ(i:MiN) h=>by
 obtain⟨hc,hp⟩:i.m.fine:=h;exact⟨⟨i.m.p,i.inst⟩,rF8 (rF3 ⟨rfl,hp,λ_ _=>kp⟩)⟩
def y2s {l:List cK} {k:Nat} {f:cK} (h:l[k]? =au f):zE (l.map yX) k 0 6=au [D.v (.int .i64 f.id),D.v (.int .i64 f.inst),D.v (.int .i64 f.side),D.v (.int .i64 f.price),D.v (.int .i64 f.qty),D.v (.int .i64 f.left)]:=elA h (by simp[yX]) rfl
def vof (i:OfI) (h:ofC.cnd i):Vof i:=by
 have hl:i.x.fills.length<=1000000:=h;have e4:(i.x.fills.map yX).length=i.x.fills.length:=y5z ..;unfold Vof zVw dI;refine⟨0,rfl,λj=>j<=i.x.fills.length/\(i.x.fills.take j).find? (λf=>decide (f.inst=i.k))=av,λj=>i.x.fills.length-j,⟨y7e _,rfl⟩,?_⟩;rintro j ⟨j1,j2⟩;refine zI (λc=> ?_) (λc=> ?_)
 ·obtain⟨f,hf⟩:=yC (l:=i.x.fills) (i:=j) oM;refine⟨⟨oM,oM⟩,_,_,_,_,_,_,y2s hf,Cv.cnd.mk (λg=>⟨(),?_,k0q⟩) (λg=>⟨j+1,wjn oM,⟨oM,?_⟩,Z9,k0q⟩)⟩
  ·have g:f.inst=i.k:=by simpa using g
   have e:i.x.fills.find? (λf=>decide (f.inst=i.k))=au f:=by
    rw[<- y8f j i.x.fills,List.find?_append,j2,y8g (by omega),(y6c.1 hf).2,List.find?_cons_of_pos (by simpa using g)];rfl
   rw[ofF,e]
  ·have g:¬f.inst=i.k:=by simpa using g
   rw[y7h,hf,List.find?_append,j2];simp[g]
 ·have:j=i.x.fills.length:=by omega
  rw[this,y6k (y6v _)]at j2;exact⟨(),by rw[ofF,j2],k0q⟩
def y2p:ofC.ok Tryz.prog 202:=okw mixed gok0 0 (λ_=>[]) (λ_=>ofA) [] Tryz.func202 vof
def yJz (i:MpI) (h:mpricesC.cnd i):zYi i:=by
 obtain⟨⟨hc,hp⟩,hpr,hl⟩:i.m.fine/\i64r i.x.price/\i.x.fills.length<=1000000:=h;unfold zYi qJ rM y3 jF;refine Cv.cnd.mk (λe=> ?_) (λe=> ?_)
 ·have e:i.x.implied=ap:=by simpa using e
  have h0:wU i.m.p i.inst i.x=((fM i.m.p i.inst i.x.price).1,(fM i.m.p i.inst i.x.price).2.1):=by rw[wU,y6a e]
  rw[h0];exact⟨⟨i.m.p,i.inst,i.x.price⟩,rF8 (rF4 ⟨rfl,⟨hc,hp,hpr⟩,λ_ _=>kp⟩)⟩
 ·have e:¬i.x.implied=ap:=by simpa using e
  have h0:wU i.m.p i.inst i.x=(ofF i.x (i.m.p.legs i.inst).1,ofF i.x (i.m.p.legs i.inst).2.1):=by rw[wU,y5x e]
  rw[h0];exact⟨⟨i.m.p,i.inst⟩,rF8 (rF3 ⟨rfl,hp,λ_ _=>⟨⟨i.x,(i.m.p.legs i.inst).1⟩,rF4 ⟨rfl,hl,λ_ _=>⟨⟨i.x,(i.m.p.legs i.inst).2.1⟩,rF4 ⟨rfl,hl,λ_ _=>kp⟩⟩⟩⟩⟩)⟩
def z2n:mpricesC.ok Tryz.prog 194:=okw mixed (gokc zAb (gokc z2y (gokc y2p gok0))) 0 (λ_=>[]) (λ_=>[]) [] Tryz.func194 yJz
def zOr (p:Prd) (x:jZ) (r:Rep):(mT p x r).length<=3:=by
 rw[mT,y6d];split
 ·rw[zGe];simp
 ·simp
def z6u {p:Prd} {x:jZ} {r:Rep} (h:(p.legs r.inst).2.2=ap):mT p x r=[r]:=by
 rw[mT,y5x (by rw[h];decide)]
def z0t {p:Prd} {x:jZ} {r:Rep} (h:(p.legs r.inst).2.2=aq):mT p x r=r::zGe p r (wU p r.inst x).1 (wU p r.inst x).2:=by
 rw[mT,y6a h]
def StI'.out_len (i:StI'):∀j,(i.out j).length<=3*j
 |0=>y6v _
 |j+1=>by
  have ih:=StI'.out_len i j;rw[StI'.out]at ih ⊢;rw[y7h,y7w,y5y];cases e:i.x.fills[j]? with
  |none=>simp only[Option.toList_none,xBd,y7s];omega
  |some f=>
   have:=zOr i.m.p i.x (zGn f);simp only[y9b,y7t,xBd,y6w];omega
def StI'.out_succ (i:StI') {j:Nat} {f:cK} (h:i.x.fills[j]? =au f):i.out (j+1)=i.out j++mT i.m.p i.x (zGn f):=by
 rw[StI'.out,StI'.out,y7h,y7w,h];simp
def yUl (i:StI') (h:mstepC.cnd i):yHc i:=by
 obtain⟨hf,hpr,hl,hcs,hfs⟩:i.m.fine/\i64r i.x.price/\i.x.fills.length<=1000000/\(i.c.side=1\/i.c.side=2)/\∀f∈i.x.fills,f.side=1\/f.side=2:=h;have e4:(i.x.fills.map yX).length=i.x.fills.length:=y5z ..;unfold yHc b8 zCf zDa zDq fU fN qJ dI;refine⟨0,rfl,rfl,λj=>j<=i.x.fills.length,λj=>i.x.fills.length-j,y7e _,?_⟩;intro j hj;have ho:=i.out_len j;have e5:((i.out j).map xQ).length=(i.out j).length:=y5z ..;refine zI (λc=> ?_) (λc=> ?_)
 ·obtain⟨f,hfj⟩:=yC (l:=i.x.fills) (i:=j) oM;have hos:=i.out_succ hfj;have hfj2:=hfs f (y6j hfj);refine⟨⟨oM,oM⟩,_,_,_,_,_,_,y2s hfj,oM,⟨i.m,f.inst⟩,rfl,rfl,rfl,rfl,rfl,rfl,rfl,rfl,rfl,rfl,rfl,rfl,rfl,rfl,hf,λ_ _=>Cv.cnd.mk (λe=> ?_) (λe=> ?_)⟩
  ·have e:(i.m.p.legs (zGn f).inst).2.2=aq:=e;rw[z0t e]at hos;refine⟨⟨i.m,f.inst,i.x⟩,rF8 (rF6 (rF3 ⟨rfl,⟨hf,hpr,hl⟩,λ_ _=>⟨⟨i.m,zGn f,(wU i.m.p f.inst i.x).1,(wU i.m.p f.inst i.x).2⟩,rF8 (rF8 (rF6 ⟨rfl,⟨hf,hfj2⟩,λ_ _=>⟨trivial,by rw[y5y,e5];simp only[y6d,y7s];omega,j+1,wjn oM,?_,oM,Z9,k0q⟩⟩))⟩⟩))⟩;rw[hos,y6i,y6f];rfl
  ·have e:(i.m.p.legs (zGn f).inst).2.2=ap:=e;rw[z6u e]at hos;refine⟨j+1,wjn oM,?_,oM,Z9,k0q⟩;rw[hos,y6i];rfl
 ·have hj:j=i.x.fills.length:=by omega
  have ho2:i.x.fills.flatMap (λf=>mT i.m.p i.x (zGn f))=i.out j:=by rw[StI'.out,hj,y6k (y6v _)]
  have hR:m3 i.m.p i.c i.x i.left=i.out j++mT i.m.p i.x ⟨3,i.c.id,i.c.inst,i.c.side,i.x.price,i.x.qty,i.left,0⟩:=by rw[m3,ho2]
  refine⟨oM,⟨i.m,i.c.inst⟩,rF8 (rF5 ⟨rfl,hf,λ_ _=>Cv.cnd.mk (λe=> ?_) (λe=> ?_)⟩)⟩
  ·have e:(i.m.p.legs (⟨3,i.c.id,i.c.inst,i.c.side,i.x.price,i.x.qty,i.left,0⟩:Rep).inst).2.2=aq:=e;rw[z0t e]at hR;refine⟨⟨i.m,i.c.inst,i.x⟩,rF8 (rF6 (rF3 ⟨rfl,⟨hf,hpr,hl⟩,λ_ _=>⟨⟨i.m,⟨3,i.c.id,i.c.inst,i.c.side,i.x.price,i.x.qty,i.left,0⟩,(wU i.m.p i.c.inst i.x).1,(wU i.m.p i.c.inst i.x).2⟩,rF8 (rF8 (rF6 ⟨rfl,⟨hf,hcs⟩,λ_ _=>⟨trivial,by rw[y5y,e5];simp only[y6d,y7s];omega,?_⟩⟩))⟩⟩))⟩;rw[hR,y6i,y6f];exact kp
  ·have e:(i.m.p.legs (⟨3,i.c.id,i.c.inst,i.c.side,i.x.price,i.x.qty,i.left,0⟩:Rep).inst).2.2=ap:=e;rw[z6u e]at hR;rw[hR,y6i];exact kp
def yIw:mstepC.ok Tryz.prog 185:=okw mixed (gokc yUp (gokc z2n (gokc z2j gok0))) 1 (λ_=>[]) (λi=>yUz i) [] Tryz.func185 yUl
structure EnI where
 m:Mkt
 p:Prd
 B:List (List zH)
 U:List Int
 c:Cmd
 X:MkX
@[reducible] def EnI.std (i:EnI):Prop:=i.m.Rep i.p i.B i.U/\BOk i.p i.B
@[reducible] def EnI.good (i:EnI):Prop:=(0<=i.c.inst/\i.c.inst<i.B.length)/\(1<=i.c.qty/\i.c.qty<=1000000)/\(i.c.side=1\/i.c.side=2)
@[reducible] def zZv (X:MkX) (p:Prd):Alt:={o:=Mkt,res:=λ_=> .own 5,post:=λo=>zBh o++[z2h X.R],rel:=λo=>o.Rep p X.B X.U}
def enterC:Con where
 ι:=EnI
 pat:=λi=>[.nm 0 0,zGc i.c]
 pre:=λi=>zBh i.m
 cnd:=λi=>i.std/\i.good/\i.p.price i.c.inst i.c.price=0/\i.X=cU i.p i.B i.U i.c
 alts:=λi=>[zZv i.X i.p]
structure EnJ where
 left:Int
 k:Nat
 out:List Rep
def yXj (i:EnI):List SAnn:=[{ι:=EnJ,slots:=λj=>[(5,.own 0),(8,zA j.left),(51,zA j.k)],rows:=λj=>[z2h j.out]}]
def orderC:Con where
 ι:=EnI
 pat:=λi=>[.nm 0 0,zGc i.c]
 pre:=λi=>zBh i.m
 cnd:=λi=>i.std/\i.c.right=0/\i.c.kind=1/\i.X=nB i.p i.B i.U i.c
 alts:=λi=>[zZv i.X i.p]
def yVa:List (Nat×SAnn):=[(22,ij 6),(44,bj 47),(52,bj 69)]
structure CaI where
 m:Mkt
 p:Prd
 B:List (List zH)
 U:List Int
 id:Int
 q:Int
 inst:Int
 o:zH
 X:MkX
@[reducible] def CaI.std (i:CaI):Prop:=i.m.Rep i.p i.B i.U/\BOk i.p i.B
def cancelC:Con where
 ι:=CaI
 pat:=λi=>[.nm 0 0,zA i.id,zA i.inst,z3t i.o]
 pre:=λi=>zBh i.m
 cnd:=λi=>i.std/\i.X=uP i.B i.U i.id i.inst i.o
 alts:=λi=>[zZv i.X i.p]
def reduceC:Con where
 ι:=CaI
 pat:=λi=>[.nm 0 0,zA i.id,zA i.q,zA i.inst,z3t i.o]
 pre:=λi=>zBh i.m
 cnd:=λi=>i.std/\i64r (i.o.qty-i.q)/\i.X=cC i.B i.U i.id i.q i.inst i.o
 alts:=λi=>[zZv i.X i.p]
structure yCa where
 m:Mkt
 p:Prd
 B:List (List zH)
 U:List Int
 c:Cmd
 inst:Int
 o:zH
 X:MkX
def replaceC:Con where
 ι:=yCa
 pat:=λi=>[.nm 0 0,zGc i.c,zA i.inst,z3t i.o]
 pre:=λi=>zBh i.m
 cnd:=λi=>i.m.Rep i.p i.B i.U/\BOk i.p i.B/\zK i.B i.c.id=(i.inst,i.o,aq)/\(1<=i.c.qty/\i.c.qty<=1000000)/\i.X=gC i.p i.B i.U i.c i.inst i.o
 alts:=λi=>[zZv i.X i.p]
def doC:Con where
 ι:=EnI
 pat:=λi=>[.nm 0 0,zGc i.c]
 pre:=λi=>[qD i.m]
 cnd:=λi=>i.std/\i.c.label.length<=140737488355328/\i64r i.c.qty/\i.X=doF i.p i.B i.U i.c
 alts:=λi=>[{o:=Mkt,res:=λ_=> .own 1,post:=λo=>[qD o,z2h i.X.R],rel:=λo=>o.Rep i.p i.X.B i.X.U}]
structure MfI where
 m:Mkt
 p:Prd
 B:List (List zH)
 U:List Int
 id:Int
def mfindC:Con:=con1 MfI (λi=>[.nm 0 0,zA i.id]) (λi=>[qD i.m]) (λi=>i.m.Rep i.p i.B i.U/\BOk i.p i.B) (λi=> .tup [zA (zK i.B i.id).1,z3t (zK i.B i.id).2.1,yP (zK i.B i.id).2.2]) (λi=>[qD i.m])
end Sx
