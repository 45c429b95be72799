/- Texts of ours. No condition. -/
import Derived.Shelf.Spec.SlicesGrow
import Derived.Test.YtaafldgiafcgfaaGreatT9
set_option linter.all false
open Sx.AObj renaming fro->aa,adt->ab,cells->ac,objs->ae,own->af,map->ag
open Go.IntKind renaming i64->aj,u8->ak
open List renaming map->am,drop_take->ao,drop_left->ap,take->aq,drop->ar
open Bool renaming false->au,true->av
open Go.Builtin renaming zeroCells->aw
open Option renaming some->ax,none->ay
open ByteArray renaming mk->az
open Go.ByteArray renaming toList_eq->ba
open BitVec renaming ofInt->bc
open Go.Value renaming string->be
open Go renaming grownCap->bg,TypeId->bo,size_zeroCells->bu
namespace Sx
set_option maxRecDepth 100000
open Go Cv Go.Proofs
def growR:Go.Shelf.Ren:=⟨λx=>if x=4 then 100 else x,λx=>if x=22 then 32 else if x=25 then 5 else x,λx=>x⟩
def y1b:Lays8.n4 Tryz.prog growR where
 mixed:=mixed
 f4:=⟨Tryz.f100.name,by decide+kernel,by kernel_rfl⟩
 t0:=by kernel_rfl
 a0:=λ_=>by kernel_rfl
 z0:=λ_=>by kernel_rfl
 v0:=λ_=>by kernel_rfl
 t3:=by kernel_rfl
 a3:=λ_=>by kernel_rfl
 z3:=λ_=>by kernel_rfl
 v3:=λ_=>by kernel_rfl
 t4:=by kernel_rfl
 a4:=λ_=>by kernel_rfl
 z4:=λ_=>by kernel_rfl
 v4:=λ_=>by kernel_rfl
 t9:=by kernel_rfl
 a9:=λ_=>by kernel_rfl
 z9:=λ_=>by kernel_rfl
 v9:=λ_=>by kernel_rfl
 t20:=by kernel_rfl
 a20:=λ_=>by kernel_rfl
 z20:=λ_=>by kernel_rfl
 v20:=λ_=>by kernel_rfl
 t22:=by kernel_rfl
 a22:=λ_=>by kernel_rfl
 z22:=λ_=>by kernel_rfl
 v22:=λ_=>by kernel_rfl
def y2c:vZ Tryz.prog 32=ax (5,1,1,#[.int .u8 0]):=by kernel_rfl
def yQb:growC.ok Tryz.prog 100:=by
 intro(n:Nat) hc k L E w ys R hv;obtain⟨c1,c2⟩:1<=n/\n<=1099511627776:=hc;simp only[growC,con1,VRL,VR,DR]at hv;obtain⟨_,_,rfl,⟨rfl,_⟩,_,_,rfl,⟨rfl,_⟩,rfl⟩:=hv;obtain⟨inf,zv,q1,q2,q3,q4,q5,q6⟩:=kV y2c;have hcall:=Any8.slices_Grow_grow y1b inf zv q2 q5 oM ay 0 0 n [] w (y8w _) oM (by rw[q4];omega) oM (by simp) (λ_=>rfl) (λa h=>by cases h);rw[show growR.t 25=5 from rfl]at hcall;refine mL (by kernel_rfl) (hcall.mono ?_);rintro en w' ⟨rfl,rfl⟩;have hG:=grownCap_ge w (0+n) 0 5;have H:=((R.hp.drew).new (.cells (([]:List Value).toArray++aw zv.cells (0+n-0)++aw zv.cells (bg w (0+n) 0 5-(0+n))) 5))
 have ha:(([]:List Value).toArray++aw zv.cells (0+n-0)++aw zv.cells (bg w (0+n) 0 5-(0+n)))=([]++((aw zv.cells (0+n-0)).toList++(aw zv.cells (bg w (0+n) 0 5-(0+n))).toList)).toArray:=by
  apply Array.ext';simp
 have hz:zv.cells.size=1:=by rw[q6];rfl
 have hl:([]++((aw zv.cells (0+n-0)).toList++(aw zv.cells (bg w (0+n) 0 5-(0+n))).toList)).length=bg w (0+n) 0 5*1:=by
  rw[xAu,y8a,xBy,xBy,bu,bu,hz];omega
 rw[ha]at H ⊢;have H3:=H.slmk (n:=0) (sz:=1) (by simp) hl (y9c _);obtain⟨E',r1,r2,r3⟩:=cX (rows:=[]) (els:=[]) (nx:=0) R.nx (by simp[DRL]) (λx hx=>by cases hx) H3;exact⟨_,rfl,_,y9u.2 rfl,(),trivial,E',r1,r3,⟨r2.nx,r2.hp⟩⟩
def z6l {ls:List (List UInt8)} {k:Nat} {l:List UInt8} (h:ls[k]? =ax l):zE (ls.map rcE) k 0 1=ax [D.ro 1 (bE l)]:=elA h (by simp[rcE]) rfl
def rI {α:Type} {ls:List (List α)} {k:Nat} {l:List α} (h:ls[k]? =ax l):(ls.take (k+1)).flatten=(ls.take k).flatten++l:=by
 rw[y9g,h,xBb,xDb];simp
def yAw {α:Type} (ls:List (List α)) (k:Nat):(ls.take k).flatten.length<=ls.flatten.length:=by
 conv=>rhs;rw[<- xAi k ls,xDb,y8a]
 omega
def y2e (ls:List (List UInt8)) (h:flatC.cnd ls):yAg ls:=by
 obtain⟨h1,h2,h3⟩:1<=ls.flatten.length/\ls.flatten.length<=1099511627776/\ls.length<=1000:=h;unfold yAg aD qW;rw[y8b];refine⟨0,rfl,rfl,λk=>k<=ls.length,λk=>ls.length-k,y9c _,λk hk=>zI (λhlt=> ?_) (λhlt=> ?_)⟩
 ·obtain⟨l,hl⟩:=yC (l:=ls) (i:=k) oM;have hk:k<=ls.length:=hk;have e1:=yAw ls (k+1);rw[rI hl,y8a]at e1;refine⟨⟨oM,oM⟩,bE l,z6l hl,zI (λc=> ?_) (λ_=>⟨k+1,?_,wjn oM,Z9,Z9,trivial⟩)⟩
  ·rw[y9,w64 (by omega)]at c;omega
  ·rw[rI hl,y8a,y9,w64 (by omega)];simp
 ·obtain rfl:k=ls.length:=by have hk:k<=ls.length:=hk;omega
  rw[xAx];refine⟨ls.flatten.length,trivial,rfl,⟨h1,h2⟩,λ_ _=>⟨0,rfl,rfl,λk=>k<=ls.length,λk=>ls.length-k,y9c _,λk hk=>zI (λhlt=> ?_) (λhlt=> ?_)⟩⟩
  ·obtain⟨l,hl⟩:=yC (l:=ls) (i:=k) oM;have hk:k<=ls.length:=hk;have e1:=yAw ls (k+1);rw[rI hl,y8a]at e1;refine⟨⟨oM,oM⟩,bE l,z6l hl,by rw[y9,y9];omega,k+1,wjn oM,by rw[rI hl,zVd],Z9,Z9,trivial⟩
  ·obtain rfl:k=ls.length:=by have hk:k<=ls.length:=hk;omega
   rw[xAx];exact⟨(),rfl,trivial⟩
def z7v:flatC.ok Tryz.prog 43:=yWe (gokc yQb gok0) y2e
def z9n:dnewC.ok Tryz.prog 32:=okw (V:=y4z) mixed gok0 0 (λ_=>[]) (λ_=>[]) [] Tryz.func32 λ(_:Unit) _=>⟨(),rfl,rfl,trivial⟩
def yRa:dappC.ok Tryz.prog 33:=okw (V:=yUg) mixed gok0 0 (λ_=>[]) (λ_=>[]) [0] Tryz.func33 λ(i:DbI) h=>by
 have h:i.d.b.length+i.l.length<=1048576:=h;unfold yUg;rw[y9,y9];refine zI (λc=> ?_) (λ_=>⟨oM,(),rfl,rfl,zVd _ _,trivial⟩);rw[w64 (by omega)]at c;omega
def yRl:dbytC.ok Tryz.prog 106:=okw (V:=y2z) mixed (gokc zNt gok0) 0 (λ_=>[]) (λ_=>[]) [0] Tryz.func106 λ(d:Dk) h=>by
 obtain⟨h1,h2⟩:d.ok:=h;exact⟨_,rfl,by rw[y9];omega,λ_ _=>⟨(),rF3 trivial⟩⟩
def z4e:cloneBN.ok Tryz.prog 116:=yBs gok0 λi h=>λb hb=>
 Cv.cnd.mk (λe=>⟨(),hb e,trivial⟩) (λ_=>⟨by rw[y8z,Nat.mul_one];exact h,(),rfl,trivial⟩)
def yPs:dswpC.ok Tryz.prog 108:=okw (V:=ySf) mixed (gokc z4e gok0) 0 (λ_=>[]) (λ_=>[]) [0] Tryz.func108 λ(i:DbI) h=>by
 have h:i.l.length<=1048576:=h;unfold ySf;refine zI (λc=> ?_) (λ_=>⟨_,rfl,by rw[y9];omega,λ_ _=>⟨(),rfl,by rw[y9],rfl,trivial⟩⟩);rw[y9]at c;omega
def y2h:∀n:Fin 256,lob (aj.wrap (bc aj.bits (if aj.signed=av then(-1:Int)else aj.max) ^^^ bc aj.bits (n.val:Int)).toNat)=UInt8.ofNat (255-n.val):=by decide+kernel
def y5w:∀n:Fin 256,ak.wrap (bc ak.bits (if ak.signed=av then(-1:Int)else ak.max) ^^^ bc ak.bits (n.val:Int)).toNat=255-(n.val:Int):=by decide+kernel
def dX (l:List UInt8):(kM l).length=l.length+6:=by
 simp only[kM,y8f,y8a,xK]
def yVg (l:List UInt8) (h:frameC.cnd l):yGo l:=by
 have h:l.length<=255:=h;have hn:=y2h ⟨l.length,oM⟩;dsimp only at hn;unfold yGo;rw[y9];revert hn;generalize aj.wrap (bc aj.bits (if aj.signed=av then(-1:Int)else aj.max) ^^^ bc aj.bits (l.length:Int)).toNat=X;intro hn;refine zI (λc=>by omega) (λ_=>⟨(),trivial,λ_ _=>⟨⟨[],l.length⟩,rfl,rfl,by simp[WN.ok],λ_ _=>⟨⟨_,_⟩,rfl,rfl,by simp[WN.ok],λ_ _=>⟨?_,l,rfl,oM,λ_ _=>⟨⟨_,fH l⟩,rfl,zVd _ _,⟨?_,m3 l⟩,λ_ _=>⟨_,rfl,?_,λ_ _=>⟨(),rfl,?_,trivial⟩⟩⟩⟩⟩⟩⟩)
 ·rw[y9];simp;omega
 ·dsimp only;simp;omega
 ·dsimp only;simp[xK];omega
 ·dsimp only;rw[hn,kM];simp
def yMm:frameC.ok Tryz.prog 99:=okw mixed (gokc zMm (gokc zLy (gokc zVg (gokc z3w (gokc zLq gok0))))) 0 (λ_=>yYn) (λ_=>[]) [] Tryz.func99 yVg
def yFa {c:Int} (h:0<=c/\c<4294967296):xI (le c 4)=c:=by
 simp only[le,xI,yQf];omega
def zRt {l:List UInt8} (h:l.length<=255) (r:List UInt8):zCh (kM l++r)=(l,6+l.length,0):=by
 have h0:((kM l++r).getD 0 0).toNat=l.length:=by
  have:=zEv (n:=(l.length:Int)) oM;show(lob (l.length:Int)).toNat=l.length;omega
 have h1:((kM l++r).getD 1 0).toNat=255-l.length:=by
  show(UInt8.ofNat (255-l.length)).toNat=_;exact UInt8.toNat_ofNat_of_lt' (by
                                     have:255-l.length<256:=by omega
                                     simpa using this)
 have h2:(kM l++r).drop 2=l++(le (fH l) 4++r):=by
  show(l++le (fH l) 4)++r=_;rw[y8g]
 have h3:(kM l++r).drop (2+l.length)=le (fH l) 4++r:=by
  rw[<- xBl,h2,ap]
 unfold zCh;rw[h0,h1,h2,h3,xDp,List.take_left' (xK 4 _),yFa (m3 l)];rw[y7z (by rw[y8a,dX];omega),y7z (by omega),y7z (by rw[y8a,dX];omega),y7z (by simp)]
def y5n (i:OpI) (h:wopC.cnd i):y0w i:=by
 obtain⟨h1,h2⟩:i.k<=i.b.length/\i.b.length<=1099511627776:=h;have ex:i.x=zCh (i.b.drop i.k):=rfl;have hll:(i.b.drop i.k).length<=1099511627776:=by rw[y8y];omega
 have bad:∀e:Int,e≠0->i.x.2.2=e->∀{A:Prop},A\/∃o:Unit,True/\(0:Int)=0/\i.x.2.2=e/\(i.x.2.2=0->False):=λe he hx=> .inr ⟨(),trivial,rfl,hx,λh=>he (hx▸h)⟩
 unfold y0w lR zFv zOo fW bG aS zOa;rw[y8s,<- zAu,y9 i.b];generalize i.b.drop i.k=l at*;rw[y9 l];refine zI (λc=>by omega) (λ_=>⟨⟨oM,oM⟩,zI (λc=>bad 10 Z8 (by rw[ex,zCh,y8c (by omega)])) (λc=> ?_)⟩);obtain⟨a,ha⟩:∃a,l[0]? =ax a:=⟨_,y9b oM⟩
 obtain⟨b,hb⟩:∃b,l[1]? =ax b:=⟨_,y9b oM⟩
 have ea:l.getD 0 0=a:=by rw[y8j,ha];rfl
 have eb:l.getD 1 0=b:=by rw[y8j,hb];rfl
 have la:=a.toNat_lt;have hn:=y5w ⟨a.toNat,la⟩;dsimp only at hn;refine⟨⟨oM,oM⟩,b.toNat,dO hb,⟨oM,oM⟩,a.toNat,dO ha,?_⟩;rw[hn];have wa:aj.wrap (a.toNat:Int)=a.toNat:=w64 oM;have w2:aj.wrap ((2:Int)+a.toNat)=2+a.toNat:=w64 oM;have w3:aj.wrap ((2:Int)+a.toNat+4)=2+a.toNat+4:=w64 oM;have w4:aj.wrap ((i.k:Int)+(2+a.toNat))=i.k+(2+a.toNat):=w64 oM;have w5:aj.wrap ((i.k:Int)+(2+a.toNat)+4)=i.k+(2+a.toNat)+4:=w64 oM;have t1:((2:Int)+a.toNat).toNat=2+a.toNat:=by omega
 have t2:((2:Int)+a.toNat+4).toNat=2+a.toNat+4:=by omega
 refine Cv.cnd.mk (λc2=>bad 14 Z8 ?_) (λc2=>⟨⟨oM,oM⟩,a.toNat,dO ha,?_⟩)
 ·have c2:¬((b.toNat:Int)=255-a.toNat):=by simpa using c2
  rw[ex,zCh,y7z (by omega),ea,eb,y8c (by omega)]
 have c2:(b.toNat:Int)=255-a.toNat:=by simpa using c2
 rw[wa,w2,w3,w4,w5,t1,t2,show Int.toNat 2=2 from rfl];refine zI (λc3=>bad 10 Z8 ?_) (λc3=> ?_)
 ·rw[ex,zCh,y7z (by omega),ea,eb,y7z (by omega),y8c (by omega)]
 have l1:((l.take (2+a.toNat+4)).drop (2+a.toNat)).length=4:=by rw[y8y,y8t];omega
 have g1:(l.take (2+a.toNat+4)).drop (2+a.toNat)=(l.drop (2+a.toNat)).take 4:=by rw[ao];congr 1;omega
 have g2:(l.take (2+a.toNat)).drop 2=(l.drop 2).take a.toNat:=by rw[ao];congr 1;omega
 have g3:RN.got ⟨(l.take (2+a.toNat+4)).drop (2+a.toNat),au,4⟩=(l.drop (2+a.toNat)).take 4:=by
  rw[RN.got,y7z (by simp only[RN.bad,l1];decide)];dsimp only;rw[y8l (by omega),g1]
 have l2:((l.drop 2).take a.toNat).length=a.toNat:=by rw[y8t,y8y];omega
 refine⟨⟨oM,oM,oM⟩,(l.take (2+a.toNat+4)).drop (2+a.toNat),by rw[zAu,zBg],oM,λ_ _=>⟨⟨oM,oM,oM⟩,⟨_,au,4⟩,rfl,rfl,⟨Z9,Z9⟩,λ_ _=>⟨(l.take (2+a.toNat)).drop 2,by rw[zAu,zBg],by rw[g2];omega,λ_ _=> ?_⟩⟩⟩;rw[g2,g3];have hr:=cE ((l.drop (2+a.toNat)).take 4);have hl4:((l.drop (2+a.toNat)).take 4).length=4:=by rw[<- g1];exact l1
 rw[hl4]at hr;rw[y3h (by omega)];refine Cv.cnd.mk (λc4=>bad 14 Z8 ?_) (λc4=> ?_)
 ·rw[ex,zCh,y7z (by omega),ea,eb,y7z (by omega),y7z (by omega),y8c (by simpa using c4)]
 have ex2:i.x=((l.drop 2).take a.toNat,6+a.toNat,0):=by
  rw[ex,zCh,y7z (by omega),ea,eb,y7z (by omega),y7z (by omega),y7z (by simpa using c4)]
 rw[ex2,<- zBg,<- zAu,g2,y9,l2];exact⟨⟨oM,oM,oM⟩,oM,.inl ⟨(),Z9,rfl,rfl,rfl⟩⟩
def yVh:wopC.ok Tryz.prog 145:=okw mixed (gokc zWl (gokc z5f (gokc zVg gok0))) 0 (λ_=>[]) (λ_=>[]) [] Tryz.func145 y5n
def yRm (A B:List (List UInt8)):fsB (A++B)=fsB A++fsB B:=by rw[fsB,y9y];rfl
def zQq (l:List UInt8) (L:List (List UInt8)):fsB (l::L)=kM l++fsB L:=rfl
def yKh {L:List (List UInt8)} {k:Nat} {l:List UInt8} (h:L[k]? =ax l):fsB (L.take (k+1))=fsB (L.take k)++kM l:=pV h
def zRx (L:List (List UInt8)) (k:Nat):fsB L=fsB (L.take k)++fsB (L.drop k):=by rw[<- yRm,xAi]
def yAf (L:List (List UInt8)):L.length<=(fsB L).length:=by
 induction L with
 |nil=>exact y8w _
 |cons l L ih=>rw[zQq,y8a,dX,y8f];omega
def y0x (i:ScI) (h:scanC.cnd i):ySi i:=by
 obtain⟨h1,h2,h3⟩:i.ok:=h;have hn:=yAf i.L;have hsp:∀k,(fsB i.L).length=(fsB (i.L.take k)).length+(fsB (i.L.drop k)).length:=λk=>by
  have:=congrArg List.length (zRx i.L k);rwa [y8a]at this
 unfold ySi zIt fG;rw[y9,y8a];refine⟨0,rfl,rfl,λk=>k<=i.L.length,λk=>i.L.length-k,y9c _,λk hk=>zI (λhlt=> ?_) (λhlt=> ?_)⟩
 ·have hk:k<=i.L.length:=hk;have hs:=hsp k;have hx:(OpI.mk (fsB i.L++i.t) (fsB (i.L.take k)).length).x=zCh (fsB (i.L.drop k)++i.t):=by
   show zCh ((fsB i.L++i.t).drop _)=_;rw[zRx i.L k,y8g,ap]
  refine⟨⟨fsB i.L++i.t,(fsB (i.L.take k)).length⟩,rfl,rfl,⟨by dsimp only;rw[y8a];omega,by dsimp only;rw[y8a];omega⟩,λ_ e0=> ?_,λ_ e1=> ?_⟩
  ·rw[hx]at e0 ⊢;rcases xAj k i.L.length with hk2|hk2
   ·obtain⟨l,hl⟩:=yC hk2;have hd:i.L.drop k=l::i.L.drop (k+1):=by
     rw[xAe hk2];congr 1;rw[y9b hk2]at hl;exact Option.some.inj hl
    have hl255:=h1 l (y8m hl);rw[hd,zQq,y8g,zRt hl255];refine⟨by rw[y8b,y8t];omega,k+1,?_,?_,Z9,Z9,trivial⟩
    ·rw[yKh hl,y8a,dX];dsimp only;omega
    ·rw[y9g,hl];simp[rcE]
   ·rw[xBj hk2]at e0;rw[show fsB ([]:List (List UInt8))++i.t=i.t from rfl,h2]at e0;cases e0
  ·rw[hx]at e1 ⊢;rcases xAj k i.L.length with hk2|hk2
   ·obtain⟨l,hl⟩:=yC hk2;have hd:i.L.drop k=l::i.L.drop (k+1):=by
     rw[xAe hk2];congr 1;rw[y9b hk2]at hl;exact Option.some.inj hl
    have hl255:=h1 l (y8m hl);rw[hd,zQq,y8g,zRt hl255]at e1;exact absurd rfl e1
   ·obtain rfl:k=i.L.length:=by omega
    rw[List.drop_length,show fsB ([]:List (List UInt8))++i.t=i.t from rfl,h2,xAx];exact Cv.cnd.mk (λe=>by cases e) (λ_=>Cv.cnd.mk (λ_=>⟨(),rF3 trivial⟩) (λe=>by cases e))
 ·have hk:k<=i.L.length:=hk;have hs:=hsp k;have h5:=yAf (i.L.drop k);rw[y8y]at h5;obtain rfl:k=i.L.length:=by omega
  rw[xAx];exact⟨(),rF3 trivial⟩
def yMu:scanC.ok Tryz.prog 107:=okw mixed (gokc yVh gok0) 0 (λ_=>[]) (λi=>y4d i) [] Tryz.func107 y0x
def yZt:jopC.ok Tryz.prog 48:=okw (V:=y3z) mixed (gokc yRl (gokc yMu (gokc yPs gok0))) 0 (λ_=>[]) (λ_=>[]) [] Tryz.func48 λ(i:JoI) h=>by
 obtain⟨hs,hd⟩:(ScI.mk i.L i.t).ok/\i.d.ok:=h;have e0:(bE i.d.b).length=(fsB i.L).length+i.t.length:=by rw[y9,JoI.d,y8a]
 have h3:=hs.2.2;dsimp only at h3;unfold y3z;refine⟨i.d,rfl,hd,λ_ _=>⟨⟨i.L,i.t⟩,rfl,hs,λ_ _=>zI (λc=> ?_) (λc=> ?_)⟩⟩
 ·have ht:i.t≠[]:=λe=>by rw[e0,e]at c;simp at c
  refine⟨⟨oM,by rw[e0];dsimp only;omega⟩,⟨i.d,fsB i.L⟩,?_,rfl,Z9,λ_ _=>⟨(),rfl,?_,by rw[y8b],rfl,trivial⟩⟩
  ·dsimp only;rw[y8s,<- zBg,JoI.d,xDp]
  ·rw[JoI.d',y7z ht]
 ·have ht:i.t=[]:=List.length_eq_zero_iff.1 (by rw[e0]at c;dsimp only at c;omega);refine⟨(),rfl,?_,by rw[y8b],rfl,trivial⟩;rw[JoI.d',y8c ht]
def yOb:jappC.ok Tryz.prog 42:=okw (V:=y1m) mixed (gokc yMm (gokc yRa gok0)) 0 (λ_=>[]) (λ_=>[]) [] Tryz.func42 λ(i:JaI) h=>by
 obtain⟨h1,h2,h3,h4⟩:i.l.length<=255/\i.d.b.length+i.l.length+6<=1048576/\0<=i.n/\i.n<=1048576:=h;exact⟨i.l,rfl,h1,λ_ _=>⟨⟨i.d,kM i.l⟩,rfl,rfl,by dsimp only;rw[dX];omega,λ_ _=>⟨(),rfl,by rw[w64 (by omega)],rfl,trivial⟩⟩⟩
def y0r (i:RB):Prop:=
 ∃(i_1:RB),ab (List UInt8×Bool) 1 RdU (i_1.l,i_1.b)=RdB i/\i_1.l.length<=1099511627776/\∀(o:Unit),True->∃(i_2:RB),ab (List UInt8×Bool) 1 RdU (i_2.l,i_2.b)=ab (List UInt8×Bool) 1 RdU ((i_1.n 8).left,(i_1.n 8).bad)/\i_2.l.length<=1099511627776/\∀(o:Unit),True->∃(i_3:RB),ab (List UInt8×Bool) 1 RdU (i_3.l,i_3.b)=ab (List UInt8×Bool) 1 RdU ((i_2.n 8).left,(i_2.n 8).bad)/\i_3.l.length<=1099511627776/\∀(o:Unit),True->∃(o:Unit),aj.wrap (xI (i.n 8).got)=aj.wrap (xI (i_1.n 8).got)/\aj.wrap (xI ((RB.mk (i.n 8).left (i.n 8).bad).n 8).got)=aj.wrap (xI (i_2.n 8).got)/\aj.wrap (xI ((RB.mk ((RB.mk (i.n 8).left (i.n 8).bad).n 8).left ((RB.mk (i.n 8).left (i.n 8).bad).n 8).bad).n 8).got)=aj.wrap (xI (i_3.n 8).got)/\ab (List UInt8×Bool) 1 RdU (((RB.mk ((RB.mk (i.n 8).left (i.n 8).bad).n 8).left ((RB.mk (i.n 8).left (i.n 8).bad).n 8).bad).n 8).left,((RB.mk ((RB.mk (i.n 8).left (i.n 8).bad).n 8).left ((RB.mk (i.n 8).left (i.n 8).bad).n 8).bad).n 8).bad)=ab (List UInt8×Bool) 1 RdU ((i_3.n 8).left,(i_3.n 8).bad)/\True
def pP (a:RB):=((RB.mk (a.n 8).left (a.n 8).bad).n 8)
def b6 (a:RB):=((RB.mk (pP a).left (pP a).bad).n 8)
def zJj (a:RB):=(xI (b6 a).got)
def qK (a:RB) (b:Nat):=((RB.mk (a.n 1).left (a.n 1).bad).lvs b)
def ySp (i:RB):Prop:=
 ∃(a:RB),ab (List UInt8×Bool) 1 RdU (a.l,a.b)=RdB i/\a.l.length<=1099511627776/\∀(b:Unit),True->∃(c:Nat),(↑c:Int)=0/\ab (List UInt8×Bool) 1 RdU ((qK i c).snd.l,(qK i c).snd.b)=ab (List UInt8×Bool) 1 RdU ((a.n 1).left,(a.n 1).bad)/\dh ((0:Int))/\dh ((0:Int))/\dh ((0:Int))/\au=au/\am lvE (qK i c).fst=[]/\∃(d:Nat->Prop),∃(e:Nat->Nat),d c/\∀(f:Nat),d f->cnd (decide ((↑f:Int)<xI (a.n 1).got)) (∃(g:RB),ab (List UInt8×Bool) 1 RdU (g.l,g.b)=ab (List UInt8×Bool) 1 RdU ((qK i f).snd.l,(qK i f).snd.b)/\g.ok/\∀(h:Unit),True->True/\True/\((am lvE (qK i f).fst).length+1)*(24:Nat)<=(140737488355328:Nat)/\∃(j:Nat),(↑j:Int)=aj.wrap ((↑f:Int)+1)/\ab (List UInt8×Bool) 1 RdU ((qK i j).snd.l,(qK i j).snd.b)=ab (List UInt8×Bool) 1 RdU ((b6 g).left,(b6 g).bad)/\dh ((0:Int))/\dh ((0:Int))/\dh ((0:Int))/\au=au/\am lvE (qK i j).fst=am lvE (qK i f).fst++[[dI (aj.wrap (xI (g.n 8).got)),dI (aj.wrap (xI (pP g).got)),dI (aj.wrap (zJj g))]]/\d j/\e j<e f/\dh (ac (Sx.V.agg [V.d kF,V.d (dI 0),V.d (dI 0),V.d (dI 0),V.d (D.v (.bool au))]).cl 129)) (∃(g:RB),ab (List UInt8×Bool) 1 RdU (g.l,g.b)=ab (List UInt8×Bool) 1 RdU ((qK i f).snd.l,(qK i f).snd.b)/\g.l.length<=1099511627776/\∀(h:Unit),True->cnd (xI (g.n 1).got==1) (∃(j:RB),ab (List UInt8×Bool) 1 RdU (j.l,j.b)=ab (List UInt8×Bool) 1 RdU ((g.n 1).left,(g.n 1).bad)/\j.ok/\∀(k:Unit),True->∃(l:Unit),am lvE i.side.fst.fst.levels=am lvE (qK i f).fst/\i.side.fst.fst.imp.price=aj.wrap (xI (j.n 8).got)/\i.side.fst.fst.imp.qty=aj.wrap (xI (pP j).got)/\i.side.fst.fst.imp.count=aj.wrap (zJj j)/\i.side.fst.fst.has=av/\i.side.fst.snd=decide (xI (g.n 1).got<=1)/\ab (List UInt8×Bool) 1 RdU (i.side.snd.l,i.side.snd.b)=ab (List UInt8×Bool) 1 RdU ((b6 j).left,(b6 j).bad)/\True) (∃(j:Unit),am lvE i.side.fst.fst.levels=am lvE (qK i f).fst/\i.side.fst.fst.imp.price=0/\i.side.fst.fst.imp.qty=0/\i.side.fst.fst.imp.count=0/\i.side.fst.fst.has=au/\i.side.fst.snd=decide (xI (g.n 1).got<=1)/\ab (List UInt8×Bool) 1 RdU (i.side.snd.l,i.side.snd.b)=ab (List UInt8×Bool) 1 RdU ((g.n 1).left,(g.n 1).bad)/\True))
def x5 (a:List UInt8) (b:Nat):=((RB.mk ((RB.mk ((yG a).n 8).left ((yG a).n 8).bad).n 1).left ((RB.mk ((yG a).n 8).left ((yG a).n 8).bad).n 1).bad).views b)
def zNf (a:List UInt8) (b:Nat):=((am zP (x5 a b).fst.fst).length+1)
def Vdect316:=(Sx.V.agg [V.d kF])
def zXm (a:Nat) (b:Nat) (c:List UInt8) (d:RB) (e:RB) (f:Nat->Prop) (g:Nat->Nat) (h:List UInt8):Prop:=(↑a:Int)=aj.wrap ((↑b:Int)+1)/\ab (List UInt8×Bool) 1 RdU ((x5 c a).snd.l,(x5 c a).snd.b)=ab (List UInt8×Bool) 1 RdU (d.side.snd.l,d.side.snd.b)/\am zP (x5 c a).fst.fst=am zP (x5 c b).fst.fst++[[D.ro 3 (am lvE e.side.fst.fst.levels),dI e.side.fst.fst.imp.price,dI e.side.fst.fst.imp.qty,dI e.side.fst.fst.imp.count,D.v (.bool e.side.fst.fst.has),D.ro 3 (am lvE d.side.fst.fst.levels),dI d.side.fst.fst.imp.price,dI d.side.fst.fst.imp.qty,dI d.side.fst.fst.imp.count,D.v (.bool d.side.fst.fst.has)]]/\f a/\g a<g b/\dh (ab (List UInt8) 2 WrU h)/\dh (af tU8 1 (bE h))/\dh (ac Vdect316.cl 71)
def zVm (a:List UInt8) (b:Nat) (c:RB) (d:RB) (e:Nat->Prop) (f:Nat->Nat) (g:List UInt8):Prop:=(zNf a b)*(112:Nat)<=(140737488355328:Nat)/\∃(h:Nat),(x5 a h).fst.snd=au/\zXm h b a c d e f g
def zGu (a:List UInt8):Prop:=0<=aj.wrap ((↑(bE a).length:Int)-4)/\aj.wrap ((↑(bE a).length:Int)-4)<=(↑(bE a).length:Int)
def zGk (a:List UInt8):Prop:=∃(b:Unit),am zP (nX a)=[]/\zBx a=0/\zEd a=12/\True
def lJ (a:List UInt8):=(aj.wrap ((↑(bE a).length:Int)-4))
def y3c (b:List UInt8):Prop:=
 cnd (decide (aj.wrap ((↑(bE b).length:Int)-4)<0)) (∃(a:Unit),am zP (nX b)=[]/\zBx b=0/\zEd b=14/\True) (∃(a:Unit),True/\∀(c:Unit),True->(zGu b)/\∃(d:List UInt8),bE d=aq (lJ b).toNat (bE b)/\d.length<=1099511627776/\∀(e:Unit),True->∃(f:WN),f.n=fH d/\ab (List UInt8) 2 WrU f.l=ab (List UInt8) 2 WrU []/\(f.l.length+(8:Nat)<=(1099511627776:Nat)/\0<=f.n/\f.n<4294967296)/\∀(g:Unit),True->(zGu b)/\∃(h:ByteArray),dh ((1:Nat))/\ar (lJ b).toNat (bE b)=kP h/\∃(j:List UInt8),ab (List UInt8) 2 WrU j=ab (List UInt8) 2 WrU (f.l++le f.n 4)/\j.length<=1099511627776/\∀(k:Unit),True->(∃(l:ByteArray),dh ((1:Nat))/\ar (lJ b).toNat (bE b)=kP l/\l=h)/\∃(l:ByteArray),dh ((1:Nat))/\bE j=kP l/\cnd (!l.toList==h.toList) (∃(m:Unit),am zP (nX b)=[]/\zBx b=0/\zEd b=14/\True) ((zGu b)/\∃(m:List UInt8),bE m=aq (lJ b).toNat (bE b)/\m.length<=1099511627776/\∀(n:Unit),True->∃(p:RB),ab (List UInt8×Bool) 1 RdU (p.l,p.b)=ab (List UInt8×Bool) 1 RdU (m,au)/\p.l.length<=1099511627776/\∀(q:Unit),True->∃(r:RB),ab (List UInt8×Bool) 1 RdU (r.l,r.b)=ab (List UInt8×Bool) 1 RdU ((p.n 8).left,(p.n 8).bad)/\r.l.length<=1099511627776/\∀(s:Unit),True->∃(t:Nat),(x5 b t).fst.snd=av/\(↑t:Int)=0/\ab (List UInt8×Bool) 1 RdU ((x5 b t).snd.l,(x5 b t).snd.b)=ab (List UInt8×Bool) 1 RdU ((r.n 1).left,(r.n 1).bad)/\am zP (x5 b t).fst.fst=[]/\∃(u:Nat->Prop),∃(v:Nat->Nat),u t/\∀(w:Nat),u w->cnd (decide ((↑w:Int)<xI (r.n 1).got)) (∃(x:RB),ab (List UInt8×Bool) 1 RdU (x.l,x.b)=ab (List UInt8×Bool) 1 RdU ((x5 b w).snd.l,(x5 b w).snd.b)/\x.ok/\∀(y:Unit),True->cnd (x5 b w).fst.snd (∃(z:RB),ab (List UInt8×Bool) 1 RdU (z.l,z.b)=ab (List UInt8×Bool) 1 RdU (x.side.snd.l,x.side.snd.b)/\z.ok/\∀(a_1:Unit),True->cnd x.side.fst.snd ((zNf b w)*(112:Nat)<=(140737488355328:Nat)/\∃(a_2:Nat),(x5 b a_2).fst.snd=z.side.fst.snd/\zXm a_2 w b z x u v j) (zVm b w z x u v j)) (∃(z:RB),ab (List UInt8×Bool) 1 RdU (z.l,z.b)=ab (List UInt8×Bool) 1 RdU (x.side.snd.l,x.side.snd.b)/\z.ok/\∀(a_1:Unit),True->zVm b w z x u v j)) (cnd (!(x5 b w).fst.snd) (zGk b) (∃(x:RB),ab (List UInt8×Bool) 1 RdU (x.l,x.b)=ab (List UInt8×Bool) 1 RdU ((x5 b w).snd.l,(x5 b w).snd.b)/\x.l.length<=1099511627776/\∀(y:Unit),True->cnd ((if x.b=av then(10:Int)else if 0<x.l.length then(15:Int)else(0:Int)) !=0) (zGk b) (∃(z:Vw),am zP z=am zP (x5 b w).fst.fst/\(zGq z)/\∀(a_1:Unit),True->cnd (!gP z) (zGk b) (∃(a_2:Unit),am zP (nX b)=am zP (x5 b w).fst.fst/\zBx b=aj.wrap (xI (p.n 8).got)/\zEd b=0/\True))))))
open Classical
def eK (i:RN):i.left.length<=i.l.length:=by
 unfold RN.left;split
 ·omega
 ·rw[y8y];omega
def zDd (r:RB):0<=r.byte.1/\r.byte.1<=255:=by
 have hr:=cE (r.n 1).got;have hl:=zGy (r.n 1);have h0:(256:Int) ^ (r.n 1).got.length<=256 ^ 1:=by
  have:(256:Nat) ^ (r.n 1).got.length<=256 ^ 1:=Nat.pow_le_pow_right oM hl
  exact_mod_cast this
 exact⟨hr.1,by show xI _<=255;omega⟩
def vY {r:RB} (h:r.ok):r.byte.2.ok:=xAw (eK _) h
def qY {r:RB} (h:r.ok):r.long.2.ok:=xAw (eK _) h
def yTu {r:RB} (h:r.ok):r.lv.2.ok:=qY (qY (qY h))
def z5x {r:RB} (h:r.ok):∀k,(r.lvs k).2.ok
 |0=>h
 |k+1=>yTu (z5x h k)
def zMd {r:RB} (h:r.ok):r.part.2.ok:=z5x (vY h) _
def zLp {r:RB} (h:r.ok):r.side.2.ok:=by
 unfold RB.side;split
 ·exact yTu (vY (zMd h))
 ·exact vY (zMd h)
def zPa {r:RB} (h:r.ok):∀k,(r.views k).2.ok
 |0=>h
 |k+1=>zLp (zLp (zPa h k))
def zUx {r:RB}:∀k,(r.lvs k).1.length=k
 |0=>rfl
 |k+1=>by show((r.lvs k).1++[_]).length=_;rw[y8a,zUx k];rfl
def z0m {r:RB}:r.side.1.1.levels.length<=255:=by
 have:r.part.1.length<=255:=by
  show(r.byte.2.lvs r.byte.1.toNat).1.length<=255;rw[zUx];have:=zDd r;omega
 unfold RB.side;split<;>exact this
def zKd {r:RB}:∀k,(r.views k).1.1.length=k
 |0=>rfl
 |k+1=>by show((r.views k).1.1++[_]).length=_;rw[y8a,zKd k];rfl
def zPz {r:RB}:∀k,∀b∈(r.views k).1.1,b.1.levels.length<=255/\b.2.levels.length<=255
 |0,b,h=>nomatch h
 |k+1,b,h=>by
  have h:b∈(r.views k).1.1++[_]:=h;rw[y9f,y9u]at h;rcases h with h|rfl
  ·exact zPz k b h
  ·exact⟨z0m,z0m⟩
def yRg:lgetC.ok Tryz.prog 118:=okw (V:=y0r) mixed (gokc zNc gok0) 0 (λ_=>[]) (λ_=>[]) [] Tryz.func118 λ(i:RB) h=>
 ⟨i,rfl,h,λ_ _=>⟨i.long.2,rfl,qY h,λ_ _=>⟨i.long.2.long.2,rfl,qY (qY h),λ_ _=>⟨(),rF4 trivial⟩⟩⟩⟩
def wj {j:Nat} (h:j<=100000):((j+1:Nat):Int)=aj.wrap ((j:Int)+1):=by rw[w64 (by omega)];rfl
def y3p (i:RB) (h:sideC.cnd i):ySp i:=by
 unfold ySp qK zJj b6 pP kF dI;have hb:=zDd i;have hp:i.part=i.byte.2.lvs i.byte.1.toNat:=rfl;refine⟨i,rfl,h,λ_ _=>⟨0,rF6 ⟨rfl,λj=>j<=i.byte.1.toNat,λj=>i.byte.1.toNat-j,y9c _,λj hj=>zI (λhlt=> ?_) (λhlt=> ?_)⟩⟩⟩
 ·dsimp only at hj;have hlt:(j:Int)<i.byte.1:=hlt;refine⟨(i.byte.2.lvs j).2,rfl,z5x (vY h) j,λ_ _=>⟨trivial,trivial,?_,j+1,wj oM,rfl,rfl,rfl,rfl,rfl,?_,by(first|omega|(dsimp only;omega)),by(first|omega|(dsimp only;omega)),k0q⟩⟩
  ·rw[y8b];show((i.byte.2.lvs j).1.length+1)*24<=_;rw[zUx];omega
  ·show am lvE (i.byte.2.lvs (j+1)).1=_;show am lvE ((i.byte.2.lvs j).1++[(i.byte.2.lvs j).2.lv.1])=_;rw[y8k];rfl
 ·dsimp only at hj;have hlt:¬(j:Int)<i.byte.1:=hlt;obtain rfl:j=i.byte.1.toNat:=by omega
  refine⟨i.part.2,rfl,zMd h,λ_ _=>Cv.cnd.mk (λe=> ?_) (λe=> ?_)⟩
  ·have e:i.part.2.byte.1=1:=by
    have e:(i.part.2.byte.1==1)=av:=e;simpa using e
   have hs:i.side=((⟨i.part.1,i.part.2.byte.2.lv.1,av⟩,av),i.part.2.byte.2.lv.2):=y8c e;refine⟨i.part.2.byte.2,rfl,vY (zMd h),λ_ _=>⟨(),?_⟩⟩;rw[hs];refine(rF4 ⟨rfl,?_,rfl,trivial⟩);show av=decide (i.part.2.byte.1<=1);rw[e];rfl
  ·have e:¬i.part.2.byte.1=1:=by
    have e:(i.part.2.byte.1==1)=au:=e;simpa using e
   have hs:i.side=((⟨i.part.1,⟨0,0,0⟩,au⟩,decide (i.part.2.byte.1<=1)),i.part.2.byte.2):=y7z e;refine⟨(),?_⟩;rw[hs];exact(rF7 trivial)
def yQa:sideC.ok Tryz.prog 68:=okw mixed (gokc zEl (gokc yRg gok0)) 0 (λ_=>[]) (λi=>y1y i) [] Tryz.func68 y3p
def aH (l:List UInt8):bE l=kP ⟨l.toArray⟩:=rfl
def z9o {b:List UInt8} (h:¬m9 b):nX b=[]/\zBx b=0/\zEd b=14:=by
 refine⟨?_,?_,?_⟩
 ·rw[nX,y7z λx=>h x.1]
 ·rw[zBx,y7z λx=>h x.1]
 ·rw[zEd,y7z h]
def yGt {b:List UInt8} (h:m9 b) (h2:¬cW b):nX b=[]/\zBx b=0/\zEd b=12:=by
 refine⟨?_,?_,?_⟩
 ·rw[nX,y7z λx=>h2 x.2]
 ·rw[zBx,y7z λx=>h2 x.2]
 ·rw[zEd,y8c h,y7z h2]
def yLn {b:List UInt8} (h:m9 b) (h2:cW b):nX b=(yG b).all.1.1/\zBx b=(yG b).long.1/\zEd b=0:=by
 refine⟨?_,?_,?_⟩
 ·rw[nX,y8c ⟨h,h2⟩]
 ·rw[zBx,y8c ⟨h,h2⟩]
 ·rw[zEd,y8c h,y8c h2]
def y6u (b:List UInt8) (h:decC.cnd b):y3c b:=by
 have h:b.length<=1099511627776:=h;have e0:((bE b).length:Int)=b.length:=by rw[y9]
 have e1:aj.wrap (((bE b).length:Int)-4)=(b.length:Int)-4:=by rw[w64 (by omega),e0]
 unfold y3c zGq wY lJ zGk zVm zXm Vdect316 kF zGu zNf x5 dI;rw[e1,e0];refine zI (λhlt=> ?_) (λhlt=> ?_)
 ·obtain⟨a1,a2,a3⟩:=z9o (b:=b) λx=>by have:=x.1;omega
  exact⟨(),by rw[a1];rfl,a2,a3,trivial⟩
 have en:((b.length:Int)-4).toNat=b.length-4:=by omega
 rw[en,<- zBg,<- zAu];have hc:=m3 (b.take (b.length-4));have hx:(b.take (b.length-4)).length<=1099511627776:=by rw[y8t];omega
 have hr:(yG b).ok:=hx;have hall:(yG b).head.2.ok:=vY (qY hr);have hn:=zDd (yG b).long.2;refine⟨(),trivial,λ_ _=>⟨⟨oM,oM⟩,b.take (b.length-4),rfl,hx,λ_ _=>⟨⟨[],fH (b.take (b.length-4))⟩,rfl,rfl,⟨(show 0+8<=1099511627776 by omega),hc.1,hc.2⟩,λ_ _=>⟨⟨oM,oM⟩,_,rfl,aH _,le (fH (b.take (b.length-4))) 4,rfl,(by rw[xK];omega),λ_ _=>⟨⟨_,rfl,aH _,rfl⟩,_,rfl,aH _,Cv.cnd.mk (λe=> ?_) (λe=> ?_)⟩⟩⟩⟩⟩
 ·rw[ba,ba]at e;obtain⟨a1,a2,a3⟩:=z9o (b:=b) λx=>by
   simp at e;exact e x.2
  exact⟨(),by rw[a1];rfl,a2,a3,trivial⟩
 rw[ba,ba]at e;have hs:m9 b:=⟨oM,by simpa using e⟩
 refine⟨⟨oM,oM⟩,b.take (b.length-4),rfl,hx,λ_ _=>⟨yG b,rfl,hr,λ_ _=>⟨(yG b).long.2,rfl,qY hr,λ_ _=>⟨0,rF3 ⟨rfl,λj=>j<=(yG b).head.1.toNat,λj=>(yG b).head.1.toNat-j,y9c _,λj hj=>zI (λhlt=> ?_) (λhlt=> ?_)⟩⟩⟩⟩⟩
 ·dsimp only at hj;have hlt:(j:Int)<(yG b).head.1:=hlt;have hn:0<=(yG b).head.1/\(yG b).head.1<=255:=hn;have o1:((yG b).head.2.views j).2.ok:=zPa hall j;have hl:((am zP ((yG b).head.2.views j).1.1).length+1)*112<=140737488355328:=by rw[y8b,zKd];omega
  have nb:((yG b).head.2.views (j+1)).1.2=(((yG b).head.2.views j).1.2 && ((yG b).head.2.views j).2.side.1.2 && ((yG b).head.2.views j).2.side.2.side.1.2):=rfl;have nl:am zP ((yG b).head.2.views (j+1)).1.1=am zP ((yG b).head.2.views j).1.1++[zP (((yG b).head.2.views j).2.side.1.1,((yG b).head.2.views j).2.side.2.side.1.1)]:=by
   show am zP (((yG b).head.2.views j).1.1++[_])=_;rw[y8k];rfl
  refine⟨((yG b).head.2.views j).2,rfl,o1,λ_ _=>Cv.cnd.mk (λf1=> ?_) (λf1=> ?_)⟩
  ·have f1:((yG b).head.2.views j).1.2=av:=f1;refine⟨((yG b).head.2.views j).2.side.2,rfl,zLp o1,λ_ _=>Cv.cnd.mk (λf2=>⟨hl,j+1,?_,wj oM,rfl,nl,by(first|omega|(dsimp only;omega)),by(first|omega|(dsimp only;omega)),k0q⟩) (λf2=>⟨hl,j+1,?_,wj oM,rfl,nl,by(first|omega|(dsimp only;omega)),by(first|omega|(dsimp only;omega)),k0q⟩)⟩
   ·refine nb.trans ?_;rw[f1,f2];rfl
   ·refine nb.trans ?_;rw[f1,f2];rfl
  ·have f1:((yG b).head.2.views j).1.2=au:=f1;refine⟨((yG b).head.2.views j).2.side.2,rfl,zLp o1,λ_ _=>⟨hl,j+1,?_,wj oM,rfl,nl,by(first|omega|(dsimp only;omega)),by(first|omega|(dsimp only;omega)),k0q⟩⟩;refine nb.trans ?_;rw[f1];rfl
 ·dsimp only at hj;have hlt:¬(j:Int)<(yG b).head.1:=hlt;have hn:0<=(yG b).head.1/\(yG b).head.1<=255:=hn;obtain rfl:j=(yG b).head.1.toNat:=by omega
  have no:∀h2:¬cW b,(∃(o:Unit),am zP (nX b)=[]/\zBx b=0/\zEd b=12/\True):=λh2=>by
   obtain⟨a1,a2,a3⟩:=yGt hs h2;exact⟨(),by rw[a1];rfl,a2,a3,trivial⟩
  refine Cv.cnd.mk (λf=>no λx=> ?_) (λf=> ?_)
  ·have x1:((yG b).head.2.views (yG b).head.1.toNat).1.2=av:=x.1;have f:(!((yG b).head.2.views (yG b).head.1.toNat).1.2)=av:=f;rw[x1]at f;cases f
  have f:((yG b).head.2.views (yG b).head.1.toNat).1.2=av:=by
   have f:(!((yG b).head.2.views (yG b).head.1.toNat).1.2)=au:=f;simpa using f
  refine⟨(yG b).all.2,rfl,zPa hall _,λ_ _=>Cv.cnd.mk (λg=>no λx=> ?_) (λg=> ?_)⟩
  ·have x2:(yG b).all.2.endOf=0:=x.2.1;have g:((yG b).all.2.endOf !=0)=av:=g;rw[x2]at g;cases g
  have g:(yG b).all.2.endOf=0:=by
   have g:((yG b).all.2.endOf !=0)=au:=g;simpa using g
  refine⟨(yG b).all.1.1,rfl,⟨?_,?_⟩,λ_ _=>Cv.cnd.mk (λq=>no λx=> ?_) (λq=> ?_)⟩
  ·show((yG b).head.2.views (yG b).head.1.toNat).1.1.length<=_;rw[zKd];omega
  ·intro y hy;have:=zPz (r:=(yG b).head.2) _ y hy;omega
  ·have:=x.2.2;simp only[gP,xBa,decide_eq_false_iff_not]at q;exact q this
  ·have q:wC (yG b).all.1.1:=by simpa[gP]using q
   obtain⟨a1,a2,a3⟩:=yLn hs ⟨f,g,q⟩;refine⟨(),?_,a2,a3,trivial⟩;rw[a1];rfl
def dec_ok:decC.ok Tryz.prog 25:=okw mixed (gokc zMm (gokc zVg (gokc z3w (gokc zLq (gokc zWl (gokc zNc (gokc zEl (gokc yQa (gokc z8n (gokc zTj gok0)))))))))) 0 (λ_=>[]) (λb=>y6b b) [] Tryz.func25 y6u
def y3l (s:List UInt8):Prop:=
 ∃(a:Nat×Nat),(↑a.snd:Int)=0/\sb s=sb s/\a.fst=0/\∃(b:Nat×Nat->Prop),∃(c:Nat×Nat->Nat),b a/\∀(d:Nat×Nat),b d->cnd (d.fst.blt (sb s).size) (cnd (decide ((qF s d)<32)) (∃(e:Unit),dG s=au/\True) (cnd ((qF s d)==127) (∃(e:Unit),dG s=au/\True) (cnd ((qF s d)==65533) (∃(e:Unit),dG s=au/\True) (cF d s b c)))) (cnd (decide ((↑d.snd:Int)>=1)) (∃(e:Unit),dG s=decide ((↑d.snd:Int)<=12)/\True) (∃(e:Unit),dG s=au/\True))
def zHf (a:Cmd):Prop:=∃(b:List UInt8),sb b=sb a.label/\b.length<=140737488355328/\∀(c:Unit),True->cnd (!dG b) (∃(d:Unit),a.orderE=29/\True) (cnd (decide (a.price>=(-2000000))) (cnd (!decide (a.price<=2000000)) (∃(d:Unit),a.orderE=23/\True) (cnd (decide (a.inst<0)) (∃(d:Unit),a.orderE=20/\True) (cnd (decide (a.inst>255)) (∃(d:Unit),a.orderE=20/\True) (∃(d:Unit),a.orderE=0/\True)))) (∃(d:Unit),a.orderE=23/\True))
def yRy (c:Cmd):Prop:=
 cnd (c.side !=1) (cnd (c.side !=2) (∃(a:Unit),c.orderE=21/\True) (cnd (decide (c.time<1)) (∃(a:Unit),c.orderE=27/\True) (cnd (decide (c.time>3)) (∃(a:Unit),c.orderE=27/\True) (cnd (decide (c.qty>=1)) (cnd (!decide (c.qty<=1000000)) (∃(a:Unit),c.orderE=24/\True) (cnd (decide (c.least<0)) (∃(a:Unit),c.orderE=28/\True) (cnd (decide (c.least>c.qty)) (∃(a:Unit),c.orderE=28/\True) (cnd (!(sb c.label).toList==(az #[]).toList) (zHf c) (cnd (decide (c.price>=(-2000000))) (cnd (!decide (c.price<=2000000)) (∃(a:Unit),c.orderE=23/\True) (cnd (decide (c.inst<0)) (∃(a:Unit),c.orderE=20/\True) (cnd (decide (c.inst>255)) (∃(a:Unit),c.orderE=20/\True) (∃(a:Unit),c.orderE=0/\True)))) (∃(a:Unit),c.orderE=23/\True)))))) (∃(a:Unit),c.orderE=24/\True))))) (cnd (decide (c.time<1)) (∃(a:Unit),c.orderE=27/\True) (cnd (decide (c.time>3)) (∃(a:Unit),c.orderE=27/\True) (cnd (decide (c.qty>=1)) (cnd (!decide (c.qty<=1000000)) (∃(a:Unit),c.orderE=24/\True) (cnd (decide (c.least<0)) (∃(a:Unit),c.orderE=28/\True) (cnd (decide (c.least>c.qty)) (∃(a:Unit),c.orderE=28/\True) (cnd (!(sb c.label).toList==(az #[]).toList) (zHf c) (cnd (decide (c.price>=(-2000000))) (cnd (!decide (c.price<=2000000)) (∃(a:Unit),c.orderE=23/\True) (cnd (decide (c.inst<0)) (∃(a:Unit),c.orderE=20/\True) (cnd (decide (c.inst>255)) (∃(a:Unit),c.orderE=20/\True) (∃(a:Unit),c.orderE=0/\True)))) (∃(a:Unit),c.orderE=23/\True)))))) (∃(a:Unit),c.orderE=24/\True))))
def yLi (c:Cmd):Prop:=
 cnd (decide (c.kind<1)) (∃(a:Unit),c.right=31/\True) (cnd (decide (c.kind>4)) (∃(a:Unit),c.right=31/\True) (cnd (decide (c.id<1)) (∃(a:Unit),c.right=1/\True) (cnd (decide (c.id>1099511627776)) (∃(a:Unit),c.right=1/\True) (cnd (c.kind==1) (∃(a:Cmd),a.kind=c.kind/\a.id=c.id/\a.inst=c.inst/\a.side=c.side/\a.price=c.price/\a.qty=c.qty/\a.least=c.least/\a.time=c.time/\sb a.label=sb c.label/\a.label.length<=140737488355328/\∀(b:Unit),True->∃(d:Unit),c.right=a.orderE/\True) (cnd (c.kind !=2) (cnd (decide (c.qty>=1)) (cnd (!decide (c.qty<=1000000)) (∃(a:Unit),c.right=24/\True) (cnd (c.kind==4) (cnd (decide (c.price>=(-2000000))) (cnd (!decide (c.price<=2000000)) (∃(a:Unit),c.right=23/\True) (∃(a:Unit),c.right=0/\True)) (∃(a:Unit),c.right=23/\True)) (∃(a:Unit),c.right=0/\True))) (∃(a:Unit),c.right=24/\True)) (cnd (c.kind==4) (cnd (decide (c.price>=(-2000000))) (cnd (!decide (c.price<=2000000)) (∃(a:Unit),c.right=23/\True) (∃(a:Unit),c.right=0/\True)) (∃(a:Unit),c.right=23/\True)) (∃(a:Unit),c.right=0/\True)))))))
def y6t (s:List UInt8) (h:labC.cnd s):y3l s:=by
 have h:s.length<=140737488355328:=h;have hr:=zHz s;unfold y3l qF cF;refine⟨(0,0),rfl,rfl,rfl,λx=>x.1<=s.length/\x.2+(gB s x.1).length=(kZ s).length/\(kZ s).all zRk=(gB s x.1).all λx=>zRk x.2,λx=>s.length-x.1,⟨oM,by rw[kZ,y8b];simp,by rw[kZ,List.all_map];rfl⟩,?_⟩;rintro⟨p,n⟩ ⟨h1,h2,h3⟩;dsimp only at h1 h2 h3 ⊢;refine Cv.cnd.mk (λhp=> ?_) (λhp=> ?_)
 ·have hp:p<s.length:=by simpa[xBd]using hp
  have hw:=bC s hp;rw[jW hp,y8f]at h2;rw[jW hp,List.all_cons]at h3;generalize hc:(Utf8.decode (sb s) p).1=c at h2 h3 ⊢;generalize hww:(Utf8.decode (sb s) p).2=w at h2 h3 hw ⊢;dsimp only at h3;have bad:zRk c=au->∃(o:Unit),dG s=au/\True:=λe=>⟨(),by rw[dG,h3,e];rfl,trivial⟩
  refine zI (λc1=>bad ?_) (λc1=>Cv.cnd.mk (λc2=>bad ?_) (λc2=>Cv.cnd.mk (λc3=>bad ?_) (λc3=> ?_)))
  ·simp[zRk];omega
  ·have c2:(c:Int)=127:=by simpa using c2
   simp[zRk];omega
  ·have c3:(c:Int)=65533:=by simpa using c3
   simp[zRk];omega
  ·have c2:¬(c:Int)=127:=by simpa using c2
   have c3:¬(c:Int)=65533:=by simpa using c3
   have e:zRk c=av:=by simp[zRk];omega
   refine⟨(p+w,n+1),?_,rfl,rfl,⟨hw.2,by(first|omega|(dsimp only;omega)),by rw[h3,e];rfl⟩,by(first|omega|(dsimp only;omega)),trivial⟩;rw[w64 (by omega)];rfl
 ·have hp:s.length<=p:=by have:=z9b hp;simpa using this
  rw[uB hp]at h2 h3;have h2:n=(kZ s).length:=h2;have h3:(kZ s).all zRk=av:=h3;refine zI (λc=>⟨(),?_,trivial⟩) (λc=>⟨(),?_,trivial⟩)
  ·rw[dG,h3,<- h2,y8r (show 1<=n by omega)];simp only[xAy];congr 1;simp only[eq_iff_iff];omega
  ·rw[dG,<- h2,y8n (show ¬1<=n by omega)];simp
def yYa:labC.ok Tryz.prog 148:=okw mixed gok0 0 (λ_=>[]) (λs=>y7m s) [] Tryz.func148 y6t
def y6s (a b:Int):(a==b)=decide (a=b):=by
 by_cases h:a=b
 ·subst h;simp
 ·simp[h]
def y1x (a b:Int):(a !=b)=decide (a≠b):=by
 by_cases h:a=b
 ·subst h;simp
 ·simp[h]
def eqB (a b:List UInt8):((sb a).toList==(sb b).toList)=decide (a=b):=by
 rw[rD,rD];by_cases h:a=b
 ·subst h;simp
 ·simp[h]
def yXq:az #[]=sb []:=rfl
def y3r (c:Cmd) (h:cmdOrdC.cnd c):yRy c:=by
 have h:c.label.length<=140737488355328:=h;unfold yRy zHf;simp only[yXq,eqB,y1x];have tail:¬(c.side≠1/\c.side≠2)->cnd (decide (c.time<1)) (∃(o:Unit),c.orderE=27/\True) (cnd (decide (c.time>3)) (∃(o:Unit),c.orderE=27/\True) (cnd (decide (c.qty>=1)) (cnd (!decide (c.qty<=1000000)) (∃(o:Unit),c.orderE=24/\True) (cnd (decide (c.least<0)) (∃(o:Unit),c.orderE=28/\True) (cnd (decide (c.least>c.qty)) (∃(o:Unit),c.orderE=28/\True) (cnd (!decide (c.label=[])) (∃(i:List UInt8),sb i=sb c.label/\i.length<=140737488355328/\∀(o:Unit),True->cnd (!dG i) (∃(o:Unit),c.orderE=29/\True) (cnd (decide (c.price>=-2000000)) (cnd (!decide (c.price<=2000000)) (∃(o:Unit),c.orderE=23/\True) (cnd (decide (c.inst<0)) (∃(o:Unit),c.orderE=20/\True) (cnd (decide (c.inst>255)) (∃(o:Unit),c.orderE=20/\True) (∃(o:Unit),c.orderE=0/\True)))) (∃(o:Unit),c.orderE=23/\True))) (cnd (decide (c.price>=-2000000)) (cnd (!decide (c.price<=2000000)) (∃(o:Unit),c.orderE=23/\True) (cnd (decide (c.inst<0)) (∃(o:Unit),c.orderE=20/\True) (cnd (decide (c.inst>255)) (∃(o:Unit),c.orderE=20/\True) (∃(o:Unit),c.orderE=0/\True)))) (∃(o:Unit),c.orderE=23/\True)))))) (∃(o:Unit),c.orderE=24/\True))):=by
  intro hs;have e1:c.orderE=if c.time<1\/3<c.time then 27 else if kO c.qty=au then 24 else if c.least<0\/c.qty<c.least then 28
   else if c.label≠[]/\dG c.label=au then 29 else if vT c.price=au then 23 else if c.inst<0\/255<c.inst then 20 else 0:=by rw[Cmd.orderE,y7z hs]
  refine zI (λd1=>⟨(),by rw[e1,y8c (.inl d1)],trivial⟩) λd1=>zI (λd2=>⟨(),by rw[e1,y8c (.inr d2)],trivial⟩) λd2=> ?_
  rw[y7z (by omega)]at e1;have q (hq:kO c.qty=au):∃(o:Unit),c.orderE=24/\True:=⟨(),by rw[e1,y8c hq],trivial⟩
  refine zI (λd3=>Cv.cnd.mk (λd4=>q ?_) λd4=> ?_) λd3=>q ?_
  ·have d4:¬c.qty<=1000000:=by simpa using d4
   simp[kO,d4]
  ·have d4:c.qty<=1000000:=by simpa using d4
   have hq:¬kO c.qty=au:=by simp[kO,d4];omega
   rw[y7z hq]at e1;refine zI (λd5=>⟨(),by rw[e1,y8c (.inl d5)],trivial⟩) λd5=>zI (λd6=>⟨(),by rw[e1,y8c (.inr d6)],trivial⟩) λd6=> ?_
   rw[y7z (by omega)]at e1;have last:¬(c.label≠[]/\dG c.label=au)->cnd (decide (c.price>=-2000000)) (cnd (!decide (c.price<=2000000)) (∃(o:Unit),c.orderE=23/\True) (cnd (decide (c.inst<0)) (∃(o:Unit),c.orderE=20/\True) (cnd (decide (c.inst>255)) (∃(o:Unit),c.orderE=20/\True) (∃(o:Unit),c.orderE=0/\True)))) (∃(o:Unit),c.orderE=23/\True):=by
    intro hl;rw[y7z hl]at e1;have pr (hq:vT c.price=au):∃(o:Unit),c.orderE=23/\True:=⟨(),by rw[e1,y8c hq],trivial⟩
    refine zI (λg1=>Cv.cnd.mk (λg2=>pr ?_) λg2=> ?_) λg1=>pr ?_
    ·have g2:¬c.price<=2000000:=by simpa using g2
     simp[vT,g2]
    ·have g2:c.price<=2000000:=by simpa using g2
     have hp:¬vT c.price=au:=by simp[vT,g2];omega
     rw[y7z hp]at e1;refine zI (λg3=>⟨(),by rw[e1,y8c (.inl g3)],trivial⟩) λg3=>zI (λg4=>⟨(),by rw[e1,y8c (.inr g4)],trivial⟩) λg4=>⟨(),by rw[e1,y7z (by omega)],trivial⟩
    ·simp[vT];omega
   refine Cv.cnd.mk (λd7=>⟨c.label,rfl,h,λ_ _=>Cv.cnd.mk (λd8=> ?_) λd8=>last ?_⟩) λd7=>last ?_
   ·have d7:¬c.label=[]:=by simpa using d7
    have d8:dG c.label=au:=by simpa using d8
    exact⟨(),by rw[e1,y8c ⟨d7,d8⟩],trivial⟩
   ·have d8:dG c.label=av:=by simpa using d8
    simp[d8]
   ·have d7:c.label=[]:=by simpa using d7
    simp[d7]
  ·simp[kO];omega
 refine zI (λc1=>zI (λc2=>⟨(),by rw[Cmd.orderE,y8c ⟨c1,c2⟩],trivial⟩) λc2=>tail ?_) λc1=>tail ?_
 ·omega
 ·omega
def yNd:cmdOrdC.ok Tryz.prog 112:=okw mixed (gokc yYa gok0) 1 (λ_=>[]) (λ_=>[]) [] Tryz.func112 y3r
def yWd (c:Cmd) (h:cmdRtC.cnd c):yLi c:=by
 have h:c.label.length<=140737488355328:=h;unfold yLi;simp only[y6s,y1x];refine zI (λc1=>⟨(),by rw[Cmd.right,y8c (.inl c1)],trivial⟩) λc1=>zI (λc2=>⟨(),by rw[Cmd.right,y8c (.inr c2)],trivial⟩) λc2=> ?_
 refine zI (λc3=>⟨(),by rw[Cmd.right,y7z (by omega),y8c (.inl c3)],trivial⟩) λc3=>zI (λc4=>⟨(),by rw[Cmd.right,y7z (by omega),y8c (.inr c4)],trivial⟩) λc4=> ?_
 have e0:c.right=if c.kind=1 then c.orderE else if c.kind≠2/\kO c.qty=au then 24 else if c.kind=4/\vT c.price=au then 23 else 0:=by rw[Cmd.right,y7z (by omega),y7z (by omega)]
 refine zI (λc5=>⟨c,?_⟩) λc5=> ?_
 ·rw[y8c c5]at e0;exact kp
 rw[y7z c5]at e0;have last (hn:¬(c.kind≠2/\kO c.qty=au)):cnd (decide (c.kind=4)) (cnd (decide (c.price>=-2000000)) (cnd (!decide (c.price<=2000000)) (∃(o:Unit),c.right=23/\True) (∃(o:Unit),c.right=0/\True)) (∃(o:Unit),c.right=23/\True)) (∃(o:Unit),c.right=0/\True):=by
  rw[y7z hn]at e0;refine zI (λd1=>zI (λd2=>Cv.cnd.mk (λd3=> ?_) λd3=> ?_) λd2=> ?_) λd1=> ?_
  ·have d3:¬c.price<=2000000:=by simpa using d3
   exact⟨(),by rw[e0,y8c ⟨d1,by simp[vT,d3]⟩],trivial⟩
  ·have d3:c.price<=2000000:=by simpa using d3
   exact⟨(),by rw[e0,y7z (by simp[vT,d3];omega)],trivial⟩
  ·exact⟨(),by rw[e0,y8c ⟨d1,by simp[vT];omega⟩],trivial⟩
  ·exact⟨(),by rw[e0,y7z (by simp[d1])],trivial⟩
 refine zI (λd1=>zI (λd2=>Cv.cnd.mk (λd3=> ?_) λd3=>last ?_) λd2=> ?_) λd1=>last ?_
 ·have d3:¬c.qty<=1000000:=by simpa using d3
  exact⟨(),by rw[e0,y8c ⟨d1,by simp[kO,d3]⟩],trivial⟩
 ·have d3:c.qty<=1000000:=by simpa using d3
  simp[kO,d3];omega
 ·exact⟨(),by rw[e0,y8c ⟨d1,by simp[kO];omega⟩],trivial⟩
 ·omega
def zOp:cmdRtC.ok Tryz.prog 57:=okw mixed (gokc yNd gok0) 1 (λ_=>[]) (λ_=>[]) [] Tryz.func57 yWd
def rtextC:Con:=con1 RB (λi=>[.nm 0 0]) (λi=>[RdB i]) RB.ok (λi=>sV i.text.1) (λi=>[RdB i.text.2])
structure TxB where
 l:List UInt8
 s:List UInt8
def cdecC:Con:=con1 (List UInt8) (λb=>[roV 1 (bE b)]) (λ_=>[]) (λb=>b.length<=1099511627776) (λb=> .tup [zGp (xN b).1,zA (xN b).2]) (λ_=>[])
def y4y:List (Nat×SAnn):=[(12,bj 19),(26,{ι:=Cmd×RB,slots:=λ_=>[(4,.nm 0 0),(5,.nm 1 0)],rows:=λx=>[RdB x.2,.cells x.1.cells 44],slots0:=λ_=>[(4,.nm 0 0),(5,.nm 1 0)],rows0:=λx=>[RdB x.2,.cells x.1.cells 44]})]
def y0b (i:RB):Prop:=
 ∃(i_1:RB),ab (List UInt8×Bool) 1 RdU (i_1.l,i_1.b)=RdB i/\i_1.l.length<=1099511627776/\∀(o:Unit),True->∃(i_2:RN),(↑i_2.n:Int)=xI (i_1.n 1).got/\ab (List UInt8×Bool) 1 RdU (i_2.l,i_2.b)=ab (List UInt8×Bool) 1 RdU ((i_1.n 1).left,(i_1.n 1).bad)/\(i_2.n<=255/\i_2.l.length<=1099511627776)/\∀(o:Unit),True->∃(b:ByteArray),dh ((1:Nat))/\bE i_2.got=kP b/\∃(o:Unit),sb ((RB.mk (i.n 1).left (i.n 1).bad).n (xI (i.n 1).got).toNat).got=b/\ab (List UInt8×Bool) 1 RdU (((RB.mk (i.n 1).left (i.n 1).bad).n (xI (i.n 1).got).toNat).left,((RB.mk (i.n 1).left (i.n 1).bad).n (xI (i.n 1).got).toNat).bad)=ab (List UInt8×Bool) 1 RdU (i_2.left,i_2.bad)/\True
def zIz:Prop:=ac (Sx.V.agg [V.d (dI 0),V.d (dI 0),V.d (dI 0),V.d (dI 0),V.d (dI 0),V.d (dI 0),V.d (dI 0),V.d (dI 0),V.d k0]).cl 44=ac (Sx.V.agg [V.d (dI 0),V.d (dI 0),V.d (dI 0),V.d (dI 0),V.d (dI 0),V.d (dI 0),V.d (dI 0),V.d (dI 0),V.d k0]).cl 44
def zMx (a:Bool->Prop) (b:Bool) (c:RB):Prop:=a b/\dh (ac [V.d (dI (xI (c.n 1).got)),V.d (dI 0),V.d (dI 0),V.d (dI 0),V.d (dI 0),V.d (dI 0),V.d (dI 0),V.d (dI 0),V.d k0] 44)/\dh (ab (List UInt8×Bool) 1 RdU ((c.n 1).left,(c.n 1).bad))/\zIz
def zJn (a:Cmd×RB->Prop) (b:Cmd×RB):Prop:=a b/\zIz
def zHk (a:Cmd×RB) (b:Cmd×RB) (c:Cmd×RB->Prop):Prop:=a.fst.least=b.fst.least/\a.fst.time=b.fst.time/\sb a.fst.label=sb b.fst.label/\zJn c a
def zHd (a:Cmd×RB) (b:RB) (c:Cmd×RB) (d:Cmd×RB->Prop):Prop:=a.fst.qty=aj.wrap (xI (b.n 8).got)/\zHk a c d
def zAt (a:RB):=((RB.mk (a.n 1).left (a.n 1).bad).n (xI (a.n 1).got).toNat)
def yTo (b:List UInt8):Prop:=
 ∃(a:List UInt8),bE a=bE b/\a.length<=1099511627776/\∀(c:Unit),True->∃(d:RB),ab (List UInt8×Bool) 1 RdU (d.l,d.b)=ab (List UInt8×Bool) 1 RdU (a,au)/\d.l.length<=1099511627776/\∀(e:Unit),True->∃(f:Bool),∃(g:Bool->Prop),cnd (decide (xI (d.n 1).got<1)) (∃(h:Bool),h=av/\zMx g h d) (∃(h:Bool),h=decide (xI (d.n 1).got>4)/\zMx g h d)/\∀(h:Bool),g h->cnd h (∃(j:Unit),(xN b).fst.kind=0/\(xN b).fst.id=0/\(xN b).fst.inst=0/\(xN b).fst.side=0/\(xN b).fst.price=0/\(xN b).fst.qty=0/\(xN b).fst.least=0/\(xN b).fst.time=0/\sb (xN b).fst.label=az #[]/\(xN b).snd=31/\True) (∃(j:RB),ab (List UInt8×Bool) 1 RdU (j.l,j.b)=ab (List UInt8×Bool) 1 RdU ((d.n 1).left,(d.n 1).bad)/\j.l.length<=1099511627776/\∀(k:Unit),True->∃(l:Cmd×RB),ab (List UInt8×Bool) 1 RdU (l.snd.l,l.snd.b)=ab (List UInt8×Bool) 1 RdU ((j.n 8).left,(j.n 8).bad)/\l.fst.kind=xI (d.n 1).got/\l.fst.id=aj.wrap (xI (j.n 8).got)/\l.fst.inst=0/\l.fst.side=0/\l.fst.price=0/\l.fst.qty=0/\l.fst.least=0/\l.fst.time=0/\sb l.fst.label=az #[]/\∃(m:Cmd×RB->Prop),cnd (l.fst.kind==1) (∃(n:RB),ab (List UInt8×Bool) 1 RdU (n.l,n.b)=ab (List UInt8×Bool) 1 RdU (l.snd.l,l.snd.b)/\n.l.length<=1099511627776/\∀(p:Unit),True->∃(q:RB),ab (List UInt8×Bool) 1 RdU (q.l,q.b)=ab (List UInt8×Bool) 1 RdU ((n.n 1).left,(n.n 1).bad)/\q.l.length<=1099511627776/\∀(r:Unit),True->∃(s:RB),ab (List UInt8×Bool) 1 RdU (s.l,s.b)=ab (List UInt8×Bool) 1 RdU ((q.n 1).left,(q.n 1).bad)/\s.l.length<=1099511627776/\∀(t:Unit),True->∃(u:RB),ab (List UInt8×Bool) 1 RdU (u.l,u.b)=ab (List UInt8×Bool) 1 RdU ((s.n 1).left,(s.n 1).bad)/\u.l.length<=1099511627776/\∀(v:Unit),True->∃(w:RB),ab (List UInt8×Bool) 1 RdU (w.l,w.b)=ab (List UInt8×Bool) 1 RdU ((u.n 8).left,(u.n 8).bad)/\w.l.length<=1099511627776/\∀(x:Unit),True->∃(y:RB),ab (List UInt8×Bool) 1 RdU (y.l,y.b)=ab (List UInt8×Bool) 1 RdU ((w.n 8).left,(w.n 8).bad)/\y.l.length<=1099511627776/\∀(z:Unit),True->∃(a_1:RB),ab (List UInt8×Bool) 1 RdU (a_1.l,a_1.b)=ab (List UInt8×Bool) 1 RdU ((y.n 8).left,(y.n 8).bad)/\a_1.ok/\∀(a_2:Unit),True->∃(a_3:Cmd×RB),ab (List UInt8×Bool) 1 RdU (a_3.snd.l,a_3.snd.b)=ab (List UInt8×Bool) 1 RdU ((zAt a_1).left,(zAt a_1).bad)/\a_3.fst.kind=l.fst.kind/\a_3.fst.id=l.fst.id/\a_3.fst.inst=xI (n.n 1).got/\a_3.fst.side=xI (q.n 1).got/\a_3.fst.price=aj.wrap (xI (u.n 8).got)/\a_3.fst.qty=aj.wrap (xI (w.n 8).got)/\a_3.fst.least=aj.wrap (xI (y.n 8).got)/\a_3.fst.time=xI (s.n 1).got/\sb a_3.fst.label=sb (zAt a_1).got/\zJn m a_3) (cnd (l.fst.kind==3) (∃(n:RB),ab (List UInt8×Bool) 1 RdU (n.l,n.b)=ab (List UInt8×Bool) 1 RdU (l.snd.l,l.snd.b)/\n.l.length<=1099511627776/\∀(p:Unit),True->∃(q:Cmd×RB),ab (List UInt8×Bool) 1 RdU (q.snd.l,q.snd.b)=ab (List UInt8×Bool) 1 RdU ((n.n 8).left,(n.n 8).bad)/\q.fst.kind=l.fst.kind/\q.fst.id=l.fst.id/\q.fst.inst=l.fst.inst/\q.fst.side=l.fst.side/\q.fst.price=l.fst.price/\zHd q n l m) (cnd (l.fst.kind==4) (∃(n:RB),ab (List UInt8×Bool) 1 RdU (n.l,n.b)=ab (List UInt8×Bool) 1 RdU (l.snd.l,l.snd.b)/\n.l.length<=1099511627776/\∀(p:Unit),True->∃(q:RB),ab (List UInt8×Bool) 1 RdU (q.l,q.b)=ab (List UInt8×Bool) 1 RdU ((n.n 8).left,(n.n 8).bad)/\q.l.length<=1099511627776/\∀(r:Unit),True->∃(s:Cmd×RB),ab (List UInt8×Bool) 1 RdU (s.snd.l,s.snd.b)=ab (List UInt8×Bool) 1 RdU ((q.n 8).left,(q.n 8).bad)/\s.fst.kind=l.fst.kind/\s.fst.id=l.fst.id/\s.fst.inst=l.fst.inst/\s.fst.side=l.fst.side/\s.fst.price=aj.wrap (xI (n.n 8).got)/\zHd s q l m) (∃(n:Cmd×RB),ab (List UInt8×Bool) 1 RdU (n.snd.l,n.snd.b)=ab (List UInt8×Bool) 1 RdU (l.snd.l,l.snd.b)/\n.fst.kind=l.fst.kind/\n.fst.id=l.fst.id/\n.fst.inst=l.fst.inst/\n.fst.side=l.fst.side/\n.fst.price=l.fst.price/\n.fst.qty=l.fst.qty/\zHk n l m)))/\∀(n:Cmd×RB),m n->∃(p:RB),ab (List UInt8×Bool) 1 RdU (p.l,p.b)=ab (List UInt8×Bool) 1 RdU (n.snd.l,n.snd.b)/\p.l.length<=1099511627776/\∀(q:Unit),True->cnd ((if p.b=av then(10:Int)else if 0<p.l.length then(15:Int)else(0:Int)) !=0) (∃(r:Unit),(xN b).fst.kind=0/\(xN b).fst.id=0/\(xN b).fst.inst=0/\(xN b).fst.side=0/\(xN b).fst.price=0/\(xN b).fst.qty=0/\(xN b).fst.least=0/\(xN b).fst.time=0/\sb (xN b).fst.label=az #[]/\(xN b).snd=12/\True) (∃(r:Cmd),r.kind=n.fst.kind/\r.id=n.fst.id/\r.inst=n.fst.inst/\r.side=n.fst.side/\r.price=n.fst.price/\r.qty=n.fst.qty/\r.least=n.fst.least/\r.time=n.fst.time/\sb r.label=sb n.fst.label/\r.label.length<=140737488355328/\∀(s:Unit),True->cnd (r.right !=0) (∃(t:Unit),(xN b).fst.kind=0/\(xN b).fst.id=0/\(xN b).fst.inst=0/\(xN b).fst.side=0/\(xN b).fst.price=0/\(xN b).fst.qty=0/\(xN b).fst.least=0/\(xN b).fst.time=0/\sb (xN b).fst.label=az #[]/\(xN b).snd=r.right/\True) (∃(t:Unit),(xN b).fst.kind=n.fst.kind/\(xN b).fst.id=n.fst.id/\(xN b).fst.inst=n.fst.inst/\(xN b).fst.side=n.fst.side/\(xN b).fst.price=n.fst.price/\(xN b).fst.qty=n.fst.qty/\(xN b).fst.least=n.fst.least/\(xN b).fst.time=n.fst.time/\sb (xN b).fst.label=sb n.fst.label/\(xN b).snd=0/\True)))
def z1w (r:RB):0<=r.byte.1/\r.byte.1<=255:=by
 have h:=cE (r.n 1).got;have hl:(r.n 1).got.length<=1:=zGy (r.n 1);show 0<=xI (r.n 1).got/\xI (r.n 1).got<=255;obtain e|e:(r.n 1).got.length=0\/(r.n 1).got.length=1:=by omega
 ·rw[e]at h;omega
 ·rw[e]at h;omega
def yQu {r:RB} (h:r.ok):r.text.2.ok:=xAw (eK _) (xAw (eK _) h)
def yJo:rtextC.ok Tryz.prog 163:=okw (V:=y0b) mixed (gokc zEl (gokc z9a gok0)) 0 (λ_=>[]) (λ_=>[]) [] Tryz.func163 λ(i:RB) h=>by
 have h:i.l.length<=1099511627776:=h;have hb:=z1w i;exact⟨i,rfl,h,λ_ _=>⟨⟨(i.n 1).left,(i.n 1).bad,i.byte.1.toNat⟩,by dsimp only;exact Int.toNat_of_nonneg hb.1,rfl,⟨Z9,xAw (eK _) h⟩,λ_ _=>⟨_,rfl,aH _,(),rfl,rfl,trivial⟩⟩⟩
def yUh {k id:Int} {r:RB} (h:r.ok):(x7 k id r).2.ok/\(x7 k id r).1.label.length<=255:=by
 rw[x7];split
 ·have h6:=qY (qY (qY (vY (vY (vY h)))));refine⟨yQu h6,?_⟩;show(RB.text (r.byte.2.byte.2.byte.2.long.2.long.2.long.2)).1.length<=255;generalize r.byte.2.byte.2.byte.2.long.2.long.2.long.2=q;have:=z1w q;have:(q.text.1).length<=q.byte.1.toNat:=zGy _;omega
 split
 ·exact⟨qY h,y9c _⟩
 split
 ·exact⟨qY (qY h),y9c _⟩
 ·exact⟨h,y9c _⟩
def y2o (b:List UInt8) (h:cdecC.cnd b):yTo b:=by
 have h:b.length<=1099511627776:=h;obtain⟨r0,hr⟩:∃r0,r0=RB.mk b au:=⟨_,rfl⟩
 have hr0:r0.ok:=by rw[hr];exact h
 have hk2:=vY hr0;have hk3:=qY hk2;have hdec:xN b=if r0.byte.1<1\/4<r0.byte.1 then(zVb,31)else if(x7 r0.byte.1 r0.byte.2.long.1 r0.byte.2.long.2).2.endOf≠0 then(zVb,12)else if(x7 r0.byte.1 r0.byte.2.long.1 r0.byte.2.long.2).1.right≠0 then(zVb,(x7 r0.byte.1 r0.byte.2.long.1 r0.byte.2.long.2).1.right)else((x7 r0.byte.1 r0.byte.2.long.1 r0.byte.2.long.2).1,0):=by
  rw[hr];rfl
 unfold yTo zMx zAt zHd zHk zJn zIz k0 dI;generalize xN b=X at hdec ⊢;refine⟨b,rfl,h,λ_ _=>⟨r0,by rw[hr],hr0,λ_ _=>⟨av,λx=>x=decide (r0.byte.1<1\/4<r0.byte.1),zI (λe=>⟨av,rfl,(y8r (.inl e)).symm,k0q⟩) (λe=>⟨_,rfl,decide_eq_decide.2 ⟨.inr,λx=>x.resolve_left e⟩,k0q⟩),?_⟩⟩⟩;rintro _ rfl;refine zI (λe=> ?_) (λe=> ?_)
 ·rw[hdec,y8c e];exact⟨(),rF7 (rF3 trivial)⟩
 rw[y7z e]at hdec;generalize hk:r0.byte.1=k at hdec;refine⟨r0.byte.2,rfl,hk2,λ_ _=>⟨(⟨r0.byte.1,r0.byte.2.long.1,0,0,0,0,0,0,[]⟩,r0.byte.2.long.2),rF6 (rF3 ⟨rfl,λx=>x=x7 r0.byte.1 r0.byte.2.long.1 r0.byte.2.long.2,?_,?_⟩)⟩⟩
 ·generalize r0.byte.2.long.2=r2 at*;generalize r0.byte.2.long.1=id at*;rw[hk];refine Cv.cnd.mk (λe=> ?_) (λe1=>Cv.cnd.mk (λe=> ?_) (λe3=>Cv.cnd.mk (λe=> ?_) (λe4=> ?_)))
  ·have e:k=1:=by simpa using e
   have h1:=vY hk3;have h2:=vY h1;have h3:=vY h2;have h4:=qY h3;have h5:=qY h4;have h6:=qY h5;exact⟨r2,rfl,hk3,λ_ _=>⟨_,rfl,h1,λ_ _=>⟨_,rfl,h2,λ_ _=>⟨_,rfl,h3,λ_ _=>⟨_,rfl,h4,λ_ _=>⟨_,rfl,h5,λ_ _=>⟨_,rfl,h6,λ_ _=>⟨x7 k id r2,by rw[x7,y8c e];rfl,by rw[x7,y8c e],by rw[x7,y8c e],by rw[x7,y8c e];rfl,by rw[x7,y8c e];rfl,by rw[x7,y8c e];rfl,by rw[x7,y8c e];rfl,by rw[x7,y8c e];rfl,by rw[x7,y8c e];rfl,by rw[x7,y8c e];rfl,rfl,k0q⟩⟩⟩⟩⟩⟩⟩⟩
  ·have e1:¬k=1:=by simpa using e1
   have e:k=3:=by simpa using e
   have hd:x7 k id r2=(⟨k,id,0,0,0,r2.long.1,0,0,[]⟩,r2.long.2):=by rw[x7,y7z e1,y8c e]
   exact⟨r2,rfl,hk3,λ_ _=>⟨(⟨k,id,0,0,0,r2.long.1,0,0,[]⟩,r2.long.2),rF6 (rF3 ⟨rfl,hd.symm,k0q⟩)⟩⟩
  ·have e1:¬k=1:=by simpa using e1
   have e3:¬k=3:=by simpa using e3
   have e:k=4:=by simpa using e
   have hd:x7 k id r2=(⟨k,id,0,0,r2.long.1,r2.long.2.long.1,0,0,[]⟩,r2.long.2.long.2):=by rw[x7,y7z e1,y7z e3,y8c e]
   exact⟨r2,rfl,hk3,λ_ _=>⟨_,rfl,qY hk3,λ_ _=>⟨(⟨k,id,0,0,r2.long.1,r2.long.2.long.1,0,0,[]⟩,r2.long.2.long.2),rF6 (rF3 ⟨rfl,hd.symm,k0q⟩)⟩⟩⟩
  ·have e1:¬k=1:=by simpa using e1
   have e3:¬k=3:=by simpa using e3
   have e4:¬k=4:=by simpa using e4
   have hd:x7 k id r2=(⟨k,id,0,0,0,0,0,0,[]⟩,r2):=by rw[x7,y7z e1,y7z e3,y7z e4]
   exact⟨(⟨k,id,0,0,0,0,0,0,[]⟩,r2),rF6 (rF3 ⟨rfl,hd.symm,k0q⟩)⟩
 ·rintro x hx;obtain⟨o1,o2⟩:=yUh (k:=r0.byte.1) (id:=r0.byte.2.long.1) hk3;rw[<- hx]at o1 o2;rw[<- hk,<- hx]at hdec;obtain⟨c,q⟩:=x;refine⟨q,rfl,o1,λ_ _=>Cv.cnd.mk (λe=> ?_) (λe=>⟨c,rF8 ⟨rfl,xAw o2 Z8,λ_ _=>Cv.cnd.mk (λe2=> ?_) (λe2=> ?_)⟩⟩)⟩
  ·have e:q.endOf≠0:=by simpa[RB.endOf]using e
   rw[hdec,y8c e];exact⟨(),rF7 (rF3 trivial)⟩
  ·have e:¬q.endOf≠0:=by simpa[RB.endOf]using e
   have e2:c.right≠0:=by simpa using e2
   rw[hdec,y7z e,y8c e2];exact⟨(),rF7 (rF3 trivial)⟩
  ·have e:¬q.endOf≠0:=by simpa[RB.endOf]using e
   have e2:¬c.right≠0:=by simpa using e2
   rw[hdec,y7z e,y7z e2];exact⟨(),rF7 (rF3 trivial)⟩
def yPw:cdecC.ok Tryz.prog 135:=okw mixed (gokc zWl (gokc zEl (gokc zNc (gokc yJo (gokc z8n (gokc zOp gok0)))))) 0 (λ_=>y4y) (λ_=>[]) [] Tryz.func135 y2o
structure SoI where
 s:MSt
 p:Prd
 B:List (List zH)
 inst:Int
 sd:Bool
@[reducible] def SoI.ok (i:SoI):Prop:=i.s.Rep i.p i.B/\i.B.length<=1000
def atB (B:List (List zH)) (inst:Int):List zH:=if inst<0 then[]else B.getD inst.toNat []
def sladC:Con:=con1 SoI (λi=>[.nm 0 0,zA i.inst,zA (zD i.sd)]) (λi=>[zC i.s]) (λi=>i.ok) (λ_=> .own 1) (λi=>[zC i.s,.own 127 3 ((gK (atB i.B i.inst) (zD i.sd)).map lvE)])
def cC (a:SoI):=(gK (atB a.B a.inst) (zD a.sd))
def zKe (a:SoI):Prop:=∃(b:Unit),dh (sb a.s.p.code)/\dh a.s.p.tick/\dh a.s.p.low/\dh a.s.p.high/\dh a.s.p.wide/\dh a.s.p.rule/\dh a.s.p.top/\dh a.s.p.least/\dh a.s.p.part/\dh (ae 197 Book 6 zQ a.s.books ay)/\dh (yR a.s.wh)/\dh (aa 1 (iE a.s.p.months))/\dh (aa 1 (iE a.s.p.settle))/\am lvE (cC a)=[]/\True
def ySm (i:SoI):Prop:=
 cnd (decide (i.inst>=0)) (cnd (!decide (i.inst<(↑i.s.books.length:Int))) (zKe i) ((0<=i.inst/\i.inst<(↑i.s.books.length:Int))/\i.inst.toNat<i.s.books.length/\∃(a:Book),i.s.books[i.inst.toNat]?=ax a/\∃(b:BkT),zD b.s=zD i.sd/\yB b.b=yB a/\b.b.Rep b.L/\∀(c:Unit),True->∃(d:Book),yB b.b=yB d/\dh i.inst.toNat/\i.inst.toNat<i.s.books.length/\∃(e:Unit),dh (sb i.s.p.code)/\dh i.s.p.tick/\dh i.s.p.low/\dh i.s.p.high/\dh i.s.p.wide/\dh i.s.p.rule/\dh i.s.p.top/\dh i.s.p.least/\dh i.s.p.part/\ae 197 Book 6 zQ i.s.books ay=ae 197 Book 6 zQ (i.s.books.set i.inst.toNat d) ay/\dh (yR i.s.wh)/\dh (aa 1 (iE i.s.p.months))/\dh (aa 1 (iE i.s.p.settle))/\am lvE (cC i)=am lvE (gK b.L (zD b.s))/\True)) (zKe i)
def yQg {B:List (List zH)} {inst:Int} {L:List zH} (h0:0<=inst) (hL:B[inst.toNat]? =ax L):atB B inst=L:=by
 rw[atB,y7z (by omega),zW hL]
def yOx {B:List (List zH)} {inst:Int} (h:inst<0\/(B.length:Int)<=inst):atB B inst=[]:=by
 rw[atB];split
 ·rfl
 ·rw[y8j,y9h (by omega)];rfl
def y1e (i:SoI) (h:sladC.cnd i):ySm i:=by
 obtain⟨hR,hB⟩:i.s.Rep i.p i.B/\i.B.length<=1000:=h;have hbl:=hR.bl;have out (hx:i.inst<0\/(i.B.length:Int)<=i.inst):am lvE (gK (atB i.B i.inst) (zD i.sd))=[]:=by
  rw[yOx hx];rfl
 unfold ySm zKe cC;refine zI (λc=>Cv.cnd.mk (λd=> ?_) (λd=> ?_)) (λc=> ?_)
 ·have d:¬i.inst<(i.s.books.length:Int):=by simpa using d
  rw[out (.inr (by omega))];exact⟨(),k0q⟩
 ·have d:i.inst<(i.s.books.length:Int):=by simpa using d
  obtain⟨b,hb⟩:=yC (l:=i.s.books) (i:=i.inst.toNat) oM;obtain⟨L,hL⟩:=yC (l:=i.B) (i:=i.inst.toNat) oM;refine⟨⟨c,d⟩,oM,b,hb,⟨b,L,i.sd⟩,rfl,rfl,hR.bk _ b L hb hL,λ_ _=>⟨b,rfl,rfl,oM,?_⟩⟩;rw[uY hb,yQg c hL];exact⟨(),k0q⟩
 ·rw[out (.inl (by omega))];exact⟨(),k0q⟩
def z8y:sladC.ok Tryz.prog 79:=okw mixed (gokc yVf gok0) 1 (λ_=>[]) (λ_=>[]) [0] Tryz.func79 y1e
def z2h (s:Int) (F:List zH):Prop:=F.Pairwise λo o'=>btr s o'.price o.price=au
def eG (L:List zH) (s:Int):List zH:=L.filter λo=>decide (o.side=s)
structure BWf (p:Prd) (B:List (List zH)):Prop where
 ok:BOk p B
 od:yQq B
 ub:((whL 0 B).map (·.1)).Nodup
 srt:∀(k:Nat) (L:List zH),B[k]? =ax L->∀s,s=1\/s=2->z2h s (eG L s)
def z2a {s:Int} {b:Book} {Q:List (List Nat)}:∀{R:List xO},(R.Pairwise λr r'=>btr s r.price r'.price=av)->z2h s (R.flatMap (b.rOrds Q s))
 |[],_=>List.Pairwise.nil
 |r::R,h=>by
  rw[xBu]at h;rw[y9s,z2h,List.pairwise_append];refine⟨List.pairwise_of_forall_mem_list λo ho o' ho'=> ?_,z2a h.2,λo ho o' ho'=> ?_⟩
  ·rw[(qL ho).2,(qL ho').2];exact zBj _ _
  ·obtain⟨r',hr',ho'⟩:=xAt.1 ho';rw[(qL ho).2,(qL ho').2];exact zZd (h.1 r' hr')
def Book.Rep.srt {b:Book} {L:List zH} (h:b.Rep L) {s:Int} (hs:s=1\/s=2):z2h s (eG L s):=by
 obtain⟨Q,c,ht,rfl⟩:=h;rw[eG,zSx hs];exact z2a (c.srt s hs)
def MSt.Rep.wf {s:MSt} {p:Prd} {B:List (List zH)} (h:s.Rep p B) (hb:BOk p B):BWf p B:=by
 refine⟨hb,h.ords,h.ids,λk L hL=> ?_⟩;obtain⟨b,hb⟩:=yC (l:=s.books) (i:=k) (by rw[h.bl];exact(y8e.1 hL).1);exactλs hs=>(h.bk k b L hb hL).srt hs
def yIo {L:List zH} (h:∀o∈L,zPj o) (hn:(L.map (·.id)).Nodup) (id q:Int):∀o∈(qC L id q).1,zPj o:=by
 intro o ho;rw[qC]at ho;split at ho
 ·exact h o ho
 split at ho
 ·exact h o ho
 rename_i hb;obtain⟨o',ho',e⟩:=xDi.1 ho;have h0:=h o' ho';split at e
 ·rename_i e1;have hg:=tP hn ho';rw[e1]at hg;rw[hg]at hb;split at e
  ·cases e
  ·rename_i e2;cases e;have:=h0.q;exact⟨h0.s,Z9⟩
 ·cases e;exact h0
def yGv (L:List zH) (id q:Int):(qC L id q).1.length<=L.length:=by
 rw[qC];split
 ·exact y8w _
 split
 ·exact y8w _
 exact List.length_filterMap_le _ _
def yKk {L:List zH} {s:Int} (h:z2h s (eG L s)) (id q:Int):z2h s (eG (qC L id q).1 s):=by
 rw[qC];split
 ·exact h
 split
 ·exact h
 have e:eG (hZ L id q) s=hZ (eG L s) id q:=by
  rw[eG,eG,hZ,hZ,List.filter_filterMap,List.filterMap_filter];refine mM λo _=> ?_
  by_cases e1:o.id=id
  ·rw[y8c e1];by_cases e2:o.qty=q
   ·rw[y8c e2];simp
   ·rw[y7z e2];by_cases e3:o.side=s<;>simp[Option.filter,e3]
  ·rw[y7z e1];by_cases e3:o.side=s<;>simp[Option.filter,e3]
 rw[e,hZ];refine List.Pairwise.filterMap _ (λa a' haa b hb b' hb'=> ?_) h;have g:∀{a b:zH},(if a.id=id then(if a.qty=q then ay else ax {a with qty:=a.qty-q})else ax a)=ax b->b.price=a.price:=by
  intro a b e;split at e
  ·split at e
   ·cases e
   ·cases e;rfl
  ·cases e;rfl
 rw[g hb,g hb'];exact haa
def yQo {B:List (List zH)} (h:((whL 0 B).map (·.1)).Nodup) {k:Nat} {L L':List zH} (hL:B[k]? =ax L) (hs:(L'.map (·.id)).Sublist (L.map (·.id))):((whL 0 (B.set k L')).map (·.1)).Nodup:=by
 have hk:=(y8e.1 hL).1;obtain⟨rest,hr⟩:=zMb (B:=B) 0 k hk;have h0:=hr L;rw[uY hL]at h0;have h1:=(h0.map (·.1)).nodup_iff.1 h
 refine((hr L').map (·.1)).nodup_iff.2 ?_
 rw[y8k,xAp]at h1 ⊢;exact h1.sublist (List.Sublist.append hs (List.Sublist.refl _))
def BWf.take {p:Prd} {B:List (List zH)} (h:BWf p B) (id q:Int):BWf p (kU B id q).1:=by
 refine⟨h.ok.take id q,?_,?_,?_⟩
 all_goals
  rw[kU];cases hi:mC B id with
  |none=>first|exact h.od|exact h.ub|exact h.srt
  |some k=>
   obtain⟨L,hL,hh⟩:=gZ hi;have ho:=h.od k L hL;dsimp only;rw[zW hL]
   first
   |(intro j M hM
     rcases bR hM with⟨rfl,rfl⟩|⟨_,hM⟩
     ·refine⟨yIo ho.1 ho.2.1 id q,?_,xAw (yGv L id q) ho.2.2⟩;rcases zRf ho.2.1 id q with⟨e,_⟩|⟨e,_⟩
      ·rw[e];exact ho.2.1
      ·rw[e];exact ho.2.1.sublist (List.Sublist.map _ xDw)
     ·exact h.od j M hM)
   |(refine yQo h.ub hL ?_
     rcases zRf ho.2.1 id q with⟨e,_⟩|⟨e,_⟩
     ·rw[e];exact List.Sublist.refl _
     ·rw[e];exact List.Sublist.map _ xDw)
   |(intro j M hM s hs
     rcases bR hM with⟨rfl,rfl⟩|⟨_,hM⟩
     ·exact yKk (h.srt _ L hL s hs) id q
     ·exact h.srt j M hM s hs)
def BWf.takes {p:Prd}:∀{fs:List bF} {B:List (List zH)},BWf p B->BWf p (jF B fs)
 |[],B,h=>h
 |f::fs,B,h=>BWf.takes (fs:=fs) (h.take f.id f.qty)
def zUg {p:Prd} {B:List (List zH)} (h:BWf p B) {inst:Int} {sd:Bool} {price q:Int} {t:wA} {B':List (List zH)} (e:mR p B inst sd price q=ax (t,B')):BWf p B'/\B'.length=B.length:=by
 rw[mR]at e;dsimp only at e;split at e
 ·split at e
  ·cases e;exact⟨h.takes.takes,by rw[uM,uM]⟩
  ·cases e;exact⟨h.takes,by rw[uM]⟩
 ·cases e
def pG {p:Prd} {inst:Int} {sd:Bool} {price:Int}:∀(m:Nat) (q:Int) (B:List (List zH)),q.toNat<=m->BWf p B->BWf p (wR p B inst sd price q).B/\(wR p B inst sd price q).B.length=B.length/\(0<=q->0<=(wR p B inst sd price q).left/\(wR p B inst sd price q).left<=q)
 |m,q,B,hm,h=>by
  by_cases hq:q<=0
  ·rw[eE (.inl hq)];exact⟨h,rfl,λx=>⟨x,xBo _⟩⟩
  cases hs:mR p B inst sd price q with
  |none=>
   rw[eE (.inr hs)];exact⟨h,rfl,λx=>⟨x,xBo _⟩⟩
  |some x=>
   obtain⟨t,C⟩:=x;obtain⟨k1,k2⟩:=zUg h hs;have hq2:=zPu oM hs;cases m with
   |zero=>omega
   |succ m=>
   obtain⟨i1,i2,i3⟩:=pG (p:=p) (inst:=inst) (sd:=sd) (price:=price) m (q-t.qty) C oM k1;rw[zOz (by omega) hs];exact⟨i1,i2.trans k2,λ_=>⟨(i3 oM).1,by dsimp only;have:=(i3 oM).2;omega⟩⟩
@[reducible] def RunI.ok (i:RunI):Prop:=i.s.Rep i.p i.B/\BOk i.p i.B/\(0<=i.inst/\i.inst<i.B.length)/\1<=i.q/\i.q<=1000000
def scouldC:Con:=con1 RunI (λi=>[.nm 0 0,zA i.inst,zA (zD i.sd),zA i.price,zA i.q]) (λi=>[zC i.s]) (λi=>i.ok) (λi=>zA (i.q-i.r.left)) (λi=>[zC i.s])
def aZ (p:Prd) (B:List (List zH)) (inst:Int) (sd:Bool) (price q:Int):Bool:=
 decide ((wR p B inst sd price q).left≠0) && (kX ⟨p,(wR p B inst sd price q).B.map qH,inst⟩ (zD (!sd))).any λx=>bM sd price x.price
def stuckC:Con:=con1 RunI (λi=>[.nm 0 0,zA i.inst,zA (zD i.sd),zA i.price,zA i.q]) (λi=>[zC i.s]) (λi=>i.ok) (λi=>yK (aZ i.p i.B i.inst i.sd i.price i.q)) (λi=>[zC i.s])
def zWb (B:List (List zH)):Nat:=(whL 0 B).length
def countC16:Con:=con1 SoI (λi=>[.nm 0 0]) (λi=>[zC i.s]) (λi=>i.ok) (λi=>zA (zWb i.B)) (λi=>[zC i.s])
def f7 (p:Prd) (inst price:Int):Int×Int×Int:=
 if(p.legs inst).2.2=au then(0,0,20)else if p.price inst price≠0 then(0,0,p.price inst price)else
 let far:=p.settle.getD (p.legs inst).2.1.toNat 0
 let a:=if p.high<far+price then(p.high,p.high-price)else(far+price,far)
 if a.1<p.low then(p.low,p.low-price,0)else(a.1,a.2,0)
structure LpI where
 p:Prd
 inst:Int
 price:Int
def lpricesC:Con:=con1 LpI (λi=>[prdV i.p,zA i.inst,zA i.price]) (λ_=>[]) (λi=>i.p.check=0/\i.p.small/\i64r i.price) (λi=> .tup [zA (f7 i.p i.inst i.price).1,zA (f7 i.p i.inst i.price).2.1,zA (f7 i.p i.inst i.price).2.2]) (λ_=>[])
def ijj (t u:Nat):SAnn:={ι:=Int×Int,slots:=λn=>[(t,zA n.1),(u,zA n.2)],rows:=λ_=>[]}
def lpJ:List (Nat×SAnn):=[(50,ijj 15 14),(58,ijj 15 14)]
def yYt:List SAnn:=[{ι:=Nat,slots:=λj=>[(40,zA j)],rows:=λ_=>[]}]
def yXv:List (Nat×SAnn):=[(8,{ι:=Unit,slots:=λ_=>[],rows:=λ_=>[],opn:=[11]})]
def l8 (a:Book):Prop:=(a.a.slots.length<=1000000/\a.a.queues.length<=1000000)/\a.buys.length<=1000000/\a.sells.length<=1000000/\a.spare.length<=1000000
def fN (a:MSt):Prop:=a.books.length<=1000000/\∀(b:Book),b∈a.books->l8 b
def qX (a:RunI):Prop:=a.s.Rep a.p a.B/\BOk a.p a.B/\(0<=a.inst/\a.inst<(↑a.B.length:Int))/\1<=a.q/\a.q<=1000000
def zEh (a:RunI):Prop:=∃(b:MSt),sb b.p.code=sb a.s.p.code/\b.p.tick=a.s.p.tick/\b.p.low=a.s.p.low/\b.p.high=a.s.p.high/\b.p.wide=a.s.p.wide/\b.p.rule=a.s.p.rule/\b.p.top=a.s.p.top/\b.p.least=a.s.p.least/\b.p.part=a.s.p.part/\ae 197 Book 6 zQ b.books ay=ae 197 Book 6 zQ a.s.books ay/\yR b.wh=yR a.s.wh/\aa 1 (iE b.p.months)=aa 1 (iE a.s.p.months)/\aa 1 (iE b.p.settle)=aa 1 (iE a.s.p.settle)/\(fN b)/\∀(c:Unit),True->∃(d:RunI),d.inst=a.inst/\zD d.sd=zD a.sd/\d.price=a.price/\d.q=a.q/\zC d.s=zC b/\(qX d)/\∀(e:MSt),e.Rep d.p d.r.B->∃(f:Unit),a.q-a.r.left=aj.wrap (a.q-d.r.left)/\zC a.s=zC b/\True
def wT (a:RunI):Prop:=∃(b:Unit),a.q-a.r.left=0/\dh (sb a.s.p.code)/\dh a.s.p.tick/\dh a.s.p.low/\dh a.s.p.high/\dh a.s.p.wide/\dh a.s.p.rule/\dh a.s.p.top/\dh a.s.p.least/\dh a.s.p.part/\dh (ae 197 Book 6 zQ a.s.books ay)/\dh (yR a.s.wh)/\dh (aa 1 (iE a.s.p.months))/\dh (aa 1 (iE a.s.p.settle))/\True
def z8k (i:RunI):Prop:=
 cnd (decide (i.inst>=0)) (cnd (decide (i.inst<(↑i.s.books.length:Int))) (cnd (zD i.sd==1) (cnd (decide (i.q>=1)) (cnd (!decide (i.q<=1000000)) (wT i) (zEh i)) (wT i)) (cnd (zD i.sd==2) (cnd (decide (i.q>=1)) (cnd (!decide (i.q<=1000000)) (wT i) (zEh i)) (wT i)) (wT i))) (wT i)) (wT i)
def z0l (i:SoI):Prop:=
 ∃(a:Unit),(↑(zWb i.B):Int)=(↑(yR i.s.wh).length:Int)/\dh (sb i.s.p.code)/\dh i.s.p.tick/\dh i.s.p.low/\dh i.s.p.high/\dh i.s.p.wide/\dh i.s.p.rule/\dh i.s.p.top/\dh i.s.p.least/\dh i.s.p.part/\dh (ae 197 Book 6 zQ i.s.books ay)/\dh (yR i.s.wh)/\dh (aa 1 (iE i.s.p.months))/\dh (aa 1 (iE i.s.p.settle))/\True
def bH (a:Int×Int->Prop) (b:Int×Int) (c:LpI):Prop:=a b/\dh (ac [V.d (D.v (be (sb c.p.code))),V.own 0,V.d (dI c.p.tick),V.d (dI c.p.low),V.d (dI c.p.high),V.d (dI c.p.wide),V.d (dI c.p.rule),V.d (dI c.p.top),V.d (dI c.p.least),V.d (dI c.p.part),V.own 1] 25)/\dh (aa 1 (iE c.p.settle))/\dh (aa 1 (iE c.p.months))
def y5 (a:LpI):=(f7 a.p a.inst a.price)
def zZs (i:LpI):Prop:=
 ∃(a:Prd),sb a.code=sb i.p.code/\iE a.months=iE i.p.months/\a.tick=i.p.tick/\a.low=i.p.low/\a.high=i.p.high/\a.wide=i.p.wide/\a.rule=i.p.rule/\a.top=i.p.top/\a.least=i.p.least/\a.part=i.p.part/\iE a.settle=iE i.p.settle/\(zX a)/\∀(b:Unit),True->cnd (a.check !=0) (∃(c:Unit),(y5 i).fst=0/\(y5 i).snd.fst=0/\(y5 i).snd.snd=1/\True) (∃(c:c8),sb c.p.code=sb i.p.code/\iE c.p.months=iE i.p.months/\c.p.tick=i.p.tick/\c.p.low=i.p.low/\c.p.high=i.p.high/\c.p.wide=i.p.wide/\c.p.rule=i.p.rule/\c.p.top=i.p.top/\c.p.least=i.p.least/\c.p.part=i.p.part/\iE c.p.settle=iE i.p.settle/\c.n=i.inst/\(jL c)/\∀(d:Unit),True->cnd (!(c.p.legs c.n).snd.snd) (∃(e:Unit),(y5 i).fst=0/\(y5 i).snd.fst=0/\(y5 i).snd.snd=20/\True) (∃(e:tX),sb e.p.code=sb i.p.code/\iE e.p.months=iE i.p.months/\e.p.tick=i.p.tick/\e.p.low=i.p.low/\e.p.high=i.p.high/\e.p.wide=i.p.wide/\e.p.rule=i.p.rule/\e.p.top=i.p.top/\e.p.least=i.p.least/\e.p.part=i.p.part/\iE e.p.settle=iE i.p.settle/\e.a=i.inst/\e.b=i.price/\(qE e)/\∀(f:Unit),True->cnd (e.p.price e.a e.b !=0) (∃(g:Unit),(y5 i).fst=0/\(y5 i).snd.fst=0/\(y5 i).snd.snd=e.p.price e.a e.b/\True) ((0<=(c.p.legs c.n).snd.fst/\(c.p.legs c.n).snd.fst<(↑(iE i.p.settle).length:Int))/\∃(g:Int),zE (iE i.p.settle) (c.p.legs c.n).snd.fst.toNat 0 1=ax [dI g]/\∃(h:Int×Int),∃(j:Int×Int->Prop),cnd (decide (aj.wrap (g+i.price)>i.p.high)) (∃(k:Int×Int),k.fst=i.p.high/\k.snd=aj.wrap (i.p.high-i.price)/\bH j k i) (∃(k:Int×Int),k.fst=aj.wrap (g+i.price)/\k.snd=g/\bH j k i)/\∀(k:Int×Int),j k->∃(l:Int×Int),∃(m:Int×Int->Prop),cnd (decide (k.fst<i.p.low)) (∃(n:Int×Int),n.fst=i.p.low/\n.snd=aj.wrap (i.p.low-i.price)/\bH m n i) (∃(n:Int×Int),n.fst=k.fst/\n.snd=k.snd/\bH m n i)/\∀(n:Int×Int),m n->∃(p:Unit),(y5 i).fst=n.fst/\(y5 i).snd.fst=n.snd/\(y5 i).snd.snd=0/\True)))
def zDy (a:MSt) (b:MSt):Prop:=sb a.p.code=sb b.p.code/\True/\a.p.tick=b.p.tick/\a.p.low=b.p.low/\a.p.high=b.p.high/\a.p.wide=b.p.wide/\a.p.rule=b.p.rule/\a.p.top=b.p.top/\a.p.least=b.p.least/\a.p.part=b.p.part/\True/\True
def yIt (i:RunI):Prop:=
 ∃(a:MSt),zC a=zC i.s/\(fN a)/\∀(b:Unit),True->∃(c:RunI),c.inst=i.inst/\zD c.sd=zD i.sd/\c.price=i.price/\c.q=i.q/\zC c.s=zC a/\(qX c)/\∀(d:MSt),d.Rep c.p c.r.B->cnd (c.r.left==0) (∃(e:Unit),aZ i.p i.B i.inst i.sd i.price i.q=au/\zC i.s=zC a/\True) (∃(e:MSt),sb e.p.code=sb d.p.code/\e.p.tick=d.p.tick/\e.p.low=d.p.low/\e.p.high=d.p.high/\e.p.wide=d.p.wide/\e.p.rule=d.p.rule/\e.p.top=d.p.top/\e.p.least=d.p.least/\e.p.part=d.p.part/\ae 197 Book 6 zQ e.books ay=ae 197 Book 6 zQ d.books ay/\yR e.wh=yR d.wh/\aa 1 (iE e.p.months)=aa 1 (iE d.p.months)/\aa 1 (iE e.p.settle)=aa 1 (iE d.p.settle)/\(u7 e)/\∀(f:Unit),True->(zDy e d)/\∃(g:Bool),zD g=zD i.sd/\True/\∀(h:Unit),True->(zDy e d)/\∃(j:eZ),sb j.i.p.code=sb d.p.code/\iE j.i.p.months=iE e.p.months/\j.i.p.tick=d.p.tick/\j.i.p.low=d.p.low/\j.i.p.high=d.p.high/\j.i.p.wide=d.p.wide/\j.i.p.rule=d.p.rule/\j.i.p.top=d.p.top/\j.i.p.least=d.p.least/\j.i.p.part=d.p.part/\iE j.i.p.settle=iE e.p.settle/\am z7 j.i.tops=am z7 e.tops/\j.i.inst=i.inst/\zD j.s=zD !g/\(qV j)/\∀(k:Unit),True->∃(l:Nat),(↑l:Int)=0/\∃(m:Nat->Prop),∃(n:Nat->Nat),m l/\∀(p:Nat),m p->cnd (decide ((↑p:Int)<(fB j))) ((0<=(↑p:Int)/\(↑p:Int)<(fB j))/\∃(q:Int),∃(r:Int),∃(s:Int),∃(t:Int),∃(u:Int),∃(v:Int),zE (jV j) (↑p:Int).toNat 0 6=ax [dI q,dI r,dI s,dI t,dI u,dI v]/\∃(w:GoI),zD w.s=zD i.sd/\w.p=i.price/\w.x=q/\True/\∀(x:Unit),True->cnd (bM w.s w.p w.x) (∃(y:Unit),aZ i.p i.B i.inst i.sd i.price i.q=av/\zC i.s=zC a/\True) (∃(y:Nat),(↑y:Int)=aj.wrap ((↑p:Int)+1)/\m y/\n y<n p/\dh (af 172 6 (jV j))/\dh (ac [V.d (fK e),V.own 5,V.d (dI e.p.tick),V.d (dI e.p.low),V.d (dI e.p.high),V.d (dI e.p.wide),V.d (dI e.p.rule),V.d (dI e.p.top),V.d (dI e.p.least),V.d (dI e.p.part),V.own 6,V.own 3,V.mp 4] (195:bo))/\dh (ae 197 Book 6 zQ e.books ay)/\dh (ag (yR e.wh))/\dh (aa 1 (iE e.p.months))/\dh (aa 1 (iE e.p.settle))/\dh (aa 6 (am z7 e.tops))/\dh (aa 1 (iE d.p.months))/\dh (aa 1 (iE d.p.settle))/\dh (af 290 4 (am wP c.r.steps))/\zC a=zC a)) (∃(q:Unit),aZ i.p i.B i.inst i.sd i.price i.q=au/\zC i.s=zC a/\True))
def MSt.Rep.small {s:MSt} {p:Prd} {B:List (List zH)} (h:s.Rep p B) (hb:BOk p B):s.small:=by
 have:=xJ p;refine⟨by rw[h.bl,hb.bl];omega,λb hm=> ?_⟩;obtain⟨k,hk⟩:=xAr.1 hm;have hlt:=(y8e.1 hk).1;rw[h.bl]at hlt;obtain⟨L,hL⟩:=yC hlt;obtain⟨Q,c,_⟩:=h.bk k b L hk hL;exact c.small
def yNm (i:RunI) (h:scouldC.cnd i):z8k i:=by
 have h':i.ok:=h;obtain⟨hR,hB,⟨h0,h1⟩,hq1,hq2⟩:=h';have hbl:=hR.bl;have hl:=(pG (inst:=i.inst) (sd:=i.sd) (price:=i.price) _ i.q i.B (y8w _) (hR.wf hB)).2.2 oM;have er:i.r=wR i.p i.B i.inst i.sd i.price i.q:=rfl;unfold z8k zEh qX fN l8 wT;refine(λhT=>zI (λc=>zI (λc2=>Cv.cnd.mk (λ_=>zI (λ_=>Cv.cnd.mk (λe=>absurd hq2 (by simpa using e)) (λ_=>hT)) (λe=>absurd hq1 e)) (λe1=>Cv.cnd.mk (λ_=>zI (λ_=>Cv.cnd.mk (λe=>absurd hq2 (by simpa using e)) (λ_=>hT)) (λe=>absurd hq1 e)) (λe2=>by
  rcases zGd i.sd with e|e
  ·rw[e]at e1;cases e1
  ·rw[e]at e2;cases e2))) (λc2=>absurd oM c2)) (λc=>absurd h0 c)) ?_
 refine⟨i.s,rF8 (rF4 ⟨rfl,hR.small hB,λ_ _=>⟨i,rF4 ⟨rfl,h,λo ho=>⟨(),?_,rfl,trivial⟩⟩⟩⟩)⟩;rw[w64 (by rw[er];omega)]
def yCp:scouldC.ok Tryz.prog 166:=okw mixed (gokc eN (gokc z5c gok0)) 2 (λ_=>[]) (λ_=>[]) [0] Tryz.func166 yNm
def yKd (i:SoI) (h:countC16.cnd i):z0l i:=by
 obtain⟨hR,hB⟩:i.s.Rep i.p i.B/\i.B.length<=1000:=h;unfold z0l;have e:(yR i.s.wh).length=zWb i.B:=by rw[yR,y8b,hR.wh.length_eq,zWb]
 exact⟨(),by rw[e],k0q⟩
def z6m:countC16.ok Tryz.prog 165:=okw mixed gok0 0 (λ_=>[]) (λ_=>[]) [0] Tryz.func165 yKd
def zQv {p:Prd} {i n:Int} (h:p.price i n=0):0<=i/\i<p.count:=by
 rw[Prd.price]at h;split at h
 ·cases h
 split at h
 ·cases h
 omega
def yMo (i:LpI) (h:lpricesC.cnd i):zZs i:=by
 obtain⟨hc,hp,hpr⟩:i.p.check=0/\i.p.small/\i64r i.price:=h;unfold zZs bH y5 zX jL qE dI;refine⟨i.p,rF7 (rF3 ⟨rfl,hp,λ_ _=>Cv.cnd.mk (λe=>by rw[hc]at e;cases e) (λ_=> ?_)⟩)⟩;refine⟨⟨i.p,i.inst⟩,rF8 (rF3 ⟨rfl,hp,λ_ _=>Cv.cnd.mk (λe=> ?_) (λe=> ?_)⟩)⟩
 ·have e:(i.p.legs i.inst).2.2=au:=by simpa using e
  have h0:f7 i.p i.inst i.price=(0,0,20):=by rw[f7,y8c e]
  rw[h0];exact⟨(),rF3 trivial⟩
 have e:(i.p.legs i.inst).2.2=av:=by simpa using e
 refine⟨⟨i.p,i.inst,i.price⟩,rF8 (rF4 ⟨rfl,hp,λ_ _=>Cv.cnd.mk (λe2=> ?_) (λe2=> ?_)⟩)⟩
 ·have e2:¬i.p.price i.inst i.price=0:=by simpa using e2
  have h0:f7 i.p i.inst i.price=(0,0,i.p.price i.inst i.price):=by rw[f7,y7z (by rw[e];decide),y8c e2]
  rw[h0];exact⟨(),rF3 trivial⟩
 have e2:i.p.price i.inst i.price=0:=by simpa using e2
 have hin:=zQv e2;have hbd:=lY hc e2;have ok:=kK hc;have b1:=ok.b1;have b2:=ok.b2;have b3:=ok.b3;have s1:=ok.s1;have s2:=ok.s2;have s3:=ok.s3;obtain⟨k,hk⟩:∃k:Nat,i.inst=k:=⟨i.inst.toNat,oM⟩
 have hl:=fT hc (k:=k) oM;rw[<- hk]at hl;rcases hl with⟨_,_,_,l3,l4⟩|⟨x,_⟩
 rotate_left
 ·rw[e]at x;cases x
 have hsl:(iE i.p.settle).length=i.p.settle.length:=yZ _;obtain⟨n,hn⟩:=yC (l:=i.p.settle) (i:=(i.p.legs i.inst).2.1.toNat) oM;have hm:=y8m hn;have m1:=z9y hm;have m2:=z9w hm;have hg:i.p.settle.getD (i.p.legs i.inst).2.1.toNat 0=n:=zW hn;have h0:f7 i.p i.inst i.price=(if(if i.p.high<n+i.price then(i.p.high,i.p.high-i.price)else(n+i.price,n)).1<i.p.low then(i.p.low,i.p.low-i.price,0)else((if i.p.high<n+i.price then(i.p.high,i.p.high-i.price)else(n+i.price,n)).1,(if i.p.high<n+i.price then(i.p.high,i.p.high-i.price)else(n+i.price,n)).2,0)):=by
  rw[f7,y7z (by rw[e];decide),y7z (by rw[e2];decide)];dsimp only;rw[hg]
 dsimp only;refine⟨⟨l3,oM⟩,n,elI hn,(0,0),λa=>a=if i.p.high<n+i.price then(i.p.high,i.p.high-i.price)else(n+i.price,n),zI (λc=>⟨(i.p.high,i.p.high-i.price),rfl,(w64 oM).symm,?_,k0q⟩) (λc=>⟨(n+i.price,n),(w64 oM).symm,rfl,?_,k0q⟩),?_⟩
 ·rw[w64 (by omega)]at c;rw[y8c c]
 ·rw[w64 (by omega)]at c;rw[y7z c]
 rintro _ rfl;generalize (if i.p.high<n+i.price then(i.p.high,i.p.high-i.price)else(n+i.price,n))=a at h0 ⊢;refine⟨(0,0),λb=>b=if a.1<i.p.low then(i.p.low,i.p.low-i.price)else a,zI (λc=>⟨(i.p.low,i.p.low-i.price),rfl,(w64 oM).symm,by rw[y8c c],k0q⟩) (λc=>⟨a,rfl,rfl,by rw[y7z c],k0q⟩),?_⟩;rintro _ rfl;rw[h0];by_cases c:a.1<i.p.low
 ·rw[y8c c,y8c c];exact⟨(),rF3 trivial⟩
 ·rw[y7z c,y7z c];exact⟨(),rF3 trivial⟩
def z5g:lpricesC.ok Tryz.prog 201:=okw mixed (gokc pN (gokc zAm (gokc lC gok0))) 0 (λ_=>lpJ) (λ_=>[]) [] Tryz.func201 yMo
def yRf {l:List Quote} {k:Nat} {q:Quote} (h:l[k]? =ax q):zE (l.map zJ) k 0 6=ax [D.v (.int .i64 q.price),D.v (.int .i64 q.qty),D.v (.int .i64 q.a.inst),D.v (.int .i64 q.a.side),D.v (.int .i64 q.b.inst),D.v (.int .i64 q.b.side)]:=elA h (by simp[zJ]) rfl
def yZz (i:RunI) (h:stuckC.cnd i):yIt i:=by
 have h':i.ok:=h;obtain⟨hR,hB,⟨h0,h1⟩,hq1,hq2⟩:=h';have hwf:=hR.wf hB;obtain⟨k1,k2,k3⟩:=pG (inst:=i.inst) (sd:=i.sd) (price:=i.price) _ i.q i.B (y8w _) hwf;have hcl:=xJ i.p;unfold yIt fK zDy qX fN l8 fB jV qV u6 u7 dI;refine⟨i.s,rfl,hR.small hB,λ_ _=>⟨i,rF4 ⟨rfl,h,λo ho=> ?_⟩⟩⟩;have er:i.r=wR i.p i.B i.inst i.sd i.price i.q:=rfl;have es:aZ i.p i.B i.inst i.sd i.price i.q=(decide ((wR i.p i.B i.inst i.sd i.price i.q).left≠0) && (kX ⟨i.p,(wR i.p i.B i.inst i.sd i.price i.q).B.map qH,i.inst⟩ (zD (!i.sd))).any λx=>bM i.sd i.price x.price):=rfl;rw[er]at ho ⊢;rw[es];generalize wR i.p i.B i.inst i.sd i.price i.q=R at*;obtain⟨ts,lf,RB⟩:=R;dsimp only at*;refine Cv.cnd.mk (λe=>⟨(),?_,rfl,trivial⟩) (λe=> ?_)
 ·have e:lf=0:=by simpa using e
  rw[e];rfl
 have e:lf≠0:=by simpa using e
 rw[y8r e,xAy];have ep:=ho.ep;have hB':=k1.ok;have hbl:=hB'.bl;have hcnt:o.cntOk:=ho.cnt oM;have hps:o.p.small:=by rw[ep];exact hB'.ps
 have hto:vG (RB.map qH):=hB'.tops;have hle:=zEy ⟨o.p,RB.map qH,i.inst⟩ (zD (!i.sd));refine⟨o,rF8 (rF4 ⟨rfl,hcnt,λ_ _=>⟨⟨rfl,trivial,rF7 ⟨rfl,trivial,trivial⟩⟩,i.sd,rfl,trivial,λ_ _=>⟨⟨rfl,trivial,rF7 ⟨rfl,trivial,trivial⟩⟩,⟨⟨o.p,RB.map qH,i.inst⟩,!i.sd⟩,rF7 (rF3 ⟨rfl,by rw[ho.tops],rfl,rfl,⟨hps,hto⟩,λ_ _=> ?_⟩)⟩⟩⟩)⟩;dsimp only;rw[<- ep];generalize kX ⟨o.p,RB.map qH,i.inst⟩ (zD (!i.sd))=Q at*;have e4:(Q.map zJ).length=Q.length:=y8b ..;refine⟨0,rfl,λj=>j<=Q.length/\(Q.take j).any (λx=>bM i.sd i.price x.price)=au,λj=>Q.length-j,⟨y9c _,rfl⟩,?_⟩;rintro j ⟨j1,j2⟩;refine zI (λc=> ?_) (λc=>⟨(),?_,rfl,trivial⟩)
 ·obtain⟨q,hq⟩:=yC (l:=Q) (i:=j) oM;refine⟨⟨oM,oM⟩,_,_,_,_,_,_,yRf hq,⟨i.sd,i.price,q.price⟩,rfl,rfl,rfl,trivial,λ_ _=>Cv.cnd.mk (λg=>⟨(),?_,rfl,trivial⟩) (λg=>⟨j+1,wjn oM,⟨oM,?_⟩,Z9,k0q⟩)⟩
  ·rw[List.any_eq_true];exact⟨q,y8m hq,g⟩
  ·rw[y9g,hq,List.any_append,j2];show(au||([q].any λx=>bM i.sd i.price x.price))=au;simp only[List.any_cons,List.any_nil,Bool.or_false,xDy];exact g
 ·have:j=Q.length:=by omega
  rw[this,y8l (y8w _)]at j2;exact j2
def zYr:stuckC.ok Tryz.prog 167:=okw mixed (gokc eN (gokc z5c (gokc z1o (gokc yHm (gokc zTa (gokc zYk gok0)))))) 0 (λ_=>yXv) (λ_=>yYt) [] Tryz.func167 yZz
def nI (c:Cmd) (why:Int):List Rep:=[⟨2,c.id,0,0,0,0,0,why⟩]
def ofF (x:wA) (k:Int):Int:=match x.fills.find? λf=>decide (f.inst=k)with
 |some f=>f.price
 |none=>x.price
def vC (p:Prd) (inst:Int) (x:wA):Int×Int:=if x.implied=au then((f7 p inst x.price).1,(f7 p inst x.price).2.1)else(ofF x (p.legs inst).1,ofF x (p.legs inst).2.1)
def zGw (p:Prd) (r:Rep) (near far:Int):List Rep:=[{r with inst:=(p.legs r.inst).1,price:=near},{r with inst:=(p.legs r.inst).2.1,side:=3-r.side,price:=far}]
def mX (p:Prd) (x:wA) (r:Rep):List Rep:=r::if(p.legs r.inst).2.2=av then zGw p r (vC p r.inst x).1 (vC p r.inst x).2 else[]
def zEq (f:bF):Rep:=⟨3,f.id,f.inst,f.side,f.price,f.qty,f.left,0⟩
def nG (p:Prd) (c:Cmd) (x:wA) (left:Int):List Rep:=x.fills.flatMap (λf=>mX p x (zEq f))++mX p x ⟨3,c.id,c.inst,c.side,x.price,x.qty,left,0⟩
def mK (p:Prd) (c:Cmd):List wA->Int->List Rep
 |[],_=>[]
 |x::l,left=>nG p c x (left-x.qty)++mK p c l (left-x.qty)
structure MkX where
 B:List (List zH)
 U:List Int
 R:List Rep
def zRp (U:List Int) (id:Int):List Int:=if id∈U then U else U++[id]
def bK (p:Prd) (B:List (List zH)) (U:List Int) (c:Cmd):MkX:=match wR p B c.inst (decide (c.side=2)) c.price c.qty with
 |⟨ts,left,B'⟩=>⟨if left≠0/\c.time=1 then(z3z p B' c.inst c.id c.side c.price left).1 else B',zRp U c.id,
  (⟨1,c.id,c.inst,c.side,c.price,c.qty,c.qty,0⟩::mK p c ts c.qty)++if left≠0/\c.time≠1 then[⟨4,c.id,c.inst,c.side,c.price,left,0,0⟩]else[]⟩
def Cmd.lst (c:Cmd):Int:=if c.time=3 then c.qty else c.least
def nJ (p:Prd) (B:List (List zH)) (U:List Int) (c:Cmd):MkX:=
 if p.price c.inst c.price≠0 then⟨B,U,nI c (p.price c.inst c.price)⟩
 else if c.id∈U then⟨B,U,nI c 25⟩
 else if 250<=zWb B then⟨B,U,nI c 13⟩
 else if 0<c.lst/\c.qty-(wR p B c.inst (decide (c.side=2)) c.price c.qty).left<c.lst then⟨B,U,nI c 28⟩
 else if c.time=1/\aZ p B c.inst (decide (c.side=2)) c.price c.qty=av then⟨B,U,nI c 23⟩
 else bK p B U c
def uR (B:List (List zH)) (U:List Int) (id inst:Int) (o:zH):MkX:=⟨(kU B id o.qty).1,U,[⟨4,id,inst,o.side,o.price,o.qty,0,0⟩]⟩
def bN (B:List (List zH)) (U:List Int) (id q inst:Int) (o:zH):MkX:=⟨(kU B id q).1,U,[⟨5,id,inst,o.side,o.price,q,o.qty-q,0⟩]⟩
def dD (p:Prd) (B:List (List zH)) (U:List Int) (c:Cmd) (inst:Int) (o:zH):MkX:=
 if p.price inst c.price≠0 then⟨B,U,nI c (p.price inst c.price)⟩
 else if c.price=o.price/\c.qty<=o.qty then bN B U c.id (o.qty-c.qty) inst o
 else if aZ p (kU B c.id o.qty).1 inst (decide (o.side=2)) c.price c.qty=av then⟨B,U,nI c 23⟩
 else
  let x:=uR B U c.id inst o
  let y:=bK p x.B U ⟨1,c.id,inst,o.side,c.price,c.qty,0,1,[]⟩
  ⟨y.B,y.U,x.R++y.R⟩
def doF (p:Prd) (B:List (List zH)) (U:List Int) (c:Cmd):MkX:=
 if c.right≠0 then⟨B,U,nI c c.right⟩
 else if c.kind=1 then nJ p B U c
 else if(zR B c.id).2.2=au then⟨B,U,nI c 26⟩
 else if c.kind=4 then dD p B U c (zR B c.id).1 (zR B c.id).2.1
 else if c.kind=2\/(zR B c.id).2.1.qty<=c.qty then uR B U c.id (zR B c.id).1 (zR B c.id).2.1
 else bN B U c.id c.qty (zR B c.id).1 (zR B c.id).2.1
structure Mkt.Rep (m:Mkt) (p:Prd) (B:List (List zH)) (U:List Int):Prop where
 ep:m.p=p
 s:m.s.Rep p B
 u:m.used=U
@[reducible] def zBv (m:Mkt):List AObj:=[yL m 0,yL m 1,yL m 2,yL m 3,yL m 4]
@[reducible] def ySh (x:wA):V:= .agg [zA x.price,zA x.qty,yK x.implied,roV 6 (x.fills.map yW)]
@[reducible] def tRp:Nat:=65
@[reducible] def z3m (l:List Rep):AObj:= .own tRp 8 (l.map xU)
structure RjI where
 c:Cmd
 why:Int
def rejC:Con:=con1 RjI (λi=>[zGp i.c,zA i.why]) (λ_=>[]) (λ_=>True) (λ_=> .own 0) (λi=>[z3m (nI i.c i.why)])
structure MsI where
 m:Mkt
 r:Rep
 near:Int
 far:Int
@[reducible] def Mkt.fine (m:Mkt):Prop:=m.p.check=0/\m.p.small
def mspreadC:Con:=con1 MsI (λi=>[.nm 0 0,y6c i.r,zA i.near,zA i.far]) (λi=>zBv i.m) (λi=>i.m.fine/\(i.r.side=1\/i.r.side=2)) (λ_=> .own 5) (λi=>zBv i.m++[z3m (zGw i.m.p i.r i.near i.far)])
structure MiN where
 m:Mkt
 inst:Int
def misC:Con:=con1 MiN (λi=>[.nm 0 0,zA i.inst]) (λi=>zBv i.m) (λi=>i.m.fine) (λi=>yK (i.m.p.legs i.inst).2.2) (λi=>zBv i.m)
structure OfI where
 x:wA
 k:Int
@[reducible] def zYc (x:wA) (n:Nat):List AObj:=[.cells [zA x.price,zA x.qty,yK x.implied,.own n] 290,.fro 6 (x.fills.map yW)]
def ofC:Con:=con1 OfI (λi=>[zA i.k,.nm 0 0]) (λi=>zYc i.x 1) (λi=>i.x.fills.length<=1000000) (λi=>zA (ofF i.x i.k)) (λi=>zYc i.x 1)
def ofA:List SAnn:=[{ι:=Nat,slots:=λj=>[(9,zA j)],rows:=λ_=>[]}]
structure MpI where
 m:Mkt
 inst:Int
 x:wA
def mpricesC:Con:=con1 MpI (λi=>[.nm 0 0,zA i.inst,ySh i.x]) (λi=>zBv i.m) (λi=>i.m.fine/\i64r i.x.price/\i.x.fills.length<=1000000) (λi=> .tup [zA (vC i.m.p i.inst i.x).1,zA (vC i.m.p i.inst i.x).2]) (λi=>zBv i.m)
structure StI' where
 m:Mkt
 c:Cmd
 x:wA
 left:Int
def StI'.out (i:StI') (j:Nat):List Rep:=(i.x.fills.take j).flatMap λf=>mX i.m.p i.x (zEq f)
def mstepC:Con:=con1 StI' (λi=>[.nm 0 0,zGp i.c,ySh i.x,zA i.left]) (λi=>zBv i.m) (λi=>i.m.fine/\i64r i.x.price/\i.x.fills.length<=1000000/\(i.c.side=1\/i.c.side=2)/\∀f∈i.x.fills,f.side=1\/f.side=2) (λ_=> .own 5) (λi=>zBv i.m++[z3m (nG i.m.p i.c i.x i.left)])
def yWs (i:StI'):List SAnn:=[{ι:=Nat,slots:=λj=>[(9,.nm 0 0),(17,zA j)],rows:=λj=>[.cells [.own 1] 89,z3m (i.out j)]}]
def y6f (i:RjI):Prop:=
 ∃(o:Unit),[xU (Rep.mk 2 i.c.id 0 0 0 0 0 i.why)]=[[D.v (.int .i64 2),D.v (.int .i64 i.c.id),D.v (.int .i64 0),D.v (.int .i64 0),D.v (.int .i64 0),D.v (.int .i64 0),D.v (.int .i64 0),D.v (.int .i64 i.why)]]/\True
def uV (a:MsI):Prop:=a.r.kind=a.r.kind/\dh a.r.id/\dh a.r.inst/\dh a.r.side/\dh a.r.price/\dh a.r.qty/\dh a.r.left/\dh a.r.why/\True
def fX (a:MsI):=(Rep.mk a.r.kind a.r.id (a.m.p.legs a.r.inst).snd.fst (3-a.r.side) a.far a.r.qty a.r.left a.r.why)
def fZ (a:MsI):=(Rep.mk a.r.kind a.r.id (a.m.p.legs a.r.inst).fst a.r.side a.near a.r.qty a.r.left a.r.why)
def lT (a:MsI) (b:c8):Prop:=(uV a)/\(uV a)/\(uV a)/\(uV a)/\(uV a)/\dh a.r.side/\∃(c:Unit),dh (sb a.m.p.code)/\dh a.m.p.tick/\dh a.m.p.low/\dh a.m.p.high/\dh a.m.p.wide/\dh a.m.p.rule/\dh a.m.p.top/\dh a.m.p.least/\dh a.m.p.part/\zC a.m.s=yL a.m 1/\dh (zU a.m.used)/\aa 1 (iE a.m.p.months)=yL a.m 3/\aa 1 (iE a.m.p.settle)=yL a.m 4/\[xU (fZ a),xU (fX a)]=[[dI a.r.kind,dI a.r.id,dI ((b.p.legs b.n).fst),dI a.r.side,dI a.near,dI a.r.qty,dI a.r.left,dI a.r.why],[dI a.r.kind,dI a.r.id,dI (vP b),dI (aj.wrap (3-a.r.side)),dI a.far,dI a.r.qty,dI a.r.left,dI a.r.why]]/\True
def zYp (i:MsI):Prop:=
 ∃(a:c8),sb a.p.code=sb i.m.p.code/\iE a.p.months=iE i.m.p.months/\a.p.tick=i.m.p.tick/\a.p.low=i.m.p.low/\a.p.high=i.m.p.high/\a.p.wide=i.m.p.wide/\a.p.rule=i.m.p.rule/\a.p.top=i.m.p.top/\a.p.least=i.m.p.least/\a.p.part=i.m.p.part/\iE a.p.settle=iE i.m.p.settle/\a.n=i.r.inst/\(jL a)/\∀(b:Unit),True->(lT i a)/\lT i a
def y7a (i:MiN):Prop:=
 ∃(i_1:c8),sb i_1.p.code=sb i.m.p.code/\iE i_1.p.months=iE i.m.p.months/\i_1.p.tick=i.m.p.tick/\i_1.p.low=i.m.p.low/\i_1.p.high=i.m.p.high/\i_1.p.wide=i.m.p.wide/\i_1.p.rule=i.m.p.rule/\i_1.p.top=i.m.p.top/\i_1.p.least=i.m.p.least/\i_1.p.part=i.m.p.part/\iE i_1.p.settle=iE i.m.p.settle/\i_1.n=i.inst/\(i_1.p.code.length<=1099511627776/\i_1.p.months.length<=1099511627776/\i_1.p.settle.length<=1099511627776)/\∀(o:Unit),True->∃(o:Unit),(i.m.p.legs i.inst).snd.snd=(i_1.p.legs i_1.n).snd.snd/\dh (sb i.m.p.code)/\dh i.m.p.tick/\dh i.m.p.low/\dh i.m.p.high/\dh i.m.p.wide/\dh i.m.p.rule/\dh i.m.p.top/\dh i.m.p.least/\dh i.m.p.part/\zC i.m.s=yL i.m 1/\dh (zU i.m.used)/\aa 1 (iE i.m.p.months)=yL i.m 3/\aa 1 (iE i.m.p.settle)=yL i.m 4/\True
def zXr (a:OfI):Prop:=a.x.price=a.x.price/\dh a.x.qty/\dh a.x.implied/\dh (aa 6 (am yW a.x.fills))/\True
def Vof (i:OfI):Prop:=
 ∃(a:Nat),(↑a:Int)=0/\∃(b:Nat->Prop),∃(c:Nat->Nat),b a/\∀(d:Nat),b d->cnd (decide ((↑d:Int)<(↑(am yW i.x.fills).length:Int))) ((0<=(↑d:Int)/\(↑d:Int)<(↑(am yW i.x.fills).length:Int))/\∃(e:Int),∃(f:Int),∃(g:Int),∃(h:Int),∃(j:Int),∃(k:Int),zE (am yW i.x.fills) (↑d:Int).toNat 0 6=ax [dI e,dI f,dI g,dI h,dI j,dI k]/\cnd (f==i.k) (∃(l:Unit),ofF i.x i.k=h/\zXr i) (∃(l:Nat),(↑l:Int)=aj.wrap ((↑d:Int)+1)/\b l/\c l<c d/\dh (ac [zA i.x.price,zA i.x.qty,yK i.x.implied,V.own 1] (290:bo))/\dh (aa 6 (am yW i.x.fills)))) (∃(e:Unit),ofF i.x i.k=i.x.price/\zXr i)
def rU (a:MpI):Prop:=sb a.m.p.code=sb a.m.p.code/\dh a.m.p.tick/\dh a.m.p.low/\dh a.m.p.high/\dh a.m.p.wide/\dh a.m.p.rule/\dh a.m.p.top/\dh a.m.p.least/\dh a.m.p.part/\zC a.m.s=yL a.m 1/\dh (zU a.m.used)/\aa 1 (iE a.m.p.months)=yL a.m 3/\aa 1 (iE a.m.p.settle)=yL a.m 4/\True
def qN (a:MpI):=(vC a.m.p a.inst a.x)
def z1i (i:MpI):Prop:=
 cnd (!i.x.implied) (∃(a:LpI),sb a.p.code=sb i.m.p.code/\iE a.p.months=iE i.m.p.months/\a.p.tick=i.m.p.tick/\a.p.low=i.m.p.low/\a.p.high=i.m.p.high/\a.p.wide=i.m.p.wide/\a.p.rule=i.m.p.rule/\a.p.top=i.m.p.top/\a.p.least=i.m.p.least/\a.p.part=i.m.p.part/\iE a.p.settle=iE i.m.p.settle/\a.inst=i.inst/\a.price=i.x.price/\(a.p.check=0/\(a.p.code.length<=1099511627776/\a.p.months.length<=1099511627776/\a.p.settle.length<=1099511627776)/\(-9223372036854775808)<=a.price/\a.price<=9223372036854775807)/\∀(b:Unit),True->∃(c:Unit),(qN i).fst=(y5 a).fst/\(qN i).snd=(y5 a).snd.fst/\rU i) (∃(a:c8),sb a.p.code=sb i.m.p.code/\iE a.p.months=iE i.m.p.months/\a.p.tick=i.m.p.tick/\a.p.low=i.m.p.low/\a.p.high=i.m.p.high/\a.p.wide=i.m.p.wide/\a.p.rule=i.m.p.rule/\a.p.top=i.m.p.top/\a.p.least=i.m.p.least/\a.p.part=i.m.p.part/\iE a.p.settle=iE i.m.p.settle/\a.n=i.inst/\(jL a)/\∀(b:Unit),True->∃(c:OfI),c.k=(a.p.legs a.n).fst/\c.x.price=i.x.price/\c.x.qty=i.x.qty/\c.x.implied=i.x.implied/\aa 6 (am yW c.x.fills)=aa 6 (am yW i.x.fills)/\c.x.fills.length<=1000000/\∀(d:Unit),True->∃(e:OfI),e.k=(a.p.legs a.n).snd.fst/\e.x.price=c.x.price/\e.x.qty=c.x.qty/\e.x.implied=c.x.implied/\aa 6 (am yW e.x.fills)=aa 6 (am yW c.x.fills)/\e.x.fills.length<=1000000/\∀(f:Unit),True->∃(g:Unit),(qN i).fst=ofF c.x c.k/\(qN i).snd=ofF e.x e.k/\rU i)
def zDq (a:MpI):Prop:=(a.m.p.check=0/\a.m.p.code.length<=1099511627776/\a.m.p.months.length<=1099511627776/\a.m.p.settle.length<=1099511627776)/\((-9223372036854775808)<=a.x.price/\a.x.price<=9223372036854775807)/\a.x.fills.length<=1000000
def zDb (a:MsI):Prop:=(a.m.p.check=0/\a.m.p.code.length<=1099511627776/\a.m.p.months.length<=1099511627776/\a.m.p.settle.length<=1099511627776)/\(a.r.side=1\/a.r.side=2)
def zDp (a:MiN):Prop:=a.m.p.check=0/\a.m.p.code.length<=1099511627776/\a.m.p.months.length<=1099511627776/\a.m.p.settle.length<=1099511627776
def aR (a:StI'):=(D.v (be (sb a.c.label)))
def yIz (i:StI'):Prop:=
 ∃(a:Nat),(↑a:Int)=0/\am xU (i.out a)=[]/\∃(b:Nat->Prop),∃(c:Nat->Nat),b a/\∀(d:Nat),b d->cnd (decide ((↑d:Int)<(↑(am yW i.x.fills).length:Int))) ((0<=(↑d:Int)/\(↑d:Int)<(↑(am yW i.x.fills).length:Int))/\∃(e:Int),∃(f:Int),∃(g:Int),∃(h:Int),∃(j:Int),∃(k:Int),zE (am yW i.x.fills) (↑d:Int).toNat 0 6=ax [dI e,dI f,dI g,dI h,dI j,dI k]/\((am xU (i.out d)).length+1)*(64:Nat)<=(140737488355328:Nat)/\∃(l:MiN),l.inst=f/\sb l.m.p.code=sb i.m.p.code/\l.m.p.tick=i.m.p.tick/\l.m.p.low=i.m.p.low/\l.m.p.high=i.m.p.high/\l.m.p.wide=i.m.p.wide/\l.m.p.rule=i.m.p.rule/\l.m.p.top=i.m.p.top/\l.m.p.least=i.m.p.least/\l.m.p.part=i.m.p.part/\zC l.m.s=yL i.m 1/\zU l.m.used=zU i.m.used/\aa 1 (iE l.m.p.months)=yL i.m 3/\aa 1 (iE l.m.p.settle)=yL i.m 4/\(zDp l)/\∀(m:Unit),True->cnd (l.m.p.legs l.inst).snd.snd (∃(n:MpI),n.inst=f/\n.x.price=i.x.price/\n.x.qty=i.x.qty/\n.x.implied=i.x.implied/\am yW n.x.fills=am yW i.x.fills/\sb n.m.p.code=sb l.m.p.code/\n.m.p.tick=l.m.p.tick/\n.m.p.low=l.m.p.low/\n.m.p.high=l.m.p.high/\n.m.p.wide=l.m.p.wide/\n.m.p.rule=l.m.p.rule/\n.m.p.top=l.m.p.top/\n.m.p.least=l.m.p.least/\n.m.p.part=l.m.p.part/\zC n.m.s=zC l.m.s/\zU n.m.used=zU l.m.used/\aa 1 (iE n.m.p.months)=aa 1 (iE l.m.p.months)/\aa 1 (iE n.m.p.settle)=aa 1 (iE l.m.p.settle)/\(zDq n)/\∀(p:Unit),True->∃(q:MsI),q.r.kind=3/\q.r.id=e/\q.r.inst=f/\q.r.side=g/\q.r.price=h/\q.r.qty=j/\q.r.left=k/\q.r.why=0/\q.near=(qN n).fst/\q.far=(qN n).snd/\sb q.m.p.code=sb n.m.p.code/\q.m.p.tick=n.m.p.tick/\q.m.p.low=n.m.p.low/\q.m.p.high=n.m.p.high/\q.m.p.wide=n.m.p.wide/\q.m.p.rule=n.m.p.rule/\q.m.p.top=n.m.p.top/\q.m.p.least=n.m.p.least/\q.m.p.part=n.m.p.part/\zC q.m.s=zC n.m.s/\zU q.m.used=zU n.m.used/\aa 1 (iE q.m.p.months)=aa 1 (iE n.m.p.months)/\aa 1 (iE q.m.p.settle)=aa 1 (iE n.m.p.settle)/\(zDb q)/\∀(r:Unit),True->True/\((am xU (i.out d)++[[dI 3,dI e,dI f,dI g,dI h,dI j,dI k,dI 0]]).length+2)*(64:Nat)<=(140737488355328:Nat)/\∃(s:Nat),(↑s:Int)=aj.wrap ((↑d:Int)+1)/\am xU (i.out s)=am xU (i.out d)++[[dI 3,dI e,dI f,dI g,dI h,dI j,dI k,dI 0]]++[xU (fZ q),xU (fX q)]/\b s/\c s<c d/\dh (ac [V.d (dI i.x.price),V.d (dI i.x.qty),V.d (D.v (.bool i.x.implied)),V.own 7] 290)/\dh (aa 6 (am yW i.x.fills))/\dh (ac [V.d (dI i.c.kind),V.d (dI i.c.id),V.d (dI i.c.inst),V.d (dI i.c.side),V.d (dI i.c.price),V.d (dI i.c.qty),V.d (dI i.c.least),V.d (dI i.c.time),V.d (aR i)] 44)/\dh (ac [V.nm 0 0] 59)/\ac [V.d (D.v (be (sb q.m.p.code))),V.own 3,V.d (dI q.m.p.tick),V.d (dI q.m.p.low),V.d (dI q.m.p.high),V.d (dI q.m.p.wide),V.d (dI q.m.p.rule),V.d (dI q.m.p.top),V.d (dI q.m.p.least),V.d (dI q.m.p.part),V.own 4,V.nm 1 0,V.mp 2] (114:bo)=yL i.m 0/\zC q.m.s=yL i.m 1/\ag (zU q.m.used)=yL i.m 2/\aa 1 (iE q.m.p.months)=yL i.m 3/\aa 1 (iE q.m.p.settle)=yL i.m 4) (∃(n:Nat),(↑n:Int)=aj.wrap ((↑d:Int)+1)/\am xU (i.out n)=am xU (i.out d)++[[dI 3,dI e,dI f,dI g,dI h,dI j,dI k,dI 0]]/\b n/\c n<c d/\dh (ac [V.d (dI i.x.price),V.d (dI i.x.qty),V.d (D.v (.bool i.x.implied)),V.own 7] 290)/\dh (aa 6 (am yW i.x.fills))/\dh (ac [V.d (dI i.c.kind),V.d (dI i.c.id),V.d (dI i.c.inst),V.d (dI i.c.side),V.d (dI i.c.price),V.d (dI i.c.qty),V.d (dI i.c.least),V.d (dI i.c.time),V.d (aR i)] 44)/\dh (ac [V.nm 0 0] 59)/\ac [V.d (D.v (be (sb l.m.p.code))),V.own 3,V.d (dI l.m.p.tick),V.d (dI l.m.p.low),V.d (dI l.m.p.high),V.d (dI l.m.p.wide),V.d (dI l.m.p.rule),V.d (dI l.m.p.top),V.d (dI l.m.p.least),V.d (dI l.m.p.part),V.own 4,V.nm 1 0,V.mp 2] (114:bo)=yL i.m 0/\zC l.m.s=yL i.m 1/\ag (zU l.m.used)=yL i.m 2/\aa 1 (iE l.m.p.months)=yL i.m 3/\aa 1 (iE l.m.p.settle)=yL i.m 4)) (((am xU (i.out d)).length+1)*(64:Nat)<=(140737488355328:Nat)/\∃(e:MiN),e.inst=i.c.inst/\sb e.m.p.code=sb i.m.p.code/\e.m.p.tick=i.m.p.tick/\e.m.p.low=i.m.p.low/\e.m.p.high=i.m.p.high/\e.m.p.wide=i.m.p.wide/\e.m.p.rule=i.m.p.rule/\e.m.p.top=i.m.p.top/\e.m.p.least=i.m.p.least/\e.m.p.part=i.m.p.part/\zC e.m.s=yL i.m 1/\zU e.m.used=zU i.m.used/\aa 1 (iE e.m.p.months)=yL i.m 3/\aa 1 (iE e.m.p.settle)=yL i.m 4/\(zDp e)/\∀(f:Unit),True->cnd (e.m.p.legs e.inst).snd.snd (∃(g:MpI),g.inst=i.c.inst/\g.x.price=i.x.price/\g.x.qty=i.x.qty/\g.x.implied=i.x.implied/\am yW g.x.fills=am yW i.x.fills/\sb g.m.p.code=sb e.m.p.code/\g.m.p.tick=e.m.p.tick/\g.m.p.low=e.m.p.low/\g.m.p.high=e.m.p.high/\g.m.p.wide=e.m.p.wide/\g.m.p.rule=e.m.p.rule/\g.m.p.top=e.m.p.top/\g.m.p.least=e.m.p.least/\g.m.p.part=e.m.p.part/\zC g.m.s=zC e.m.s/\zU g.m.used=zU e.m.used/\aa 1 (iE g.m.p.months)=aa 1 (iE e.m.p.months)/\aa 1 (iE g.m.p.settle)=aa 1 (iE e.m.p.settle)/\(zDq g)/\∀(h:Unit),True->∃(j:MsI),j.r.kind=3/\j.r.id=i.c.id/\j.r.inst=i.c.inst/\j.r.side=i.c.side/\j.r.price=i.x.price/\j.r.qty=i.x.qty/\j.r.left=i.left/\j.r.why=0/\j.near=(qN g).fst/\j.far=(qN g).snd/\sb j.m.p.code=sb g.m.p.code/\j.m.p.tick=g.m.p.tick/\j.m.p.low=g.m.p.low/\j.m.p.high=g.m.p.high/\j.m.p.wide=g.m.p.wide/\j.m.p.rule=g.m.p.rule/\j.m.p.top=g.m.p.top/\j.m.p.least=g.m.p.least/\j.m.p.part=g.m.p.part/\zC j.m.s=zC g.m.s/\zU j.m.used=zU g.m.used/\aa 1 (iE j.m.p.months)=aa 1 (iE g.m.p.months)/\aa 1 (iE j.m.p.settle)=aa 1 (iE g.m.p.settle)/\(zDb j)/\∀(k:Unit),True->True/\((am xU (i.out d)++[[dI 3,dI i.c.id,dI i.c.inst,dI i.c.side,dI i.x.price,dI i.x.qty,dI i.left,dI 0]]).length+2)*(64:Nat)<=(140737488355328:Nat)/\∃(l:Unit),sb i.m.p.code=sb j.m.p.code/\i.m.p.tick=j.m.p.tick/\i.m.p.low=j.m.p.low/\i.m.p.high=j.m.p.high/\i.m.p.wide=j.m.p.wide/\i.m.p.rule=j.m.p.rule/\i.m.p.top=j.m.p.top/\i.m.p.least=j.m.p.least/\i.m.p.part=j.m.p.part/\zC i.m.s=zC j.m.s/\zU i.m.used=zU j.m.used/\aa 1 (iE i.m.p.months)=aa 1 (iE j.m.p.months)/\aa 1 (iE i.m.p.settle)=aa 1 (iE j.m.p.settle)/\am xU (nG i.m.p i.c i.x i.left)=am xU (i.out d)++[[dI 3,dI i.c.id,dI i.c.inst,dI i.c.side,dI i.x.price,dI i.x.qty,dI i.left,dI 0]]++[xU (fZ j),xU (fX j)]/\True) (∃(g:Unit),sb i.m.p.code=sb e.m.p.code/\i.m.p.tick=e.m.p.tick/\i.m.p.low=e.m.p.low/\i.m.p.high=e.m.p.high/\i.m.p.wide=e.m.p.wide/\i.m.p.rule=e.m.p.rule/\i.m.p.top=e.m.p.top/\i.m.p.least=e.m.p.least/\i.m.p.part=e.m.p.part/\zC i.m.s=zC e.m.s/\zU i.m.used=zU e.m.used/\aa 1 (iE i.m.p.months)=aa 1 (iE e.m.p.months)/\aa 1 (iE i.m.p.settle)=aa 1 (iE e.m.p.settle)/\am xU (nG i.m.p i.c i.x i.left)=am xU (i.out d)++[[dI 3,dI i.c.id,dI i.c.inst,dI i.c.side,dI i.x.price,dI i.x.qty,dI i.left,dI 0]]/\True))
def z6a:rejC.ok Tryz.prog 137:=okw (V:=y6f) mixed gok0 0 (λ_=>[]) (λ_=>[]) [] Tryz.func137 λ(i:RjI) _=>⟨(),rfl,trivial⟩
def yHr (i:MsI) (h:mspreadC.cnd i):zYp i:=by
 obtain⟨⟨hc,hp⟩,hs⟩:i.m.fine/\(i.r.side=1\/i.r.side=2):=h;have hw:aj.wrap (3-i.r.side)=3-i.r.side:=w64 oM;unfold zYp lT fZ fX uV vP jL dI;rw[hw];refine⟨⟨i.m.p,i.r.inst⟩,rF8 (rF3 ⟨rfl,hp,λ_ _=> ?_⟩)⟩;exact kp
def z3d:mspreadC.ok Tryz.prog 195:=okw mixed (gokc zAm gok0) 0 (λ_=>[]) (λ_=>[]) [] Tryz.func195 yHr
def yZl:misC.ok Tryz.prog 193:=okw (V:=y7a) mixed (gokc zAm gok0) 0 (λ_=>[]) (λ_=>[]) [] Tryz.func193 λ(i:MiN) h=>by
 obtain⟨hc,hp⟩:i.m.fine:=h;exact⟨⟨i.m.p,i.inst⟩,rF8 (rF3 ⟨rfl,hp,λ_ _=>kp⟩)⟩
def y2f {l:List bF} {k:Nat} {f:bF} (h:l[k]? =ax f):zE (l.map yW) k 0 6=ax [D.v (.int .i64 f.id),D.v (.int .i64 f.inst),D.v (.int .i64 f.side),D.v (.int .i64 f.price),D.v (.int .i64 f.qty),D.v (.int .i64 f.left)]:=elA h (by simp[yW]) rfl
def vof (i:OfI) (h:ofC.cnd i):Vof i:=by
 have hl:i.x.fills.length<=1000000:=h;have e4:(i.x.fills.map yW).length=i.x.fills.length:=y8b ..;unfold Vof zXr dI;refine⟨0,rfl,λj=>j<=i.x.fills.length/\(i.x.fills.take j).find? (λf=>decide (f.inst=i.k))=ay,λj=>i.x.fills.length-j,⟨y9c _,rfl⟩,?_⟩;rintro j ⟨j1,j2⟩;refine zI (λc=> ?_) (λc=> ?_)
 ·obtain⟨f,hf⟩:=yC (l:=i.x.fills) (i:=j) oM;refine⟨⟨oM,oM⟩,_,_,_,_,_,_,y2f hf,Cv.cnd.mk (λg=>⟨(),?_,k0q⟩) (λg=>⟨j+1,wjn oM,⟨oM,?_⟩,Z9,k0q⟩)⟩
  ·have g:f.inst=i.k:=by simpa using g
   have e:i.x.fills.find? (λf=>decide (f.inst=i.k))=ax f:=by
    rw[<- xAi j i.x.fills,List.find?_append,j2,xAe (by omega),(y8e.1 hf).2,List.find?_cons_of_pos (by simpa using g)];rfl
   rw[ofF,e]
  ·have g:¬f.inst=i.k:=by simpa using g
   rw[y9g,hf,List.find?_append,j2];simp[g]
 ·have:j=i.x.fills.length:=by omega
  rw[this,y8l (y8w _)]at j2;exact⟨(),by rw[ofF,j2],k0q⟩
def y0o:ofC.ok Tryz.prog 202:=okw mixed gok0 0 (λ_=>[]) (λ_=>ofA) [] Tryz.func202 vof
def yGd (i:MpI) (h:mpricesC.cnd i):z1i i:=by
 obtain⟨⟨hc,hp⟩,hpr,hl⟩:i.m.fine/\i64r i.x.price/\i.x.fills.length<=1000000:=h;unfold z1i qN rU y5 jL;refine Cv.cnd.mk (λe=> ?_) (λe=> ?_)
 ·have e:i.x.implied=au:=by simpa using e
  have h0:vC i.m.p i.inst i.x=((f7 i.m.p i.inst i.x.price).1,(f7 i.m.p i.inst i.x.price).2.1):=by rw[vC,y8c e]
  rw[h0];exact⟨⟨i.m.p,i.inst,i.x.price⟩,rF8 (rF4 ⟨rfl,⟨hc,hp,hpr⟩,λ_ _=>kp⟩)⟩
 ·have e:¬i.x.implied=au:=by simpa using e
  have h0:vC i.m.p i.inst i.x=(ofF i.x (i.m.p.legs i.inst).1,ofF i.x (i.m.p.legs i.inst).2.1):=by rw[vC,y7z e]
  rw[h0];exact⟨⟨i.m.p,i.inst⟩,rF8 (rF3 ⟨rfl,hp,λ_ _=>⟨⟨i.x,(i.m.p.legs i.inst).1⟩,rF4 ⟨rfl,hl,λ_ _=>⟨⟨i.x,(i.m.p.legs i.inst).2.1⟩,rF4 ⟨rfl,hl,λ_ _=>kp⟩⟩⟩⟩⟩)⟩
def z6b:mpricesC.ok Tryz.prog 194:=okw mixed (gokc zAm (gokc z5g (gokc y0o gok0))) 0 (λ_=>[]) (λ_=>[]) [] Tryz.func194 yGd
def zPs (p:Prd) (x:wA) (r:Rep):(mX p x r).length<=3:=by
 rw[mX,y8f];split
 ·rw[zGw];simp
 ·simp
def z9g {p:Prd} {x:wA} {r:Rep} (h:(p.legs r.inst).2.2=au):mX p x r=[r]:=by
 rw[mX,y7z (by rw[h];decide)]
def z0f {p:Prd} {x:wA} {r:Rep} (h:(p.legs r.inst).2.2=av):mX p x r=r::zGw p r (vC p r.inst x).1 (vC p r.inst x).2:=by
 rw[mX,y8c h]
def StI'.out_len (i:StI'):∀j,(i.out j).length<=3*j
 |0=>y8w _
 |j+1=>by
  have ih:=StI'.out_len i j;rw[StI'.out]at ih ⊢;rw[y9g,y9y,y8a];cases e:i.x.fills[j]? with
  |none=>simp only[Option.toList_none,xDg,y9t];omega
  |some f=>
   have:=zPs i.m.p i.x (zEq f);simp only[xBb,y9s,xDg,y8x];omega
def StI'.out_succ (i:StI') {j:Nat} {f:bF} (h:i.x.fills[j]? =ax f):i.out (j+1)=i.out j++mX i.m.p i.x (zEq f):=by
 rw[StI'.out,StI'.out,y9g,y9y,h];simp
def yWv (i:StI') (h:mstepC.cnd i):yIz i:=by
 obtain⟨hf,hpr,hl,hcs,hfs⟩:i.m.fine/\i64r i.x.price/\i.x.fills.length<=1000000/\(i.c.side=1\/i.c.side=2)/\∀f∈i.x.fills,f.side=1\/f.side=2:=h;have e4:(i.x.fills.map yW).length=i.x.fills.length:=y8b ..;unfold yIz aR zDp zDb zDq fZ fX qN dI;refine⟨0,rfl,rfl,λj=>j<=i.x.fills.length,λj=>i.x.fills.length-j,y9c _,?_⟩;intro j hj;have ho:=i.out_len j;have e5:((i.out j).map xU).length=(i.out j).length:=y8b ..;refine zI (λc=> ?_) (λc=> ?_)
 ·obtain⟨f,hfj⟩:=yC (l:=i.x.fills) (i:=j) oM;have hos:=i.out_succ hfj;have hfj2:=hfs f (y8m hfj);refine⟨⟨oM,oM⟩,_,_,_,_,_,_,y2f hfj,oM,⟨i.m,f.inst⟩,rfl,rfl,rfl,rfl,rfl,rfl,rfl,rfl,rfl,rfl,rfl,rfl,rfl,rfl,hf,λ_ _=>Cv.cnd.mk (λe=> ?_) (λe=> ?_)⟩
  ·have e:(i.m.p.legs (zEq f).inst).2.2=av:=e;rw[z0f e]at hos;refine⟨⟨i.m,f.inst,i.x⟩,rF8 (rF6 (rF3 ⟨rfl,⟨hf,hpr,hl⟩,λ_ _=>⟨⟨i.m,zEq f,(vC i.m.p f.inst i.x).1,(vC i.m.p f.inst i.x).2⟩,rF8 (rF8 (rF6 ⟨rfl,⟨hf,hfj2⟩,λ_ _=>⟨trivial,by rw[y8a,e5];simp only[y8f,y9t];omega,j+1,wjn oM,?_,oM,Z9,k0q⟩⟩))⟩⟩))⟩;rw[hos,y8k,y8g];rfl
  ·have e:(i.m.p.legs (zEq f).inst).2.2=au:=e;rw[z9g e]at hos;refine⟨j+1,wjn oM,?_,oM,Z9,k0q⟩;rw[hos,y8k];rfl
 ·have hj:j=i.x.fills.length:=by omega
  have ho2:i.x.fills.flatMap (λf=>mX i.m.p i.x (zEq f))=i.out j:=by rw[StI'.out,hj,y8l (y8w _)]
  have hR:nG i.m.p i.c i.x i.left=i.out j++mX i.m.p i.x ⟨3,i.c.id,i.c.inst,i.c.side,i.x.price,i.x.qty,i.left,0⟩:=by rw[nG,ho2]
  refine⟨oM,⟨i.m,i.c.inst⟩,rF8 (rF5 ⟨rfl,hf,λ_ _=>Cv.cnd.mk (λe=> ?_) (λe=> ?_)⟩)⟩
  ·have e:(i.m.p.legs (⟨3,i.c.id,i.c.inst,i.c.side,i.x.price,i.x.qty,i.left,0⟩:Rep).inst).2.2=av:=e;rw[z0f e]at hR;refine⟨⟨i.m,i.c.inst,i.x⟩,rF8 (rF6 (rF3 ⟨rfl,⟨hf,hpr,hl⟩,λ_ _=>⟨⟨i.m,⟨3,i.c.id,i.c.inst,i.c.side,i.x.price,i.x.qty,i.left,0⟩,(vC i.m.p i.c.inst i.x).1,(vC i.m.p i.c.inst i.x).2⟩,rF8 (rF8 (rF6 ⟨rfl,⟨hf,hcs⟩,λ_ _=>⟨trivial,by rw[y8a,e5];simp only[y8f,y9t];omega,?_⟩⟩))⟩⟩))⟩;rw[hR,y8k,y8g];exact kp
  ·have e:(i.m.p.legs (⟨3,i.c.id,i.c.inst,i.c.side,i.x.price,i.x.qty,i.left,0⟩:Rep).inst).2.2=au:=e;rw[z9g e]at hR;rw[hR,y8k];exact kp
def yKg:mstepC.ok Tryz.prog 185:=okw mixed (gokc yZl (gokc z6b (gokc z3d gok0))) 1 (λ_=>[]) (λi=>yWs i) [] Tryz.func185 yWv
structure EnI where
 m:Mkt
 p:Prd
 B:List (List zH)
 U:List Int
 c:Cmd
 X:MkX
@[reducible] def EnI.std (i:EnI):Prop:=i.m.Rep i.p i.B i.U/\BOk i.p i.B
@[reducible] def EnI.good (i:EnI):Prop:=(0<=i.c.inst/\i.c.inst<i.B.length)/\(1<=i.c.qty/\i.c.qty<=1000000)/\(i.c.side=1\/i.c.side=2)
@[reducible] def z2v (X:MkX) (p:Prd):Alt:={o:=Mkt,res:=λ_=> .own 5,post:=λo=>zBv o++[z3m X.R],rel:=λo=>o.Rep p X.B X.U}
def enterC:Con where
 ι:=EnI
 pat:=λi=>[.nm 0 0,zGp i.c]
 pre:=λi=>zBv i.m
 cnd:=λi=>i.std/\i.good/\i.p.price i.c.inst i.c.price=0/\i.X=bK i.p i.B i.U i.c
 alts:=λi=>[z2v i.X i.p]
structure EnJ where
 left:Int
 k:Nat
 out:List Rep
def y0k (i:EnI):List SAnn:=[{ι:=EnJ,slots:=λj=>[(5,.own 0),(8,zA j.left),(51,zA j.k)],rows:=λj=>[z3m j.out]}]
def orderC:Con where
 ι:=EnI
 pat:=λi=>[.nm 0 0,zGp i.c]
 pre:=λi=>zBv i.m
 cnd:=λi=>i.std/\i.c.right=0/\i.c.kind=1/\i.X=nJ i.p i.B i.U i.c
 alts:=λi=>[z2v i.X i.p]
def y0e:List (Nat×SAnn):=[(22,ij 6),(44,bj 47),(52,bj 69)]
structure CaI where
 m:Mkt
 p:Prd
 B:List (List zH)
 U:List Int
 id:Int
 q:Int
 inst:Int
 o:zH
 X:MkX
@[reducible] def CaI.std (i:CaI):Prop:=i.m.Rep i.p i.B i.U/\BOk i.p i.B
def cancelC:Con where
 ι:=CaI
 pat:=λi=>[.nm 0 0,zA i.id,zA i.inst,z4d i.o]
 pre:=λi=>zBv i.m
 cnd:=λi=>i.std/\i.X=uR i.B i.U i.id i.inst i.o
 alts:=λi=>[z2v i.X i.p]
def reduceC:Con where
 ι:=CaI
 pat:=λi=>[.nm 0 0,zA i.id,zA i.q,zA i.inst,z4d i.o]
 pre:=λi=>zBv i.m
 cnd:=λi=>i.std/\i64r (i.o.qty-i.q)/\i.X=bN i.B i.U i.id i.q i.inst i.o
 alts:=λi=>[z2v i.X i.p]
structure yDb where
 m:Mkt
 p:Prd
 B:List (List zH)
 U:List Int
 c:Cmd
 inst:Int
 o:zH
 X:MkX
def replaceC:Con where
 ι:=yDb
 pat:=λi=>[.nm 0 0,zGp i.c,zA i.inst,z4d i.o]
 pre:=λi=>zBv i.m
 cnd:=λi=>i.m.Rep i.p i.B i.U/\BOk i.p i.B/\zR i.B i.c.id=(i.inst,i.o,av)/\(1<=i.c.qty/\i.c.qty<=1000000)/\i.X=dD i.p i.B i.U i.c i.inst i.o
 alts:=λi=>[z2v i.X i.p]
def doC:Con where
 ι:=EnI
 pat:=λi=>[.nm 0 0,zGp i.c]
 pre:=λi=>[qT i.m]
 cnd:=λi=>i.std/\i.c.label.length<=140737488355328/\i64r i.c.qty/\i.X=doF i.p i.B i.U i.c
 alts:=λi=>[{o:=Mkt,res:=λ_=> .own 1,post:=λo=>[qT o,z3m i.X.R],rel:=λo=>o.Rep i.p i.X.B i.X.U}]
structure MfI where
 m:Mkt
 p:Prd
 B:List (List zH)
 U:List Int
 id:Int
def mfindC:Con:=con1 MfI (λi=>[.nm 0 0,zA i.id]) (λi=>[qT i.m]) (λi=>i.m.Rep i.p i.B i.U/\BOk i.p i.B) (λi=> .tup [zA (zR i.B i.id).1,z4d (zR i.B i.id).2.1,yK (zR i.B i.id).2.2]) (λi=>[qT i.m])
end Sx
