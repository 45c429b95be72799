/- Texts of ours. No condition. -/
import Derived.Shelf.Spec.SlicesGrow
import Derived.Test.YtgmmlhddihaocaaGreatH9
set_option linter.all false
open Sx.fw renaming sv->aa,cells->ab,kh->ac,kg->ae,map->af,own->ag
open Go.IntKind renaming i64->aj,u8->ak
open List renaming map->am,drop_take->ao
open Bool renaming false->ap,true->aq
open Go.Builtin renaming zeroCells->ar
open Option renaming some->au,none->av,filter->aw
open ByteArray renaming mk->ax
open BitVec renaming ofInt->ay
open Go renaming grownCap->ba,TypeId->bc,size_zeroCells->be
namespace Sx
set_option maxRecDepth 100000
open Go Cv Go.Proofs
def Ke:Go.Shelf.Ren:=⟨λx=>if x=4 then 113 else x,λx=>if x=22 then 43 else if x=25 then 5 else x,λx=>x⟩
def y9s:Lays8.n4 Tryz.prog Ke where
 mixed:=mixed
 f4:=⟨Tryz.f113.name,by decide+kernel,by kernel_rfl⟩
 t0:=by kernel_rfl
 a0:=λ_=>by kernel_rfl
 z0:=λ_=>by kernel_rfl
 v0:=λ_=>by kernel_rfl
 t3:=by kernel_rfl
 a3:=λ_=>by kernel_rfl
 z3:=λ_=>by kernel_rfl
 v3:=λ_=>by kernel_rfl
 t4:=by kernel_rfl
 a4:=λ_=>by kernel_rfl
 z4:=λ_=>by kernel_rfl
 v4:=λ_=>by kernel_rfl
 t9:=by kernel_rfl
 a9:=λ_=>by kernel_rfl
 z9:=λ_=>by kernel_rfl
 v9:=λ_=>by kernel_rfl
 t20:=by kernel_rfl
 a20:=λ_=>by kernel_rfl
 z20:=λ_=>by kernel_rfl
 v20:=λ_=>by kernel_rfl
 t22:=by kernel_rfl
 a22:=λ_=>by kernel_rfl
 z22:=λ_=>by kernel_rfl
 v22:=λ_=>by kernel_rfl
def y5x:gD Tryz.prog 43=au (5,1,1,#[.int .u8 0]):=by kernel_rfl
def yUq:BN.ok Tryz.prog 113:=by
 intro(n:Nat) hc k L E w ys R hv;obtain⟨c1,c2⟩:1<=n/\n<=1099511627776:=hc;simp only[BN,gh,im,VR,DR]at hv;obtain⟨_,_,rfl,⟨rfl,_⟩,_,_,rfl,⟨rfl,_⟩,rfl⟩:=hv;obtain⟨inf,zv,q1,q2,q3,q4,q5,q6⟩:=jF y5x;have xq:=Any8.slices_Grow_grow y9s inf zv q2 q5 oM av 0 0 n [] w (mg _) oM (by rw[q4];omega) oM (by simp) (λ_=>rfl) (λa h=>by cases h);rw[show Ke.t 25=5 from rfl]at xq;refine nO (by kernel_rfl) (xq.mono ?_);rintro en w' ⟨rfl,rfl⟩;have hG:=grownCap_ge w (0+n) 0 5;have H:=((R.hp.drew).new (.cells (([]:List Value).toArray++ar zv.cells (0+n-0)++ar zv.cells (ba w (0+n) 0 5-(0+n))) 5))
 have ha:(([]:List Value).toArray++ar zv.cells (0+n-0)++ar zv.cells (ba w (0+n) 0 5-(0+n)))=([]++((ar zv.cells (0+n-0)).toList++(ar zv.cells (ba w (0+n) 0 5-(0+n))).toList)).toArray:=by
  apply Array.ext';simp
 have hz:zv.cells.size=1:=by rw[q6];rfl
 have hl:([]++((ar zv.cells (0+n-0)).toList++(ar zv.cells (ba w (0+n) 0 5-(0+n))).toList)).length=ba w (0+n) 0 5*1:=by
  rw[zi,iQ,Jo,Jo,be,be,hz];omega
 rw[ha]at H ⊢;have H3:=H.AM (n:=0) (sz:=1) (by simp) hl (oQ _);obtain⟨E',r1,r2,r3⟩:=aM (rows:=[]) (fh:=[]) (nx:=0) R.nx (by simp[iI]) (λx hx=>by cases hx) H3;exact⟨_,rfl,_,xj.2 rfl,(),trivial,E',r1,r3,⟨r2.nx,r2.hp⟩⟩
def z8r {ls:List (List UInt8)} {k:Nat} {l:List UInt8} (h:ls[k]? =au l):zF (ls.map kq) k 0 1=au [D.ro 1 (bE l)]:=kf h (by simp[kq]) rfl
def lO {α:Type} {ls:List (List α)} {k:Nat} {l:List α} (h:ls[k]? =au l):(ls.take (k+1)).flatten=(ls.take k).flatten++l:=by
 rw[tv,h,DP,Nn];simp
def yDj {α:Type} (ls:List (List α)) (k:Nat):(ls.take k).flatten.length<=ls.flatten.length:=by
 conv=>rhs;rw[<- A3 k ls,Nn,iQ]
 omega
def y9z (ls:List (List UInt8)) (h:zc.du ls):V' ls:=by
 obtain⟨h1,h2,h3⟩:1<=ls.flatten.length/\ls.flatten.length<=1099511627776/\ls.length<=1000:=h;unfold V' fp ez mP jK Q0;rw[iz];refine⟨0,rfl,rfl,λk=>k<=ls.length,λk=>ls.length-k,oQ _,λk hk=>zI (λiq=> ?_) (λiq=> ?_)⟩
 ·obtain⟨l,hl⟩:=z6 (l:=ls) (i:=k) oM;have hk:k<=ls.length:=hk;have e1:=yDj ls (k+1);rw[lO hl,iQ]at e1;refine⟨⟨oM,oM⟩,bE l,z8r hl,zI (λc=> ?_) (λ_=>⟨k+1,?_,um oM,Z9,Z9,trivial⟩)⟩
  ·rw[xL,iD (by omega)]at c;omega
  ·rw[lO hl,iQ,xL,iD (by omega)];simp
 ·obtain rfl:k=ls.length:=by have hk:k<=ls.length:=hk;omega
  rw[CV];refine⟨ls.flatten.length,trivial,rfl,⟨h1,h2⟩,λ_ _=>⟨0,rfl,rfl,λk=>k<=ls.length,λk=>ls.length-k,oQ _,λk hk=>zI (λiq=> ?_) (λiq=> ?_)⟩⟩
  ·obtain⟨l,hl⟩:=z6 (l:=ls) (i:=k) oM;have hk:k<=ls.length:=hk;have e1:=yDj ls (k+1);rw[lO hl,iQ]at e1;refine⟨⟨oM,oM⟩,bE l,z8r hl,by rw[xL,xL];omega,k+1,um oM,by rw[lO hl,Tv],Z9,Z9,trivial⟩
  ·obtain rfl:k=ls.length:=by have hk:k<=ls.length:=hk;omega
   rw[CV];exact⟨(),rfl,trivial⟩
def yFi:zc.ok Tryz.prog 50:=y0c (dz yUq fx) y9z
def yBh:Tg.ok Tryz.prog 26:=ix (V:=y8z) mixed fx 0 (λ_=>[]) (λ_=>[]) [] Tryz.func26 λ(_:Unit) _=>⟨(),rfl,rfl,trivial⟩
def ySa:Tj.ok Tryz.prog 112:=ix (V:=yZi) mixed fx 0 (λ_=>[]) (λ_=>[]) [0] Tryz.func112 λ(i:JM) h=>by
 have h:i.d.b.length+i.l.length<=1048576:=h;unfold yZi ez;rw[xL,xL];refine zI (λc=> ?_) (λ_=>⟨oM,(),rfl,rfl,Tv _ _,trivial⟩);rw[iD (by omega)]at c;omega
def ySz:Ti.ok Tryz.prog 80:=ix (V:=y8d) mixed (dz zUl fx) 0 (λ_=>[]) (λ_=>[]) [0] Tryz.func80 λ(d:Dk) h=>by
 obtain⟨h1,h2⟩:d.ok:=h;exact⟨_,rfl,by rw[xL];omega,λ_ _=>⟨(),jh trivial⟩⟩
def z7n:ud.ok Tryz.prog 70:=yId fx λi h=>λb hb=>
 Cv.du.mk (λe=>⟨(),hb e,trivial⟩) (λ_=>⟨by rw[oC,Nat.mul_one];exact h,(),rfl,trivial⟩)
def yTf:Td.ok Tryz.prog 81:=ix (V:=yYe) mixed (dz z7n fx) 0 (λ_=>[]) (λ_=>[]) [0] Tryz.func81 λ(i:JM) h=>by
 have h:i.l.length<=1048576:=h;unfold yYe fp ez;refine zI (λc=> ?_) (λ_=>⟨_,rfl,by rw[xL];omega,λ_ _=>⟨(),rfl,by rw[xL],rfl,trivial⟩⟩);rw[xL]at c;omega
def y5t:∀n:Fin 256,pf (aj.wrap (ay aj.bits (if aj.signed=aq then(-1:Int)else aj.max) ^^^ ay aj.bits (n.val:Int)).toNat)=UInt8.ofNat (255-n.val):=by decide+kernel
def xAx:∀n:Fin 256,ak.wrap (ay ak.bits (if ak.signed=aq then(-1:Int)else ak.max) ^^^ ay ak.bits (n.val:Int)).toNat=255-(n.val:Int):=by decide+kernel
def bY (l:List UInt8):(jA l).length=l.length+6:=by
 simp only[jA,iY,iQ,jB]
def y1p (l:List UInt8) (h:Ga.du l):yNm l:=by
 have h:l.length<=255:=h;have hn:=y5t ⟨l.length,oM⟩;dsimp only at hn;unfold yNm fp ez;rw[xL];revert hn;generalize aj.wrap (ay aj.bits (if aj.signed=aq then(-1:Int)else aj.max) ^^^ ay aj.bits (l.length:Int)).toNat=X;intro hn;refine zI (λc=>by omega) (λ_=>⟨(),trivial,λ_ _=>⟨⟨[],l.length⟩,rfl,rfl,by simp[WN.ok],λ_ _=>⟨⟨_,_⟩,rfl,rfl,by simp[WN.ok],λ_ _=>⟨?_,l,rfl,oM,λ_ _=>⟨⟨_,lQ l⟩,rfl,Tv _ _,⟨?_,zNi l⟩,λ_ _=>⟨_,rfl,?_,λ_ _=>⟨(),rfl,?_,trivial⟩⟩⟩⟩⟩⟩⟩)
 ·rw[xL];simp;omega
 ·dsimp only;simp;omega
 ·dsimp only;simp[jB];omega
 ·dsimp only;rw[hn,jA];simp
def yOs:Ga.ok Tryz.prog 73:=ix mixed (dz yDo (dz z0x (dz yMl (dz y0p (dz yDi fx))))) 0 (λ_=>y0n) (λ_=>[]) [] Tryz.func73 y1p
def yLx {c:Int} (h:0<=c/\c<4294967296):kA (le c 4)=c:=by
 simp only[le,kA,VF];omega
def zXq {l:List UInt8} (h:l.length<=255) (r:List UInt8):Cd (jA l++r)=(l,6+l.length,0):=by
 have h0:((jA l++r).getD 0 0).toNat=l.length:=by
  have:=OX (n:=(l.length:Int)) oM;show(pf (l.length:Int)).toNat=l.length;omega
 have h1:((jA l++r).getD 1 0).toNat=255-l.length:=by
  show(UInt8.ofNat (255-l.length)).toNat=_;exact UInt8.toNat_ofNat_of_lt' (by
                                     have:255-l.length<256:=by omega
                                     simpa using this)
 have h2:(jA l++r).drop 2=l++(le (lQ l) 4++r):=by
  show(l++le (lQ l) 4)++r=_;rw[km]
 have h3:(jA l++r).drop (2+l.length)=le (lQ l) 4++r:=by
  rw[<- CU,h2,List.drop_left]
 unfold Cd;rw[h0,h1,h2,h3,Ng,List.take_left' (jB 4 _),yLx (zNi l)];rw[dx (by rw[iQ,bY];omega),dx (by omega),dx (by rw[iQ,bY];omega),dx (by simp)]
def xBe (i:Fv) (h:RE.du i):y8n i:=by
 obtain⟨h1,h2⟩:i.k<=i.b.length/\i.b.length<=1099511627776:=h;have ex:i.x=Cd (i.b.drop i.k):=rfl;have hll:(i.b.drop i.k).length<=1099511627776:=by rw[qc];omega
 have bad:∀e:Int,e≠0->i.x.2.2=e->∀{A:Prop},A\/∃o:Unit,True/\(0:Int)=0/\i.x.2.2=e/\(i.x.2.2=0->False):=λe he hx=> .inr ⟨(),trivial,rfl,hx,λh=>he (hx▸h)⟩
 unfold y8n fp ez OS Uj XI dY aR nW;rw[ml,<- Oy,xL i.b];generalize i.b.drop i.k=l at*;rw[xL l];refine zI (λc=>by omega) (λ_=>⟨⟨oM,oM⟩,zI (λc=>bad 10 Z8 (by rw[ex,Cd,fk (by omega)])) (λc=> ?_)⟩);obtain⟨a,ha⟩:∃a,l[0]? =au a:=⟨_,xl oM⟩
 obtain⟨b,hb⟩:∃b,l[1]? =au b:=⟨_,xl oM⟩
 have ea:l.getD 0 0=a:=by rw[mi,ha];rfl
 have eb:l.getD 1 0=b:=by rw[mi,hb];rfl
 have la:=a.toNat_lt;have hn:=xAx ⟨a.toNat,la⟩;dsimp only at hn;refine⟨⟨oM,oM⟩,b.toNat,bK hb,⟨oM,oM⟩,a.toNat,bK ha,?_⟩;rw[hn];have wa:aj.wrap (a.toNat:Int)=a.toNat:=iD oM;have w2:aj.wrap ((2:Int)+a.toNat)=2+a.toNat:=iD oM;have w3:aj.wrap ((2:Int)+a.toNat+4)=2+a.toNat+4:=iD oM;have w4:aj.wrap ((i.k:Int)+(2+a.toNat))=i.k+(2+a.toNat):=iD oM;have w5:aj.wrap ((i.k:Int)+(2+a.toNat)+4)=i.k+(2+a.toNat)+4:=iD oM;have t1:((2:Int)+a.toNat).toNat=2+a.toNat:=by omega
 have t2:((2:Int)+a.toNat+4).toNat=2+a.toNat+4:=by omega
 refine Cv.du.mk (λc2=>bad 14 Z8 ?_) (λc2=>⟨⟨oM,oM⟩,a.toNat,bK ha,?_⟩)
 ·have c2:¬((b.toNat:Int)=255-a.toNat):=by simpa using c2
  rw[ex,Cd,dx (by omega),ea,eb,fk (by omega)]
 have c2:(b.toNat:Int)=255-a.toNat:=by simpa using c2
 rw[wa,w2,w3,w4,w5,t1,t2,show Int.toNat 2=2 from rfl];refine zI (λc3=>bad 10 Z8 ?_) (λc3=> ?_)
 ·rw[ex,Cd,dx (by omega),ea,eb,dx (by omega),fk (by omega)]
 have l1:((l.take (2+a.toNat+4)).drop (2+a.toNat)).length=4:=by rw[qc,oK];omega
 have g1:(l.take (2+a.toNat+4)).drop (2+a.toNat)=(l.drop (2+a.toNat)).take 4:=by rw[ao];congr 1;omega
 have g2:(l.take (2+a.toNat)).drop 2=(l.drop 2).take a.toNat:=by rw[ao];congr 1;omega
 have g3:RN.mr ⟨(l.take (2+a.toNat+4)).drop (2+a.toNat),ap,4⟩=(l.drop (2+a.toNat)).take 4:=by
  rw[RN.mr,dx (by simp only[RN.bad,l1];decide)];dsimp only;rw[oV (by omega),g1]
 have l2:((l.drop 2).take a.toNat).length=a.toNat:=by rw[oK,qc];omega
 refine⟨⟨oM,oM,oM⟩,(l.take (2+a.toNat+4)).drop (2+a.toNat),by rw[Oy,On],oM,λ_ _=>⟨⟨oM,oM,oM⟩,⟨_,ap,4⟩,rfl,rfl,⟨Z9,Z9⟩,λ_ _=>⟨(l.take (2+a.toNat)).drop 2,by rw[Oy,On],by rw[g2];omega,λ_ _=> ?_⟩⟩⟩;rw[g2,g3];have hr:=nC ((l.drop (2+a.toNat)).take 4);have hl4:((l.drop (2+a.toNat)).take 4).length=4:=by rw[<- g1];exact l1
 rw[hl4]at hr;rw[y9h (by omega)];refine Cv.du.mk (λc4=>bad 14 Z8 ?_) (λc4=> ?_)
 ·rw[ex,Cd,dx (by omega),ea,eb,dx (by omega),dx (by omega),fk (by simpa using c4)]
 have ex2:i.x=((l.drop 2).take a.toNat,6+a.toNat,0):=by
  rw[ex,Cd,dx (by omega),ea,eb,dx (by omega),dx (by omega),dx (by simpa using c4)]
 rw[ex2,<- On,<- Oy,g2,xL,l2];exact⟨⟨oM,oM,oM⟩,oM,.inl ⟨(),Z9,rfl,rfl,rfl⟩⟩
def y4t:RE.ok Tryz.prog 131:=ix mixed (dz yCp (dz z8x (dz yMl fx))) 0 (λ_=>[]) (λ_=>[]) [] Tryz.func131 xBe
def ySv (A B:List (List UInt8)):oZ (A++B)=oZ A++oZ B:=by rw[oZ,zk];rfl
def XL (l:List UInt8) (L:List (List UInt8)):oZ (l::L)=jA l++oZ L:=rfl
def yMd {L:List (List UInt8)} {k:Nat} {l:List UInt8} (h:L[k]? =au l):oZ (L.take (k+1))=oZ (L.take k)++jA l:=yGg h
def zVt (L:List (List UInt8)) (k:Nat):oZ L=oZ (L.take k)++oZ (L.drop k):=by rw[<- ySv,A3]
def yEg (L:List (List UInt8)):L.length<=(oZ L).length:=by
 induction L with
 |nil=>exact mg _
 |cons l L ih=>rw[XL,iQ,bY,iY];omega
def y8w (i:D2) (h:JS.du i):yYv i:=by
 obtain⟨h1,h2,h3⟩:i.ok:=h;have hn:=yEg i.L;have te:∀k,(oZ i.L).length=(oZ (i.L.take k)).length+(oZ (i.L.drop k)).length:=λk=>by
  have:=congrArg List.length (zVt i.L k);rwa [iQ]at this
 unfold yYv ez Zl ez dP;rw[xL,iQ];refine⟨0,rfl,rfl,λk=>k<=i.L.length,λk=>i.L.length-k,oQ _,λk hk=>zI (λiq=> ?_) (λiq=> ?_)⟩
 ·have hk:k<=i.L.length:=hk;have hs:=te k;have hx:(Fv.mk (oZ i.L++i.t) (oZ (i.L.take k)).length).x=Cd (oZ (i.L.drop k)++i.t):=by
   show Cd ((oZ i.L++i.t).drop _)=_;rw[zVt i.L k,km,List.drop_left]
  refine⟨⟨oZ i.L++i.t,(oZ (i.L.take k)).length⟩,rfl,rfl,⟨by dsimp only;rw[iQ];omega,by dsimp only;rw[iQ];omega⟩,λ_ e0=> ?_,λ_ e1=> ?_⟩
  ·rw[hx]at e0 ⊢;rcases vx k i.L.length with tf|tf
   ·obtain⟨l,hl⟩:=z6 tf;have hd:i.L.drop k=l::i.L.drop (k+1):=by
     rw[DQ tf];congr 1;rw[xl tf]at hl;exact Option.some.inj hl
    have FJ:=h1 l (mc hl);rw[hd,XL,km,zXq FJ];refine⟨by rw[iz,oK];omega,k+1,?_,?_,Z9,Z9,trivial⟩
    ·rw[yMd hl,iQ,bY];dsimp only;omega
    ·rw[tv,hl];simp[kq]
   ·rw[HD tf]at e0;rw[show oZ ([]:List (List UInt8))++i.t=i.t from rfl,h2]at e0;cases e0
  ·rw[hx]at e1 ⊢;rcases vx k i.L.length with tf|tf
   ·obtain⟨l,hl⟩:=z6 tf;have hd:i.L.drop k=l::i.L.drop (k+1):=by
     rw[DQ tf];congr 1;rw[xl tf]at hl;exact Option.some.inj hl
    have FJ:=h1 l (mc hl);rw[hd,XL,km,zXq FJ]at e1;exact absurd rfl e1
   ·obtain rfl:k=i.L.length:=by omega
    rw[List.drop_length,show oZ ([]:List (List UInt8))++i.t=i.t from rfl,h2,CV];exact Cv.du.mk (λe=>by cases e) (λ_=>Cv.du.mk (λ_=>⟨(),jh trivial⟩) (λe=>by cases e))
 ·have hk:k<=i.L.length:=hk;have hs:=te k;have h5:=yEg (i.L.drop k);rw[qc]at h5;obtain rfl:k=i.L.length:=by omega
  rw[CV];exact⟨(),jh trivial⟩
def yTk:JS.ok Tryz.prog 152:=ix mixed (dz y4t fx) 0 (λ_=>[]) (λi=>y7d i) [] Tryz.func152 y8w
def y2k:aaw.ok Tryz.prog 100:=ix (V:=y9y) mixed (dz ySz (dz yTk (dz yTf fx))) 0 (λ_=>[]) (λ_=>[]) [] Tryz.func100 λ(i:Cb) h=>by
 obtain⟨hs,hd⟩:(D2.mk i.L i.t).ok/\i.d.ok:=h;have e0:(bE i.d.b).length=(oZ i.L).length+i.t.length:=by rw[xL,Cb.d,iQ]
 have h3:=hs.2.2;dsimp only at h3;unfold y9y fp ez;refine⟨i.d,rfl,hd,λ_ _=>⟨⟨i.L,i.t⟩,rfl,hs,λ_ _=>zI (λc=> ?_) (λc=> ?_)⟩⟩
 ·have ht:i.t≠[]:=λe=>by rw[e0,e]at c;simp at c
  refine⟨⟨oM,by rw[e0];dsimp only;omega⟩,⟨i.d,oZ i.L⟩,?_,rfl,Z9,λ_ _=>⟨(),rfl,?_,by rw[iz],rfl,trivial⟩⟩
  ·dsimp only;rw[ml,<- On,Cb.d,Ng]
  ·rw[Cb.d',dx ht]
 ·have ht:i.t=[]:=List.length_eq_zero_iff.1 (by rw[e0]at c;dsimp only at c;omega);refine⟨(),rfl,?_,by rw[iz],rfl,trivial⟩;rw[Cb.d',fk ht]
def yTq:SP.ok Tryz.prog 49:=ix (V:=y6b) mixed (dz yOs (dz ySa fx)) 0 (λ_=>[]) (λ_=>[]) [] Tryz.func49 λ(i:W8) h=>by
 obtain⟨h1,h2,h3,h4⟩:i.l.length<=255/\i.d.b.length+i.l.length+6<=1048576/\0<=i.n/\i.n<=1048576:=h;exact⟨i.l,rfl,h1,λ_ _=>⟨⟨i.d,jA i.l⟩,rfl,rfl,by dsimp only;rw[bY];omega,λ_ _=>⟨(),rfl,by rw[iD (by omega)],rfl,trivial⟩⟩⟩
open Classical
def OQ (i:RN):i.left.length<=i.l.length:=by
 unfold RN.left;split
 ·omega
 ·rw[qc];omega
def pL {r:RB} (h:r.ok):r.byte.2.ok:=wu (OQ _) h
def fU {r:RB} (h:r.ok):r.jk.2.ok:=wu (OQ _) h
def yFx (l:List UInt8):bE l=vU ⟨l.toArray⟩:=rfl
def y7e (s:List UInt8):Prop:=
 ∃(a:Nat×Nat),(↑a.snd:Int)=0/\sb s=sb s/\a.fst=0/\∃(b:Nat×Nat->Prop),∃(c:Nat×Nat->Nat),b a/\∀(d:Nat×Nat),b d->du (d.fst.blt (sb s).size) (du (decide ((qO s d)<32)) (ez (cA s=ap/\True)) (du ((qO s d)==127) (ez (cA s=ap/\True)) (du ((qO s d)==65533) (ez (cA s=ap/\True)) (bT d s b c)))) (du (decide ((↑d.snd:Int)>=1)) (ez (cA s=decide ((↑d.snd:Int)<=12)/\True)) (ez (cA s=ap/\True)))
def Zr (a:ir):Prop:=∃(b:List UInt8),sb b=sb a.label/\b.length<=140737488355328/\fp (du (!cA b) (ez (a.gv=29/\True)) (du (decide (a.dp>=(-2000000))) (du (!decide (a.dp<=2000000)) (ez (a.gv=23/\True)) (du (decide (a.inst<0)) (ez (a.gv=20/\True)) (du (decide (a.inst>255)) (ez (a.gv=20/\True)) (ez (a.gv=0/\True))))) (ez (a.gv=23/\True))))
def yXa (c:ir):Prop:=
 du (c.side !=1) (du (c.side !=2) (ez (c.gv=21/\True)) (du (decide (c.time<1)) (ez (c.gv=27/\True)) (du (decide (c.time>3)) (ez (c.gv=27/\True)) (du (decide (c.dq>=1)) (du (!decide (c.dq<=1000000)) (ez (c.gv=24/\True)) (du (decide (c.least<0)) (ez (c.gv=28/\True)) (du (decide (c.least>c.dq)) (ez (c.gv=28/\True)) (du (!(sb c.label).toList==(ax #[]).toList) (Zr c) (du (decide (c.dp>=(-2000000))) (du (!decide (c.dp<=2000000)) (ez (c.gv=23/\True)) (du (decide (c.inst<0)) (ez (c.gv=20/\True)) (du (decide (c.inst>255)) (ez (c.gv=20/\True)) (ez (c.gv=0/\True))))) (ez (c.gv=23/\True))))))) (ez (c.gv=24/\True)))))) (du (decide (c.time<1)) (ez (c.gv=27/\True)) (du (decide (c.time>3)) (ez (c.gv=27/\True)) (du (decide (c.dq>=1)) (du (!decide (c.dq<=1000000)) (ez (c.gv=24/\True)) (du (decide (c.least<0)) (ez (c.gv=28/\True)) (du (decide (c.least>c.dq)) (ez (c.gv=28/\True)) (du (!(sb c.label).toList==(ax #[]).toList) (Zr c) (du (decide (c.dp>=(-2000000))) (du (!decide (c.dp<=2000000)) (ez (c.gv=23/\True)) (du (decide (c.inst<0)) (ez (c.gv=20/\True)) (du (decide (c.inst>255)) (ez (c.gv=20/\True)) (ez (c.gv=0/\True))))) (ez (c.gv=23/\True))))))) (ez (c.gv=24/\True)))))
def yLm (c:ir):Prop:=
 du (decide (c.kind<1)) (ez (c.right=31/\True)) (du (decide (c.kind>4)) (ez (c.right=31/\True)) (du (decide (c.id<1)) (ez (c.right=1/\True)) (du (decide (c.id>1099511627776)) (ez (c.right=1/\True)) (du (c.kind==1) (∃(a:ir),Qe a c (a.label.length<=140737488355328/\fp (ez (c.right=a.gv/\True)))) (du (c.kind !=2) (du (decide (c.dq>=1)) (du (!decide (c.dq<=1000000)) (ez (c.right=24/\True)) (du (c.kind==4) (du (decide (c.dp>=(-2000000))) (du (!decide (c.dp<=2000000)) (ez (c.right=23/\True)) (ez (c.right=0/\True))) (ez (c.right=23/\True))) (ez (c.right=0/\True)))) (ez (c.right=24/\True))) (du (c.kind==4) (du (decide (c.dp>=(-2000000))) (du (!decide (c.dp<=2000000)) (ez (c.right=23/\True)) (ez (c.right=0/\True))) (ez (c.right=23/\True))) (ez (c.right=0/\True))))))))
def xBd (s:List UInt8) (h:R8.du s):y7e s:=by
 have h:s.length<=140737488355328:=h;have hr:=Y3 s;unfold y7e ez qO bT;refine⟨(0,0),rfl,rfl,rfl,λx=>x.1<=s.length/\x.2+(fE s x.1).length=(jN s).length/\(jN s).all GI=(fE s x.1).all λx=>GI x.2,λx=>s.length-x.1,⟨oM,by rw[jN,iz];simp,by rw[jN,List.all_map];rfl⟩,?_⟩;rintro⟨p,n⟩ ⟨h1,h2,h3⟩;dsimp only at h1 h2 h3 ⊢;refine Cv.du.mk (λhp=> ?_) (λhp=> ?_)
 ·have hp:p<s.length:=by simpa[zg]using hp
  have hw:=aI s hp;rw[wC hp,iY]at h2;rw[wC hp,List.all_cons]at h3;generalize hc:(Utf8.decode (sb s) p).1=c at h2 h3 ⊢;generalize hww:(Utf8.decode (sb s) p).2=w at h2 h3 hw ⊢;dsimp only at h3;have bad:GI c=ap->∃(o:Unit),cA s=ap/\True:=λe=>⟨(),by rw[cA,h3,e];rfl,trivial⟩
  refine zI (λc1=>bad ?_) (λc1=>Cv.du.mk (λc2=>bad ?_) (λc2=>Cv.du.mk (λc3=>bad ?_) (λc3=> ?_)))
  ·simp[GI];omega
  ·have c2:(c:Int)=127:=by simpa using c2
   simp[GI];omega
  ·have c3:(c:Int)=65533:=by simpa using c3
   simp[GI];omega
  ·have c2:¬(c:Int)=127:=by simpa using c2
   have c3:¬(c:Int)=65533:=by simpa using c3
   have e:GI c=aq:=by simp[GI];omega
   refine⟨(p+w,n+1),?_,rfl,rfl,⟨hw.2,by(first|omega|(dsimp only;omega)),by rw[h3,e];rfl⟩,by(first|omega|(dsimp only;omega)),trivial⟩;rw[iD (by omega)];rfl
 ·have hp:s.length<=p:=by have:=VV hp;simpa using this
  rw[hZ hp]at h2 h3;have h2:n=(jN s).length:=h2;have h3:(jN s).all GI=aq:=h3;refine zI (λc=>⟨(),?_,trivial⟩) (λc=>⟨(),?_,trivial⟩)
  ·rw[cA,h3,<- h2,kx (show 1<=n by omega)];simp only[qj];congr 1;simp only[eq_iff_iff];omega
  ·rw[cA,<- h2,jq (show ¬1<=n by omega)];simp
def y4n:R8.ok Tryz.prog 201:=ix mixed fx 0 (λ_=>[]) (λs=>xBy s) [] Tryz.func201 xBd
def xAt (a b:Int):(a==b)=decide (a=b):=by
 by_cases h:a=b
 ·subst h;simp
 ·simp[h]
def y6k (a b:Int):(a !=b)=decide (a≠b):=by
 by_cases h:a=b
 ·subst h;simp
 ·simp[h]
def eqB (a b:List UInt8):((sb a).toList==(sb b).toList)=decide (a=b):=by
 rw[sM,sM];by_cases h:a=b
 ·subst h;simp
 ·simp[h]
def y2r:ax #[]=sb []:=rfl
def y8h (c:ir) (h:DF.du c):yXa c:=by
 have h:c.label.length<=140737488355328:=h;unfold yXa ez Zr fp ez;simp only[y2r,eqB,y6k];have tail:¬(c.side≠1/\c.side≠2)->du (decide (c.time<1)) (∃(o:Unit),c.gv=27/\True) (du (decide (c.time>3)) (∃(o:Unit),c.gv=27/\True) (du (decide (c.dq>=1)) (du (!decide (c.dq<=1000000)) (∃(o:Unit),c.gv=24/\True) (du (decide (c.least<0)) (∃(o:Unit),c.gv=28/\True) (du (decide (c.least>c.dq)) (∃(o:Unit),c.gv=28/\True) (du (!decide (c.label=[])) (∃(i:List UInt8),sb i=sb c.label/\i.length<=140737488355328/\∀(o:Unit),True->du (!cA i) (∃(o:Unit),c.gv=29/\True) (du (decide (c.dp>=-2000000)) (du (!decide (c.dp<=2000000)) (∃(o:Unit),c.gv=23/\True) (du (decide (c.inst<0)) (∃(o:Unit),c.gv=20/\True) (du (decide (c.inst>255)) (∃(o:Unit),c.gv=20/\True) (∃(o:Unit),c.gv=0/\True)))) (∃(o:Unit),c.gv=23/\True))) (du (decide (c.dp>=-2000000)) (du (!decide (c.dp<=2000000)) (∃(o:Unit),c.gv=23/\True) (du (decide (c.inst<0)) (∃(o:Unit),c.gv=20/\True) (du (decide (c.inst>255)) (∃(o:Unit),c.gv=20/\True) (∃(o:Unit),c.gv=0/\True)))) (∃(o:Unit),c.gv=23/\True)))))) (∃(o:Unit),c.gv=24/\True))):=by
  intro hs;have e1:c.gv=if c.time<1\/3<c.time then 27 else if jD c.dq=ap then 24 else if c.least<0\/c.dq<c.least then 28
   else if c.label≠[]/\cA c.label=ap then 29 else if uK c.dp=ap then 23 else if c.inst<0\/255<c.inst then 20 else 0:=by rw[ir.gv,dx hs]
  refine zI (λd1=>⟨(),by rw[e1,fk (.inl d1)],trivial⟩) λd1=>zI (λd2=>⟨(),by rw[e1,fk (.inr d2)],trivial⟩) λd2=> ?_
  rw[dx (by omega)]at e1;have q (hq:jD c.dq=ap):∃(o:Unit),c.gv=24/\True:=⟨(),by rw[e1,fk hq],trivial⟩
  refine zI (λd3=>Cv.du.mk (λd4=>q ?_) λd4=> ?_) λd3=>q ?_
  ·have d4:¬c.dq<=1000000:=by simpa using d4
   simp[jD,d4]
  ·have d4:c.dq<=1000000:=by simpa using d4
   have hq:¬jD c.dq=ap:=by simp[jD,d4];omega
   rw[dx hq]at e1;refine zI (λd5=>⟨(),by rw[e1,fk (.inl d5)],trivial⟩) λd5=>zI (λd6=>⟨(),by rw[e1,fk (.inr d6)],trivial⟩) λd6=> ?_
   rw[dx (by omega)]at e1;have last:¬(c.label≠[]/\cA c.label=ap)->du (decide (c.dp>=-2000000)) (du (!decide (c.dp<=2000000)) (∃(o:Unit),c.gv=23/\True) (du (decide (c.inst<0)) (∃(o:Unit),c.gv=20/\True) (du (decide (c.inst>255)) (∃(o:Unit),c.gv=20/\True) (∃(o:Unit),c.gv=0/\True)))) (∃(o:Unit),c.gv=23/\True):=by
    intro hl;rw[dx hl]at e1;have pr (hq:uK c.dp=ap):∃(o:Unit),c.gv=23/\True:=⟨(),by rw[e1,fk hq],trivial⟩
    refine zI (λg1=>Cv.du.mk (λg2=>pr ?_) λg2=> ?_) λg1=>pr ?_
    ·have g2:¬c.dp<=2000000:=by simpa using g2
     simp[uK,g2]
    ·have g2:c.dp<=2000000:=by simpa using g2
     have hp:¬uK c.dp=ap:=by simp[uK,g2];omega
     rw[dx hp]at e1;refine zI (λg3=>⟨(),by rw[e1,fk (.inl g3)],trivial⟩) λg3=>zI (λg4=>⟨(),by rw[e1,fk (.inr g4)],trivial⟩) λg4=>⟨(),by rw[e1,dx (by omega)],trivial⟩
    ·simp[uK];omega
   refine Cv.du.mk (λd7=>⟨c.label,rfl,h,λ_ _=>Cv.du.mk (λd8=> ?_) λd8=>last ?_⟩) λd7=>last ?_
   ·have d7:¬c.label=[]:=by simpa using d7
    have d8:cA c.label=ap:=by simpa using d8
    exact⟨(),by rw[e1,fk ⟨d7,d8⟩],trivial⟩
   ·have d8:cA c.label=aq:=by simpa using d8
    simp[d8]
   ·have d7:c.label=[]:=by simpa using d7
    simp[d7]
  ·simp[jD];omega
 refine zI (λc1=>zI (λc2=>⟨(),by rw[ir.gv,fk ⟨c1,c2⟩],trivial⟩) λc2=>tail ?_) λc1=>tail ?_
 ·omega
 ·omega
def yUx:DF.ok Tryz.prog 165:=ix mixed (dz y4n fx) 1 (λ_=>[]) (λ_=>[]) [] Tryz.func165 y8h
def y4k (c:ir) (h:Gl.du c):yLm c:=by
 have h:c.label.length<=140737488355328:=h;unfold yLm fp ez Qe;simp only[xAt,y6k];refine zI (λc1=>⟨(),by rw[ir.right,fk (.inl c1)],trivial⟩) λc1=>zI (λc2=>⟨(),by rw[ir.right,fk (.inr c2)],trivial⟩) λc2=> ?_
 refine zI (λc3=>⟨(),by rw[ir.right,dx (by omega),fk (.inl c3)],trivial⟩) λc3=>zI (λc4=>⟨(),by rw[ir.right,dx (by omega),fk (.inr c4)],trivial⟩) λc4=> ?_
 have e0:c.right=if c.kind=1 then c.gv else if c.kind≠2/\jD c.dq=ap then 24 else if c.kind=4/\uK c.dp=ap then 23 else 0:=by rw[ir.right,dx (by omega),dx (by omega)]
 refine zI (λc5=>⟨c,?_⟩) λc5=> ?_
 ·rw[fk c5]at e0;exact kp
 rw[dx c5]at e0;have last (hn:¬(c.kind≠2/\jD c.dq=ap)):du (decide (c.kind=4)) (du (decide (c.dp>=-2000000)) (du (!decide (c.dp<=2000000)) (∃(o:Unit),c.right=23/\True) (∃(o:Unit),c.right=0/\True)) (∃(o:Unit),c.right=23/\True)) (∃(o:Unit),c.right=0/\True):=by
  rw[dx hn]at e0;refine zI (λd1=>zI (λd2=>Cv.du.mk (λd3=> ?_) λd3=> ?_) λd2=> ?_) λd1=> ?_
  ·have d3:¬c.dp<=2000000:=by simpa using d3
   exact⟨(),by rw[e0,fk ⟨d1,by simp[uK,d3]⟩],trivial⟩
  ·have d3:c.dp<=2000000:=by simpa using d3
   exact⟨(),by rw[e0,dx (by simp[uK,d3];omega)],trivial⟩
  ·exact⟨(),by rw[e0,fk ⟨d1,by simp[uK];omega⟩],trivial⟩
  ·exact⟨(),by rw[e0,dx (by simp[d1])],trivial⟩
 refine zI (λd1=>zI (λd2=>Cv.du.mk (λd3=> ?_) λd3=>last ?_) λd2=> ?_) λd1=>last ?_
 ·have d3:¬c.dq<=1000000:=by simpa using d3
  exact⟨(),by rw[e0,fk ⟨d1,by simp[jD,d3]⟩],trivial⟩
 ·have d3:c.dq<=1000000:=by simpa using d3
  simp[jD,d3];omega
 ·exact⟨(),by rw[e0,fk ⟨d1,by simp[jD];omega⟩],trivial⟩
 ·omega
def XZ:Gl.ok Tryz.prog 115:=ix mixed (dz yUx fx) 1 (λ_=>[]) (λ_=>[]) [] Tryz.func115 y4k
def L7:gx:=gh RB (λi=>[.nm 0 0]) (λi=>[Rv i]) RB.ok (λi=>sV i.text.1) (λi=>[Rv i.text.2])
structure Ru where
 l:List UInt8
 s:List UInt8
def Kj:gx:=gh (List UInt8) (λb=>[ru 1 (bE b)]) (λ_=>[]) (λb=>b.length<=1099511627776) (λb=> .jm [CP (xS b).1,zB (xS b).2]) (λ_=>[])
def y7g:List (Nat×ib):=[(12,bj 19),(26,{ι:=ir×RB,dv:=λ_=>[(4,.nm 0 0),(5,.nm 1 0)],rows:=λx=>[Rv x.2,.cells x.1.cells 46],qo:=λ_=>[(4,.nm 0 0),(5,.nm 1 0)],nf:=λx=>[Rv x.2,.cells x.1.cells 46]})]
def y1f (i:RB):Prop:=
 ∃(iC:RB),aa (List UInt8×Bool) 1 oH (iC.l,iC.b)=Rv i/\iC.l.length<=1099511627776/\∀(o:Unit),True->∃(oy:RN),(↑oy.n:Int)=kA (iC.n 1).mr/\aa (List UInt8×Bool) 1 oH (oy.l,oy.b)=aa (List UInt8×Bool) 1 oH ((iC.n 1).left,(iC.n 1).bad)/\(oy.n<=255/\oy.l.length<=1099511627776)/\∀(o:Unit),True->∃(b:ByteArray),dm ((1:Nat))/\bE oy.mr=vU b/\∃(o:Unit),sb ((RB.mk (i.n 1).left (i.n 1).bad).n (kA (i.n 1).mr).toNat).mr=b/\aa (List UInt8×Bool) 1 oH (((RB.mk (i.n 1).left (i.n 1).bad).n (kA (i.n 1).mr).toNat).left,((RB.mk (i.n 1).left (i.n 1).bad).n (kA (i.n 1).mr).toNat).bad)=aa (List UInt8×Bool) 1 oH (oy.left,oy.bad)/\True
def Zm:Prop:=ab (Sx.V.agg [V.d (dI 0),V.d (dI 0),V.d (dI 0),V.d (dI 0),V.d (dI 0),V.d (dI 0),V.d (dI 0),V.d (dI 0),V.d jL]).cl 46=ab (Sx.V.agg [V.d (dI 0),V.d (dI 0),V.d (dI 0),V.d (dI 0),V.d (dI 0),V.d (dI 0),V.d (dI 0),V.d (dI 0),V.d jL]).cl 46
def X5 (a:Bool->Prop) (b:Bool) (c:RB):Prop:=a b/\dm (ab [V.d (dI (kA (c.n 1).mr)),V.d (dI 0),V.d (dI 0),V.d (dI 0),V.d (dI 0),V.d (dI 0),V.d (dI 0),V.d (dI 0),V.d jL] 46)/\dm (aa (List UInt8×Bool) 1 oH ((c.n 1).left,(c.n 1).bad))/\Zm
def ZI (a:ir×RB->Prop) (b:ir×RB):Prop:=a b/\Zm
def ZA (a:ir×RB) (b:ir×RB) (c:ir×RB->Prop):Prop:=a.fst.least=b.fst.least/\a.fst.time=b.fst.time/\sb a.fst.label=sb b.fst.label/\ZI c a
def ZS (a:ir×RB) (b:RB) (c:ir×RB) (d:ir×RB->Prop):Prop:=a.fst.dq=aj.wrap (kA (b.n 8).mr)/\ZA a c d
def UG (a:RB):=((RB.mk (a.n 1).left (a.n 1).bad).n (kA (a.n 1).mr).toNat)
def yYn (b:List UInt8):Prop:=
 ∃(a:List UInt8),bE a=bE b/\a.length<=1099511627776/\fp (∃(d:RB),aa (List UInt8×Bool) 1 oH (d.l,d.b)=aa (List UInt8×Bool) 1 oH (a,ap)/\d.l.length<=1099511627776/\fp (∃(f:Bool),∃(g:Bool->Prop),du (decide (kA (d.n 1).mr<1)) (∃(h:Bool),h=aq/\X5 g h d) (∃(h:Bool),h=decide (kA (d.n 1).mr>4)/\X5 g h d)/\∀(h:Bool),g h->du h (ez ((xS b).fst.kind=0/\(xS b).fst.id=0/\(xS b).fst.inst=0/\(xS b).fst.side=0/\(xS b).fst.dp=0/\(xS b).fst.dq=0/\(xS b).fst.least=0/\(xS b).fst.time=0/\sb (xS b).fst.label=ax #[]/\(xS b).snd=31/\True)) (∃(j:RB),aa (List UInt8×Bool) 1 oH (j.l,j.b)=aa (List UInt8×Bool) 1 oH ((d.n 1).left,(d.n 1).bad)/\j.l.length<=1099511627776/\fp (∃(l:ir×RB),aa (List UInt8×Bool) 1 oH (l.snd.l,l.snd.b)=aa (List UInt8×Bool) 1 oH ((j.n 8).left,(j.n 8).bad)/\l.fst.kind=kA (d.n 1).mr/\l.fst.id=aj.wrap (kA (j.n 8).mr)/\l.fst.inst=0/\l.fst.side=0/\l.fst.dp=0/\l.fst.dq=0/\l.fst.least=0/\l.fst.time=0/\sb l.fst.label=ax #[]/\∃(m:ir×RB->Prop),du (l.fst.kind==1) (∃(n:RB),aa (List UInt8×Bool) 1 oH (n.l,n.b)=aa (List UInt8×Bool) 1 oH (l.snd.l,l.snd.b)/\n.l.length<=1099511627776/\fp (∃(q:RB),aa (List UInt8×Bool) 1 oH (q.l,q.b)=aa (List UInt8×Bool) 1 oH ((n.n 1).left,(n.n 1).bad)/\q.l.length<=1099511627776/\fp (∃(s:RB),aa (List UInt8×Bool) 1 oH (s.l,s.b)=aa (List UInt8×Bool) 1 oH ((q.n 1).left,(q.n 1).bad)/\s.l.length<=1099511627776/\fp (∃(u:RB),aa (List UInt8×Bool) 1 oH (u.l,u.b)=aa (List UInt8×Bool) 1 oH ((s.n 1).left,(s.n 1).bad)/\u.l.length<=1099511627776/\fp (∃(w:RB),aa (List UInt8×Bool) 1 oH (w.l,w.b)=aa (List UInt8×Bool) 1 oH ((u.n 8).left,(u.n 8).bad)/\w.l.length<=1099511627776/\fp (∃(y:RB),aa (List UInt8×Bool) 1 oH (y.l,y.b)=aa (List UInt8×Bool) 1 oH ((w.n 8).left,(w.n 8).bad)/\y.l.length<=1099511627776/\fp (∃(ma:RB),aa (List UInt8×Bool) 1 oH (ma.l,ma.b)=aa (List UInt8×Bool) 1 oH ((y.n 8).left,(y.n 8).bad)/\ma.ok/\fp (∃(lh:ir×RB),aa (List UInt8×Bool) 1 oH (lh.snd.l,lh.snd.b)=aa (List UInt8×Bool) 1 oH ((UG ma).left,(UG ma).bad)/\lh.fst.kind=l.fst.kind/\lh.fst.id=l.fst.id/\lh.fst.inst=kA (n.n 1).mr/\lh.fst.side=kA (q.n 1).mr/\lh.fst.dp=aj.wrap (kA (u.n 8).mr)/\lh.fst.dq=aj.wrap (kA (w.n 8).mr)/\lh.fst.least=aj.wrap (kA (y.n 8).mr)/\lh.fst.time=kA (s.n 1).mr/\sb lh.fst.label=sb (UG ma).mr/\ZI m lh)))))))) (du (l.fst.kind==3) (∃(n:RB),aa (List UInt8×Bool) 1 oH (n.l,n.b)=aa (List UInt8×Bool) 1 oH (l.snd.l,l.snd.b)/\n.l.length<=1099511627776/\fp (∃(q:ir×RB),aa (List UInt8×Bool) 1 oH (q.snd.l,q.snd.b)=aa (List UInt8×Bool) 1 oH ((n.n 8).left,(n.n 8).bad)/\q.fst.kind=l.fst.kind/\q.fst.id=l.fst.id/\q.fst.inst=l.fst.inst/\q.fst.side=l.fst.side/\q.fst.dp=l.fst.dp/\ZS q n l m)) (du (l.fst.kind==4) (∃(n:RB),aa (List UInt8×Bool) 1 oH (n.l,n.b)=aa (List UInt8×Bool) 1 oH (l.snd.l,l.snd.b)/\n.l.length<=1099511627776/\fp (∃(q:RB),aa (List UInt8×Bool) 1 oH (q.l,q.b)=aa (List UInt8×Bool) 1 oH ((n.n 8).left,(n.n 8).bad)/\q.l.length<=1099511627776/\fp (∃(s:ir×RB),aa (List UInt8×Bool) 1 oH (s.snd.l,s.snd.b)=aa (List UInt8×Bool) 1 oH ((q.n 8).left,(q.n 8).bad)/\s.fst.kind=l.fst.kind/\s.fst.id=l.fst.id/\s.fst.inst=l.fst.inst/\s.fst.side=l.fst.side/\s.fst.dp=aj.wrap (kA (n.n 8).mr)/\ZS s q l m))) (∃(n:ir×RB),aa (List UInt8×Bool) 1 oH (n.snd.l,n.snd.b)=aa (List UInt8×Bool) 1 oH (l.snd.l,l.snd.b)/\n.fst.kind=l.fst.kind/\n.fst.id=l.fst.id/\n.fst.inst=l.fst.inst/\n.fst.side=l.fst.side/\n.fst.dp=l.fst.dp/\n.fst.dq=l.fst.dq/\ZA n l m)))/\∀(n:ir×RB),m n->∃(p:RB),aa (List UInt8×Bool) 1 oH (p.l,p.b)=aa (List UInt8×Bool) 1 oH (n.snd.l,n.snd.b)/\p.l.length<=1099511627776/\fp (du ((if p.b=aq then(10:Int)else if 0<p.l.length then(15:Int)else(0:Int)) !=0) (ez ((xS b).fst.kind=0/\(xS b).fst.id=0/\(xS b).fst.inst=0/\(xS b).fst.side=0/\(xS b).fst.dp=0/\(xS b).fst.dq=0/\(xS b).fst.least=0/\(xS b).fst.time=0/\sb (xS b).fst.label=ax #[]/\(xS b).snd=12/\True)) (∃(r:ir),r.kind=n.fst.kind/\r.id=n.fst.id/\r.inst=n.fst.inst/\r.side=n.fst.side/\r.dp=n.fst.dp/\r.dq=n.fst.dq/\r.least=n.fst.least/\r.time=n.fst.time/\sb r.label=sb n.fst.label/\r.label.length<=140737488355328/\fp (du (r.right !=0) (ez ((xS b).fst.kind=0/\(xS b).fst.id=0/\(xS b).fst.inst=0/\(xS b).fst.side=0/\(xS b).fst.dp=0/\(xS b).fst.dq=0/\(xS b).fst.least=0/\(xS b).fst.time=0/\sb (xS b).fst.label=ax #[]/\(xS b).snd=r.right/\True)) (ez ((xS b).fst.kind=n.fst.kind/\(xS b).fst.id=n.fst.id/\(xS b).fst.inst=n.fst.inst/\(xS b).fst.side=n.fst.side/\(xS b).fst.dp=n.fst.dp/\(xS b).fst.dq=n.fst.dq/\(xS b).fst.least=n.fst.least/\(xS b).fst.time=n.fst.time/\sb (xS b).fst.label=sb n.fst.label/\(xS b).snd=0/\True)))))))))
def z4l (r:RB):0<=r.byte.1/\r.byte.1<=255:=by
 have h:=nC (r.n 1).mr;have hl:(r.n 1).mr.length<=1:=TU (r.n 1);show 0<=kA (r.n 1).mr/\kA (r.n 1).mr<=255;obtain e|e:(r.n 1).mr.length=0\/(r.n 1).mr.length=1:=by omega
 ·rw[e]at h;omega
 ·rw[e]at h;omega
def yTu {r:RB} (h:r.ok):r.text.2.ok:=wu (OQ _) (wu (OQ _) h)
def yPv:L7.ok Tryz.prog 192:=ix (V:=y1f) mixed (dz z5e (dz yCu fx)) 0 (λ_=>[]) (λ_=>[]) [] Tryz.func192 λ(i:RB) h=>by
 have h:i.l.length<=1099511627776:=h;have hb:=z4l i;exact⟨i,rfl,h,λ_ _=>⟨⟨(i.n 1).left,(i.n 1).bad,i.byte.1.toNat⟩,by dsimp only;exact Int.toNat_of_nonneg hb.1,rfl,⟨Z9,wu (OQ _) h⟩,λ_ _=>⟨_,rfl,yFx _,(),rfl,rfl,trivial⟩⟩⟩
def yZg {k id:Int} {r:RB} (h:r.ok):(qE k id r).2.ok/\(qE k id r).1.label.length<=255:=by
 rw[qE];split
 ·have h6:=fU (fU (fU (pL (pL (pL h)))));refine⟨yTu h6,?_⟩;show(RB.text (r.byte.2.byte.2.byte.2.jk.2.jk.2.jk.2)).1.length<=255;generalize r.byte.2.byte.2.byte.2.jk.2.jk.2.jk.2=q;have:=z4l q;have:(q.text.1).length<=q.byte.1.toNat:=TU _;omega
 split
 ·exact⟨fU h,oQ _⟩
 split
 ·exact⟨fU (fU h),oQ _⟩
 ·exact⟨h,oQ _⟩
def y6z (b:List UInt8) (h:Kj.du b):yYn b:=by
 have h:b.length<=1099511627776:=h;obtain⟨r0,hr⟩:∃r0,r0=RB.mk b ap:=⟨_,rfl⟩
 have G8:r0.ok:=by rw[hr];exact h
 have tf:=pL G8;have HU:=fU tf;have BC:xS b=if r0.byte.1<1\/4<r0.byte.1 then(Hl,31)else if(qE r0.byte.1 r0.byte.2.jk.1 r0.byte.2.jk.2).2.vp≠0 then(Hl,12)else if(qE r0.byte.1 r0.byte.2.jk.1 r0.byte.2.jk.2).1.right≠0 then(Hl,(qE r0.byte.1 r0.byte.2.jk.1 r0.byte.2.jk.2).1.right)else((qE r0.byte.1 r0.byte.2.jk.1 r0.byte.2.jk.2).1,0):=by
  rw[hr];rfl
 unfold yYn fp ez X5 UG ZS ZA ZI Zm jL dI;generalize xS b=X at BC ⊢;refine⟨b,rfl,h,λ_ _=>⟨r0,by rw[hr],G8,λ_ _=>⟨aq,λx=>x=decide (r0.byte.1<1\/4<r0.byte.1),zI (λe=>⟨aq,rfl,(kx (.inl e)).symm,ic⟩) (λe=>⟨_,rfl,decide_eq_decide.2 ⟨.inr,λx=>x.resolve_left e⟩,ic⟩),?_⟩⟩⟩;rintro _ rfl;refine zI (λe=> ?_) (λe=> ?_)
 ·rw[BC,fk e];exact⟨(),rn (jh trivial)⟩
 rw[dx e]at BC;generalize hk:r0.byte.1=k at BC;refine⟨r0.byte.2,rfl,tf,λ_ _=>⟨(⟨r0.byte.1,r0.byte.2.jk.1,0,0,0,0,0,0,[]⟩,r0.byte.2.jk.2),oE (jh ⟨rfl,λx=>x=qE r0.byte.1 r0.byte.2.jk.1 r0.byte.2.jk.2,?_,?_⟩)⟩⟩
 ·generalize r0.byte.2.jk.2=r2 at*;generalize r0.byte.2.jk.1=id at*;rw[hk];refine Cv.du.mk (λe=> ?_) (λe1=>Cv.du.mk (λe=> ?_) (λe3=>Cv.du.mk (λe=> ?_) (λe4=> ?_)))
  ·have e:k=1:=by simpa using e
   have h1:=pL HU;have h2:=pL h1;have h3:=pL h2;have h4:=fU h3;have h5:=fU h4;have h6:=fU h5;exact⟨r2,rfl,HU,λ_ _=>⟨_,rfl,h1,λ_ _=>⟨_,rfl,h2,λ_ _=>⟨_,rfl,h3,λ_ _=>⟨_,rfl,h4,λ_ _=>⟨_,rfl,h5,λ_ _=>⟨_,rfl,h6,λ_ _=>⟨qE k id r2,by rw[qE,fk e];rfl,by rw[qE,fk e],by rw[qE,fk e],by rw[qE,fk e];rfl,by rw[qE,fk e];rfl,by rw[qE,fk e];rfl,by rw[qE,fk e];rfl,by rw[qE,fk e];rfl,by rw[qE,fk e];rfl,by rw[qE,fk e];rfl,rfl,ic⟩⟩⟩⟩⟩⟩⟩⟩
  ·have e1:¬k=1:=by simpa using e1
   have e:k=3:=by simpa using e
   have hd:qE k id r2=(⟨k,id,0,0,0,r2.jk.1,0,0,[]⟩,r2.jk.2):=by rw[qE,dx e1,fk e]
   exact⟨r2,rfl,HU,λ_ _=>⟨(⟨k,id,0,0,0,r2.jk.1,0,0,[]⟩,r2.jk.2),oE (jh ⟨rfl,hd.symm,ic⟩)⟩⟩
  ·have e1:¬k=1:=by simpa using e1
   have e3:¬k=3:=by simpa using e3
   have e:k=4:=by simpa using e
   have hd:qE k id r2=(⟨k,id,0,0,r2.jk.1,r2.jk.2.jk.1,0,0,[]⟩,r2.jk.2.jk.2):=by rw[qE,dx e1,dx e3,fk e]
   exact⟨r2,rfl,HU,λ_ _=>⟨_,rfl,fU HU,λ_ _=>⟨(⟨k,id,0,0,r2.jk.1,r2.jk.2.jk.1,0,0,[]⟩,r2.jk.2.jk.2),oE (jh ⟨rfl,hd.symm,ic⟩)⟩⟩⟩
  ·have e1:¬k=1:=by simpa using e1
   have e3:¬k=3:=by simpa using e3
   have e4:¬k=4:=by simpa using e4
   have hd:qE k id r2=(⟨k,id,0,0,0,0,0,0,[]⟩,r2):=by rw[qE,dx e1,dx e3,dx e4]
   exact⟨(⟨k,id,0,0,0,0,0,0,[]⟩,r2),oE (jh ⟨rfl,hd.symm,ic⟩)⟩
 ·rintro x hx;obtain⟨o1,o2⟩:=yZg (k:=r0.byte.1) (id:=r0.byte.2.jk.1) HU;rw[<- hx]at o1 o2;rw[<- hk,<- hx]at BC;obtain⟨c,q⟩:=x;refine⟨q,rfl,o1,λ_ _=>Cv.du.mk (λe=> ?_) (λe=>⟨c,iH ⟨rfl,wu o2 Z8,λ_ _=>Cv.du.mk (λe2=> ?_) (λe2=> ?_)⟩⟩)⟩
  ·have e:q.vp≠0:=by simpa[RB.vp]using e
   rw[BC,fk e];exact⟨(),rn (jh trivial)⟩
  ·have e:¬q.vp≠0:=by simpa[RB.vp]using e
   have e2:c.right≠0:=by simpa using e2
   rw[BC,dx e,fk e2];exact⟨(),rn (jh trivial)⟩
  ·have e:¬q.vp≠0:=by simpa[RB.vp]using e
   have e2:¬c.right≠0:=by simpa using e2
   rw[BC,dx e,dx e2];exact⟨(),rn (jh trivial)⟩
def yUt:Kj.ok Tryz.prog 156:=ix mixed (dz yCp (dz z5e (dz yKx (dz yPv (dz yTd (dz XZ fx)))))) 0 (λ_=>y7g) (λ_=>[]) [] Tryz.func156 y6z
structure B8 where
 s:ia
 p:fj
 B:List (List zE)
 inst:Int
 sd:Bool
@[reducible] def B8.ok (i:B8):Prop:=i.s.fy i.p i.B/\i.B.length<=1000
def HY (B:List (List zE)) (inst:Int):List zE:=if inst<0 then[]else B.getD inst.toNat []
def JP:gx:=gh B8 (λi=>[.nm 0 0,zB i.inst,zB (zA i.sd)]) (λi=>[zD i.s]) (λi=>i.ok) (λ_=> .own 1) (λi=>[zD i.s,.own 177 3 ((x7 (HY i.B i.inst) (zA i.sd)).map my)])
def mN (a:B8):=(x7 (HY a.B a.inst) (zA a.sd))
def Y0 (a:B8):Prop:=ez (Qc a.s.p (dm (ae 211 dt 6 zR a.s.fc av)/\QB a.s (am my (mN a)=[]/\True)))
def yYg (i:B8):Prop:=
 du (decide (i.inst>=0)) (du (!decide (i.inst<(↑i.s.fc.length:Int))) (Y0 i) ((0<=i.inst/\i.inst<(↑i.s.fc.length:Int))/\i.inst.toNat<i.s.fc.length/\∃(a:dt),i.s.fc[i.inst.toNat]?=au a/\∃(b:BkT),zA b.s=zA i.sd/\yE b.b=yE a/\b.b.fy b.L/\fp (∃(d:dt),yE b.b=yE d/\EK i.inst i.s.fc (ez (Qc i.s.p (ae 211 dt 6 zR i.s.fc av=ae 211 dt 6 zR (i.s.fc.set i.inst.toNat d) av/\QB i.s (am my (mN i)=am my (x7 b.L (zA b.s))/\True))))))) (Y0 i)
def yTp {B:List (List zE)} {inst:Int} {L:List zE} (h0:0<=inst) (hL:B[inst.toNat]? =au L):HY B inst=L:=by
 rw[HY,dx (by omega),zJ hL]
def yVn {B:List (List zE)} {inst:Int} (h:inst<0\/(B.length:Int)<=inst):HY B inst=[]:=by
 rw[HY];split
 ·rfl
 ·rw[mi,ue (by omega)];rfl
def y6a (i:B8) (h:JP.du i):yYg i:=by
 obtain⟨hR,hB⟩:i.s.fy i.p i.B/\i.B.length<=1000:=h;have wg:=hR.bl;have out (hx:i.inst<0\/(i.B.length:Int)<=i.inst):am my (x7 (HY i.B i.inst) (zA i.sd))=[]:=by
  rw[yVn hx];rfl
 unfold yYg QB EK fp ez Qc Y0 QB ez Qc mN;refine zI (λc=>Cv.du.mk (λd=> ?_) (λd=> ?_)) (λc=> ?_)
 ·have d:¬i.inst<(i.s.fc.length:Int):=by simpa using d
  rw[out (.inr (by omega))];exact⟨(),ic⟩
 ·have d:i.inst<(i.s.fc.length:Int):=by simpa using d
  obtain⟨b,hb⟩:=z6 (l:=i.s.fc) (i:=i.inst.toNat) oM;obtain⟨L,hL⟩:=z6 (l:=i.B) (i:=i.inst.toNat) oM;refine⟨⟨c,d⟩,oM,b,hb,⟨b,L,i.sd⟩,rfl,rfl,hR.bk _ b L hb hL,λ_ _=>⟨b,rfl,rfl,oM,?_⟩⟩;rw[kL hb,yTp c hL];exact⟨(),ic⟩
 ·rw[out (.inl (by omega))];exact⟨(),ic⟩
def yUi:JP.ok Tryz.prog 94:=ix mixed (dz y3t fx) 1 (λ_=>[]) (λ_=>[]) [0] Tryz.func94 y6a
def B0 (s:Int) (F:List zE):Prop:=F.Pairwise λo o'=>jj s o'.dp o.dp=ap
def jY (L:List zE) (s:Int):List zE:=L.filter λo=>decide (o.side=s)
structure lu (p:fj) (B:List (List zE)):Prop where
 ok:jo p B
 od:VS B
 ub:((su 0 B).map (·.1)).Nodup
 uo:∀(k:Nat) (L:List zE),B[k]? =au L->∀s,s=1\/s=2->B0 s (jY L s)
def yNv {s x y:Int} (h:jj s y x=ap) (h2:jj s x y=ap):x=y:=by
 rw[jj]at h h2;split at h
 ·rename_i e;rw[fk e]at h2;have:=Fa h;have:=Fa h2;omega
 ·rename_i e;rw[dx e]at h2;have:=Fa h;have:=Fa h2;omega
def z5v {s:Int} {b:dt} {Q:List (List Nat)}:∀{R:List xV},(R.Pairwise λr r'=>jj s r.dp r'.dp=aq)->B0 s (R.flatMap (b.iv Q s))
 |[],_=>List.Pairwise.nil
 |r::R,h=>by
  rw[Ew]at h;rw[xu,B0,List.pairwise_append];refine⟨List.pairwise_of_forall_mem_list λo ho o' ln=> ?_,z5v h.2,λo ho o' ln=> ?_⟩
  ·rw[(qS ho).2,(qS ln).2];exact eU _ _
  ·obtain⟨r',oB,ln⟩:=yg.1 ln;rw[(qS ho).2,(qS ln).2];exact z1p (h.1 r' oB)
def dt.fy.uo {b:dt} {L:List zE} (h:b.fy L) {s:Int} (hs:s=1\/s=2):B0 s (jY L s):=by
 obtain⟨Q,c,ht,rfl⟩:=h;rw[jY,zXp hs];exact z5v (c.uo s hs)
def ia.fy.wf {s:ia} {p:fj} {B:List (List zE)} (h:s.fy p B) (hb:jo p B):lu p B:=by
 refine⟨hb,h.oI,h.ids,λk L hL=> ?_⟩;obtain⟨b,hb⟩:=z6 (l:=s.fc) (i:=k) (by rw[h.bl];exact(ju.1 hL).1);exactλs hs=>(h.bk k b L hb hL).uo hs
def yQl {L:List zE} (h:∀o∈L,Kr o) (hn:(L.map (·.id)).Nodup) (id q:Int):∀o∈(x4 L id q).1,Kr o:=by
 intro o ho;rw[x4]at ho;split at ho
 ·exact h o ho
 split at ho
 ·exact h o ho
 rename_i hb;obtain⟨o',ln,e⟩:=HB.1 ho;have h0:=h o' ln;split at e
 ·rename_i e1;have hg:=gY hn ln;rw[e1]at hg;rw[hg]at hb;split at e
  ·cases e
  ·rename_i e2;cases e;have:=h0.q;exact⟨h0.s,Z9⟩
 ·cases e;exact h0
def yMk (L:List zE) (id q:Int):(x4 L id q).1.length<=L.length:=by
 rw[x4];split
 ·exact mg _
 split
 ·exact mg _
 exact List.length_filterMap_le _ _
def yLs {L:List zE} {s:Int} (h:B0 s (jY L s)) (id q:Int):B0 s (jY (x4 L id q).1 s):=by
 rw[x4];split
 ·exact h
 split
 ·exact h
 have e:jY (yU L id q) s=yU (jY L s) id q:=by
  rw[jY,jY,yU,yU,List.filter_filterMap,List.filterMap_filter];refine u0 λo _=> ?_
  by_cases e1:o.id=id
  ·rw[fk e1];by_cases e2:o.dq=q
   ·rw[fk e2];simp
   ·rw[dx e2];by_cases e3:o.side=s<;>simp[aw,e3]
  ·rw[dx e1];by_cases e3:o.side=s<;>simp[aw,e3]
 rw[e,yU];refine List.Pairwise.filterMap _ (λa a' haa b hb b' Ao=> ?_) h;have g:∀{a b:zE},(if a.id=id then(if a.dq=q then av else au {a with dq:=a.dq-q})else au a)=au b->b.dp=a.dp:=by
  intro a b e;split at e
  ·split at e
   ·cases e
   ·cases e;rfl
  ·cases e;rfl
 rw[g hb,g Ao];exact haa
def ySd {B:List (List zE)} (h:((su 0 B).map (·.1)).Nodup) {k:Nat} {L L':List zE} (hL:B[k]? =au L) (hs:(L'.map (·.id)).Sublist (L.map (·.id))):((su 0 (B.set k L')).map (·.1)).Nodup:=by
 have hk:=(ju.1 hL).1;obtain⟨rest,hr⟩:=TX (B:=B) 0 k hk;have h0:=hr L;rw[kL hL]at h0;have h1:=(h0.map (·.1)).nodup_iff.1 h
 refine((hr L').map (·.1)).nodup_iff.2 ?_
 rw[jz,xi]at h1 ⊢;exact h1.sublist (List.Sublist.append hs (List.Sublist.refl _))
def lu.take {p:fj} {B:List (List zE)} (h:lu p B) (id q:Int):lu p (yZ B id q).1:=by
 refine⟨h.ok.take id q,?_,?_,?_⟩
 all_goals
  rw[yZ];cases hi:dZ B id with
  |none=>first|exact h.od|exact h.ub|exact h.uo
  |some k=>
   obtain⟨L,hL,hh⟩:=xR hi;have ho:=h.od k L hL;dsimp only;rw[zJ hL]
   first
   |(intro j M hM
     rcases uO hM with⟨rfl,rfl⟩|⟨_,hM⟩
     ·refine⟨yQl ho.1 ho.2.1 id q,?_,wu (yMk L id q) ho.2.2⟩;rcases Yu ho.2.1 id q with⟨e,_⟩|⟨e,_⟩
      ·rw[e];exact ho.2.1
      ·rw[e];exact ho.2.1.sublist (List.Sublist.map _ HC)
     ·exact h.od j M hM)
   |(refine ySd h.ub hL ?_
     rcases Yu ho.2.1 id q with⟨e,_⟩|⟨e,_⟩
     ·rw[e];exact List.Sublist.refl _
     ·rw[e];exact List.Sublist.map _ HC)
   |(intro j M hM s hs
     rcases uO hM with⟨rfl,rfl⟩|⟨_,hM⟩
     ·exact yLs (h.uo _ L hL s hs) id q
     ·exact h.uo j M hM s hs)
def lu.takes {p:fj}:∀{fs:List uV} {B:List (List zE)},lu p B->lu p (y8 B fs)
 |[],B,h=>h
 |f::fs,B,h=>lu.takes (fs:=fs) (h.take f.id f.dq)
def lu.inst {p:fj} {B:List (List zE)} (h:lu p B) {k:Nat} {L:List zE} (hL:B[k]? =au L) {id:Int} (vi:id∈L.map (·.id)):dZ B id=au k:=by
 cases hi:dZ B id with
 |none=>
  have:=zPv hi L (mc hL);rw[iG.2 vi]at this;cases this
 |some j=>
  obtain⟨M,hM,hh⟩:=xR hi;rw[Yz h.ub hM hL (iG.1 hh) vi]
def YO {s:Int} {F:List zE} (hs:B0 s F) {v:Lv} {vs:List Lv} (h:qg F=v::vs):
 v=GK v.dp (F.filter λo=>decide (o.dp=v.dp))/\vs=qg (F.filter λo=> !decide (o.dp=v.dp))/\∀o∈F,jj s o.dp v.dp=ap:=by
 obtain⟨o,r,rfl,he⟩:=rI h;rw[B0,Ew]at hs;have key:∀(r:List zE),(∀x∈r,jj s x.dp o.dp=ap)->B0 s r->r=r.filter (λx=>decide (x.dp=o.dp))++r.filter λx=> !decide (x.dp=o.dp):=by
  intro r
  induction r with
  |nil=>intro _ _;rfl
  |cons x r ih=>
   intro h1 h2;rw[B0,Ew]at h2;by_cases e:x.dp=o.dp
   ·rw[Jr (by simpa using e),Jq (by simpa using e),tu,<- ih (λy hy=>h1 y (jx _ hy)) h2.2]
   ·have h3:∀y∈r,¬y.dp=o.dp:=by
     intro y hy e2;have a:=h2.1 y hy;have b:=h1 x jg;rw[e2]at a;exact e (yNv a b)
    rw[Jq (by simpa using e),Jr (by simpa using e)];have e1:r.filter (λx=>decide (x.dp=o.dp))=[]:=by
     rw[Pp];intro y hy;simpa using h3 y hy
    have e2:r.filter (λx=> !decide (x.dp=o.dp))=r:=by
     rw[KY];intro y hy;simpa using h3 y hy
    rw[e1,e2,zi]
 have hk:=key r hs.1 hs.2;rw[<- he];have Lj:(o::r).filter (λx=>decide (x.dp=o.dp))=o::r.filter λx=>decide (x.dp=o.dp):=Jr (by simp)
 have hf2:(o::r).filter (λx=> !decide (x.dp=o.dp))=r.filter λx=> !decide (x.dp=o.dp):=Jq (by simp)
 rw[Lj,hf2];have hg:qg (o::r)=GK o.dp (o::r.filter λx=>decide (x.dp=o.dp))::qg (r.filter λx=> !decide (x.dp=o.dp)):=by
  conv=>lhs;rw[hk]
  refine z0b (l:=o::r.filter λx=>decide (x.dp=o.dp)) (by simp) (λx hx=> ?_) (λx y e=> ?_)
  ·rcases ku.1 hx with rfl|hx
   ·rfl
   ·simpa using(qk.1 hx).2
  ·have:x∈r.filter λx=> !decide (x.dp=o.dp):=by rw[e];exact jg
   simpa using(qk.1 this).2
 rw[h]at hg;cases hg;refine⟨rfl,rfl,λx hx=> ?_⟩;rcases ku.1 hx with rfl|hx
 ·exact eU _ _
 ·exact hs.1 x hx
def yMp (L:List zE) (s p:Int):qy L s p=(jY L s).filter λo=>decide (o.dp=p):=by
 rw[qy,jY,List.filter_filter];refine List.filter_congr λo _=> ?_
 exact Bool.and_comm _ _
def Vn {p:fj} {B:List (List zE)} (h:lu p B) {inst:Int} {sd:Bool} {dp q:Int} {t:kX} {B':List (List zE)} (e:wJ p B inst sd dp q=au (t,B')):lu p B'/\B'.length=B.length:=by
 rw[wJ]at e;dsimp only at e;split at e
 ·split at e
  ·cases e;exact⟨h.takes.takes,by rw[qT,qT]⟩
  ·cases e;exact⟨h.takes,by rw[qT]⟩
 ·cases e
def aG {p:fj} {inst:Int} {sd:Bool} {dp:Int}:∀(m:Nat) (q:Int) (B:List (List zE)),q.toNat<=m->lu p B->lu p (qC p B inst sd dp q).B/\(qC p B inst sd dp q).B.length=B.length/\(0<=q->0<=(qC p B inst sd dp q).left/\(qC p B inst sd dp q).left<=q)
 |m,q,B,hm,h=>by
  by_cases hq:q<=0
  ·rw[jS (.inl hq)];exact⟨h,rfl,λx=>⟨x,yl _⟩⟩
  cases hs:wJ p B inst sd dp q with
  |none=>
   rw[jS (.inr hs)];exact⟨h,rfl,λx=>⟨x,yl _⟩⟩
  |some x=>
   obtain⟨t,C⟩:=x;obtain⟨k1,k2⟩:=Vn h hs;have tw:=rD oM hs;cases m with
   |zero=>omega
   |succ m=>
   obtain⟨i1,i2,i3⟩:=aG (p:=p) (inst:=inst) (sd:=sd) (dp:=dp) m (q-t.dq) C oM k1;rw[aP (by omega) hs];exact⟨i1,i2.trans k2,λ_=>⟨(i3 oM).1,by dsimp only;have:=(i3 oM).2;omega⟩⟩
@[reducible] def oh.ok (i:oh):Prop:=i.s.fy i.p i.B/\jo i.p i.B/\(0<=i.inst/\i.inst<i.B.length)/\1<=i.q/\i.q<=1000000
def Dq:gx:=gh oh (λi=>[.nm 0 0,zB i.inst,zB (zA i.sd),zB i.dp,zB i.q]) (λi=>[zD i.s]) (λi=>i.ok) (λi=>zB (i.q-i.r.left)) (λi=>[zD i.s])
def cZ (p:fj) (B:List (List zE)) (inst:Int) (sd:Bool) (dp q:Int):Bool:=
 decide ((qC p B inst sd dp q).left≠0) && (qM ⟨p,(qC p B inst sd dp q).B.map yS,inst⟩ (zA (!sd))).any λx=>wA sd dp x.dp
def FT:gx:=gh oh (λi=>[.nm 0 0,zB i.inst,zB (zA i.sd),zB i.dp,zB i.q]) (λi=>[zD i.s]) (λi=>i.ok) (λi=>y4 (cZ i.p i.B i.inst i.sd i.dp i.q)) (λi=>[zD i.s])
def GJ (B:List (List zE)):Nat:=(su 0 B).length
def BW:gx:=gh B8 (λi=>[.nm 0 0]) (λi=>[zD i.s]) (λi=>i.ok) (λi=>zB (GJ i.B)) (λi=>[zD i.s])
def cG (p:fj) (inst dp:Int):Int×Int×Int:=
 if(p.gf inst).2.2=ap then(0,0,20)else if p.dp inst dp≠0 then(0,0,p.dp inst dp)else
 let EG:=p.settle.getD (p.gf inst).2.1.toNat 0
 let a:=if p.high<EG+dp then(p.high,p.high-dp)else(EG+dp,EG)
 if a.1<p.low then(p.low,p.low-dp,0)else(a.1,a.2,0)
structure N0 where
 p:fj
 inst:Int
 dp:Int
def BT:gx:=gh N0 (λi=>[oa i.p,zB i.inst,zB i.dp]) (λ_=>[]) (λi=>i.p.check=0/\i.p.small/\ie i.dp) (λi=> .jm [zB (cG i.p i.inst i.dp).1,zB (cG i.p i.inst i.dp).2.1,zB (cG i.p i.inst i.dp).2.2]) (λ_=>[])
def ijj (t u:Nat):ib:={ι:=Int×Int,dv:=λn=>[(t,zB n.1),(u,zB n.2)],rows:=λ_=>[]}
def lpJ:List (Nat×ib):=[(50,ijj 15 14),(58,ijj 15 14)]
def y1a:List ib:=[{ι:=Nat,dv:=λj=>[(40,zB j)],rows:=λ_=>[]}]
def y5f:List (Nat×ib):=[(8,{ι:=Unit,dv:=λ_=>[],rows:=λ_=>[],C1:=[11]})]
def MQ (a:dt):Prop:=QL a.a a (a.spare.length<=1000000)
def dQ (a:ia):Prop:=a.fc.length<=1000000/\∀(b:dt),b∈a.fc->MQ b
def kD (a:oh):Prop:=a.s.fy a.p a.B/\jo a.p a.B/\(0<=a.inst/\a.inst<(↑a.B.length:Int))/\1<=a.q/\a.q<=1000000
def zFw (a:oh):Prop:=∃(b:ia),Qb b.p a.s.p (QA b a.s ((dQ b)/\fp (∃(d:oh),d.inst=a.inst/\zA d.sd=zA a.sd/\d.dp=a.dp/\d.q=a.q/\zD d.s=zD b/\(kD d)/\∀(e:ia),e.fy d.p d.r.B->ez (a.q-a.r.left=aj.wrap (a.q-d.r.left)/\zD a.s=zD b/\True))))
def vP (a:oh):Prop:=ez (a.q-a.r.left=0/\Qc a.s.p (dm (ae 211 dt 6 zR a.s.fc av)/\QB a.s (True)))
def yCx (i:oh):Prop:=
 du (decide (i.inst>=0)) (du (decide (i.inst<(↑i.s.fc.length:Int))) (du (zA i.sd==1) (du (decide (i.q>=1)) (du (!decide (i.q<=1000000)) (vP i) (zFw i)) (vP i)) (du (zA i.sd==2) (du (decide (i.q>=1)) (du (!decide (i.q<=1000000)) (vP i) (zFw i)) (vP i)) (vP i))) (vP i)) (vP i)
def z5p (i:B8):Prop:=
 ez ((↑(GJ i.B):Int)=(↑(z5 i.s.wh).length:Int)/\Qc i.s.p (dm (ae 211 dt 6 zR i.s.fc av)/\QB i.s (True)))
def cB (a:Int×Int->Prop) (b:Int×Int) (c:N0):Prop:=a b/\Q2 c.p (dm (ac 1 (iE c.p.dr)))
def xB (a:N0):=(cG a.p a.inst a.dp)
def z2i (i:N0):Prop:=
 ∃(a:fj),Qa a i.p ((zU a)/\fp (du (a.check !=0) (ez ((xB i).fst=0/\(xB i).snd.fst=0/\(xB i).snd.snd=1/\True)) (∃(c:b6),Qa c.p i.p (c.n=i.inst/\(kM c)/\fp (du (!(c.p.gf c.n).snd.snd) (ez ((xB i).fst=0/\(xB i).snd.fst=0/\(xB i).snd.snd=20/\True)) (∃(e:lW),Qa e.p i.p (e.a=i.inst/\e.b=i.dp/\(qK e)/\fp (du (e.p.dp e.a e.b !=0) (ez ((xB i).fst=0/\(xB i).snd.fst=0/\(xB i).snd.snd=e.p.dp e.a e.b/\True)) ((0<=(c.p.gf c.n).snd.fst/\(c.p.gf c.n).snd.fst<(↑(iE i.p.settle).length:Int))/\∃(g:Int),zF (iE i.p.settle) (c.p.gf c.n).snd.fst.toNat 0 1=au [dI g]/\∃(h:Int×Int),∃(j:Int×Int->Prop),du (decide (aj.wrap (g+i.dp)>i.p.high)) (∃(k:Int×Int),k.fst=i.p.high/\k.snd=aj.wrap (i.p.high-i.dp)/\cB j k i) (∃(k:Int×Int),k.fst=aj.wrap (g+i.dp)/\k.snd=g/\cB j k i)/\∀(k:Int×Int),j k->∃(l:Int×Int),∃(m:Int×Int->Prop),du (decide (k.fst<i.p.low)) (∃(n:Int×Int),n.fst=i.p.low/\n.snd=aj.wrap (i.p.low-i.dp)/\cB m n i) (∃(n:Int×Int),n.fst=k.fst/\n.snd=k.snd/\cB m n i)/\∀(n:Int×Int),m n->ez ((xB i).fst=n.fst/\(xB i).snd.fst=n.snd/\(xB i).snd.snd=0/\True))))))))))
def ZZ (a:ia) (b:ia):Prop:=sb a.p.code=sb b.p.code/\True/\Qp a.p b.p (True/\True)
def yJv (i:oh):Prop:=
 ∃(a:ia),zD a=zD i.s/\(dQ a)/\fp (∃(c:oh),c.inst=i.inst/\zA c.sd=zA i.sd/\c.dp=i.dp/\c.q=i.q/\zD c.s=zD a/\(kD c)/\∀(d:ia),d.fy c.p c.r.B->du (c.r.left==0) (ez (cZ i.p i.B i.inst i.sd i.dp i.q=ap/\zD i.s=zD a/\True)) (∃(e:ia),Qb e.p d.p (QA e d ((vS e)/\fp ((ZZ e d)/\∃(g:Bool),zA g=zA i.sd/\True/\fp ((ZZ e d)/\∃(j:tW),Qm j.i d e (j.i.inst=i.inst/\zA j.s=zA !g/\(qD j)/\fp (∃(l:Nat),(↑l:Int)=0/\∃(m:Nat->Prop),∃(n:Nat->Nat),m l/\∀(p:Nat),m p->du (decide ((↑p:Int)<(dJ j))) ((0<=(↑p:Int)/\(↑p:Int)<(dJ j))/\∃(q:Int),∃(r:Int),∃(s:Int),∃(t:Int),∃(u:Int),∃(v:Int),zF (wI j) (↑p:Int).toNat 0 6=au [dI q,dI r,dI s,dI t,dI u,dI v]/\∃(w:RA),zA w.s=zA i.sd/\w.p=i.dp/\w.x=q/\True/\fp (du (wA w.s w.p w.x) (ez (cZ i.p i.B i.inst i.sd i.dp i.q=aq/\zD i.s=zD a/\True)) (∃(y:Nat),Q0 y p m n (dm (ag 128 6 (wI j))/\dm (ab [V.d (dE e),V.own 5,V.d (dI e.p.tick),V.d (dI e.p.low),V.d (dI e.p.high),V.d (dI e.p.wide),V.d (dI e.p.gw),V.d (dI e.p.top),V.d (dI e.p.least),V.d (dI e.p.part),V.own 6,V.own 3,V.mp 4] (210:bc))/\dm (ae 211 dt 6 zR e.fc av)/\dm (af (z5 e.wh))/\Q4 e.p (dm (ac 6 (am zY e.fm))/\Q4 d.p (dm (ag 331 4 (am vC c.r.steps))/\zD a=zD a)))))) (ez (cZ i.p i.B i.inst i.sd i.dp i.q=ap/\zD i.s=zD a/\True))))))))))
def ia.fy.small {s:ia} {p:fj} {B:List (List zE)} (h:s.fy p B) (hb:jo p B):s.small:=by
 have:=xQ p;refine⟨by rw[h.bl,hb.bl];omega,λb hm=> ?_⟩;obtain⟨k,hk⟩:=AB.1 hm;have iq:=(ju.1 hk).1;rw[h.bl]at iq;obtain⟨L,hL⟩:=z6 iq;obtain⟨Q,c,_⟩:=h.bk k b L hk hL;exact c.small
def yUh (i:oh) (h:Dq.du i):yCx i:=by
 have h':i.ok:=h;obtain⟨hR,hB,⟨h0,h1⟩,u',tw⟩:=h';have wg:=hR.bl;have hl:=(aG (inst:=i.inst) (sd:=i.sd) (dp:=i.dp) _ i.q i.B (mg _) (hR.wf hB)).2.2 oM;have er:i.r=qC i.p i.B i.inst i.sd i.dp i.q:=rfl;unfold yCx zFw QA Qb fp ez kD dQ MQ QL vP QB ez Qc;refine(λhT=>zI (λc=>zI (λc2=>Cv.du.mk (λ_=>zI (λ_=>Cv.du.mk (λe=>absurd tw (by simpa using e)) (λ_=>hT)) (λe=>absurd u' e)) (λe1=>Cv.du.mk (λ_=>zI (λ_=>Cv.du.mk (λe=>absurd tw (by simpa using e)) (λ_=>hT)) (λe=>absurd u' e)) (λe2=>by
  rcases aC i.sd with e|e
  ·rw[e]at e1;cases e1
  ·rw[e]at e2;cases e2))) (λc2=>absurd oM c2)) (λc=>absurd h0 c)) ?_
 refine⟨i.s,iH (oT ⟨rfl,hR.small hB,λ_ _=>⟨i,oT ⟨rfl,h,λo ho=>⟨(),?_,rfl,trivial⟩⟩⟩⟩)⟩;rw[iD (by rw[er];omega)]
def yGs:Dq.ok Tryz.prog 195:=ix mixed (dz OV (dz yAc fx)) 2 (λ_=>[]) (λ_=>[]) [0] Tryz.func195 yUh
def yKp (i:B8) (h:BW.du i):z5p i:=by
 obtain⟨hR,hB⟩:i.s.fy i.p i.B/\i.B.length<=1000:=h;unfold z5p QB ez Qc;have e:(z5 i.s.wh).length=GJ i.B:=by rw[z5,iz,hR.wh.length_eq,GJ]
 exact⟨(),by rw[e],ic⟩
def z7z:BW.ok Tryz.prog 194:=ix mixed fx 0 (λ_=>[]) (λ_=>[]) [0] Tryz.func194 yKp
def XU {p:fj} {i n:Int} (h:p.dp i n=0):0<=i/\i<p.count:=by
 rw[fj.dp]at h;split at h
 ·cases h
 split at h
 ·cases h
 omega
def yOz (i:N0) (h:BT.du i):z2i i:=by
 obtain⟨hc,hp,PZ⟩:i.p.check=0/\i.p.small/\ie i.dp:=h;unfold z2i Qa fp ez xB cB Q2 zU Q8 kM Q8 qK Q8 dI;refine⟨i.p,rn (jh ⟨rfl,hp,λ_ _=>Cv.du.mk (λe=>by rw[hc]at e;cases e) (λ_=> ?_)⟩)⟩;refine⟨⟨i.p,i.inst⟩,iH (jh ⟨rfl,hp,λ_ _=>Cv.du.mk (λe=> ?_) (λe=> ?_)⟩)⟩
 ·have e:(i.p.gf i.inst).2.2=ap:=by simpa using e
  have h0:cG i.p i.inst i.dp=(0,0,20):=by rw[cG,fk e]
  rw[h0];exact⟨(),jh trivial⟩
 have e:(i.p.gf i.inst).2.2=aq:=by simpa using e
 refine⟨⟨i.p,i.inst,i.dp⟩,iH (oT ⟨rfl,hp,λ_ _=>Cv.du.mk (λe2=> ?_) (λe2=> ?_)⟩)⟩
 ·have e2:¬i.p.dp i.inst i.dp=0:=by simpa using e2
  have h0:cG i.p i.inst i.dp=(0,0,i.p.dp i.inst i.dp):=by rw[cG,dx (by rw[e];decide),fk e2]
  rw[h0];exact⟨(),jh trivial⟩
 have e2:i.p.dp i.inst i.dp=0:=by simpa using e2
 have qt:=XU e2;have B6:=OM hc e2;have ok:=qF hc;have b1:=ok.b1;have b2:=ok.b2;have b3:=ok.b3;have s1:=ok.s1;have s2:=ok.s2;have s3:=ok.s3;obtain⟨k,hk⟩:∃k:Nat,i.inst=k:=⟨i.inst.toNat,oM⟩
 have hl:=vO hc (k:=k) oM;rw[<- hk]at hl;rcases hl with⟨_,_,_,l3,l4⟩|⟨x,_⟩
 rotate_left
 ·rw[e]at x;cases x
 have yq:(iE i.p.settle).length=i.p.settle.length:=yW _;obtain⟨n,hn⟩:=z6 (l:=i.p.settle) (i:=(i.p.gf i.inst).2.1.toNat) oM;have hm:=mc hn;have m1:=yBo hm;have m2:=yFc hm;have hg:i.p.settle.getD (i.p.gf i.inst).2.1.toNat 0=n:=zJ hn;have h0:cG i.p i.inst i.dp=(if(if i.p.high<n+i.dp then(i.p.high,i.p.high-i.dp)else(n+i.dp,n)).1<i.p.low then(i.p.low,i.p.low-i.dp,0)else((if i.p.high<n+i.dp then(i.p.high,i.p.high-i.dp)else(n+i.dp,n)).1,(if i.p.high<n+i.dp then(i.p.high,i.p.high-i.dp)else(n+i.dp,n)).2,0)):=by
  rw[cG,dx (by rw[e];decide),dx (by rw[e2];decide)];dsimp only;rw[hg]
 dsimp only;refine⟨⟨l3,oM⟩,n,rz hn,(0,0),λa=>a=if i.p.high<n+i.dp then(i.p.high,i.p.high-i.dp)else(n+i.dp,n),zI (λc=>⟨(i.p.high,i.p.high-i.dp),rfl,(iD oM).symm,?_,ic⟩) (λc=>⟨(n+i.dp,n),(iD oM).symm,rfl,?_,ic⟩),?_⟩
 ·rw[iD (by omega)]at c;rw[fk c]
 ·rw[iD (by omega)]at c;rw[dx c]
 rintro _ rfl;generalize (if i.p.high<n+i.dp then(i.p.high,i.p.high-i.dp)else(n+i.dp,n))=a at h0 ⊢;refine⟨(0,0),λb=>b=if a.1<i.p.low then(i.p.low,i.p.low-i.dp)else a,zI (λc=>⟨(i.p.low,i.p.low-i.dp),rfl,(iD oM).symm,by rw[fk c],ic⟩) (λc=>⟨a,rfl,rfl,by rw[dx c],ic⟩),?_⟩;rintro _ rfl;rw[h0];by_cases c:a.1<i.p.low
 ·rw[fk c,fk c];exact⟨(),jh trivial⟩
 ·rw[dx c,dx c];exact⟨(),jh trivial⟩
def z8c:BT.ok Tryz.prog 239:=ix mixed (dz mU (dz tG (dz l9 fx))) 0 (λ_=>lpJ) (λ_=>[]) [] Tryz.func239 yOz
def yRs {l:List Quote} {k:Nat} {q:Quote} (h:l[k]? =au q):zF (l.map zK) k 0 6=au [D.v (.int .i64 q.dp),D.v (.int .i64 q.dq),D.v (.int .i64 q.a.inst),D.v (.int .i64 q.a.side),D.v (.int .i64 q.b.inst),D.v (.int .i64 q.b.side)]:=kf h (by simp[zK]) rfl
def y5n (i:oh) (h:FT.du i):yJv i:=by
 have h':i.ok:=h;obtain⟨hR,hB,⟨h0,h1⟩,u',tw⟩:=h';have zt:=hR.wf hB;obtain⟨k1,k2,k3⟩:=aG (inst:=i.inst) (sd:=i.sd) (dp:=i.dp) _ i.q i.B (mg _) zt;have xy:=xQ i.p;unfold yJv Q0 Q4 QA Qb fp ez Qm dE ZZ Qp kD dQ MQ QL dJ wI qD Q8 vE vS cK dI;refine⟨i.s,rfl,hR.small hB,λ_ _=>⟨i,oT ⟨rfl,h,λo ho=> ?_⟩⟩⟩;have er:i.r=qC i.p i.B i.inst i.sd i.dp i.q:=rfl;have es:cZ i.p i.B i.inst i.sd i.dp i.q=(decide ((qC i.p i.B i.inst i.sd i.dp i.q).left≠0) && (qM ⟨i.p,(qC i.p i.B i.inst i.sd i.dp i.q).B.map yS,i.inst⟩ (zA (!i.sd))).any λx=>wA i.sd i.dp x.dp):=rfl;rw[er]at ho ⊢;rw[es];generalize qC i.p i.B i.inst i.sd i.dp i.q=R at*;obtain⟨ts,lf,RB⟩:=R;dsimp only at*;refine Cv.du.mk (λe=>⟨(),?_,rfl,trivial⟩) (λe=> ?_)
 ·have e:lf=0:=by simpa using e
  rw[e];rfl
 have e:lf≠0:=by simpa using e
 rw[kx e,qj];have ep:=ho.ep;have C7:=k1.ok;have wg:=C7.bl;have Ec:o.nw:=ho.EJ oM;have C4:o.p.small:=by rw[ep];exact C7.ps
 have ur:vF (RB.map yS):=C7.fm;have hle:=UC ⟨o.p,RB.map yS,i.inst⟩ (zA (!i.sd));refine⟨o,iH (oT ⟨rfl,Ec,λ_ _=>⟨⟨rfl,trivial,rn ⟨rfl,trivial,trivial⟩⟩,i.sd,rfl,trivial,λ_ _=>⟨⟨rfl,trivial,rn ⟨rfl,trivial,trivial⟩⟩,⟨⟨o.p,RB.map yS,i.inst⟩,!i.sd⟩,rn (jh ⟨rfl,by rw[ho.fm],rfl,rfl,⟨C4,ur⟩,λ_ _=> ?_⟩)⟩⟩⟩)⟩;dsimp only;rw[<- ep];generalize qM ⟨o.p,RB.map yS,i.inst⟩ (zA (!i.sd))=Q at*;have e4:(Q.map zK).length=Q.length:=iz ..;refine⟨0,rfl,λj=>j<=Q.length/\(Q.take j).any (λx=>wA i.sd i.dp x.dp)=ap,λj=>Q.length-j,⟨oQ _,rfl⟩,?_⟩;rintro j ⟨j1,j2⟩;refine zI (λc=> ?_) (λc=>⟨(),?_,rfl,trivial⟩)
 ·obtain⟨q,hq⟩:=z6 (l:=Q) (i:=j) oM;refine⟨⟨oM,oM⟩,_,_,_,_,_,_,yRs hq,⟨i.sd,i.dp,q.dp⟩,rfl,rfl,rfl,trivial,λ_ _=>Cv.du.mk (λg=>⟨(),?_,rfl,trivial⟩) (λg=>⟨j+1,um oM,⟨oM,?_⟩,Z9,ic⟩)⟩
  ·rw[Nj];exact⟨q,mc hq,g⟩
  ·rw[tv,hq,List.any_append,j2];show(ap||([q].any λx=>wA i.sd i.dp x.dp))=ap;simp only[List.any_cons,List.any_nil,Bool.or_false,CT];exact g
 ·have:j=Q.length:=by omega
  rw[this,oV (mg _)]at j2;exact j2
def z3g:FT.ok Tryz.prog 196:=ix mixed (dz OV (dz yAc (dz z4z (dz yPd (dz zVi (dz z2h fx)))))) 0 (λ_=>y5f) (λ_=>y1a) [] Tryz.func196 y5n
def aW (c:ir) (oD:Int):List fy:=[⟨2,c.id,0,0,0,0,0,oD⟩]
def Ff (x:kX) (k:Int):Int:=match x.ig.find? λf=>decide (f.inst=k)with
 |some f=>f.dp
 |none=>x.dp
def qW (p:fj) (inst:Int) (x:kX):Int×Int:=if x.je=ap then((cG p inst x.dp).1,(cG p inst x.dp).2.1)else(Ff x (p.gf inst).1,Ff x (p.gf inst).2.1)
def M1 (p:fj) (r:fy) (Bx EG:Int):List fy:=[{r with inst:=(p.gf r.inst).1,dp:=Bx},{r with inst:=(p.gf r.inst).2.1,side:=3-r.side,dp:=EG}]
def jJ (p:fj) (x:kX) (r:fy):List fy:=r::if(p.gf r.inst).2.2=aq then M1 p r (qW p r.inst x).1 (qW p r.inst x).2 else[]
def cR (f:uV):fy:=⟨3,f.id,f.inst,f.side,f.dp,f.dq,f.left,0⟩
def cU (p:fj) (c:ir) (x:kX) (left:Int):List fy:=x.ig.flatMap (λf=>jJ p x (cR f))++jJ p x ⟨3,c.id,c.inst,c.side,x.dp,x.dq,left,0⟩
def vI (p:fj) (c:ir):List kX->Int->List fy
 |[],_=>[]
 |x::l,left=>cU p c x (left-x.dq)++vI p c l (left-x.dq)
structure Fw where
 B:List (List zE)
 U:List Int
 R:List fy
def CQ (U:List Int) (id:Int):List Int:=if id∈U then U else U++[id]
def wQ (p:fj) (B:List (List zE)) (U:List Int) (c:ir):Fw:=match qC p B c.inst (decide (c.side=2)) c.dp c.dq with
 |⟨ts,left,B'⟩=>⟨if left≠0/\c.time=1 then(lZ p B' c.inst c.id c.side c.dp left).1 else B',CQ U c.id,
  (⟨1,c.id,c.inst,c.side,c.dp,c.dq,c.dq,0⟩::vI p c ts c.dq)++if left≠0/\c.time≠1 then[⟨4,c.id,c.inst,c.side,c.dp,left,0,0⟩]else[]⟩
def ir.K5 (c:ir):Int:=if c.time=3 then c.dq else c.least
def bR (p:fj) (B:List (List zE)) (U:List Int) (c:ir):Fw:=
 if p.dp c.inst c.dp≠0 then⟨B,U,aW c (p.dp c.inst c.dp)⟩
 else if c.id∈U then⟨B,U,aW c 25⟩
 else if 250<=GJ B then⟨B,U,aW c 13⟩
 else if 0<c.K5/\c.dq-(qC p B c.inst (decide (c.side=2)) c.dp c.dq).left<c.K5 then⟨B,U,aW c 28⟩
 else if c.time=1/\cZ p B c.inst (decide (c.side=2)) c.dp c.dq=aq then⟨B,U,aW c 23⟩
 else wQ p B U c
def jV (B:List (List zE)) (U:List Int) (id inst:Int) (o:zE):Fw:=⟨(yZ B id o.dq).1,U,[⟨4,id,inst,o.side,o.dp,o.dq,0,0⟩]⟩
def uQ (B:List (List zE)) (U:List Int) (id q inst:Int) (o:zE):Fw:=⟨(yZ B id q).1,U,[⟨5,id,inst,o.side,o.dp,q,o.dq-q,0⟩]⟩
def uB (p:fj) (B:List (List zE)) (U:List Int) (c:ir) (inst:Int) (o:zE):Fw:=
 if p.dp inst c.dp≠0 then⟨B,U,aW c (p.dp inst c.dp)⟩
 else if c.dp=o.dp/\c.dq<=o.dq then uQ B U c.id (o.dq-c.dq) inst o
 else if cZ p (yZ B c.id o.dq).1 inst (decide (o.side=2)) c.dp c.dq=aq then⟨B,U,aW c 23⟩
 else
  let x:=jV B U c.id inst o
  let y:=wQ p x.B U ⟨1,c.id,inst,o.side,c.dp,c.dq,0,1,[]⟩
  ⟨y.B,y.U,x.R++y.R⟩
def tx (p:fj) (B:List (List zE)) (U:List Int) (c:ir):Fw:=
 if c.right≠0 then⟨B,U,aW c c.right⟩
 else if c.kind=1 then bR p B U c
 else if(zW B c.id).2.2=ap then⟨B,U,aW c 26⟩
 else if c.kind=4 then uB p B U c (zW B c.id).1 (zW B c.id).2.1
 else if c.kind=2\/(zW B c.id).2.1.dq<=c.dq then jV B U c.id (zW B c.id).1 (zW B c.id).2.1
 else uQ B U c.id c.dq (zW B c.id).1 (zW B c.id).2.1
structure iO.fy (m:iO) (p:fj) (B:List (List zE)) (U:List Int):Prop where
 ep:m.p=p
 s:m.s.fy p B
 u:m.used=U
@[reducible] def BZ (m:iO):List fw:=[yN m 0,yN m 1,yN m 2,yN m 3,yN m 4]
@[reducible] def yZa (x:kX):V:= .agg [zB x.dp,zB x.dq,y4 x.je,ru 6 (x.ig.map y5)]
@[reducible] def K3:Nat:=49
@[reducible] def Er (l:List fy):fw:= .own K3 8 (l.map yX)
structure Bp where
 c:ir
 oD:Int
def aab:gx:=gh Bp (λi=>[CP i.c,zB i.oD]) (λ_=>[]) (λ_=>True) (λ_=> .own 0) (λi=>[Er (aW i.c i.oD)])
structure Hi where
 m:iO
 r:fy
 Bx:Int
 EG:Int
@[reducible] def iO.BE (m:iO):Prop:=m.p.check=0/\m.p.small
def BR:gx:=gh Hi (λi=>[.nm 0 0,y9k i.r,zB i.Bx,zB i.EG]) (λi=>BZ i.m) (λi=>i.m.BE/\(i.r.side=1\/i.r.side=2)) (λ_=> .own 5) (λi=>BZ i.m++[Er (M1 i.m.p i.r i.Bx i.EG)])
structure NZ where
 m:iO
 inst:Int
def aak:gx:=gh NZ (λi=>[.nm 0 0,zB i.inst]) (λi=>BZ i.m) (λi=>i.m.BE) (λi=>y4 (i.m.p.gf i.inst).2.2) (λi=>BZ i.m)
structure NY where
 x:kX
 k:Int
@[reducible] def z3b (x:kX) (n:Nat):List fw:=[.cells [zB x.dp,zB x.dq,y4 x.je,.own n] 331,.kh 6 (x.ig.map y5)]
def ofC:gx:=gh NY (λi=>[zB i.k,.nm 0 0]) (λi=>z3b i.x 1) (λi=>i.x.ig.length<=1000000) (λi=>zB (Ff i.x i.k)) (λi=>z3b i.x 1)
def ofA:List ib:=[{ι:=Nat,dv:=λj=>[(9,zB j)],rows:=λ_=>[]}]
structure JK where
 m:iO
 inst:Int
 x:kX
def BS:gx:=gh JK (λi=>[.nm 0 0,zB i.inst,yZa i.x]) (λi=>BZ i.m) (λi=>i.m.BE/\ie i.x.dp/\i.x.ig.length<=1000000) (λi=> .jm [zB (qW i.m.p i.inst i.x).1,zB (qW i.m.p i.inst i.x).2]) (λi=>BZ i.m)
structure ta where
 m:iO
 c:ir
 x:kX
 left:Int
def ta.out (i:ta) (j:Nat):List fy:=(i.x.ig.take j).flatMap λf=>jJ i.m.p i.x (cR f)
def F5:gx:=gh ta (λi=>[.nm 0 0,CP i.c,yZa i.x,zB i.left]) (λi=>BZ i.m) (λi=>i.m.BE/\ie i.x.dp/\i.x.ig.length<=1000000/\(i.c.side=1\/i.c.side=2)/\∀f∈i.x.ig,f.side=1\/f.side=2) (λ_=> .own 5) (λi=>BZ i.m++[Er (cU i.m.p i.c i.x i.left)])
def y2o (i:ta):List ib:=[{ι:=Nat,dv:=λj=>[(9,.nm 0 0),(17,zB j)],rows:=λj=>[.cells [.own 1] 36,Er (i.out j)]}]
def xCl (i:Bp):Prop:=
 ∃(o:Unit),[yX (fy.mk 2 i.c.id 0 0 0 0 0 i.oD)]=[[D.v (.int .i64 2),D.v (.int .i64 i.c.id),D.v (.int .i64 0),D.v (.int .i64 0),D.v (.int .i64 0),D.v (.int .i64 0),D.v (.int .i64 0),D.v (.int .i64 i.oD)]]/\True
def gP (a:Hi):Prop:=a.r.kind=a.r.kind/\dm a.r.id/\dm a.r.inst/\dm a.r.side/\dm a.r.dp/\dm a.r.dq/\dm a.r.left/\dm a.r.oD/\True
def cO (a:Hi):=(fy.mk a.r.kind a.r.id (a.m.p.gf a.r.inst).snd.fst (3-a.r.side) a.EG a.r.dq a.r.left a.r.oD)
def cF (a:Hi):=(fy.mk a.r.kind a.r.id (a.m.p.gf a.r.inst).fst a.r.side a.Bx a.r.dq a.r.left a.r.oD)
def zBd (a:Hi) (b:b6):Prop:=(gP a)/\(gP a)/\(gP a)/\(gP a)/\(gP a)/\dm a.r.side/\ez (Qc a.m.p (zD a.m.s=yN a.m 1/\dm (zZ a.m.used)/\ac 1 (iE a.m.p.dr)=yN a.m 3/\ac 1 (iE a.m.p.settle)=yN a.m 4/\[yX (cF a),yX (cO a)]=[[dI a.r.kind,dI a.r.id,dI ((b.p.gf b.n).fst),dI a.r.side,dI a.Bx,dI a.r.dq,dI a.r.left,dI a.r.oD],[dI a.r.kind,dI a.r.id,dI (uI b),dI (aj.wrap (3-a.r.side)),dI a.EG,dI a.r.dq,dI a.r.left,dI a.r.oD]]/\True))
def z6s (i:Hi):Prop:=
 ∃(a:b6),Qa a.p i.m.p (a.n=i.r.inst/\(kM a)/\fp ((zBd i a)/\zBd i a))
def xCm (i:NZ):Prop:=
 ∃(iC:b6),sb iC.p.code=sb i.m.p.code/\iE iC.p.dr=iE i.m.p.dr/\iC.p.tick=i.m.p.tick/\iC.p.low=i.m.p.low/\iC.p.high=i.m.p.high/\iC.p.wide=i.m.p.wide/\iC.p.gw=i.m.p.gw/\iC.p.top=i.m.p.top/\iC.p.least=i.m.p.least/\iC.p.part=i.m.p.part/\iE iC.p.settle=iE i.m.p.settle/\iC.n=i.inst/\(iC.p.code.length<=1099511627776/\iC.p.dr.length<=1099511627776/\iC.p.settle.length<=1099511627776)/\∀(o:Unit),True->∃(o:Unit),(i.m.p.gf i.inst).snd.snd=(iC.p.gf iC.n).snd.snd/\dm (sb i.m.p.code)/\dm i.m.p.tick/\dm i.m.p.low/\dm i.m.p.high/\dm i.m.p.wide/\dm i.m.p.gw/\dm i.m.p.top/\dm i.m.p.least/\dm i.m.p.part/\zD i.m.s=yN i.m 1/\dm (zZ i.m.used)/\ac 1 (iE i.m.p.dr)=yN i.m 3/\ac 1 (iE i.m.p.settle)=yN i.m 4/\True
def Xt (a:NY):Prop:=a.x.dp=a.x.dp/\dm a.x.dq/\dm a.x.je/\dm (ac 6 (am y5 a.x.ig))/\True
def Vof (i:NY):Prop:=
 ∃(a:Nat),(↑a:Int)=0/\∃(b:Nat->Prop),∃(c:Nat->Nat),b a/\∀(d:Nat),b d->du (decide ((↑d:Int)<(↑(am y5 i.x.ig).length:Int))) ((0<=(↑d:Int)/\(↑d:Int)<(↑(am y5 i.x.ig).length:Int))/\∃(e:Int),∃(f:Int),∃(g:Int),∃(h:Int),∃(j:Int),∃(k:Int),zF (am y5 i.x.ig) (↑d:Int).toNat 0 6=au [dI e,dI f,dI g,dI h,dI j,dI k]/\du (f==i.k) (ez (Ff i.x i.k=h/\Xt i)) (∃(l:Nat),Q0 l d b c (dm (ab [zB i.x.dp,zB i.x.dq,y4 i.x.je,V.own 1] (331:bc))/\dm (ac 6 (am y5 i.x.ig))))) (ez (Ff i.x i.k=i.x.dp/\Xt i))
def lN (a:JK):Prop:=Qc a.m.p (zD a.m.s=yN a.m 1/\dm (zZ a.m.used)/\ac 1 (iE a.m.p.dr)=yN a.m 3/\ac 1 (iE a.m.p.settle)=yN a.m 4/\True)
def qY (a:JK):=(qW a.m.p a.inst a.x)
@[reducible] def QZ (a b:kX)(R:Prop):Prop:=a.dp=b.dp/\a.dq=b.dq/\a.je=b.je/\ac 6 (am y5 a.ig)=ac 6 (am y5 b.ig)/\a.ig.length<=1000000/\R
def z6m (i:JK):Prop:=
 du (!i.x.je) (∃(a:N0),Qa a.p i.m.p (a.inst=i.inst/\a.dp=i.x.dp/\(a.p.check=0/\(Q8 a.p (a.p.settle.length<=1099511627776))/\(-9223372036854775808)<=a.dp/\a.dp<=9223372036854775807)/\fp (ez ((qY i).fst=(xB a).fst/\(qY i).snd=(xB a).snd.fst/\lN i)))) (∃(a:b6),Qa a.p i.m.p (a.n=i.inst/\(kM a)/\fp (∃(c:NY),c.k=(a.p.gf a.n).fst/\QZ c.x i.x (fp (∃(e:NY),e.k=(a.p.gf a.n).snd.fst/\QZ e.x c.x (fp (ez ((qY i).fst=Ff c.x c.k/\(qY i).snd=Ff e.x e.k/\lN i))))))))
@[reducible] def QK (a:fj)(R:Prop):Prop:=a.check=0/\a.code.length<=1099511627776/\a.dr.length<=1099511627776/\R
def Z3 (a:JK):Prop:=(QK a.m.p (a.m.p.settle.length<=1099511627776))/\((-9223372036854775808)<=a.x.dp/\a.x.dp<=9223372036854775807)/\a.x.ig.length<=1000000
def Z1 (a:Hi):Prop:=(QK a.m.p (a.m.p.settle.length<=1099511627776))/\(a.r.side=1\/a.r.side=2)
def zFp (a:NZ):Prop:=QK a.m.p (a.m.p.settle.length<=1099511627776)
def nP (a:ta):=(D.v (Value.string (sb a.c.label)))
@[reducible] def Qh (a:Nat->Nat)(b c:Nat)(d:ta)(e:iO)(R:Prop):Prop:=a b<a c/\ab [V.d (dI d.x.dp),V.d (dI d.x.dq),V.d (D.v (.bool d.x.je)),V.own 7] 331=ab [V.d (dI d.x.dp),V.d (dI d.x.dq),V.d (D.v (.bool d.x.je)),V.own 7] 331/\ac 6 (am y5 d.x.ig)=ac 6 (am y5 d.x.ig)/\ab [V.d (dI d.c.kind),V.d (dI d.c.id),V.d (dI d.c.inst),V.d (dI d.c.side),V.d (dI d.c.dp),V.d (dI d.c.dq),V.d (dI d.c.least),V.d (dI d.c.time),V.d (nP d)] 46=ab [V.d (dI d.c.kind),V.d (dI d.c.id),V.d (dI d.c.inst),V.d (dI d.c.side),V.d (dI d.c.dp),V.d (dI d.c.dq),V.d (dI d.c.least),V.d (dI d.c.time),V.d (nP d)] 46/\ab [V.nm 0 0] 54=ab [V.nm 0 0] 54/\ab [V.d (D.v (Value.string (sb e.p.code))),V.own 3,V.d (dI e.p.tick),V.d (dI e.p.low),V.d (dI e.p.high),V.d (dI e.p.wide),V.d (dI e.p.gw),V.d (dI e.p.top),V.d (dI e.p.least),V.d (dI e.p.part),V.own 4,V.nm 1 0,V.mp 2] (137:bc)=yN d.m 0/\zD e.s=yN d.m 1/\af (zZ e.used)=yN d.m 2/\ac 1 (iE e.p.dr)=yN d.m 3/\R
@[reducible] def Qz (a b:iO)(R:Prop):Prop:=zZ a.used=zZ b.used/\ac 1 (iE a.p.dr)=ac 1 (iE b.p.dr)/\ac 1 (iE a.p.settle)=ac 1 (iE b.p.settle)/\R
@[reducible] def QC (a b:iO)(R:Prop):Prop:=zZ a.used=zZ b.used/\ac 1 (iE a.p.dr)=yN b 3/\ac 1 (iE a.p.settle)=yN b 4/\R
def yQo (i:ta):Prop:=
 ∃(a:Nat),(↑a:Int)=0/\am yX (i.out a)=[]/\∃(b:Nat->Prop),∃(c:Nat->Nat),b a/\∀(d:Nat),b d->du (decide ((↑d:Int)<(↑(am y5 i.x.ig).length:Int))) ((0<=(↑d:Int)/\(↑d:Int)<(↑(am y5 i.x.ig).length:Int))/\∃(e:Int),∃(f:Int),∃(g:Int),∃(h:Int),∃(j:Int),∃(k:Int),zF (am y5 i.x.ig) (↑d:Int).toNat 0 6=au [dI e,dI f,dI g,dI h,dI j,dI k]/\((am yX (i.out d)).length+1)*(64:Nat)<=(140737488355328:Nat)/\∃(l:NZ),l.inst=f/\Qb l.m.p i.m.p (zD l.m.s=yN i.m 1/\QC l.m i.m ((zFp l)/\fp (du (l.m.p.gf l.inst).snd.snd (∃(n:JK),n.inst=f/\n.x.dp=i.x.dp/\n.x.dq=i.x.dq/\n.x.je=i.x.je/\am y5 n.x.ig=am y5 i.x.ig/\Qb n.m.p l.m.p (zD n.m.s=zD l.m.s/\Qz n.m l.m ((Z3 n)/\fp (∃(q:Hi),q.r.kind=3/\q.r.id=e/\q.r.inst=f/\q.r.side=g/\q.r.dp=h/\q.r.dq=j/\q.r.left=k/\q.r.oD=0/\q.Bx=(qY n).fst/\q.EG=(qY n).snd/\Qb q.m.p n.m.p (zD q.m.s=zD n.m.s/\Qz q.m n.m ((Z1 q)/\fp (True/\((am yX (i.out d)++[[dI 3,dI e,dI f,dI g,dI h,dI j,dI k,dI 0]]).length+2)*(64:Nat)<=(140737488355328:Nat)/\∃(s:Nat),(↑s:Int)=aj.wrap ((↑d:Int)+1)/\am yX (i.out s)=am yX (i.out d)++[[dI 3,dI e,dI f,dI g,dI h,dI j,dI k,dI 0]]++[yX (cF q),yX (cO q)]/\b s/\Qh c s d i q.m (ac 1 (iE q.m.p.settle)=yN i.m 4)))))))) (∃(n:Nat),(↑n:Int)=aj.wrap ((↑d:Int)+1)/\am yX (i.out n)=am yX (i.out d)++[[dI 3,dI e,dI f,dI g,dI h,dI j,dI k,dI 0]]/\b n/\Qh c n d i l.m (ac 1 (iE l.m.p.settle)=yN i.m 4)))))) (((am yX (i.out d)).length+1)*(64:Nat)<=(140737488355328:Nat)/\∃(e:NZ),e.inst=i.c.inst/\Qb e.m.p i.m.p (zD e.m.s=yN i.m 1/\QC e.m i.m ((zFp e)/\fp (du (e.m.p.gf e.inst).snd.snd (∃(g:JK),g.inst=i.c.inst/\g.x.dp=i.x.dp/\g.x.dq=i.x.dq/\g.x.je=i.x.je/\am y5 g.x.ig=am y5 i.x.ig/\Qb g.m.p e.m.p (zD g.m.s=zD e.m.s/\Qz g.m e.m ((Z3 g)/\fp (∃(j:Hi),j.r.kind=3/\j.r.id=i.c.id/\j.r.inst=i.c.inst/\j.r.side=i.c.side/\j.r.dp=i.x.dp/\j.r.dq=i.x.dq/\j.r.left=i.left/\j.r.oD=0/\j.Bx=(qY g).fst/\j.EG=(qY g).snd/\Qb j.m.p g.m.p (zD j.m.s=zD g.m.s/\Qz j.m g.m ((Z1 j)/\fp (True/\((am yX (i.out d)++[[dI 3,dI i.c.id,dI i.c.inst,dI i.c.side,dI i.x.dp,dI i.x.dq,dI i.left,dI 0]]).length+2)*(64:Nat)<=(140737488355328:Nat)/\ez (Qb i.m.p j.m.p (zD i.m.s=zD j.m.s/\Qz i.m j.m (am yX (cU i.m.p i.c i.x i.left)=am yX (i.out d)++[[dI 3,dI i.c.id,dI i.c.inst,dI i.c.side,dI i.x.dp,dI i.x.dq,dI i.left,dI 0]]++[yX (cF j),yX (cO j)]/\True)))))))))) (ez (Qb i.m.p e.m.p (zD i.m.s=zD e.m.s/\Qz i.m e.m (am yX (cU i.m.p i.c i.x i.left)=am yX (i.out d)++[[dI 3,dI i.c.id,dI i.c.inst,dI i.c.side,dI i.x.dp,dI i.x.dq,dI i.left,dI 0]]/\True))))))))
def z9g:aab.ok Tryz.prog 158:=ix (V:=xCl) mixed fx 0 (λ_=>[]) (λ_=>[]) [] Tryz.func158 λ(i:Bp) _=>⟨(),rfl,trivial⟩
def yJt (i:Hi) (h:BR.du i):z6s i:=by
 obtain⟨⟨hc,hp⟩,hs⟩:i.m.BE/\(i.r.side=1\/i.r.side=2):=h;have hw:aj.wrap (3-i.r.side)=3-i.r.side:=iD oM;unfold z6s Qa fp zBd ez Qc cF cO gP uI kM Q8 dI;rw[hw];refine⟨⟨i.m.p,i.r.inst⟩,iH (jh ⟨rfl,hp,λ_ _=> ?_⟩)⟩;exact kp
def z8j:BR.ok Tryz.prog 231:=ix mixed (dz tG fx) 0 (λ_=>[]) (λ_=>[]) [] Tryz.func231 yJt
def y5d:aak.ok Tryz.prog 229:=ix (V:=xCm) mixed (dz tG fx) 0 (λ_=>[]) (λ_=>[]) [] Tryz.func229 λ(i:NZ) h=>by
 obtain⟨hc,hp⟩:i.m.BE:=h;exact⟨⟨i.m.p,i.inst⟩,iH (jh ⟨rfl,hp,λ_ _=>kp⟩)⟩
def y7i {l:List uV} {k:Nat} {f:uV} (h:l[k]? =au f):zF (l.map y5) k 0 6=au [D.v (.int .i64 f.id),D.v (.int .i64 f.inst),D.v (.int .i64 f.side),D.v (.int .i64 f.dp),D.v (.int .i64 f.dq),D.v (.int .i64 f.left)]:=kf h (by simp[y5]) rfl
def vof (i:NY) (h:ofC.du i):Vof i:=by
 have hl:i.x.ig.length<=1000000:=h;have e4:(i.x.ig.map y5).length=i.x.ig.length:=iz ..;unfold Vof Q0 ez Xt dI;refine⟨0,rfl,λj=>j<=i.x.ig.length/\(i.x.ig.take j).find? (λf=>decide (f.inst=i.k))=av,λj=>i.x.ig.length-j,⟨oQ _,rfl⟩,?_⟩;rintro j ⟨j1,j2⟩;refine zI (λc=> ?_) (λc=> ?_)
 ·obtain⟨f,hf⟩:=z6 (l:=i.x.ig) (i:=j) oM;refine⟨⟨oM,oM⟩,_,_,_,_,_,_,y7i hf,Cv.du.mk (λg=>⟨(),?_,ic⟩) (λg=>⟨j+1,um oM,⟨oM,?_⟩,Z9,ic⟩)⟩
  ·have g:f.inst=i.k:=by simpa using g
   have e:i.x.ig.find? (λf=>decide (f.inst=i.k))=au f:=by
    rw[<- A3 j i.x.ig,List.find?_append,j2,DQ (by omega),(ju.1 hf).2,List.find?_cons_of_pos (by simpa using g)];rfl
   rw[Ff,e]
  ·have g:¬f.inst=i.k:=by simpa using g
   rw[tv,hf,List.find?_append,j2];simp[g]
 ·have:j=i.x.ig.length:=by omega
  rw[this,oV (mg _)]at j2;exact⟨(),by rw[Ff,j2],ic⟩
def y6m:ofC.ok Tryz.prog 240:=ix mixed fx 0 (λ_=>[]) (λ_=>ofA) [] Tryz.func240 vof
def yIx (i:JK) (h:BS.du i):z6m i:=by
 obtain⟨⟨hc,hp⟩,PZ,hl⟩:i.m.BE/\ie i.x.dp/\i.x.ig.length<=1000000:=h;unfold z6m Q8 QZ Qa fp ez qY lN Qc xB kM Q8;refine Cv.du.mk (λe=> ?_) (λe=> ?_)
 ·have e:i.x.je=ap:=by simpa using e
  have h0:qW i.m.p i.inst i.x=((cG i.m.p i.inst i.x.dp).1,(cG i.m.p i.inst i.x.dp).2.1):=by rw[qW,fk e]
  rw[h0];exact⟨⟨i.m.p,i.inst,i.x.dp⟩,iH (oT ⟨rfl,⟨hc,hp,PZ⟩,λ_ _=>kp⟩)⟩
 ·have e:¬i.x.je=ap:=by simpa using e
  have h0:qW i.m.p i.inst i.x=(Ff i.x (i.m.p.gf i.inst).1,Ff i.x (i.m.p.gf i.inst).2.1):=by rw[qW,dx e]
  rw[h0];exact⟨⟨i.m.p,i.inst⟩,iH (jh ⟨rfl,hp,λ_ _=>⟨⟨i.x,(i.m.p.gf i.inst).1⟩,oT ⟨rfl,hl,λ_ _=>⟨⟨i.x,(i.m.p.gf i.inst).2.1⟩,oT ⟨rfl,hl,λ_ _=>kp⟩⟩⟩⟩⟩)⟩
def z9z:BS.ok Tryz.prog 230:=ix mixed (dz tG (dz z8c (dz y6m fx))) 0 (λ_=>[]) (λ_=>[]) [] Tryz.func230 yIx
def YE (p:fj) (x:kX) (r:fy):(jJ p x r).length<=3:=by
 rw[jJ,iY];split
 ·rw[M1];simp
 ·simp
def yFd {p:fj} {x:kX} {r:fy} (h:(p.gf r.inst).2.2=ap):jJ p x r=[r]:=by
 rw[jJ,dx (by rw[h];decide)]
def z3a {p:fj} {x:kX} {r:fy} (h:(p.gf r.inst).2.2=aq):jJ p x r=r::M1 p r (qW p r.inst x).1 (qW p r.inst x).2:=by
 rw[jJ,fk h]
def ta.Dx (i:ta):∀j,(i.out j).length<=3*j
 |0=>mg _
 |j+1=>by
  have ih:=ta.Dx i j;rw[ta.out]at ih ⊢;rw[tv,zk,iQ];cases e:i.x.ig[j]? with
  |none=>simp only[Option.toList_none,KU,Al];omega
  |some f=>
   have:=YE i.m.p i.x (cR f);simp only[DP,xu,KU,pd];omega
def ta.Gz (i:ta) {j:Nat} {f:uV} (h:i.x.ig[j]? =au f):i.out (j+1)=i.out j++jJ i.m.p i.x (cR f):=by
 rw[ta.out,ta.out,tv,zk,h];simp
def y4f (i:ta) (h:F5.du i):yQo i:=by
 obtain⟨hf,PZ,hl,AH,yw⟩:i.m.BE/\ie i.x.dp/\i.x.ig.length<=1000000/\(i.c.side=1\/i.c.side=2)/\∀f∈i.x.ig,f.side=1\/f.side=2:=h;have e4:(i.x.ig.map y5).length=i.x.ig.length:=iz ..;unfold yQo QC Qb fp ez Qh Qz nP zFp QK Z1 QK Z3 QK cF cO qY dI;refine⟨0,rfl,rfl,λj=>j<=i.x.ig.length,λj=>i.x.ig.length-j,oQ _,?_⟩;intro j hj;have ho:=i.Dx j;have e5:((i.out j).map yX).length=(i.out j).length:=iz ..;refine zI (λc=> ?_) (λc=> ?_)
 ·obtain⟨f,hfj⟩:=z6 (l:=i.x.ig) (i:=j) oM;have wy:=i.Gz hfj;have aaQ:=yw f (mc hfj);refine⟨⟨oM,oM⟩,_,_,_,_,_,_,y7i hfj,oM,⟨i.m,f.inst⟩,rfl,rfl,rfl,rfl,rfl,rfl,rfl,rfl,rfl,rfl,rfl,rfl,rfl,rfl,hf,λ_ _=>Cv.du.mk (λe=> ?_) (λe=> ?_)⟩
  ·have e:(i.m.p.gf (cR f).inst).2.2=aq:=e;rw[z3a e]at wy;refine⟨⟨i.m,f.inst,i.x⟩,iH (oE (jh ⟨rfl,⟨hf,PZ,hl⟩,λ_ _=>⟨⟨i.m,cR f,(qW i.m.p f.inst i.x).1,(qW i.m.p f.inst i.x).2⟩,iH (iH (oE ⟨rfl,⟨hf,aaQ⟩,λ_ _=>⟨trivial,by rw[iQ,e5];simp only[iY,Al];omega,j+1,um oM,?_,oM,Z9,ic⟩⟩))⟩⟩))⟩;rw[wy,jz,km];rfl
  ·have e:(i.m.p.gf (cR f).inst).2.2=ap:=e;rw[yFd e]at wy;refine⟨j+1,um oM,?_,oM,Z9,ic⟩;rw[wy,jz];rfl
 ·have hj:j=i.x.ig.length:=by omega
  have Jz:i.x.ig.flatMap (λf=>jJ i.m.p i.x (cR f))=i.out j:=by rw[ta.out,hj,oV (mg _)]
  have hR:cU i.m.p i.c i.x i.left=i.out j++jJ i.m.p i.x ⟨3,i.c.id,i.c.inst,i.c.side,i.x.dp,i.x.dq,i.left,0⟩:=by rw[cU,Jz]
  refine⟨oM,⟨i.m,i.c.inst⟩,iH (A6 ⟨rfl,hf,λ_ _=>Cv.du.mk (λe=> ?_) (λe=> ?_)⟩)⟩
  ·have e:(i.m.p.gf (⟨3,i.c.id,i.c.inst,i.c.side,i.x.dp,i.x.dq,i.left,0⟩:fy).inst).2.2=aq:=e;rw[z3a e]at hR;refine⟨⟨i.m,i.c.inst,i.x⟩,iH (oE (jh ⟨rfl,⟨hf,PZ,hl⟩,λ_ _=>⟨⟨i.m,⟨3,i.c.id,i.c.inst,i.c.side,i.x.dp,i.x.dq,i.left,0⟩,(qW i.m.p i.c.inst i.x).1,(qW i.m.p i.c.inst i.x).2⟩,iH (iH (oE ⟨rfl,⟨hf,AH⟩,λ_ _=>⟨trivial,by rw[iQ,e5];simp only[iY,Al];omega,?_⟩⟩))⟩⟩))⟩;rw[hR,jz,km];exact kp
  ·have e:(i.m.p.gf (⟨3,i.c.id,i.c.inst,i.c.side,i.x.dp,i.x.dq,i.left,0⟩:fy).inst).2.2=ap:=e;rw[yFd e]at hR;rw[hR,jz];exact kp
def yPf:F5.ok Tryz.prog 219:=ix mixed (dz y5d (dz z9z (dz z8j fx))) 1 (λ_=>[]) (λi=>y2o i) [] Tryz.func219 y4f
structure rm where
 m:iO
 p:fj
 B:List (List zE)
 U:List Int
 c:ir
 X:Fw
@[reducible] def rm.Nw (i:rm):Prop:=i.m.fy i.p i.B i.U/\jo i.p i.B
@[reducible] def rm.qn (i:rm):Prop:=(0<=i.c.inst/\i.c.inst<i.B.length)/\(1<=i.c.dq/\i.c.dq<=1000000)/\(i.c.side=1\/i.c.side=2)
@[reducible] def O9 (X:Fw) (p:fj):Alt:={o:=iO,res:=λ_=> .own 5,post:=λo=>BZ o++[Er X.R],rel:=λo=>o.fy p X.B X.U}
def Gd:gx where
 ι:=rm
 pat:=λi=>[.nm 0 0,CP i.c]
 pre:=λi=>BZ i.m
 du:=λi=>i.Nw/\i.qn/\i.p.dp i.c.inst i.c.dp=0/\i.X=wQ i.p i.B i.U i.c
 alts:=λi=>[O9 i.X i.p]
structure Ly where
 left:Int
 k:Nat
 out:List fy
def y1l (i:rm):List ib:=[{ι:=Ly,dv:=λj=>[(5,.own 0),(8,zB j.left),(51,zB j.k)],rows:=λj=>[Er j.out]}]
def F2:gx where
 ι:=rm
 pat:=λi=>[.nm 0 0,CP i.c]
 pre:=λi=>BZ i.m
 du:=λi=>i.Nw/\i.c.right=0/\i.c.kind=1/\i.X=bR i.p i.B i.U i.c
 alts:=λi=>[O9 i.X i.p]
def y1q:List (Nat×ib):=[(22,ij 6),(44,bj 47),(52,bj 69)]
structure Dh where
 m:iO
 p:fj
 B:List (List zE)
 U:List Int
 id:Int
 q:Int
 inst:Int
 o:zE
 X:Fw
@[reducible] def Dh.Nw (i:Dh):Prop:=i.m.fy i.p i.B i.U/\jo i.p i.B
def IJ:gx where
 ι:=Dh
 pat:=λi=>[.nm 0 0,zB i.id,zB i.inst,Nc i.o]
 pre:=λi=>BZ i.m
 du:=λi=>i.Nw/\i.X=jV i.B i.U i.id i.inst i.o
 alts:=λi=>[O9 i.X i.p]
def Iy:gx where
 ι:=Dh
 pat:=λi=>[.nm 0 0,zB i.id,zB i.q,zB i.inst,Nc i.o]
 pre:=λi=>BZ i.m
 du:=λi=>i.Nw/\ie (i.o.dq-i.q)/\i.X=uQ i.B i.U i.id i.q i.inst i.o
 alts:=λi=>[O9 i.X i.p]
structure Na where
 m:iO
 p:fj
 B:List (List zE)
 U:List Int
 c:ir
 inst:Int
 o:zE
 X:Fw
def BO:gx where
 ι:=Na
 pat:=λi=>[.nm 0 0,CP i.c,zB i.inst,Nc i.o]
 pre:=λi=>BZ i.m
 du:=λi=>i.m.fy i.p i.B i.U/\jo i.p i.B/\zW i.B i.c.id=(i.inst,i.o,aq)/\(1<=i.c.dq/\i.c.dq<=1000000)/\i.X=uB i.p i.B i.U i.c i.inst i.o
 alts:=λi=>[O9 i.X i.p]
def doC:gx where
 ι:=rm
 pat:=λi=>[.nm 0 0,CP i.c]
 pre:=λi=>[kF i.m]
 du:=λi=>i.Nw/\i.c.label.length<=140737488355328/\ie i.c.dq/\i.X=tx i.p i.B i.U i.c
 alts:=λi=>[{o:=iO,res:=λ_=> .own 1,post:=λo=>[kF o,Er i.X.R],rel:=λo=>o.fy i.p i.X.B i.X.U}]
end Sx
