/- Texts of ours. No condition. -/
import Derived.Shelf.Spec.SlicesGrow
import Derived.Test.YtgmmlhddihaocaaGreatS9
set_option linter.all false
open Sx.fi renaming jc->aa,cells->ab,qw->ac,jz->ae,map->af,own->ag
open Go.IntKind renaming i64->aj,u8->ak
open List renaming map->am,drop_take->ao,drop_left->ap
open Bool renaming false->aq,true->ar
open Go.Builtin renaming zeroCells->au
open Option renaming some->av,none->aw
open ByteArray renaming mk->ax
open BitVec renaming ofInt->ay
open Go.Value renaming string->az
open Go renaming grownCap->ba,TypeId->bc,size_zeroCells->be
namespace Sx
set_option maxRecDepth 100000
open Go Cv Go.Proofs
def J5:Go.Shelf.Ren:=⟨λx=>if x=4 then 113 else x,λx=>if x=22 then 43 else if x=25 then 5 else x,λx=>x⟩
def y3d:Lays8.n4 Tryz.prog J5 where
 mixed:=mixed
 f4:=⟨Tryz.f113.name,by decide+kernel,by kernel_rfl⟩
 t0:=by kernel_rfl
 a0:=λ_=>by kernel_rfl
 z0:=λ_=>by kernel_rfl
 v0:=λ_=>by kernel_rfl
 t3:=by kernel_rfl
 a3:=λ_=>by kernel_rfl
 z3:=λ_=>by kernel_rfl
 v3:=λ_=>by kernel_rfl
 t4:=by kernel_rfl
 a4:=λ_=>by kernel_rfl
 z4:=λ_=>by kernel_rfl
 v4:=λ_=>by kernel_rfl
 t9:=by kernel_rfl
 a9:=λ_=>by kernel_rfl
 z9:=λ_=>by kernel_rfl
 v9:=λ_=>by kernel_rfl
 t20:=by kernel_rfl
 a20:=λ_=>by kernel_rfl
 z20:=λ_=>by kernel_rfl
 v20:=λ_=>by kernel_rfl
 t22:=by kernel_rfl
 a22:=λ_=>by kernel_rfl
 z22:=λ_=>by kernel_rfl
 v22:=λ_=>by kernel_rfl
def y5n:vT Tryz.prog 43=av (5,1,1,#[.int .u8 0]):=by kernel_rfl
def yPt:Bu.ok Tryz.prog 113:=by
 intro(n:Nat) hc k L E w ys R hv;obtain⟨c1,c2⟩:1<=n/\n<=1099511627776:=hc;simp only[Bu,fp,gw,VR,DR]at hv;obtain⟨_,_,rfl,⟨rfl,_⟩,_,_,rfl,⟨rfl,_⟩,rfl⟩:=hv;obtain⟨inf,zv,q1,q2,q3,q4,q5,q6⟩:=kP y5n;have vz:=Any8.slices_Grow_grow y3d inf zv q2 q5 oM aw 0 0 n [] w (lk _) oM (by rw[q4];omega) oM (by simp) (λ_=>rfl) (λa h=>by cases h);rw[show J5.t 25=5 from rfl]at vz;refine mT (by kernel_rfl) (vz.mono ?_);rintro en w' ⟨rfl,rfl⟩;have hG:=grownCap_ge w (0+n) 0 5;have H:=((R.hp.drew).new (.cells (([]:List Value).toArray++au zv.cells (0+n-0)++au zv.cells (ba w (0+n) 0 5-(0+n))) 5))
 have ha:(([]:List Value).toArray++au zv.cells (0+n-0)++au zv.cells (ba w (0+n) 0 5-(0+n)))=([]++((au zv.cells (0+n-0)).toList++(au zv.cells (ba w (0+n) 0 5-(0+n))).toList)).toArray:=by
  apply Array.ext';simp
 have hz:zv.cells.size=1:=by rw[q6];rfl
 have hl:([]++((au zv.cells (0+n-0)).toList++(au zv.cells (ba w (0+n) 0 5-(0+n))).toList)).length=ba w (0+n) 0 5*1:=by
  rw[xj,iv,Ja,Ja,be,be,hz];omega
 rw[ha]at H ⊢;have H3:=H.As (n:=0) (sz:=1) (by simp) hl (mz _);obtain⟨E',r1,r2,r3⟩:=bH (rows:=[]) (ez:=[]) (nx:=0) R.nx (by simp[iF]) (λx hx=>by cases hx) H3;exact⟨_,rfl,_,vm.2 rfl,(),trivial,E',r1,r3,⟨r2.nx,r2.hp⟩⟩
def NO {ls:List (List UInt8)} {k:Nat} {l:List UInt8} (h:ls[k]? =av l):zD (ls.map gh) k 0 1=av [D.ro 1 (bE l)]:=ju h (by simp[gh]) rfl
def sF {α:Type} {ls:List (List α)} {k:Nat} {l:List α} (h:ls[k]? =av l):(ls.take (k+1)).flatten=(ls.take k).flatten++l:=by
 rw[tb,h,Eb,M4];simp
def yCm {α:Type} (ls:List (List α)) (k:Nat):(ls.take k).flatten.length<=ls.flatten.length:=by
 conv=>rhs;rw[<- BK k ls,M4,iv]
 omega
def y4r (ls:List (List UInt8)) (h:xx.dq ls):Uc ls:=by
 obtain⟨h1,h2,h3⟩:1<=ls.flatten.length/\ls.flatten.length<=1099511627776/\ls.length<=1000:=h;unfold Uc aR kD;rw[im];refine⟨0,rfl,rfl,λk=>k<=ls.length,λk=>ls.length-k,mz _,λk hk=>zH (λgv=> ?_) (λgv=> ?_)⟩
 ·obtain⟨l,hl⟩:=z6 (l:=ls) (i:=k) oM;have hk:k<=ls.length:=hk;have e1:=yCm ls (k+1);rw[sF hl,iv]at e1;refine⟨⟨oM,oM⟩,bE l,NO hl,zH (λc=> ?_) (λ_=>⟨k+1,?_,rf oM,Z9,Z9,trivial⟩)⟩
  ·rw[yH,iA (by omega)]at c;omega
  ·rw[sF hl,iv,yH,iA (by omega)];simp
 ·obtain rfl:k=ls.length:=by have hk:k<=ls.length:=hk;omega
  rw[BJ];refine⟨ls.flatten.length,trivial,rfl,⟨h1,h2⟩,λ_ _=>⟨0,rfl,rfl,λk=>k<=ls.length,λk=>ls.length-k,mz _,λk hk=>zH (λgv=> ?_) (λgv=> ?_)⟩⟩
  ·obtain⟨l,hl⟩:=z6 (l:=ls) (i:=k) oM;have hk:k<=ls.length:=hk;have e1:=yCm ls (k+1);rw[sF hl,iv]at e1;refine⟨⟨oM,oM⟩,bE l,NO hl,by rw[yH,yH];omega,k+1,rf oM,by rw[sF hl,NX],Z9,Z9,trivial⟩
  ·obtain rfl:k=ls.length:=by have hk:k<=ls.length:=hk;omega
   rw[BJ];exact⟨(),rfl,trivial⟩
def yBk:xx.ok Tryz.prog 50:=y0i (dx yPt fj) y4r
def AK:J9.ok Tryz.prog 26:=ib (V:=y4w) mixed fj 0 (λ_=>[]) (λ_=>[]) [] Tryz.func26 λ(_:Unit) _=>⟨(),rfl,rfl,trivial⟩
def yPq:Sa.ok Tryz.prog 112:=ib (V:=yTy) mixed fj 0 (λ_=>[]) (λ_=>[]) [0] Tryz.func112 λ(i:HY) h=>by
 have h:i.d.b.length+i.l.length<=1048576:=h;unfold yTy;rw[yH,yH];refine zH (λc=> ?_) (λ_=>⟨oM,(),rfl,rfl,NX _ _,trivial⟩);rw[iA (by omega)]at c;omega
def yRo:RY.ok Tryz.prog 181:=ib (V:=y6n) mixed fj 0 (λ_=>[]) (λ_=>[]) [0] Tryz.func181 λ(d:Dk) h=>⟨(),by rw[yH],rfl,trivial⟩
def yBq:R9.ok Tryz.prog 80:=ib (V:=y3g) mixed (dx zNv fj) 0 (λ_=>[]) (λ_=>[]) [0] Tryz.func80 λ(d:Dk) h=>by
 obtain⟨h1,h2⟩:d.ok:=h;exact⟨_,rfl,by rw[yH];omega,λ_ _=>⟨(),iT trivial⟩⟩
def z6d:sv.ok Tryz.prog 70:=yDi fj λi h=>λb hb=>
 Cv.dq.mk (λe=>⟨(),hb e,trivial⟩) (λ_=>⟨by rw[oa,Nat.mul_one];exact h,(),rfl,trivial⟩)
def z9b:RZ.ok Tryz.prog 81:=ib (V:=yVt) mixed (dx z6d fj) 0 (λ_=>[]) (λ_=>[]) [0] Tryz.func81 λ(i:HY) h=>by
 have h:i.l.length<=1048576:=h;unfold yVt;refine zH (λc=> ?_) (λ_=>⟨_,rfl,by rw[yH];omega,λ_ _=>⟨(),rfl,by rw[yH],rfl,trivial⟩⟩);rw[yH]at c;omega
def y2j:∀n:Fin 256,jj (aj.wrap (ay aj.bits (if aj.signed=ar then(-1:Int)else aj.max) ^^^ ay aj.bits (n.val:Int)).toNat)=UInt8.ofNat (255-n.val):=by decide+kernel
def y7b:∀n:Fin 256,ak.wrap (ay ak.bits (if ak.signed=ar then(-1:Int)else ak.max) ^^^ ay ak.bits (n.val:Int)).toNat=255-(n.val:Int):=by decide+kernel
def uA (l:List UInt8):(x7 l).length=l.length+6:=by
 simp only[x7,iJ,iv,xJ]
def yWm (l:List UInt8) (h:FT.dq l):yJj l:=by
 have h:l.length<=255:=h;have hn:=y2j ⟨l.length,oM⟩;dsimp only at hn;unfold yJj;rw[yH];revert hn;generalize aj.wrap (ay aj.bits (if aj.signed=ar then(-1:Int)else aj.max) ^^^ ay aj.bits (l.length:Int)).toNat=X;intro hn;refine zH (λc=>by omega) (λ_=>⟨(),trivial,λ_ _=>⟨⟨[],l.length⟩,rfl,rfl,by simp[WN.ok],λ_ _=>⟨⟨_,_⟩,rfl,rfl,by simp[WN.ok],λ_ _=>⟨?_,l,rfl,oM,λ_ _=>⟨⟨_,aY l⟩,rfl,NX _ _,⟨?_,Zq l⟩,λ_ _=>⟨_,rfl,?_,λ_ _=>⟨(),rfl,?_,trivial⟩⟩⟩⟩⟩⟩⟩)
 ·rw[yH];simp;omega
 ·dsimp only;simp;omega
 ·dsimp only;simp[xJ];omega
 ·dsimp only;rw[hn,x7];simp
def zZs:FT.ok Tryz.prog 73:=ib mixed (dx SR (dx SJ (dx z4w (dx yGp (dx SK fj))))) 0 (λ_=>yXw) (λ_=>[]) [] Tryz.func73 yWm
def yIq {c:Int} (h:0<=c/\c<4294967296):qG (le c 4)=c:=by
 simp only[le,qG,OK];omega
def XD {l:List UInt8} (h:l.length<=255) (r:List UInt8):BF (x7 l++r)=(l,6+l.length,0):=by
 have h0:((x7 l++r).getD 0 0).toNat=l.length:=by
  have:=Kk (n:=(l.length:Int)) oM;show(jj (l.length:Int)).toNat=l.length;omega
 have h1:((x7 l++r).getD 1 0).toNat=255-l.length:=by
  show(UInt8.ofNat (255-l.length)).toNat=_;exact UInt8.toNat_ofNat_of_lt' (by
                                     have:255-l.length<256:=by omega
                                     simpa using this)
 have h2:(x7 l++r).drop 2=l++(le (aY l) 4++r):=by
  show(l++le (aY l) 4)++r=_;rw[jh]
 have h3:(x7 l++r).drop (2+l.length)=le (aY l) 4++r:=by
  rw[<- CJ,h2,ap]
 unfold BF;rw[h0,h1,h2,h3,KM,List.take_left' (xJ 4 _),yIq (Zq l)];rw[fb (by rw[iv,uA];omega),fb (by omega),fb (by rw[iv,uA];omega),fb (by simp)]
def y9i (i:C1) (h:P5.dq i):y2t i:=by
 obtain⟨h1,h2⟩:i.k<=i.b.length/\i.b.length<=1099511627776:=h;have ex:i.x=BF (i.b.drop i.k):=rfl;have hll:(i.b.drop i.k).length<=1099511627776:=by rw[pd];omega
 have bad:∀e:Int,e≠0->i.x.2.2=e->∀{A:Prop},A\/∃o:Unit,True/\(0:Int)=0/\i.x.2.2=e/\(i.x.2.2=0->False):=λe he hx=> .inr ⟨(),trivial,rfl,hx,λh=>he (hx▸h)⟩
 unfold y2t lL Tb WW fX bJ mD;rw[oF,<- MD,yH i.b];generalize i.b.drop i.k=l at*;rw[yH l];refine zH (λc=>by omega) (λ_=>⟨⟨oM,oM⟩,zH (λc=>bad 10 Z8 (by rw[ex,BF,fh (by omega)])) (λc=> ?_)⟩);obtain⟨a,ha⟩:∃a,l[0]? =av a:=⟨_,vd oM⟩
 obtain⟨b,hb⟩:∃b,l[1]? =av b:=⟨_,vd oM⟩
 have ea:l.getD 0 0=a:=by rw[nk,ha];rfl
 have eb:l.getD 1 0=b:=by rw[nk,hb];rfl
 have la:=a.toNat_lt;have hn:=y7b ⟨a.toNat,la⟩;dsimp only at hn;refine⟨⟨oM,oM⟩,b.toNat,wN hb,⟨oM,oM⟩,a.toNat,wN ha,?_⟩;rw[hn];have wa:aj.wrap (a.toNat:Int)=a.toNat:=iA oM;have w2:aj.wrap ((2:Int)+a.toNat)=2+a.toNat:=iA oM;have w3:aj.wrap ((2:Int)+a.toNat+4)=2+a.toNat+4:=iA oM;have w4:aj.wrap ((i.k:Int)+(2+a.toNat))=i.k+(2+a.toNat):=iA oM;have w5:aj.wrap ((i.k:Int)+(2+a.toNat)+4)=i.k+(2+a.toNat)+4:=iA oM;have t1:((2:Int)+a.toNat).toNat=2+a.toNat:=by omega
 have t2:((2:Int)+a.toNat+4).toNat=2+a.toNat+4:=by omega
 refine Cv.dq.mk (λc2=>bad 14 Z8 ?_) (λc2=>⟨⟨oM,oM⟩,a.toNat,wN ha,?_⟩)
 ·have c2:¬((b.toNat:Int)=255-a.toNat):=by simpa using c2
  rw[ex,BF,fb (by omega),ea,eb,fh (by omega)]
 have c2:(b.toNat:Int)=255-a.toNat:=by simpa using c2
 rw[wa,w2,w3,w4,w5,t1,t2,show Int.toNat 2=2 from rfl];refine zH (λc3=>bad 10 Z8 ?_) (λc3=> ?_)
 ·rw[ex,BF,fb (by omega),ea,eb,fb (by omega),fh (by omega)]
 have l1:((l.take (2+a.toNat+4)).drop (2+a.toNat)).length=4:=by rw[pd,om];omega
 have g1:(l.take (2+a.toNat+4)).drop (2+a.toNat)=(l.drop (2+a.toNat)).take 4:=by rw[ao];congr 1;omega
 have g2:(l.take (2+a.toNat)).drop 2=(l.drop 2).take a.toNat:=by rw[ao];congr 1;omega
 have g3:RN.lh ⟨(l.take (2+a.toNat+4)).drop (2+a.toNat),aq,4⟩=(l.drop (2+a.toNat)).take 4:=by
  rw[RN.lh,fb (by simp only[RN.bad,l1];decide)];dsimp only;rw[oh (by omega),g1]
 have l2:((l.drop 2).take a.toNat).length=a.toNat:=by rw[om,pd];omega
 refine⟨⟨oM,oM,oM⟩,(l.take (2+a.toNat+4)).drop (2+a.toNat),by rw[MD,Oc],oM,λ_ _=>⟨⟨oM,oM,oM⟩,⟨_,aq,4⟩,rfl,rfl,⟨Z9,Z9⟩,λ_ _=>⟨(l.take (2+a.toNat)).drop 2,by rw[MD,Oc],by rw[g2];omega,λ_ _=> ?_⟩⟩⟩;rw[g2,g3];have hr:=mR ((l.drop (2+a.toNat)).take 4);have hl4:((l.drop (2+a.toNat)).take 4).length=4:=by rw[<- g1];exact l1
 rw[hl4]at hr;rw[y3s (by omega)];refine Cv.dq.mk (λc4=>bad 14 Z8 ?_) (λc4=> ?_)
 ·rw[ex,BF,fb (by omega),ea,eb,fb (by omega),fb (by omega),fh (by simpa using c4)]
 have ex2:i.x=((l.drop 2).take a.toNat,6+a.toNat,0):=by
  rw[ex,BF,fb (by omega),ea,eb,fb (by omega),fb (by omega),fb (by simpa using c4)]
 rw[ex2,<- Oc,<- MD,g2,yH,l2];exact⟨⟨oM,oM,oM⟩,oM,.inl ⟨(),Z9,rfl,rfl,rfl⟩⟩
def yHb:P5.ok Tryz.prog 131:=ib mixed (dx VW (dx z5a (dx z4w fj))) 0 (λ_=>[]) (λ_=>[]) [] Tryz.func131 y9i
def z8t (A B:List (List UInt8)):ni (A++B)=ni A++ni B:=by rw[ni,yq];rfl
def Ta (l:List UInt8) (L:List (List UInt8)):ni (l::L)=x7 l++ni L:=rfl
def z2v {L:List (List UInt8)} {k:Nat} {l:List UInt8} (h:L[k]? =av l):ni (L.take (k+1))=ni (L.take k)++x7 l:=pY h
def zTd (L:List (List UInt8)) (k:Nat):ni L=ni (L.take k)++ni (L.drop k):=by rw[<- z8t,BK]
def z9c (L:List (List UInt8)):L.length<=(ni L).length:=by
 induction L with
 |nil=>exact lk _
 |cons l L ih=>rw[Ta,iv,uA,iJ];omega
def y5d (i:DL) (h:JH.dq i):yUm i:=by
 obtain⟨h1,h2,h3⟩:i.ok:=h;have hn:=z9c i.L;have tq:∀k,(ni i.L).length=(ni (i.L.take k)).length+(ni (i.L.drop k)).length:=λk=>by
  have:=congrArg List.length (zTd i.L k);rwa [iv]at this
 unfold yUm X9 fS;rw[yH,iv];refine⟨0,rfl,rfl,λk=>k<=i.L.length,λk=>i.L.length-k,mz _,λk hk=>zH (λgv=> ?_) (λgv=> ?_)⟩
 ·have hk:k<=i.L.length:=hk;have hs:=tq k;have hx:(C1.mk (ni i.L++i.t) (ni (i.L.take k)).length).x=BF (ni (i.L.drop k)++i.t):=by
   show BF ((ni i.L++i.t).drop _)=_;rw[zTd i.L k,jh,ap]
  refine⟨⟨ni i.L++i.t,(ni (i.L.take k)).length⟩,rfl,rfl,⟨by dsimp only;rw[iv];omega,by dsimp only;rw[iv];omega⟩,λ_ e0=> ?_,λ_ e1=> ?_⟩
  ·rw[hx]at e0 ⊢;rcases ur k i.L.length with rn|rn
   ·obtain⟨l,hl⟩:=z6 rn;have hd:i.L.drop k=l::i.L.drop (k+1):=by
     rw[DC rn];congr 1;rw[vd rn]at hl;exact Option.some.inj hl
    have Fp:=h1 l (lq hl);rw[hd,Ta,jh,XD Fp];refine⟨by rw[im,om];omega,k+1,?_,?_,Z9,Z9,trivial⟩
    ·rw[z2v hl,iv,uA];dsimp only;omega
    ·rw[tb,hl];simp[gh]
   ·rw[Hz rn]at e0;rw[show ni ([]:List (List UInt8))++i.t=i.t from rfl,h2]at e0;cases e0
  ·rw[hx]at e1 ⊢;rcases ur k i.L.length with rn|rn
   ·obtain⟨l,hl⟩:=z6 rn;have hd:i.L.drop k=l::i.L.drop (k+1):=by
     rw[DC rn];congr 1;rw[vd rn]at hl;exact Option.some.inj hl
    have Fp:=h1 l (lq hl);rw[hd,Ta,jh,XD Fp]at e1;exact absurd rfl e1
   ·obtain rfl:k=i.L.length:=by omega
    rw[List.drop_length,show ni ([]:List (List UInt8))++i.t=i.t from rfl,h2,BJ];exact Cv.dq.mk (λe=>by cases e) (λ_=>Cv.dq.mk (λ_=>⟨(),iT trivial⟩) (λe=>by cases e))
 ·have hk:k<=i.L.length:=hk;have hs:=tq k;have h5:=z9c (i.L.drop k);rw[pd]at h5;obtain rfl:k=i.L.length:=by omega
  rw[BJ];exact⟨(),iT trivial⟩
def yTb:JH.ok Tryz.prog 152:=ib mixed (dx yHb fj) 0 (λ_=>[]) (λi=>y5j i) [] Tryz.func152 y5d
def yXc:aay.ok Tryz.prog 100:=ib (V:=y2r) mixed (dx yBq (dx yTb (dx z9b fj))) 0 (λ_=>[]) (λ_=>[]) [] Tryz.func100 λ(i:BX) h=>by
 obtain⟨hs,hd⟩:(DL.mk i.L i.t).ok/\i.d.ok:=h;have e0:(bE i.d.b).length=(ni i.L).length+i.t.length:=by rw[yH,BX.d,iv]
 have h3:=hs.2.2;dsimp only at h3;unfold y2r;refine⟨i.d,rfl,hd,λ_ _=>⟨⟨i.L,i.t⟩,rfl,hs,λ_ _=>zH (λc=> ?_) (λc=> ?_)⟩⟩
 ·have ht:i.t≠[]:=λe=>by rw[e0,e]at c;simp at c
  refine⟨⟨oM,by rw[e0];dsimp only;omega⟩,⟨i.d,ni i.L⟩,?_,rfl,Z9,λ_ _=>⟨(),rfl,?_,by rw[im],rfl,trivial⟩⟩
  ·dsimp only;rw[oF,<- Oc,BX.d,KM]
  ·rw[BX.d',fb ht]
 ·have ht:i.t=[]:=List.length_eq_zero_iff.1 (by rw[e0]at c;dsimp only at c;omega);refine⟨(),rfl,?_,by rw[im],rfl,trivial⟩;rw[BX.d',fh ht]
def yPl:Rx.ok Tryz.prog 49:=ib (V:=y3z) mixed (dx zZs (dx yPq fj)) 0 (λ_=>[]) (λ_=>[]) [] Tryz.func49 λ(i:JA) h=>by
 obtain⟨h1,h2,h3,h4⟩:i.l.length<=255/\i.d.b.length+i.l.length+6<=1048576/\0<=i.n/\i.n<=1048576:=h;exact⟨i.l,rfl,h1,λ_ _=>⟨⟨i.d,x7 i.l⟩,rfl,rfl,by dsimp only;rw[uA];omega,λ_ _=>⟨(),rfl,by rw[iA (by omega)],rfl,trivial⟩⟩⟩
def yPz:Rw.ok Tryz.prog 137:=ib (V:=y2d) mixed (dx yRo fj) 0 (λ_=>[]) (λ_=>[]) [] Tryz.func137 λ(i:JA) h=>⟨i.d,rfl,h,λ_ _=>⟨(),rfl,rfl,trivial⟩⟩
open Classical
def lT (i:RN):i.left.length<=i.l.length:=by
 unfold RN.left;split
 ·omega
 ·rw[pd];omega
def pC {r:RB} (h:r.ok):r.byte.2.ok:=xi (lT _) h
def gT {r:RB} (h:r.ok):r.jd.2.ok:=xi (lT _) h
def Tz (l:List UInt8):bE l=jI ⟨l.toArray⟩:=rfl
def y5u (s:List UInt8):Prop:=
 ∃(a:Nat×Nat),(↑a.snd:Int)=0/\sb s=sb s/\a.fst=0/\∃(b:Nat×Nat->Prop),∃(c:Nat×Nat->Nat),b a/\∀(d:Nat×Nat),b d->dq (d.fst.blt (sb s).size) (dq (decide ((qI s d)<32)) (∃(e:Unit),dJ s=aq/\True) (dq ((qI s d)==127) (∃(e:Unit),dJ s=aq/\True) (dq ((qI s d)==65533) (∃(e:Unit),dJ s=aq/\True) (cO d s b c)))) (dq (decide ((↑d.snd:Int)>=1)) (∃(e:Unit),dJ s=decide ((↑d.snd:Int)<=12)/\True) (∃(e:Unit),dJ s=aq/\True))
def XV (a:ir):Prop:=∃(b:List UInt8),sb b=sb a.label/\b.length<=140737488355328/\∀(c:Unit),True->dq (!dJ b) (∃(d:Unit),a.gg=29/\True) (dq (decide (a.dk>=(-2000000))) (dq (!decide (a.dk<=2000000)) (∃(d:Unit),a.gg=23/\True) (dq (decide (a.inst<0)) (∃(d:Unit),a.gg=20/\True) (dq (decide (a.inst>255)) (∃(d:Unit),a.gg=20/\True) (∃(d:Unit),a.gg=0/\True)))) (∃(d:Unit),a.gg=23/\True))
def yTz (c:ir):Prop:=
 dq (c.side !=1) (dq (c.side !=2) (∃(a:Unit),c.gg=21/\True) (dq (decide (c.time<1)) (∃(a:Unit),c.gg=27/\True) (dq (decide (c.time>3)) (∃(a:Unit),c.gg=27/\True) (dq (decide (c.dr>=1)) (dq (!decide (c.dr<=1000000)) (∃(a:Unit),c.gg=24/\True) (dq (decide (c.least<0)) (∃(a:Unit),c.gg=28/\True) (dq (decide (c.least>c.dr)) (∃(a:Unit),c.gg=28/\True) (dq (!(sb c.label).toList==(ax #[]).toList) (XV c) (dq (decide (c.dk>=(-2000000))) (dq (!decide (c.dk<=2000000)) (∃(a:Unit),c.gg=23/\True) (dq (decide (c.inst<0)) (∃(a:Unit),c.gg=20/\True) (dq (decide (c.inst>255)) (∃(a:Unit),c.gg=20/\True) (∃(a:Unit),c.gg=0/\True)))) (∃(a:Unit),c.gg=23/\True)))))) (∃(a:Unit),c.gg=24/\True))))) (dq (decide (c.time<1)) (∃(a:Unit),c.gg=27/\True) (dq (decide (c.time>3)) (∃(a:Unit),c.gg=27/\True) (dq (decide (c.dr>=1)) (dq (!decide (c.dr<=1000000)) (∃(a:Unit),c.gg=24/\True) (dq (decide (c.least<0)) (∃(a:Unit),c.gg=28/\True) (dq (decide (c.least>c.dr)) (∃(a:Unit),c.gg=28/\True) (dq (!(sb c.label).toList==(ax #[]).toList) (XV c) (dq (decide (c.dk>=(-2000000))) (dq (!decide (c.dk<=2000000)) (∃(a:Unit),c.gg=23/\True) (dq (decide (c.inst<0)) (∃(a:Unit),c.gg=20/\True) (dq (decide (c.inst>255)) (∃(a:Unit),c.gg=20/\True) (∃(a:Unit),c.gg=0/\True)))) (∃(a:Unit),c.gg=23/\True)))))) (∃(a:Unit),c.gg=24/\True))))
def yNw (c:ir):Prop:=
 dq (decide (c.kind<1)) (∃(a:Unit),c.right=31/\True) (dq (decide (c.kind>4)) (∃(a:Unit),c.right=31/\True) (dq (decide (c.id<1)) (∃(a:Unit),c.right=1/\True) (dq (decide (c.id>1099511627776)) (∃(a:Unit),c.right=1/\True) (dq (c.kind==1) (∃(a:ir),a.kind=c.kind/\a.id=c.id/\a.inst=c.inst/\a.side=c.side/\a.dk=c.dk/\a.dr=c.dr/\a.least=c.least/\a.time=c.time/\sb a.label=sb c.label/\a.label.length<=140737488355328/\∀(b:Unit),True->∃(d:Unit),c.right=a.gg/\True) (dq (c.kind !=2) (dq (decide (c.dr>=1)) (dq (!decide (c.dr<=1000000)) (∃(a:Unit),c.right=24/\True) (dq (c.kind==4) (dq (decide (c.dk>=(-2000000))) (dq (!decide (c.dk<=2000000)) (∃(a:Unit),c.right=23/\True) (∃(a:Unit),c.right=0/\True)) (∃(a:Unit),c.right=23/\True)) (∃(a:Unit),c.right=0/\True))) (∃(a:Unit),c.right=24/\True)) (dq (c.kind==4) (dq (decide (c.dk>=(-2000000))) (dq (!decide (c.dk<=2000000)) (∃(a:Unit),c.right=23/\True) (∃(a:Unit),c.right=0/\True)) (∃(a:Unit),c.right=23/\True)) (∃(a:Unit),c.right=0/\True)))))))
def y7e (s:List UInt8) (h:Qq.dq s):y5u s:=by
 have h:s.length<=140737488355328:=h;have hr:=Yc s;unfold y5u qI cO;refine⟨(0,0),rfl,rfl,rfl,λx=>x.1<=s.length/\x.2+(gE s x.1).length=(jF s).length/\(jF s).all Gs=(gE s x.1).all λx=>Gs x.2,λx=>s.length-x.1,⟨oM,by rw[jF,im];simp,by rw[jF,List.all_map];rfl⟩,?_⟩;rintro⟨p,n⟩ ⟨h1,h2,h3⟩;dsimp only at h1 h2 h3 ⊢;refine Cv.dq.mk (λhp=> ?_) (λhp=> ?_)
 ·have hp:p<s.length:=by simpa[yf]using hp
  have hw:=bI s hp;rw[jY hp,iJ]at h2;rw[jY hp,List.all_cons]at h3;generalize hc:(Utf8.decode (sb s) p).1=c at h2 h3 ⊢;generalize hww:(Utf8.decode (sb s) p).2=w at h2 h3 hw ⊢;dsimp only at h3;have bad:Gs c=aq->∃(o:Unit),dJ s=aq/\True:=λe=>⟨(),by rw[dJ,h3,e];rfl,trivial⟩
  refine zH (λc1=>bad ?_) (λc1=>Cv.dq.mk (λc2=>bad ?_) (λc2=>Cv.dq.mk (λc3=>bad ?_) (λc3=> ?_)))
  ·simp[Gs];omega
  ·have c2:(c:Int)=127:=by simpa using c2
   simp[Gs];omega
  ·have c3:(c:Int)=65533:=by simpa using c3
   simp[Gs];omega
  ·have c2:¬(c:Int)=127:=by simpa using c2
   have c3:¬(c:Int)=65533:=by simpa using c3
   have e:Gs c=ar:=by simp[Gs];omega
   refine⟨(p+w,n+1),?_,rfl,rfl,⟨hw.2,by(first|omega|(dsimp only;omega)),by rw[h3,e];rfl⟩,by(first|omega|(dsimp only;omega)),trivial⟩;rw[iA (by omega)];rfl
 ·have hp:s.length<=p:=by have:=Ug hp;simpa using this
  rw[uN hp]at h2 h3;have h2:n=(jF s).length:=h2;have h3:(jF s).all Gs=ar:=h3;refine zH (λc=>⟨(),?_,trivial⟩) (λc=>⟨(),?_,trivial⟩)
  ·rw[dJ,h3,<- h2,lg (show 1<=n by omega)];simp only[Ae];congr 1;simp only[eq_iff_iff];omega
  ·rw[dJ,<- h2,ku (show ¬1<=n by omega)];simp
def yXd:Qq.ok Tryz.prog 201:=ib mixed fj 0 (λ_=>[]) (λs=>y8s s) [] Tryz.func201 y7e
def y9a (a b:Int):(a==b)=decide (a=b):=by
 by_cases h:a=b
 ·subst h;simp
 ·simp[h]
def y4h (a b:Int):(a !=b)=decide (a≠b):=by
 by_cases h:a=b
 ·subst h;simp
 ·simp[h]
def eqB (a b:List UInt8):((sb a).toList==(sb b).toList)=decide (a=b):=by
 rw[rM,rM];by_cases h:a=b
 ·subst h;simp
 ·simp[h]
def y1u:ax #[]=sb []:=rfl
def y2z (c:ir) (h:Du.dq c):yTz c:=by
 have h:c.label.length<=140737488355328:=h;unfold yTz XV;simp only[y1u,eqB,y4h];have tail:¬(c.side≠1/\c.side≠2)->dq (decide (c.time<1)) (∃(o:Unit),c.gg=27/\True) (dq (decide (c.time>3)) (∃(o:Unit),c.gg=27/\True) (dq (decide (c.dr>=1)) (dq (!decide (c.dr<=1000000)) (∃(o:Unit),c.gg=24/\True) (dq (decide (c.least<0)) (∃(o:Unit),c.gg=28/\True) (dq (decide (c.least>c.dr)) (∃(o:Unit),c.gg=28/\True) (dq (!decide (c.label=[])) (∃(i:List UInt8),sb i=sb c.label/\i.length<=140737488355328/\∀(o:Unit),True->dq (!dJ i) (∃(o:Unit),c.gg=29/\True) (dq (decide (c.dk>=-2000000)) (dq (!decide (c.dk<=2000000)) (∃(o:Unit),c.gg=23/\True) (dq (decide (c.inst<0)) (∃(o:Unit),c.gg=20/\True) (dq (decide (c.inst>255)) (∃(o:Unit),c.gg=20/\True) (∃(o:Unit),c.gg=0/\True)))) (∃(o:Unit),c.gg=23/\True))) (dq (decide (c.dk>=-2000000)) (dq (!decide (c.dk<=2000000)) (∃(o:Unit),c.gg=23/\True) (dq (decide (c.inst<0)) (∃(o:Unit),c.gg=20/\True) (dq (decide (c.inst>255)) (∃(o:Unit),c.gg=20/\True) (∃(o:Unit),c.gg=0/\True)))) (∃(o:Unit),c.gg=23/\True)))))) (∃(o:Unit),c.gg=24/\True))):=by
  intro hs;have e1:c.gg=if c.time<1\/3<c.time then 27 else if kL c.dr=aq then 24 else if c.least<0\/c.dr<c.least then 28
   else if c.label≠[]/\dJ c.label=aq then 29 else if vU c.dk=aq then 23 else if c.inst<0\/255<c.inst then 20 else 0:=by rw[ir.gg,fb hs]
  refine zH (λd1=>⟨(),by rw[e1,fh (.inl d1)],trivial⟩) λd1=>zH (λd2=>⟨(),by rw[e1,fh (.inr d2)],trivial⟩) λd2=> ?_
  rw[fb (by omega)]at e1;have q (hq:kL c.dr=aq):∃(o:Unit),c.gg=24/\True:=⟨(),by rw[e1,fh hq],trivial⟩
  refine zH (λd3=>Cv.dq.mk (λd4=>q ?_) λd4=> ?_) λd3=>q ?_
  ·have d4:¬c.dr<=1000000:=by simpa using d4
   simp[kL,d4]
  ·have d4:c.dr<=1000000:=by simpa using d4
   have hq:¬kL c.dr=aq:=by simp[kL,d4];omega
   rw[fb hq]at e1;refine zH (λd5=>⟨(),by rw[e1,fh (.inl d5)],trivial⟩) λd5=>zH (λd6=>⟨(),by rw[e1,fh (.inr d6)],trivial⟩) λd6=> ?_
   rw[fb (by omega)]at e1;have last:¬(c.label≠[]/\dJ c.label=aq)->dq (decide (c.dk>=-2000000)) (dq (!decide (c.dk<=2000000)) (∃(o:Unit),c.gg=23/\True) (dq (decide (c.inst<0)) (∃(o:Unit),c.gg=20/\True) (dq (decide (c.inst>255)) (∃(o:Unit),c.gg=20/\True) (∃(o:Unit),c.gg=0/\True)))) (∃(o:Unit),c.gg=23/\True):=by
    intro hl;rw[fb hl]at e1;have pr (hq:vU c.dk=aq):∃(o:Unit),c.gg=23/\True:=⟨(),by rw[e1,fh hq],trivial⟩
    refine zH (λg1=>Cv.dq.mk (λg2=>pr ?_) λg2=> ?_) λg1=>pr ?_
    ·have g2:¬c.dk<=2000000:=by simpa using g2
     simp[vU,g2]
    ·have g2:c.dk<=2000000:=by simpa using g2
     have hp:¬vU c.dk=aq:=by simp[vU,g2];omega
     rw[fb hp]at e1;refine zH (λg3=>⟨(),by rw[e1,fh (.inl g3)],trivial⟩) λg3=>zH (λg4=>⟨(),by rw[e1,fh (.inr g4)],trivial⟩) λg4=>⟨(),by rw[e1,fb (by omega)],trivial⟩
    ·simp[vU];omega
   refine Cv.dq.mk (λd7=>⟨c.label,rfl,h,λ_ _=>Cv.dq.mk (λd8=> ?_) λd8=>last ?_⟩) λd7=>last ?_
   ·have d7:¬c.label=[]:=by simpa using d7
    have d8:dJ c.label=aq:=by simpa using d8
    exact⟨(),by rw[e1,fh ⟨d7,d8⟩],trivial⟩
   ·have d8:dJ c.label=ar:=by simpa using d8
    simp[d8]
   ·have d7:c.label=[]:=by simpa using d7
    simp[d7]
  ·simp[kL];omega
 refine zH (λc1=>zH (λc2=>⟨(),by rw[ir.gg,fh ⟨c1,c2⟩],trivial⟩) λc2=>tail ?_) λc1=>tail ?_
 ·omega
 ·omega
def yOs:Du.ok Tryz.prog 165:=ib mixed (dx yXd fj) 1 (λ_=>[]) (λ_=>[]) [] Tryz.func165 y2z
def yYs (c:ir) (h:F3.dq c):yNw c:=by
 have h:c.label.length<=140737488355328:=h;unfold yNw;simp only[y9a,y4h];refine zH (λc1=>⟨(),by rw[ir.right,fh (.inl c1)],trivial⟩) λc1=>zH (λc2=>⟨(),by rw[ir.right,fh (.inr c2)],trivial⟩) λc2=> ?_
 refine zH (λc3=>⟨(),by rw[ir.right,fb (by omega),fh (.inl c3)],trivial⟩) λc3=>zH (λc4=>⟨(),by rw[ir.right,fb (by omega),fh (.inr c4)],trivial⟩) λc4=> ?_
 have e0:c.right=if c.kind=1 then c.gg else if c.kind≠2/\kL c.dr=aq then 24 else if c.kind=4/\vU c.dk=aq then 23 else 0:=by rw[ir.right,fb (by omega),fb (by omega)]
 refine zH (λc5=>⟨c,?_⟩) λc5=> ?_
 ·rw[fh c5]at e0;exact kp
 rw[fb c5]at e0;have last (hn:¬(c.kind≠2/\kL c.dr=aq)):dq (decide (c.kind=4)) (dq (decide (c.dk>=-2000000)) (dq (!decide (c.dk<=2000000)) (∃(o:Unit),c.right=23/\True) (∃(o:Unit),c.right=0/\True)) (∃(o:Unit),c.right=23/\True)) (∃(o:Unit),c.right=0/\True):=by
  rw[fb hn]at e0;refine zH (λd1=>zH (λd2=>Cv.dq.mk (λd3=> ?_) λd3=> ?_) λd2=> ?_) λd1=> ?_
  ·have d3:¬c.dk<=2000000:=by simpa using d3
   exact⟨(),by rw[e0,fh ⟨d1,by simp[vU,d3]⟩],trivial⟩
  ·have d3:c.dk<=2000000:=by simpa using d3
   exact⟨(),by rw[e0,fb (by simp[vU,d3];omega)],trivial⟩
  ·exact⟨(),by rw[e0,fh ⟨d1,by simp[vU];omega⟩],trivial⟩
  ·exact⟨(),by rw[e0,fb (by simp[d1])],trivial⟩
 refine zH (λd1=>zH (λd2=>Cv.dq.mk (λd3=> ?_) λd3=>last ?_) λd2=> ?_) λd1=>last ?_
 ·have d3:¬c.dr<=1000000:=by simpa using d3
  exact⟨(),by rw[e0,fh ⟨d1,by simp[kL,d3]⟩],trivial⟩
 ·have d3:c.dr<=1000000:=by simpa using d3
  simp[kL,d3];omega
 ·exact⟨(),by rw[e0,fh ⟨d1,by simp[kL];omega⟩],trivial⟩
 ·omega
def WZ:F3.ok Tryz.prog 115:=ib mixed (dx yOs fj) 1 (λ_=>[]) (λ_=>[]) [] Tryz.func115 yYs
def LN:gi:=fp RB (λi=>[.nm 0 0]) (λi=>[P1 i]) RB.ok (λi=>sV i.text.1) (λi=>[P1 i.text.2])
structure P0 where
 l:List UInt8
 s:List UInt8
def Ka:gi:=fp (List UInt8) (λb=>[oD 1 (bE b)]) (λ_=>[]) (λb=>b.length<=1099511627776) (λb=> .ja [CD (xL b).1,zA (xL b).2]) (λ_=>[])
def y4b:List (Nat×gp):=[(12,bj 19),(26,{ι:=ir×RB,dv:=λ_=>[(4,.nm 0 0),(5,.nm 1 0)],rows:=λx=>[P1 x.2,.cells x.1.cells 46],oI:=λ_=>[(4,.nm 0 0),(5,.nm 1 0)],lp:=λx=>[P1 x.2,.cells x.1.cells 46]})]
def yWy (i:RB):Prop:=
 ∃(iw:RB),ac (List UInt8×Bool) 1 ob (iw.l,iw.b)=P1 i/\iw.l.length<=1099511627776/\∀(o:Unit),True->∃(ng:RN),(↑ng.n:Int)=qG (iw.n 1).lh/\ac (List UInt8×Bool) 1 ob (ng.l,ng.b)=ac (List UInt8×Bool) 1 ob ((iw.n 1).left,(iw.n 1).bad)/\(ng.n<=255/\ng.l.length<=1099511627776)/\∀(o:Unit),True->∃(b:ByteArray),dj ((1:Nat))/\bE ng.lh=jI b/\∃(o:Unit),sb ((RB.mk (i.n 1).left (i.n 1).bad).n (qG (i.n 1).lh).toNat).lh=b/\ac (List UInt8×Bool) 1 ob (((RB.mk (i.n 1).left (i.n 1).bad).n (qG (i.n 1).lh).toNat).left,((RB.mk (i.n 1).left (i.n 1).bad).n (qG (i.n 1).lh).toNat).bad)=ac (List UInt8×Bool) 1 ob (ng.left,ng.bad)/\True
def XP:Prop:=ab (Sx.V.agg [V.d (dI 0),V.d (dI 0),V.d (dI 0),V.d (dI 0),V.d (dI 0),V.d (dI 0),V.d (dI 0),V.d (dI 0),V.d kX]).cl 46=ab (Sx.V.agg [V.d (dI 0),V.d (dI 0),V.d (dI 0),V.d (dI 0),V.d (dI 0),V.d (dI 0),V.d (dI 0),V.d (dI 0),V.d kX]).cl 46
def WX (a:Bool->Prop) (b:Bool) (c:RB):Prop:=a b/\dj (ab [V.d (dI (qG (c.n 1).lh)),V.d (dI 0),V.d (dI 0),V.d (dI 0),V.d (dI 0),V.d (dI 0),V.d (dI 0),V.d (dI 0),V.d kX] 46)/\dj (ac (List UInt8×Bool) 1 ob ((c.n 1).left,(c.n 1).bad))/\XP
def Yx (a:ir×RB->Prop) (b:ir×RB):Prop:=a b/\XP
def XR (a:ir×RB) (b:ir×RB) (c:ir×RB->Prop):Prop:=a.fst.least=b.fst.least/\a.fst.time=b.fst.time/\sb a.fst.label=sb b.fst.label/\Yx c a
def XA (a:ir×RB) (b:RB) (c:ir×RB) (d:ir×RB->Prop):Prop:=a.fst.dr=aj.wrap (qG (b.n 8).lh)/\XR a c d
def TS (a:RB):=((RB.mk (a.n 1).left (a.n 1).bad).n (qG (a.n 1).lh).toNat)
def yVy (b:List UInt8):Prop:=
 ∃(a:List UInt8),bE a=bE b/\a.length<=1099511627776/\∀(c:Unit),True->∃(d:RB),ac (List UInt8×Bool) 1 ob (d.l,d.b)=ac (List UInt8×Bool) 1 ob (a,aq)/\d.l.length<=1099511627776/\∀(e:Unit),True->∃(f:Bool),∃(g:Bool->Prop),dq (decide (qG (d.n 1).lh<1)) (∃(h:Bool),h=ar/\WX g h d) (∃(h:Bool),h=decide (qG (d.n 1).lh>4)/\WX g h d)/\∀(h:Bool),g h->dq h (∃(j:Unit),(xL b).fst.kind=0/\(xL b).fst.id=0/\(xL b).fst.inst=0/\(xL b).fst.side=0/\(xL b).fst.dk=0/\(xL b).fst.dr=0/\(xL b).fst.least=0/\(xL b).fst.time=0/\sb (xL b).fst.label=ax #[]/\(xL b).snd=31/\True) (∃(j:RB),ac (List UInt8×Bool) 1 ob (j.l,j.b)=ac (List UInt8×Bool) 1 ob ((d.n 1).left,(d.n 1).bad)/\j.l.length<=1099511627776/\∀(k:Unit),True->∃(l:ir×RB),ac (List UInt8×Bool) 1 ob (l.snd.l,l.snd.b)=ac (List UInt8×Bool) 1 ob ((j.n 8).left,(j.n 8).bad)/\l.fst.kind=qG (d.n 1).lh/\l.fst.id=aj.wrap (qG (j.n 8).lh)/\l.fst.inst=0/\l.fst.side=0/\l.fst.dk=0/\l.fst.dr=0/\l.fst.least=0/\l.fst.time=0/\sb l.fst.label=ax #[]/\∃(m:ir×RB->Prop),dq (l.fst.kind==1) (∃(n:RB),ac (List UInt8×Bool) 1 ob (n.l,n.b)=ac (List UInt8×Bool) 1 ob (l.snd.l,l.snd.b)/\n.l.length<=1099511627776/\∀(p:Unit),True->∃(q:RB),ac (List UInt8×Bool) 1 ob (q.l,q.b)=ac (List UInt8×Bool) 1 ob ((n.n 1).left,(n.n 1).bad)/\q.l.length<=1099511627776/\∀(r:Unit),True->∃(s:RB),ac (List UInt8×Bool) 1 ob (s.l,s.b)=ac (List UInt8×Bool) 1 ob ((q.n 1).left,(q.n 1).bad)/\s.l.length<=1099511627776/\∀(t:Unit),True->∃(u:RB),ac (List UInt8×Bool) 1 ob (u.l,u.b)=ac (List UInt8×Bool) 1 ob ((s.n 1).left,(s.n 1).bad)/\u.l.length<=1099511627776/\∀(v:Unit),True->∃(w:RB),ac (List UInt8×Bool) 1 ob (w.l,w.b)=ac (List UInt8×Bool) 1 ob ((u.n 8).left,(u.n 8).bad)/\w.l.length<=1099511627776/\∀(x:Unit),True->∃(y:RB),ac (List UInt8×Bool) 1 ob (y.l,y.b)=ac (List UInt8×Bool) 1 ob ((w.n 8).left,(w.n 8).bad)/\y.l.length<=1099511627776/\∀(z:Unit),True->∃(iW:RB),ac (List UInt8×Bool) 1 ob (iW.l,iW.b)=ac (List UInt8×Bool) 1 ob ((y.n 8).left,(y.n 8).bad)/\iW.ok/\∀(lu:Unit),True->∃(jg:ir×RB),ac (List UInt8×Bool) 1 ob (jg.snd.l,jg.snd.b)=ac (List UInt8×Bool) 1 ob ((TS iW).left,(TS iW).bad)/\jg.fst.kind=l.fst.kind/\jg.fst.id=l.fst.id/\jg.fst.inst=qG (n.n 1).lh/\jg.fst.side=qG (q.n 1).lh/\jg.fst.dk=aj.wrap (qG (u.n 8).lh)/\jg.fst.dr=aj.wrap (qG (w.n 8).lh)/\jg.fst.least=aj.wrap (qG (y.n 8).lh)/\jg.fst.time=qG (s.n 1).lh/\sb jg.fst.label=sb (TS iW).lh/\Yx m jg) (dq (l.fst.kind==3) (∃(n:RB),ac (List UInt8×Bool) 1 ob (n.l,n.b)=ac (List UInt8×Bool) 1 ob (l.snd.l,l.snd.b)/\n.l.length<=1099511627776/\∀(p:Unit),True->∃(q:ir×RB),ac (List UInt8×Bool) 1 ob (q.snd.l,q.snd.b)=ac (List UInt8×Bool) 1 ob ((n.n 8).left,(n.n 8).bad)/\q.fst.kind=l.fst.kind/\q.fst.id=l.fst.id/\q.fst.inst=l.fst.inst/\q.fst.side=l.fst.side/\q.fst.dk=l.fst.dk/\XA q n l m) (dq (l.fst.kind==4) (∃(n:RB),ac (List UInt8×Bool) 1 ob (n.l,n.b)=ac (List UInt8×Bool) 1 ob (l.snd.l,l.snd.b)/\n.l.length<=1099511627776/\∀(p:Unit),True->∃(q:RB),ac (List UInt8×Bool) 1 ob (q.l,q.b)=ac (List UInt8×Bool) 1 ob ((n.n 8).left,(n.n 8).bad)/\q.l.length<=1099511627776/\∀(r:Unit),True->∃(s:ir×RB),ac (List UInt8×Bool) 1 ob (s.snd.l,s.snd.b)=ac (List UInt8×Bool) 1 ob ((q.n 8).left,(q.n 8).bad)/\s.fst.kind=l.fst.kind/\s.fst.id=l.fst.id/\s.fst.inst=l.fst.inst/\s.fst.side=l.fst.side/\s.fst.dk=aj.wrap (qG (n.n 8).lh)/\XA s q l m) (∃(n:ir×RB),ac (List UInt8×Bool) 1 ob (n.snd.l,n.snd.b)=ac (List UInt8×Bool) 1 ob (l.snd.l,l.snd.b)/\n.fst.kind=l.fst.kind/\n.fst.id=l.fst.id/\n.fst.inst=l.fst.inst/\n.fst.side=l.fst.side/\n.fst.dk=l.fst.dk/\n.fst.dr=l.fst.dr/\XR n l m)))/\∀(n:ir×RB),m n->∃(p:RB),ac (List UInt8×Bool) 1 ob (p.l,p.b)=ac (List UInt8×Bool) 1 ob (n.snd.l,n.snd.b)/\p.l.length<=1099511627776/\∀(q:Unit),True->dq ((if p.b=ar then(10:Int)else if 0<p.l.length then(15:Int)else(0:Int)) !=0) (∃(r:Unit),(xL b).fst.kind=0/\(xL b).fst.id=0/\(xL b).fst.inst=0/\(xL b).fst.side=0/\(xL b).fst.dk=0/\(xL b).fst.dr=0/\(xL b).fst.least=0/\(xL b).fst.time=0/\sb (xL b).fst.label=ax #[]/\(xL b).snd=12/\True) (∃(r:ir),r.kind=n.fst.kind/\r.id=n.fst.id/\r.inst=n.fst.inst/\r.side=n.fst.side/\r.dk=n.fst.dk/\r.dr=n.fst.dr/\r.least=n.fst.least/\r.time=n.fst.time/\sb r.label=sb n.fst.label/\r.label.length<=140737488355328/\∀(s:Unit),True->dq (r.right !=0) (∃(t:Unit),(xL b).fst.kind=0/\(xL b).fst.id=0/\(xL b).fst.inst=0/\(xL b).fst.side=0/\(xL b).fst.dk=0/\(xL b).fst.dr=0/\(xL b).fst.least=0/\(xL b).fst.time=0/\sb (xL b).fst.label=ax #[]/\(xL b).snd=r.right/\True) (∃(t:Unit),(xL b).fst.kind=n.fst.kind/\(xL b).fst.id=n.fst.id/\(xL b).fst.inst=n.fst.inst/\(xL b).fst.side=n.fst.side/\(xL b).fst.dk=n.fst.dk/\(xL b).fst.dr=n.fst.dr/\(xL b).fst.least=n.fst.least/\(xL b).fst.time=n.fst.time/\sb (xL b).fst.label=sb n.fst.label/\(xL b).snd=0/\True)))
def z0c (r:RB):0<=r.byte.1/\r.byte.1<=255:=by
 have h:=mR (r.n 1).lh;have hl:(r.n 1).lh.length<=1:=SZ (r.n 1);show 0<=qG (r.n 1).lh/\qG (r.n 1).lh<=255;obtain e|e:(r.n 1).lh.length=0\/(r.n 1).lh.length=1:=by omega
 ·rw[e]at h;omega
 ·rw[e]at h;omega
def yPw {r:RB} (h:r.ok):r.text.2.ok:=xi (lT _) (xi (lT _) h)
def yIg:LN.ok Tryz.prog 192:=ib (V:=yWy) mixed (dx z0i (dx yAc fj)) 0 (λ_=>[]) (λ_=>[]) [] Tryz.func192 λ(i:RB) h=>by
 have h:i.l.length<=1099511627776:=h;have hb:=z0c i;exact⟨i,rfl,h,λ_ _=>⟨⟨(i.n 1).left,(i.n 1).bad,i.byte.1.toNat⟩,by dsimp only;exact Int.toNat_of_nonneg hb.1,rfl,⟨Z9,xi (lT _) h⟩,λ_ _=>⟨_,rfl,Tz _,(),rfl,rfl,trivial⟩⟩⟩
def yTs {k id:Int} {r:RB} (h:r.ok):(x9 k id r).2.ok/\(x9 k id r).1.label.length<=255:=by
 rw[x9];split
 ·have h6:=gT (gT (gT (pC (pC (pC h)))));refine⟨yPw h6,?_⟩;show(RB.text (r.byte.2.byte.2.byte.2.jd.2.jd.2.jd.2)).1.length<=255;generalize r.byte.2.byte.2.byte.2.jd.2.jd.2.jd.2=q;have:=z0c q;have:(q.text.1).length<=q.byte.1.toNat:=SZ _;omega
 split
 ·exact⟨gT h,mz _⟩
 split
 ·exact⟨gT (gT h),mz _⟩
 ·exact⟨h,mz _⟩
def y3r (b:List UInt8) (h:Ka.dq b):yVy b:=by
 have h:b.length<=1099511627776:=h;obtain⟨r0,hr⟩:∃r0,r0=RB.mk b aq:=⟨_,rfl⟩
 have GO:r0.ok:=by rw[hr];exact h
 have rn:=pC GO;have HL:=gT rn;have Bg:xL b=if r0.byte.1<1\/4<r0.byte.1 then(Hg,31)else if(x9 r0.byte.1 r0.byte.2.jd.1 r0.byte.2.jd.2).2.uk≠0 then(Hg,12)else if(x9 r0.byte.1 r0.byte.2.jd.1 r0.byte.2.jd.2).1.right≠0 then(Hg,(x9 r0.byte.1 r0.byte.2.jd.1 r0.byte.2.jd.2).1.right)else((x9 r0.byte.1 r0.byte.2.jd.1 r0.byte.2.jd.2).1,0):=by
  rw[hr];rfl
 unfold yVy WX TS XA XR Yx XP kX dI;generalize xL b=X at Bg ⊢;refine⟨b,rfl,h,λ_ _=>⟨r0,by rw[hr],GO,λ_ _=>⟨ar,λx=>x=decide (r0.byte.1<1\/4<r0.byte.1),zH (λe=>⟨ar,rfl,(lg (.inl e)).symm,gu⟩) (λe=>⟨_,rfl,decide_eq_decide.2 ⟨.inr,λx=>x.resolve_left e⟩,gu⟩),?_⟩⟩⟩;rintro _ rfl;refine zH (λe=> ?_) (λe=> ?_)
 ·rw[Bg,fh e];exact⟨(),oJ (iT trivial)⟩
 rw[fb e]at Bg;generalize hk:r0.byte.1=k at Bg;refine⟨r0.byte.2,rfl,rn,λ_ _=>⟨(⟨r0.byte.1,r0.byte.2.jd.1,0,0,0,0,0,0,[]⟩,r0.byte.2.jd.2),mh (iT ⟨rfl,λx=>x=x9 r0.byte.1 r0.byte.2.jd.1 r0.byte.2.jd.2,?_,?_⟩)⟩⟩
 ·generalize r0.byte.2.jd.2=r2 at*;generalize r0.byte.2.jd.1=id at*;rw[hk];refine Cv.dq.mk (λe=> ?_) (λe1=>Cv.dq.mk (λe=> ?_) (λe3=>Cv.dq.mk (λe=> ?_) (λe4=> ?_)))
  ·have e:k=1:=by simpa using e
   have h1:=pC HL;have h2:=pC h1;have h3:=pC h2;have h4:=gT h3;have h5:=gT h4;have h6:=gT h5;exact⟨r2,rfl,HL,λ_ _=>⟨_,rfl,h1,λ_ _=>⟨_,rfl,h2,λ_ _=>⟨_,rfl,h3,λ_ _=>⟨_,rfl,h4,λ_ _=>⟨_,rfl,h5,λ_ _=>⟨_,rfl,h6,λ_ _=>⟨x9 k id r2,by rw[x9,fh e];rfl,by rw[x9,fh e],by rw[x9,fh e],by rw[x9,fh e];rfl,by rw[x9,fh e];rfl,by rw[x9,fh e];rfl,by rw[x9,fh e];rfl,by rw[x9,fh e];rfl,by rw[x9,fh e];rfl,by rw[x9,fh e];rfl,rfl,gu⟩⟩⟩⟩⟩⟩⟩⟩
  ·have e1:¬k=1:=by simpa using e1
   have e:k=3:=by simpa using e
   have hd:x9 k id r2=(⟨k,id,0,0,0,r2.jd.1,0,0,[]⟩,r2.jd.2):=by rw[x9,fb e1,fh e]
   exact⟨r2,rfl,HL,λ_ _=>⟨(⟨k,id,0,0,0,r2.jd.1,0,0,[]⟩,r2.jd.2),mh (iT ⟨rfl,hd.symm,gu⟩)⟩⟩
  ·have e1:¬k=1:=by simpa using e1
   have e3:¬k=3:=by simpa using e3
   have e:k=4:=by simpa using e
   have hd:x9 k id r2=(⟨k,id,0,0,r2.jd.1,r2.jd.2.jd.1,0,0,[]⟩,r2.jd.2.jd.2):=by rw[x9,fb e1,fb e3,fh e]
   exact⟨r2,rfl,HL,λ_ _=>⟨_,rfl,gT HL,λ_ _=>⟨(⟨k,id,0,0,r2.jd.1,r2.jd.2.jd.1,0,0,[]⟩,r2.jd.2.jd.2),mh (iT ⟨rfl,hd.symm,gu⟩)⟩⟩⟩
  ·have e1:¬k=1:=by simpa using e1
   have e3:¬k=3:=by simpa using e3
   have e4:¬k=4:=by simpa using e4
   have hd:x9 k id r2=(⟨k,id,0,0,0,0,0,0,[]⟩,r2):=by rw[x9,fb e1,fb e3,fb e4]
   exact⟨(⟨k,id,0,0,0,0,0,0,[]⟩,r2),mh (iT ⟨rfl,hd.symm,gu⟩)⟩
 ·rintro x hx;obtain⟨o1,o2⟩:=yTs (k:=r0.byte.1) (id:=r0.byte.2.jd.1) HL;rw[<- hx]at o1 o2;rw[<- hk,<- hx]at Bg;obtain⟨c,q⟩:=x;refine⟨q,rfl,o1,λ_ _=>Cv.dq.mk (λe=> ?_) (λe=>⟨c,gr ⟨rfl,xi o2 Z8,λ_ _=>Cv.dq.mk (λe2=> ?_) (λe2=> ?_)⟩⟩)⟩
  ·have e:q.uk≠0:=by simpa[RB.uk]using e
   rw[Bg,fh e];exact⟨(),oJ (iT trivial)⟩
  ·have e:¬q.uk≠0:=by simpa[RB.uk]using e
   have e2:c.right≠0:=by simpa using e2
   rw[Bg,fb e,fh e2];exact⟨(),oJ (iT trivial)⟩
  ·have e:¬q.uk≠0:=by simpa[RB.uk]using e
   have e2:¬c.right≠0:=by simpa using e2
   rw[Bg,fb e,fb e2];exact⟨(),oJ (iT trivial)⟩
def yRn:Ka.ok Tryz.prog 156:=ib mixed (dx VW (dx z0i (dx zZm (dx yIg (dx ySm (dx WZ fj)))))) 0 (λ_=>y4b) (λ_=>[]) [] Tryz.func156 y3r
structure BU where
 s:gq
 p:ff
 B:List (List zI)
 inst:Int
 sd:Bool
@[reducible] def BU.ok (i:BU):Prop:=i.s.fq i.p i.B/\i.B.length<=1000
def HT (B:List (List zI)) (inst:Int):List zI:=if inst<0 then[]else B.getD inst.toNat []
def JE:gi:=fp BU (λi=>[.nm 0 0,zA i.inst,zA (zC i.sd)]) (λi=>[zE i.s]) (λi=>i.ok) (λ_=> .own 1) (λi=>[zE i.s,.own 177 3 ((gL (HT i.B i.inst) (zC i.sd)).map kx)])
def aS (a:BU):=(gL (HT a.B a.inst) (zC a.sd))
def Yg (a:BU):Prop:=∃(b:Unit),dj (sb a.s.p.code)/\dj a.s.p.tick/\dj a.s.p.low/\dj a.s.p.high/\dj a.s.p.wide/\dj a.s.p.dt/\dj a.s.p.top/\dj a.s.p.least/\dj a.s.p.part/\dj (ae 211 dp 6 zQ a.s.ej aw)/\dj (yS a.s.wh)/\dj (aa 1 (iE a.s.p.dm))/\dj (aa 1 (iE a.s.p.settle))/\am kx (aS a)=[]/\True
def yUy (i:BU):Prop:=
 dq (decide (i.inst>=0)) (dq (!decide (i.inst<(↑i.s.ej.length:Int))) (Yg i) ((0<=i.inst/\i.inst<(↑i.s.ej.length:Int))/\i.inst.toNat<i.s.ej.length/\∃(a:dp),i.s.ej[i.inst.toNat]?=av a/\∃(b:BkT),zC b.s=zC i.sd/\yB b.b=yB a/\b.b.fq b.L/\∀(c:Unit),True->∃(d:dp),yB b.b=yB d/\dj i.inst.toNat/\i.inst.toNat<i.s.ej.length/\∃(e:Unit),dj (sb i.s.p.code)/\dj i.s.p.tick/\dj i.s.p.low/\dj i.s.p.high/\dj i.s.p.wide/\dj i.s.p.dt/\dj i.s.p.top/\dj i.s.p.least/\dj i.s.p.part/\ae 211 dp 6 zQ i.s.ej aw=ae 211 dp 6 zQ (i.s.ej.set i.inst.toNat d) aw/\dj (yS i.s.wh)/\dj (aa 1 (iE i.s.p.dm))/\dj (aa 1 (iE i.s.p.settle))/\am kx (aS i)=am kx (gL b.L (zC b.s))/\True)) (Yg i)
def yTh {B:List (List zI)} {inst:Int} {L:List zI} (h0:0<=inst) (hL:B[inst.toNat]? =av L):HT B inst=L:=by
 rw[HT,fb (by omega),zT hL]
def yPg {B:List (List zI)} {inst:Int} (h:inst<0\/(B.length:Int)<=inst):HT B inst=[]:=by
 rw[HT];split
 ·rfl
 ·rw[nk,ue (by omega)];rfl
def y2g (i:BU) (h:JE.dq i):yUy i:=by
 obtain⟨hR,hB⟩:i.s.fq i.p i.B/\i.B.length<=1000:=h;have Am:=hR.bl;have out (hx:i.inst<0\/(i.B.length:Int)<=i.inst):am kx (gL (HT i.B i.inst) (zC i.sd))=[]:=by
  rw[yPg hx];rfl
 unfold yUy Yg aS;refine zH (λc=>Cv.dq.mk (λd=> ?_) (λd=> ?_)) (λc=> ?_)
 ·have d:¬i.inst<(i.s.ej.length:Int):=by simpa using d
  rw[out (.inr (by omega))];exact⟨(),gu⟩
 ·have d:i.inst<(i.s.ej.length:Int):=by simpa using d
  obtain⟨b,hb⟩:=z6 (l:=i.s.ej) (i:=i.inst.toNat) oM;obtain⟨L,hL⟩:=z6 (l:=i.B) (i:=i.inst.toNat) oM;refine⟨⟨c,d⟩,oM,b,hb,⟨b,L,i.sd⟩,rfl,rfl,hR.bk _ b L hb hL,λ_ _=>⟨b,rfl,rfl,oM,?_⟩⟩;rw[uV hb,yTh c hL];exact⟨(),gu⟩
 ·rw[out (.inl (by omega))];exact⟨(),gu⟩
def yPh:JE.ok Tryz.prog 94:=ib mixed (dx yZc fj) 1 (λ_=>[]) (λ_=>[]) [0] Tryz.func94 y2g
def IX (s:Int) (F:List zI):Prop:=F.Pairwise λo o'=>ki s o'.dk o.dk=aq
def lM (L:List zI) (s:Int):List zI:=L.filter λo=>decide (o.side=s)
structure tg (p:ff) (B:List (List zI)):Prop where
 ok:iS p B
 od:Ut B
 ub:((sc 0 B).map (·.1)).Nodup
 xa:∀(k:Nat) (L:List zI),B[k]? =av L->∀s,s=1\/s=2->IX s (lM L s)
def z2t {s:Int} {b:dp} {Q:List (List Nat)}:∀{R:List xM},(R.Pairwise λr r'=>ki s r.dk r'.dk=ar)->IX s (R.flatMap (b.ia Q s))
 |[],_=>List.Pairwise.nil
 |r::R,h=>by
  rw[Hx]at h;rw[wg,IX,List.pairwise_append];refine⟨List.pairwise_of_forall_mem_list λo ho o' oG=> ?_,z2t h.2,λo ho o' oG=> ?_⟩
  ·rw[(qL ho).2,(qL oG).2];exact MA _ _
  ·obtain⟨r',ot,oG⟩:=AL.1 oG;rw[(qL ho).2,(qL oG).2];exact z1j (h.1 r' ot)
def dp.fq.xa {b:dp} {L:List zI} (h:b.fq L) {s:Int} (hs:s=1\/s=2):IX s (lM L s):=by
 obtain⟨Q,c,ht,rfl⟩:=h;rw[lM,zTu hs];exact z2t (c.xa s hs)
def gq.fq.wf {s:gq} {p:ff} {B:List (List zI)} (h:s.fq p B) (hb:iS p B):tg p B:=by
 refine⟨hb,h.ox,h.ids,λk L hL=> ?_⟩;obtain⟨b,hb⟩:=z6 (l:=s.ej) (i:=k) (by rw[h.bl];exact(jv.1 hL).1);exactλs hs=>(h.bk k b L hb hL).xa hs
def yMc {L:List zI} (h:∀o∈L,Kn o) (hn:(L.map (·.id)).Nodup) (id q:Int):∀o∈(qA L id q).1,Kn o:=by
 intro o ho;rw[qA]at ho;split at ho
 ·exact h o ho
 split at ho
 ·exact h o ho
 rename_i hb;obtain⟨o',oG,e⟩:=M1.1 ho;have h0:=h o' oG;split at e
 ·rename_i e1;have hg:=sY hn oG;rw[e1]at hg;rw[hg]at hb;split at e
  ·cases e
  ·rename_i e2;cases e;have:=h0.q;exact⟨h0.s,Z9⟩
 ·cases e;exact h0
def yId (L:List zI) (id q:Int):(qA L id q).1.length<=L.length:=by
 rw[qA];split
 ·exact lk _
 split
 ·exact lk _
 exact List.length_filterMap_le _ _
def yKn {L:List zI} {s:Int} (h:IX s (lM L s)) (id q:Int):IX s (lM (qA L id q).1 s):=by
 rw[qA];split
 ·exact h
 split
 ·exact h
 have e:lM (gB L id q) s=gB (lM L s) id q:=by
  rw[lM,lM,gB,gB,List.filter_filterMap,List.filterMap_filter];refine mX λo _=> ?_
  by_cases e1:o.id=id
  ·rw[fh e1];by_cases e2:o.dr=q
   ·rw[fh e2];simp
   ·rw[fb e2];by_cases e3:o.side=s<;>simp[Option.filter,e3]
  ·rw[fb e1];by_cases e3:o.side=s<;>simp[Option.filter,e3]
 rw[e,gB];refine List.Pairwise.filterMap _ (λa a' haa b hb b' An=> ?_) h;have g:∀{a b:zI},(if a.id=id then(if a.dr=q then aw else av {a with dr:=a.dr-q})else av a)=av b->b.dk=a.dk:=by
  intro a b e;split at e
  ·split at e
   ·cases e
   ·cases e;rfl
  ·cases e;rfl
 rw[g hb,g An];exact haa
def yRm {B:List (List zI)} (h:((sc 0 B).map (·.1)).Nodup) {k:Nat} {L L':List zI} (hL:B[k]? =av L) (hs:(L'.map (·.id)).Sublist (L.map (·.id))):((sc 0 (B.set k L')).map (·.1)).Nodup:=by
 have hk:=(jv.1 hL).1;obtain⟨rest,hr⟩:=SM (B:=B) 0 k hk;have h0:=hr L;rw[uV hL]at h0;have h1:=(h0.map (·.1)).nodup_iff.1 h
 refine((hr L').map (·.1)).nodup_iff.2 ?_
 rw[jr,wb]at h1 ⊢;exact h1.sublist (List.Sublist.append hs (List.Sublist.refl _))
def tg.take {p:ff} {B:List (List zI)} (h:tg p B) (id q:Int):tg p (kM B id q).1:=by
 refine⟨h.ok.take id q,?_,?_,?_⟩
 all_goals
  rw[kM];cases hi:mZ B id with
  |none=>first|exact h.od|exact h.ub|exact h.xa
  |some k=>
   obtain⟨L,hL,hh⟩:=gZ hi;have ho:=h.od k L hL;dsimp only;rw[zT hL]
   first
   |(intro j M hM
     rcases aB hM with⟨rfl,rfl⟩|⟨_,hM⟩
     ·refine⟨yMc ho.1 ho.2.1 id q,?_,xi (yId L id q) ho.2.2⟩;rcases Wk ho.2.1 id q with⟨e,_⟩|⟨e,_⟩
      ·rw[e];exact ho.2.1
      ·rw[e];exact ho.2.1.sublist (List.Sublist.map _ OR)
     ·exact h.od j M hM)
   |(refine yRm h.ub hL ?_
     rcases Wk ho.2.1 id q with⟨e,_⟩|⟨e,_⟩
     ·rw[e];exact List.Sublist.refl _
     ·rw[e];exact List.Sublist.map _ OR)
   |(intro j M hM s hs
     rcases aB hM with⟨rfl,rfl⟩|⟨_,hM⟩
     ·exact yKn (h.xa _ L hL s hs) id q
     ·exact h.xa j M hM s hs)
def tg.takes {p:ff}:∀{fs:List bQ} {B:List (List zI)},tg p B->tg p (k0 B fs)
 |[],B,h=>h
 |f::fs,B,h=>tg.takes (fs:=fs) (h.take f.id f.dr)
def zVb {p:ff} {B:List (List zI)} (h:tg p B) {inst:Int} {sd:Bool} {dk q:Int} {t:wC} {B':List (List zI)} (e:mU p B inst sd dk q=av (t,B')):tg p B'/\B'.length=B.length:=by
 rw[mU]at e;dsimp only at e;split at e
 ·split at e
  ·cases e;exact⟨h.takes.takes,by rw[uW,uW]⟩
  ·cases e;exact⟨h.takes,by rw[uW]⟩
 ·cases e
def rC {p:ff} {inst:Int} {sd:Bool} {dk:Int}:∀(m:Nat) (q:Int) (B:List (List zI)),q.toNat<=m->tg p B->tg p (wU p B inst sd dk q).B/\(wU p B inst sd dk q).B.length=B.length/\(0<=q->0<=(wU p B inst sd dk q).left/\(wU p B inst sd dk q).left<=q)
 |m,q,B,hm,h=>by
  by_cases hq:q<=0
  ·rw[lH (.inl hq)];exact⟨h,rfl,λx=>⟨x,yp _⟩⟩
  cases hs:mU p B inst sd dk q with
  |none=>
   rw[lH (.inr hs)];exact⟨h,rfl,λx=>⟨x,yp _⟩⟩
  |some x=>
   obtain⟨t,C⟩:=x;obtain⟨k1,k2⟩:=zVb h hs;have rl:=NP oM hs;cases m with
   |zero=>omega
   |succ m=>
   obtain⟨i1,i2,i3⟩:=rC (p:=p) (inst:=inst) (sd:=sd) (dk:=dk) m (q-t.dr) C oM k1;rw[W7 (by omega) hs];exact⟨i1,i2.trans k2,λ_=>⟨(i3 oM).1,by dsimp only;have:=(i3 oM).2;omega⟩⟩
@[reducible] def nq.ok (i:nq):Prop:=i.s.fq i.p i.B/\iS i.p i.B/\(0<=i.inst/\i.inst<i.B.length)/\1<=i.q/\i.q<=1000000
def Db:gi:=fp nq (λi=>[.nm 0 0,zA i.inst,zA (zC i.sd),zA i.dk,zA i.q]) (λi=>[zE i.s]) (λi=>i.ok) (λi=>zA (i.q-i.r.left)) (λi=>[zE i.s])
def nB (p:ff) (B:List (List zI)) (inst:Int) (sd:Bool) (dk q:Int):Bool:=
 decide ((wU p B inst sd dk q).left≠0) && (kQ ⟨p,(wU p B inst sd dk q).B.map kC,inst⟩ (zC (!sd))).any λx=>bU sd dk x.dk
def Fz:gi:=fp nq (λi=>[.nm 0 0,zA i.inst,zA (zC i.sd),zA i.dk,zA i.q]) (λi=>[zE i.s]) (λi=>i.ok) (λi=>yN (nB i.p i.B i.inst i.sd i.dk i.q)) (λi=>[zE i.s])
def Hc (B:List (List zI)):Nat:=(sc 0 B).length
def BD:gi:=fp BU (λi=>[.nm 0 0]) (λi=>[zE i.s]) (λi=>i.ok) (λi=>zA (Hc i.B)) (λi=>[zE i.s])
def f8 (p:ff) (inst dk:Int):Int×Int×Int:=
 if(p.gj inst).2.2=aq then(0,0,20)else if p.dk inst dk≠0 then(0,0,p.dk inst dk)else
 let Ep:=p.settle.getD (p.gj inst).2.1.toNat 0
 let a:=if p.high<Ep+dk then(p.high,p.high-dk)else(Ep+dk,Ep)
 if a.1<p.low then(p.low,p.low-dk,0)else(a.1,a.2,0)
structure NF where
 p:ff
 inst:Int
 dk:Int
def BA:gi:=fp NF (λi=>[oe i.p,zA i.inst,zA i.dk]) (λ_=>[]) (λi=>i.p.check=0/\i.p.small/\gx i.dk) (λi=> .ja [zA (f8 i.p i.inst i.dk).1,zA (f8 i.p i.inst i.dk).2.1,zA (f8 i.p i.inst i.dk).2.2]) (λ_=>[])
def ijj (t u:Nat):gp:={ι:=Int×Int,dv:=λn=>[(t,zA n.1),(u,zA n.2)],rows:=λ_=>[]}
def lpJ:List (Nat×gp):=[(50,ijj 15 14),(58,ijj 15 14)]
def y1t:List gp:=[{ι:=Nat,dv:=λj=>[(40,zA j)],rows:=λ_=>[]}]
def yWk:List (Nat×gp):=[(8,{ι:=Unit,dv:=λ_=>[],rows:=λ_=>[],CN:=[11]})]
def fD (a:gq):Prop:=a.ej.length<=1000000/\∀(b:dp),b∈a.ej->(b.a.dv.length<=1000000/\b.a.dz.length<=1000000)/\b.fc.length<=1000000/\b.dw.length<=1000000/\b.spare.length<=1000000
def qU (a:nq):Prop:=a.s.fq a.p a.B/\iS a.p a.B/\(0<=a.inst/\a.inst<(↑a.B.length:Int))/\1<=a.q/\a.q<=1000000
def YM (a:nq):Prop:=∃(b:gq),sb b.p.code=sb a.s.p.code/\b.p.tick=a.s.p.tick/\b.p.low=a.s.p.low/\b.p.high=a.s.p.high/\b.p.wide=a.s.p.wide/\b.p.dt=a.s.p.dt/\b.p.top=a.s.p.top/\b.p.least=a.s.p.least/\b.p.part=a.s.p.part/\ae 211 dp 6 zQ b.ej aw=ae 211 dp 6 zQ a.s.ej aw/\yS b.wh=yS a.s.wh/\aa 1 (iE b.p.dm)=aa 1 (iE a.s.p.dm)/\aa 1 (iE b.p.settle)=aa 1 (iE a.s.p.settle)/\(fD b)/\∀(c:Unit),True->∃(d:nq),d.inst=a.inst/\zC d.sd=zC a.sd/\d.dk=a.dk/\d.q=a.q/\zE d.s=zE b/\(qU d)/\∀(e:gq),e.fq d.p d.r.B->∃(f:Unit),a.q-a.r.left=aj.wrap (a.q-d.r.left)/\zE a.s=zE b/\True
def wW (a:nq):Prop:=∃(b:Unit),a.q-a.r.left=0/\dj (sb a.s.p.code)/\dj a.s.p.tick/\dj a.s.p.low/\dj a.s.p.high/\dj a.s.p.wide/\dj a.s.p.dt/\dj a.s.p.top/\dj a.s.p.least/\dj a.s.p.part/\dj (ae 211 dp 6 zQ a.s.ej aw)/\dj (yS a.s.wh)/\dj (aa 1 (iE a.s.p.dm))/\dj (aa 1 (iE a.s.p.settle))/\True
def yAz (i:nq):Prop:=
 dq (decide (i.inst>=0)) (dq (decide (i.inst<(↑i.s.ej.length:Int))) (dq (zC i.sd==1) (dq (decide (i.q>=1)) (dq (!decide (i.q<=1000000)) (wW i) (YM i)) (wW i)) (dq (zC i.sd==2) (dq (decide (i.q>=1)) (dq (!decide (i.q<=1000000)) (wW i) (YM i)) (wW i)) (wW i))) (wW i)) (wW i)
def z0u (i:BU):Prop:=
 ∃(a:Unit),(↑(Hc i.B):Int)=(↑(yS i.s.wh).length:Int)/\dj (sb i.s.p.code)/\dj i.s.p.tick/\dj i.s.p.low/\dj i.s.p.high/\dj i.s.p.wide/\dj i.s.p.dt/\dj i.s.p.top/\dj i.s.p.least/\dj i.s.p.part/\dj (ae 211 dp 6 zQ i.s.ej aw)/\dj (yS i.s.wh)/\dj (aa 1 (iE i.s.p.dm))/\dj (aa 1 (iE i.s.p.settle))/\True
def dK (a:Int×Int->Prop) (b:Int×Int) (c:NF):Prop:=a b/\dj (ab [V.d (D.v (az (sb c.p.code))),V.own 0,V.d (dI c.p.tick),V.d (dI c.p.low),V.d (dI c.p.high),V.d (dI c.p.wide),V.d (dI c.p.dt),V.d (dI c.p.top),V.d (dI c.p.least),V.d (dI c.p.part),V.own 1] 25)/\dj (aa 1 (iE c.p.settle))/\dj (aa 1 (iE c.p.dm))
def y7 (a:NF):=(f8 a.p a.inst a.dk)
def z3p (i:NF):Prop:=
 ∃(a:ff),sb a.code=sb i.p.code/\iE a.dm=iE i.p.dm/\a.tick=i.p.tick/\a.low=i.p.low/\a.high=i.p.high/\a.wide=i.p.wide/\a.dt=i.p.dt/\a.top=i.p.top/\a.least=i.p.least/\a.part=i.p.part/\iE a.settle=iE i.p.settle/\(zW a)/\∀(b:Unit),True->dq (a.check !=0) (∃(c:Unit),(y7 i).fst=0/\(y7 i).snd.fst=0/\(y7 i).snd.snd=1/\True) (∃(c:bG),sb c.p.code=sb i.p.code/\iE c.p.dm=iE i.p.dm/\c.p.tick=i.p.tick/\c.p.low=i.p.low/\c.p.high=i.p.high/\c.p.wide=i.p.wide/\c.p.dt=i.p.dt/\c.p.top=i.p.top/\c.p.least=i.p.least/\c.p.part=i.p.part/\iE c.p.settle=iE i.p.settle/\c.n=i.inst/\(jQ c)/\∀(d:Unit),True->dq (!(c.p.gj c.n).snd.snd) (∃(e:Unit),(y7 i).fst=0/\(y7 i).snd.fst=0/\(y7 i).snd.snd=20/\True) (∃(e:lB),sb e.p.code=sb i.p.code/\iE e.p.dm=iE i.p.dm/\e.p.tick=i.p.tick/\e.p.low=i.p.low/\e.p.high=i.p.high/\e.p.wide=i.p.wide/\e.p.dt=i.p.dt/\e.p.top=i.p.top/\e.p.least=i.p.least/\e.p.part=i.p.part/\iE e.p.settle=iE i.p.settle/\e.a=i.inst/\e.b=i.dk/\(qF e)/\∀(f:Unit),True->dq (e.p.dk e.a e.b !=0) (∃(g:Unit),(y7 i).fst=0/\(y7 i).snd.fst=0/\(y7 i).snd.snd=e.p.dk e.a e.b/\True) ((0<=(c.p.gj c.n).snd.fst/\(c.p.gj c.n).snd.fst<(↑(iE i.p.settle).length:Int))/\∃(g:Int),zD (iE i.p.settle) (c.p.gj c.n).snd.fst.toNat 0 1=av [dI g]/\∃(h:Int×Int),∃(j:Int×Int->Prop),dq (decide (aj.wrap (g+i.dk)>i.p.high)) (∃(k:Int×Int),k.fst=i.p.high/\k.snd=aj.wrap (i.p.high-i.dk)/\dK j k i) (∃(k:Int×Int),k.fst=aj.wrap (g+i.dk)/\k.snd=g/\dK j k i)/\∀(k:Int×Int),j k->∃(l:Int×Int),∃(m:Int×Int->Prop),dq (decide (k.fst<i.p.low)) (∃(n:Int×Int),n.fst=i.p.low/\n.snd=aj.wrap (i.p.low-i.dk)/\dK m n i) (∃(n:Int×Int),n.fst=k.fst/\n.snd=k.snd/\dK m n i)/\∀(n:Int×Int),m n->∃(p:Unit),(y7 i).fst=n.fst/\(y7 i).snd.fst=n.snd/\(y7 i).snd.snd=0/\True)))
def Zh (a:gq) (b:gq):Prop:=sb a.p.code=sb b.p.code/\True/\a.p.tick=b.p.tick/\a.p.low=b.p.low/\a.p.high=b.p.high/\a.p.wide=b.p.wide/\a.p.dt=b.p.dt/\a.p.top=b.p.top/\a.p.least=b.p.least/\a.p.part=b.p.part/\True/\True
def yHq (i:nq):Prop:=
 ∃(a:gq),zE a=zE i.s/\(fD a)/\∀(b:Unit),True->∃(c:nq),c.inst=i.inst/\zC c.sd=zC i.sd/\c.dk=i.dk/\c.q=i.q/\zE c.s=zE a/\(qU c)/\∀(d:gq),d.fq c.p c.r.B->dq (c.r.left==0) (∃(e:Unit),nB i.p i.B i.inst i.sd i.dk i.q=aq/\zE i.s=zE a/\True) (∃(e:gq),sb e.p.code=sb d.p.code/\e.p.tick=d.p.tick/\e.p.low=d.p.low/\e.p.high=d.p.high/\e.p.wide=d.p.wide/\e.p.dt=d.p.dt/\e.p.top=d.p.top/\e.p.least=d.p.least/\e.p.part=d.p.part/\ae 211 dp 6 zQ e.ej aw=ae 211 dp 6 zQ d.ej aw/\yS e.wh=yS d.wh/\aa 1 (iE e.p.dm)=aa 1 (iE d.p.dm)/\aa 1 (iE e.p.settle)=aa 1 (iE d.p.settle)/\(cC e)/\∀(f:Unit),True->(Zh e d)/\∃(g:Bool),zC g=zC i.sd/\True/\∀(h:Unit),True->(Zh e d)/\∃(j:AY),sb j.i.p.code=sb d.p.code/\iE j.i.p.dm=iE e.p.dm/\j.i.p.tick=d.p.tick/\j.i.p.low=d.p.low/\j.i.p.high=d.p.high/\j.i.p.wide=d.p.wide/\j.i.p.dt=d.p.dt/\j.i.p.top=d.p.top/\j.i.p.least=d.p.least/\j.i.p.part=d.p.part/\iE j.i.p.settle=iE e.p.settle/\am z7 j.i.fg=am z7 e.fg/\j.i.inst=i.inst/\zC j.s=zC !g/\(kO j)/\∀(k:Unit),True->∃(l:Nat),(↑l:Int)=0/\∃(m:Nat->Prop),∃(n:Nat->Nat),m l/\∀(p:Nat),m p->dq (decide ((↑p:Int)<(fH j))) ((0<=(↑p:Int)/\(↑p:Int)<(fH j))/\∃(q:Int),∃(r:Int),∃(s:Int),∃(t:Int),∃(u:Int),∃(v:Int),zD (jZ j) (↑p:Int).toNat 0 6=av [dI q,dI r,dI s,dI t,dI u,dI v]/\∃(w:P3),zC w.s=zC i.sd/\w.p=i.dk/\w.x=q/\True/\∀(x:Unit),True->dq (bU w.s w.p w.x) (∃(y:Unit),nB i.p i.B i.inst i.sd i.dk i.q=ar/\zE i.s=zE a/\True) (∃(y:Nat),(↑y:Int)=aj.wrap ((↑p:Int)+1)/\m y/\n y<n p/\dj (ag 128 6 (jZ j))/\dj (ab [V.d (fG e),V.own 5,V.d (dI e.p.tick),V.d (dI e.p.low),V.d (dI e.p.high),V.d (dI e.p.wide),V.d (dI e.p.dt),V.d (dI e.p.top),V.d (dI e.p.least),V.d (dI e.p.part),V.own 6,V.own 3,V.mp 4] (210:bc))/\dj (ae 211 dp 6 zQ e.ej aw)/\dj (af (yS e.wh))/\dj (aa 1 (iE e.p.dm))/\dj (aa 1 (iE e.p.settle))/\dj (aa 6 (am z7 e.fg))/\dj (aa 1 (iE d.p.dm))/\dj (aa 1 (iE d.p.settle))/\dj (ag 331 4 (am wJ c.r.steps))/\zE a=zE a)) (∃(q:Unit),nB i.p i.B i.inst i.sd i.dk i.q=aq/\zE i.s=zE a/\True))
def gq.fq.small {s:gq} {p:ff} {B:List (List zI)} (h:s.fq p B) (hb:iS p B):s.small:=by
 have:=xS p;refine⟨by rw[h.bl,hb.bl];omega,λb hm=> ?_⟩;obtain⟨k,hk⟩:=B6.1 hm;have gv:=(jv.1 hk).1;rw[h.bl]at gv;obtain⟨L,hL⟩:=z6 gv;obtain⟨Q,c,_⟩:=h.bk k b L hk hL;exact c.small
def yQi (i:nq) (h:Db.dq i):yAz i:=by
 have h':i.ok:=h;obtain⟨hR,hB,⟨h0,h1⟩,rm,rl⟩:=h';have Am:=hR.bl;have hl:=(rC (inst:=i.inst) (sd:=i.sd) (dk:=i.dk) _ i.q i.B (lk _) (hR.wf hB)).2.2 oM;have er:i.r=wU i.p i.B i.inst i.sd i.dk i.q:=rfl;unfold yAz YM qU fD wW;refine(λhT=>zH (λc=>zH (λc2=>Cv.dq.mk (λ_=>zH (λ_=>Cv.dq.mk (λe=>absurd rl (by simpa using e)) (λ_=>hT)) (λe=>absurd rm e)) (λe1=>Cv.dq.mk (λ_=>zH (λ_=>Cv.dq.mk (λe=>absurd rl (by simpa using e)) (λ_=>hT)) (λe=>absurd rm e)) (λe2=>by
  rcases Ol i.sd with e|e
  ·rw[e]at e1;cases e1
  ·rw[e]at e2;cases e2))) (λc2=>absurd oM c2)) (λc=>absurd h0 c)) ?_
 refine⟨i.s,gr (nn ⟨rfl,hR.small hB,λ_ _=>⟨i,nn ⟨rfl,h,λo ho=>⟨(),?_,rfl,trivial⟩⟩⟩⟩)⟩;rw[iA (by rw[er];omega)]
def yEh:Db.ok Tryz.prog 195:=ib mixed (dx Wp (dx Z5 fj)) 2 (λ_=>[]) (λ_=>[]) [0] Tryz.func195 yQi
def yNz (i:BU) (h:BD.dq i):z0u i:=by
 obtain⟨hR,hB⟩:i.s.fq i.p i.B/\i.B.length<=1000:=h;unfold z0u;have e:(yS i.s.wh).length=Hc i.B:=by rw[yS,im,hR.wh.length_eq,Hc]
 exact⟨(),by rw[e],gu⟩
def z4c:BD.ok Tryz.prog 194:=ib mixed fj 0 (λ_=>[]) (λ_=>[]) [0] Tryz.func194 yNz
def Xk {p:ff} {i n:Int} (h:p.dk i n=0):0<=i/\i<p.count:=by
 rw[ff.dk]at h;split at h
 ·cases h
 split at h
 ·cases h
 omega
def yGm (i:NF) (h:BA.dq i):z3p i:=by
 obtain⟨hc,hp,Po⟩:i.p.check=0/\i.p.small/\gx i.dk:=h;unfold z3p y7 dK zW jQ qF dI;refine⟨i.p,oJ (iT ⟨rfl,hp,λ_ _=>Cv.dq.mk (λe=>by rw[hc]at e;cases e) (λ_=> ?_)⟩)⟩;refine⟨⟨i.p,i.inst⟩,gr (iT ⟨rfl,hp,λ_ _=>Cv.dq.mk (λe=> ?_) (λe=> ?_)⟩)⟩
 ·have e:(i.p.gj i.inst).2.2=aq:=by simpa using e
  have h0:f8 i.p i.inst i.dk=(0,0,20):=by rw[f8,fh e]
  rw[h0];exact⟨(),iT trivial⟩
 have e:(i.p.gj i.inst).2.2=ar:=by simpa using e
 refine⟨⟨i.p,i.inst,i.dk⟩,gr (nn ⟨rfl,hp,λ_ _=>Cv.dq.mk (λe2=> ?_) (λe2=> ?_)⟩)⟩
 ·have e2:¬i.p.dk i.inst i.dk=0:=by simpa using e2
  have h0:f8 i.p i.inst i.dk=(0,0,i.p.dk i.inst i.dk):=by rw[f8,fb (by rw[e];decide),fh e2]
  rw[h0];exact⟨(),iT trivial⟩
 have e2:i.p.dk i.inst i.dk=0:=by simpa using e2
 have vt:=Xk e2;have BQ:=lU hc e2;have ok:=qS hc;have b1:=ok.b1;have b2:=ok.b2;have b3:=ok.b3;have s1:=ok.s1;have s2:=ok.s2;have s3:=ok.s3;obtain⟨k,hk⟩:∃k:Nat,i.inst=k:=⟨i.inst.toNat,oM⟩
 have hl:=fC hc (k:=k) oM;rw[<- hk]at hl;rcases hl with⟨_,_,_,l3,l4⟩|⟨x,_⟩
 rotate_left
 ·rw[e]at x;cases x
 have ym:(iE i.p.settle).length=i.p.settle.length:=y4 _;obtain⟨n,hn⟩:=z6 (l:=i.p.settle) (i:=(i.p.gj i.inst).2.1.toNat) oM;have hm:=lq hn;have m1:=z9g hm;have m2:=yBl hm;have hg:i.p.settle.getD (i.p.gj i.inst).2.1.toNat 0=n:=zT hn;have h0:f8 i.p i.inst i.dk=(if(if i.p.high<n+i.dk then(i.p.high,i.p.high-i.dk)else(n+i.dk,n)).1<i.p.low then(i.p.low,i.p.low-i.dk,0)else((if i.p.high<n+i.dk then(i.p.high,i.p.high-i.dk)else(n+i.dk,n)).1,(if i.p.high<n+i.dk then(i.p.high,i.p.high-i.dk)else(n+i.dk,n)).2,0)):=by
  rw[f8,fb (by rw[e];decide),fb (by rw[e2];decide)];dsimp only;rw[hg]
 dsimp only;refine⟨⟨l3,oM⟩,n,rk hn,(0,0),λa=>a=if i.p.high<n+i.dk then(i.p.high,i.p.high-i.dk)else(n+i.dk,n),zH (λc=>⟨(i.p.high,i.p.high-i.dk),rfl,(iA oM).symm,?_,gu⟩) (λc=>⟨(n+i.dk,n),(iA oM).symm,rfl,?_,gu⟩),?_⟩
 ·rw[iA (by omega)]at c;rw[fh c]
 ·rw[iA (by omega)]at c;rw[fb c]
 rintro _ rfl;generalize (if i.p.high<n+i.dk then(i.p.high,i.p.high-i.dk)else(n+i.dk,n))=a at h0 ⊢;refine⟨(0,0),λb=>b=if a.1<i.p.low then(i.p.low,i.p.low-i.dk)else a,zH (λc=>⟨(i.p.low,i.p.low-i.dk),rfl,(iA oM).symm,by rw[fh c],gu⟩) (λc=>⟨a,rfl,rfl,by rw[fb c],gu⟩),?_⟩;rintro _ rfl;rw[h0];by_cases c:a.1<i.p.low
 ·rw[fh c,fh c];exact⟨(),iT trivial⟩
 ·rw[fb c,fb c];exact⟨(),iT trivial⟩
def z4z:BA.ok Tryz.prog 239:=ib mixed (dx On (dx MG (dx lN fj))) 0 (λ_=>lpJ) (λ_=>[]) [] Tryz.func239 yGm
def yOo {l:List Quote} {k:Nat} {q:Quote} (h:l[k]? =av q):zD (l.map zJ) k 0 6=av [D.v (.int .i64 q.dk),D.v (.int .i64 q.dr),D.v (.int .i64 q.a.inst),D.v (.int .i64 q.a.side),D.v (.int .i64 q.b.inst),D.v (.int .i64 q.b.side)]:=ju h (by simp[zJ]) rfl
def yYr (i:nq) (h:Fz.dq i):yHq i:=by
 have h':i.ok:=h;obtain⟨hR,hB,⟨h0,h1⟩,rm,rl⟩:=h';have Ai:=hR.wf hB;obtain⟨k1,k2,k3⟩:=rC (inst:=i.inst) (sd:=i.sd) (dk:=i.dk) _ i.q i.B (lk _) Ai;have wm:=xS i.p;unfold yHq fG Zh qU fD fH jZ kO fE cC dI;refine⟨i.s,rfl,hR.small hB,λ_ _=>⟨i,nn ⟨rfl,h,λo ho=> ?_⟩⟩⟩;have er:i.r=wU i.p i.B i.inst i.sd i.dk i.q:=rfl;have es:nB i.p i.B i.inst i.sd i.dk i.q=(decide ((wU i.p i.B i.inst i.sd i.dk i.q).left≠0) && (kQ ⟨i.p,(wU i.p i.B i.inst i.sd i.dk i.q).B.map kC,i.inst⟩ (zC (!i.sd))).any λx=>bU i.sd i.dk x.dk):=rfl;rw[er]at ho ⊢;rw[es];generalize wU i.p i.B i.inst i.sd i.dk i.q=R at*;obtain⟨ts,lf,RB⟩:=R;dsimp only at*;refine Cv.dq.mk (λe=>⟨(),?_,rfl,trivial⟩) (λe=> ?_)
 ·have e:lf=0:=by simpa using e
  rw[e];rfl
 have e:lf≠0:=by simpa using e
 rw[lg e,Ae];have ep:=ho.ep;have hB':=k1.ok;have Am:=hB'.bl;have DW:o.ou:=ho.Fb oM;have CQ:o.p.small:=by rw[ep];exact hB'.ps
 have tp:vV (RB.map kC):=hB'.fg;have hle:=Tj ⟨o.p,RB.map kC,i.inst⟩ (zC (!i.sd));refine⟨o,gr (nn ⟨rfl,DW,λ_ _=>⟨⟨rfl,trivial,oJ ⟨rfl,trivial,trivial⟩⟩,i.sd,rfl,trivial,λ_ _=>⟨⟨rfl,trivial,oJ ⟨rfl,trivial,trivial⟩⟩,⟨⟨o.p,RB.map kC,i.inst⟩,!i.sd⟩,oJ (iT ⟨rfl,by rw[ho.fg],rfl,rfl,⟨CQ,tp⟩,λ_ _=> ?_⟩)⟩⟩⟩)⟩;dsimp only;rw[<- ep];generalize kQ ⟨o.p,RB.map kC,i.inst⟩ (zC (!i.sd))=Q at*;have e4:(Q.map zJ).length=Q.length:=im ..;refine⟨0,rfl,λj=>j<=Q.length/\(Q.take j).any (λx=>bU i.sd i.dk x.dk)=aq,λj=>Q.length-j,⟨mz _,rfl⟩,?_⟩;rintro j ⟨j1,j2⟩;refine zH (λc=> ?_) (λc=>⟨(),?_,rfl,trivial⟩)
 ·obtain⟨q,hq⟩:=z6 (l:=Q) (i:=j) oM;refine⟨⟨oM,oM⟩,_,_,_,_,_,_,yOo hq,⟨i.sd,i.dk,q.dk⟩,rfl,rfl,rfl,trivial,λ_ _=>Cv.dq.mk (λg=>⟨(),?_,rfl,trivial⟩) (λg=>⟨j+1,rf oM,⟨oM,?_⟩,Z9,gu⟩)⟩
  ·rw[MZ];exact⟨q,lq hq,g⟩
  ·rw[tb,hq,List.any_append,j2];show(aq||([q].any λx=>bU i.sd i.dk x.dk))=aq;simp only[List.any_cons,List.any_nil,Bool.or_false,KL];exact g
 ·have:j=Q.length:=by omega
  rw[this,oh (lk _)]at j2;exact j2
def zZv:Fz.ok Tryz.prog 196:=ib mixed (dx Wp (dx Z5 (dx z1h (dx yMk (dx zTt (dx z1g fj)))))) 0 (λ_=>yWk) (λ_=>y1t) [] Tryz.func196 yYr
def pI (c:ir) (oY:Int):List fq:=[⟨2,c.id,0,0,0,0,0,oY⟩]
def ES (x:wC) (k:Int):Int:=match x.ig.find? λf=>decide (f.inst=k)with
 |some f=>f.dk
 |none=>x.dk
def vD (p:ff) (inst:Int) (x:wC):Int×Int:=if x.iN=aq then((f8 p inst x.dk).1,(f8 p inst x.dk).2.1)else(ES x (p.gj inst).1,ES x (p.gj inst).2.1)
def N8 (p:ff) (r:fq) (Bc Ep:Int):List fq:=[{r with inst:=(p.gj r.inst).1,dk:=Bc},{r with inst:=(p.gj r.inst).2.1,side:=3-r.side,dk:=Ep}]
def nW (p:ff) (x:wC) (r:fq):List fq:=r::if(p.gj r.inst).2.2=ar then N8 p r (vD p r.inst x).1 (vD p r.inst x).2 else[]
def Hm (f:bQ):fq:=⟨3,f.id,f.inst,f.side,f.dk,f.dr,f.left,0⟩
def nN (p:ff) (c:ir) (x:wC) (left:Int):List fq:=x.ig.flatMap (λf=>nW p x (Hm f))++nW p x ⟨3,c.id,c.inst,c.side,x.dk,x.dr,left,0⟩
def m7 (p:ff) (c:ir):List wC->Int->List fq
 |[],_=>[]
 |x::l,left=>nN p c x (left-x.dr)++m7 p c l (left-x.dr)
structure G6 where
 B:List (List zI)
 U:List Int
 R:List fq
def Gx (U:List Int) (id:Int):List Int:=if id∈U then U else U++[id]
def bS (p:ff) (B:List (List zI)) (U:List Int) (c:ir):G6:=match wU p B c.inst (decide (c.side=2)) c.dk c.dr with
 |⟨ts,left,B'⟩=>⟨if left≠0/\c.time=1 then(Kx p B' c.inst c.id c.side c.dk left).1 else B',Gx U c.id,
  (⟨1,c.id,c.inst,c.side,c.dk,c.dr,c.dr,0⟩::m7 p c ts c.dr)++if left≠0/\c.time≠1 then[⟨4,c.id,c.inst,c.side,c.dk,left,0,0⟩]else[]⟩
def ir.KX (c:ir):Int:=if c.time=3 then c.dr else c.least
def pK (p:ff) (B:List (List zI)) (U:List Int) (c:ir):G6:=
 if p.dk c.inst c.dk≠0 then⟨B,U,pI c (p.dk c.inst c.dk)⟩
 else if c.id∈U then⟨B,U,pI c 25⟩
 else if 250<=Hc B then⟨B,U,pI c 13⟩
 else if 0<c.KX/\c.dr-(wU p B c.inst (decide (c.side=2)) c.dk c.dr).left<c.KX then⟨B,U,pI c 28⟩
 else if c.time=1/\nB p B c.inst (decide (c.side=2)) c.dk c.dr=ar then⟨B,U,pI c 23⟩
 else bS p B U c
def u7 (B:List (List zI)) (U:List Int) (id inst:Int) (o:zI):G6:=⟨(kM B id o.dr).1,U,[⟨4,id,inst,o.side,o.dk,o.dr,0,0⟩]⟩
def b8 (B:List (List zI)) (U:List Int) (id q inst:Int) (o:zI):G6:=⟨(kM B id q).1,U,[⟨5,id,inst,o.side,o.dk,q,o.dr-q,0⟩]⟩
def dB (p:ff) (B:List (List zI)) (U:List Int) (c:ir) (inst:Int) (o:zI):G6:=
 if p.dk inst c.dk≠0 then⟨B,U,pI c (p.dk inst c.dk)⟩
 else if c.dk=o.dk/\c.dr<=o.dr then b8 B U c.id (o.dr-c.dr) inst o
 else if nB p (kM B c.id o.dr).1 inst (decide (o.side=2)) c.dk c.dr=ar then⟨B,U,pI c 23⟩
 else
  let x:=u7 B U c.id inst o
  let y:=bS p x.B U ⟨1,c.id,inst,o.side,c.dk,c.dr,0,1,[]⟩
  ⟨y.B,y.U,x.R++y.R⟩
def AS (p:ff) (B:List (List zI)) (U:List Int) (c:ir):G6:=
 if c.right≠0 then⟨B,U,pI c c.right⟩
 else if c.kind=1 then pK p B U c
 else if(z5 B c.id).2.2=aq then⟨B,U,pI c 26⟩
 else if c.kind=4 then dB p B U c (z5 B c.id).1 (z5 B c.id).2.1
 else if c.kind=2\/(z5 B c.id).2.1.dr<=c.dr then u7 B U c.id (z5 B c.id).1 (z5 B c.id).2.1
 else b8 B U c.id c.dr (z5 B c.id).1 (z5 B c.id).2.1
structure iq.fq (m:iq) (p:ff) (B:List (List zI)) (U:List Int):Prop where
 ep:m.p=p
 s:m.s.fq p B
 u:m.used=U
@[reducible] def BG (m:iq):List fi:=[yY m 0,yY m 1,yY m 2,yY m 3,yY m 4]
@[reducible] def yUj (x:wC):V:= .agg [zA x.dk,zA x.dr,yN x.iN,oD 6 (x.ig.map yX)]
@[reducible] def tRp:Nat:=49
@[reducible] def KB (l:List fq):fi:= .own tRp 8 (l.map xP)
structure A6 where
 c:ir
 oY:Int
def aab:gi:=fp A6 (λi=>[CD i.c,zA i.oY]) (λ_=>[]) (λ_=>True) (λ_=> .own 0) (λi=>[KB (pI i.c i.oY)])
structure G5 where
 m:iq
 r:fq
 Bc:Int
 Ep:Int
@[reducible] def iq.Bh (m:iq):Prop:=m.p.check=0/\m.p.small
def By:gi:=fp G5 (λi=>[.nm 0 0,y8b i.r,zA i.Bc,zA i.Ep]) (λi=>BG i.m) (λi=>i.m.Bh/\(i.r.side=1\/i.r.side=2)) (λ_=> .own 5) (λi=>BG i.m++[KB (N8 i.m.p i.r i.Bc i.Ep)])
structure ND where
 m:iq
 inst:Int
def aal:gi:=fp ND (λi=>[.nm 0 0,zA i.inst]) (λi=>BG i.m) (λi=>i.m.Bh) (λi=>yN (i.m.p.gj i.inst).2.2) (λi=>BG i.m)
structure NC where
 x:wC
 k:Int
@[reducible] def z3x (x:wC) (n:Nat):List fi:=[.cells [zA x.dk,zA x.dr,yN x.iN,.own n] 331,.jc 6 (x.ig.map yX)]
def ofC:gi:=fp NC (λi=>[zA i.k,.nm 0 0]) (λi=>z3x i.x 1) (λi=>i.x.ig.length<=1000000) (λi=>zA (ES i.x i.k)) (λi=>z3x i.x 1)
def ofA:List gp:=[{ι:=Nat,dv:=λj=>[(9,zA j)],rows:=λ_=>[]}]
structure Jy where
 m:iq
 inst:Int
 x:wC
def Bz:gi:=fp Jy (λi=>[.nm 0 0,zA i.inst,yUj i.x]) (λi=>BG i.m) (λi=>i.m.Bh/\gx i.x.dk/\i.x.ig.length<=1000000) (λi=> .ja [zA (vD i.m.p i.inst i.x).1,zA (vD i.m.p i.inst i.x).2]) (λi=>BG i.m)
structure rq where
 m:iq
 c:ir
 x:wC
 left:Int
def rq.out (i:rq) (j:Nat):List fq:=(i.x.ig.take j).flatMap λf=>nW i.m.p i.x (Hm f)
def FN:gi:=fp rq (λi=>[.nm 0 0,CD i.c,yUj i.x,zA i.left]) (λi=>BG i.m) (λi=>i.m.Bh/\gx i.x.dk/\i.x.ig.length<=1000000/\(i.c.side=1\/i.c.side=2)/\∀f∈i.x.ig,f.side=1\/f.side=2) (λ_=> .own 5) (λi=>BG i.m++[KB (nN i.m.p i.c i.x i.left)])
def yYm (i:rq):List gp:=[{ι:=Nat,dv:=λj=>[(9,.nm 0 0),(17,zA j)],rows:=λj=>[.cells [.own 1] 36,KB (i.out j)]}]
def y9e (i:A6):Prop:=
 ∃(o:Unit),[xP (fq.mk 2 i.c.id 0 0 0 0 0 i.oY)]=[[D.v (.int .i64 2),D.v (.int .i64 i.c.id),D.v (.int .i64 0),D.v (.int .i64 0),D.v (.int .i64 0),D.v (.int .i64 0),D.v (.int .i64 0),D.v (.int .i64 i.oY)]]/\True
def uS (a:G5):Prop:=a.r.kind=a.r.kind/\dj a.r.id/\dj a.r.inst/\dj a.r.side/\dj a.r.dk/\dj a.r.dr/\dj a.r.left/\dj a.r.oY/\True
def dE (a:G5):=(fq.mk a.r.kind a.r.id (a.m.p.gj a.r.inst).snd.fst (3-a.r.side) a.Ep a.r.dr a.r.left a.r.oY)
def dA (a:G5):=(fq.mk a.r.kind a.r.id (a.m.p.gj a.r.inst).fst a.r.side a.Bc a.r.dr a.r.left a.r.oY)
def lI (a:G5) (b:bG):Prop:=(uS a)/\(uS a)/\(uS a)/\(uS a)/\(uS a)/\dj a.r.side/\∃(c:Unit),dj (sb a.m.p.code)/\dj a.m.p.tick/\dj a.m.p.low/\dj a.m.p.high/\dj a.m.p.wide/\dj a.m.p.dt/\dj a.m.p.top/\dj a.m.p.least/\dj a.m.p.part/\zE a.m.s=yY a.m 1/\dj (zX a.m.used)/\aa 1 (iE a.m.p.dm)=yY a.m 3/\aa 1 (iE a.m.p.settle)=yY a.m 4/\[xP (dA a),xP (dE a)]=[[dI a.r.kind,dI a.r.id,dI ((b.p.gj b.n).fst),dI a.r.side,dI a.Bc,dI a.r.dr,dI a.r.left,dI a.r.oY],[dI a.r.kind,dI a.r.id,dI (vR b),dI (aj.wrap (3-a.r.side)),dI a.Ep,dI a.r.dr,dI a.r.left,dI a.r.oY]]/\True
def z1f (i:G5):Prop:=
 ∃(a:bG),sb a.p.code=sb i.m.p.code/\iE a.p.dm=iE i.m.p.dm/\a.p.tick=i.m.p.tick/\a.p.low=i.m.p.low/\a.p.high=i.m.p.high/\a.p.wide=i.m.p.wide/\a.p.dt=i.m.p.dt/\a.p.top=i.m.p.top/\a.p.least=i.m.p.least/\a.p.part=i.m.p.part/\iE a.p.settle=iE i.m.p.settle/\a.n=i.r.inst/\(jQ a)/\∀(b:Unit),True->(lI i a)/\lI i a
def y8x (i:ND):Prop:=
 ∃(iw:bG),sb iw.p.code=sb i.m.p.code/\iE iw.p.dm=iE i.m.p.dm/\iw.p.tick=i.m.p.tick/\iw.p.low=i.m.p.low/\iw.p.high=i.m.p.high/\iw.p.wide=i.m.p.wide/\iw.p.dt=i.m.p.dt/\iw.p.top=i.m.p.top/\iw.p.least=i.m.p.least/\iw.p.part=i.m.p.part/\iE iw.p.settle=iE i.m.p.settle/\iw.n=i.inst/\(iw.p.code.length<=1099511627776/\iw.p.dm.length<=1099511627776/\iw.p.settle.length<=1099511627776)/\∀(o:Unit),True->∃(o:Unit),(i.m.p.gj i.inst).snd.snd=(iw.p.gj iw.n).snd.snd/\dj (sb i.m.p.code)/\dj i.m.p.tick/\dj i.m.p.low/\dj i.m.p.high/\dj i.m.p.wide/\dj i.m.p.dt/\dj i.m.p.top/\dj i.m.p.least/\dj i.m.p.part/\zE i.m.s=yY i.m 1/\dj (zX i.m.used)/\aa 1 (iE i.m.p.dm)=yY i.m 3/\aa 1 (iE i.m.p.settle)=yY i.m 4/\True
def VA (a:NC):Prop:=a.x.dk=a.x.dk/\dj a.x.dr/\dj a.x.iN/\dj (aa 6 (am yX a.x.ig))/\True
def Vof (i:NC):Prop:=
 ∃(a:Nat),(↑a:Int)=0/\∃(b:Nat->Prop),∃(c:Nat->Nat),b a/\∀(d:Nat),b d->dq (decide ((↑d:Int)<(↑(am yX i.x.ig).length:Int))) ((0<=(↑d:Int)/\(↑d:Int)<(↑(am yX i.x.ig).length:Int))/\∃(e:Int),∃(f:Int),∃(g:Int),∃(h:Int),∃(j:Int),∃(k:Int),zD (am yX i.x.ig) (↑d:Int).toNat 0 6=av [dI e,dI f,dI g,dI h,dI j,dI k]/\dq (f==i.k) (∃(l:Unit),ES i.x i.k=h/\VA i) (∃(l:Nat),(↑l:Int)=aj.wrap ((↑d:Int)+1)/\b l/\c l<c d/\dj (ab [zA i.x.dk,zA i.x.dr,yN i.x.iN,V.own 1] (331:bc))/\dj (aa 6 (am yX i.x.ig)))) (∃(e:Unit),ES i.x i.k=i.x.dk/\VA i)
def tJ (a:Jy):Prop:=sb a.m.p.code=sb a.m.p.code/\dj a.m.p.tick/\dj a.m.p.low/\dj a.m.p.high/\dj a.m.p.wide/\dj a.m.p.dt/\dj a.m.p.top/\dj a.m.p.least/\dj a.m.p.part/\zE a.m.s=yY a.m 1/\dj (zX a.m.used)/\aa 1 (iE a.m.p.dm)=yY a.m 3/\aa 1 (iE a.m.p.settle)=yY a.m 4/\True
def qQ (a:Jy):=(vD a.m.p a.inst a.x)
def z0k (i:Jy):Prop:=
 dq (!i.x.iN) (∃(a:NF),sb a.p.code=sb i.m.p.code/\iE a.p.dm=iE i.m.p.dm/\a.p.tick=i.m.p.tick/\a.p.low=i.m.p.low/\a.p.high=i.m.p.high/\a.p.wide=i.m.p.wide/\a.p.dt=i.m.p.dt/\a.p.top=i.m.p.top/\a.p.least=i.m.p.least/\a.p.part=i.m.p.part/\iE a.p.settle=iE i.m.p.settle/\a.inst=i.inst/\a.dk=i.x.dk/\(a.p.check=0/\(a.p.code.length<=1099511627776/\a.p.dm.length<=1099511627776/\a.p.settle.length<=1099511627776)/\(-9223372036854775808)<=a.dk/\a.dk<=9223372036854775807)/\∀(b:Unit),True->∃(c:Unit),(qQ i).fst=(y7 a).fst/\(qQ i).snd=(y7 a).snd.fst/\tJ i) (∃(a:bG),sb a.p.code=sb i.m.p.code/\iE a.p.dm=iE i.m.p.dm/\a.p.tick=i.m.p.tick/\a.p.low=i.m.p.low/\a.p.high=i.m.p.high/\a.p.wide=i.m.p.wide/\a.p.dt=i.m.p.dt/\a.p.top=i.m.p.top/\a.p.least=i.m.p.least/\a.p.part=i.m.p.part/\iE a.p.settle=iE i.m.p.settle/\a.n=i.inst/\(jQ a)/\∀(b:Unit),True->∃(c:NC),c.k=(a.p.gj a.n).fst/\c.x.dk=i.x.dk/\c.x.dr=i.x.dr/\c.x.iN=i.x.iN/\aa 6 (am yX c.x.ig)=aa 6 (am yX i.x.ig)/\c.x.ig.length<=1000000/\∀(d:Unit),True->∃(e:NC),e.k=(a.p.gj a.n).snd.fst/\e.x.dk=c.x.dk/\e.x.dr=c.x.dr/\e.x.iN=c.x.iN/\aa 6 (am yX e.x.ig)=aa 6 (am yX c.x.ig)/\e.x.ig.length<=1000000/\∀(f:Unit),True->∃(g:Unit),(qQ i).fst=ES c.x c.k/\(qQ i).snd=ES e.x e.k/\tJ i)
def YK (a:Jy):Prop:=(a.m.p.check=0/\a.m.p.code.length<=1099511627776/\a.m.p.dm.length<=1099511627776/\a.m.p.settle.length<=1099511627776)/\((-9223372036854775808)<=a.x.dk/\a.x.dk<=9223372036854775807)/\a.x.ig.length<=1000000
def YV (a:G5):Prop:=(a.m.p.check=0/\a.m.p.code.length<=1099511627776/\a.m.p.dm.length<=1099511627776/\a.m.p.settle.length<=1099511627776)/\(a.r.side=1\/a.r.side=2)
def Zg (a:ND):Prop:=a.m.p.check=0/\a.m.p.code.length<=1099511627776/\a.m.p.dm.length<=1099511627776/\a.m.p.settle.length<=1099511627776
def mQ (a:rq):=(D.v (az (sb a.c.label)))
def yLq (i:rq):Prop:=
 ∃(a:Nat),(↑a:Int)=0/\am xP (i.out a)=[]/\∃(b:Nat->Prop),∃(c:Nat->Nat),b a/\∀(d:Nat),b d->dq (decide ((↑d:Int)<(↑(am yX i.x.ig).length:Int))) ((0<=(↑d:Int)/\(↑d:Int)<(↑(am yX i.x.ig).length:Int))/\∃(e:Int),∃(f:Int),∃(g:Int),∃(h:Int),∃(j:Int),∃(k:Int),zD (am yX i.x.ig) (↑d:Int).toNat 0 6=av [dI e,dI f,dI g,dI h,dI j,dI k]/\((am xP (i.out d)).length+1)*(64:Nat)<=(140737488355328:Nat)/\∃(l:ND),l.inst=f/\sb l.m.p.code=sb i.m.p.code/\l.m.p.tick=i.m.p.tick/\l.m.p.low=i.m.p.low/\l.m.p.high=i.m.p.high/\l.m.p.wide=i.m.p.wide/\l.m.p.dt=i.m.p.dt/\l.m.p.top=i.m.p.top/\l.m.p.least=i.m.p.least/\l.m.p.part=i.m.p.part/\zE l.m.s=yY i.m 1/\zX l.m.used=zX i.m.used/\aa 1 (iE l.m.p.dm)=yY i.m 3/\aa 1 (iE l.m.p.settle)=yY i.m 4/\(Zg l)/\∀(m:Unit),True->dq (l.m.p.gj l.inst).snd.snd (∃(n:Jy),n.inst=f/\n.x.dk=i.x.dk/\n.x.dr=i.x.dr/\n.x.iN=i.x.iN/\am yX n.x.ig=am yX i.x.ig/\sb n.m.p.code=sb l.m.p.code/\n.m.p.tick=l.m.p.tick/\n.m.p.low=l.m.p.low/\n.m.p.high=l.m.p.high/\n.m.p.wide=l.m.p.wide/\n.m.p.dt=l.m.p.dt/\n.m.p.top=l.m.p.top/\n.m.p.least=l.m.p.least/\n.m.p.part=l.m.p.part/\zE n.m.s=zE l.m.s/\zX n.m.used=zX l.m.used/\aa 1 (iE n.m.p.dm)=aa 1 (iE l.m.p.dm)/\aa 1 (iE n.m.p.settle)=aa 1 (iE l.m.p.settle)/\(YK n)/\∀(p:Unit),True->∃(q:G5),q.r.kind=3/\q.r.id=e/\q.r.inst=f/\q.r.side=g/\q.r.dk=h/\q.r.dr=j/\q.r.left=k/\q.r.oY=0/\q.Bc=(qQ n).fst/\q.Ep=(qQ n).snd/\sb q.m.p.code=sb n.m.p.code/\q.m.p.tick=n.m.p.tick/\q.m.p.low=n.m.p.low/\q.m.p.high=n.m.p.high/\q.m.p.wide=n.m.p.wide/\q.m.p.dt=n.m.p.dt/\q.m.p.top=n.m.p.top/\q.m.p.least=n.m.p.least/\q.m.p.part=n.m.p.part/\zE q.m.s=zE n.m.s/\zX q.m.used=zX n.m.used/\aa 1 (iE q.m.p.dm)=aa 1 (iE n.m.p.dm)/\aa 1 (iE q.m.p.settle)=aa 1 (iE n.m.p.settle)/\(YV q)/\∀(r:Unit),True->True/\((am xP (i.out d)++[[dI 3,dI e,dI f,dI g,dI h,dI j,dI k,dI 0]]).length+2)*(64:Nat)<=(140737488355328:Nat)/\∃(s:Nat),(↑s:Int)=aj.wrap ((↑d:Int)+1)/\am xP (i.out s)=am xP (i.out d)++[[dI 3,dI e,dI f,dI g,dI h,dI j,dI k,dI 0]]++[xP (dA q),xP (dE q)]/\b s/\c s<c d/\dj (ab [V.d (dI i.x.dk),V.d (dI i.x.dr),V.d (D.v (.bool i.x.iN)),V.own 7] 331)/\dj (aa 6 (am yX i.x.ig))/\dj (ab [V.d (dI i.c.kind),V.d (dI i.c.id),V.d (dI i.c.inst),V.d (dI i.c.side),V.d (dI i.c.dk),V.d (dI i.c.dr),V.d (dI i.c.least),V.d (dI i.c.time),V.d (mQ i)] 46)/\dj (ab [V.nm 0 0] 54)/\ab [V.d (D.v (az (sb q.m.p.code))),V.own 3,V.d (dI q.m.p.tick),V.d (dI q.m.p.low),V.d (dI q.m.p.high),V.d (dI q.m.p.wide),V.d (dI q.m.p.dt),V.d (dI q.m.p.top),V.d (dI q.m.p.least),V.d (dI q.m.p.part),V.own 4,V.nm 1 0,V.mp 2] (137:bc)=yY i.m 0/\zE q.m.s=yY i.m 1/\af (zX q.m.used)=yY i.m 2/\aa 1 (iE q.m.p.dm)=yY i.m 3/\aa 1 (iE q.m.p.settle)=yY i.m 4) (∃(n:Nat),(↑n:Int)=aj.wrap ((↑d:Int)+1)/\am xP (i.out n)=am xP (i.out d)++[[dI 3,dI e,dI f,dI g,dI h,dI j,dI k,dI 0]]/\b n/\c n<c d/\dj (ab [V.d (dI i.x.dk),V.d (dI i.x.dr),V.d (D.v (.bool i.x.iN)),V.own 7] 331)/\dj (aa 6 (am yX i.x.ig))/\dj (ab [V.d (dI i.c.kind),V.d (dI i.c.id),V.d (dI i.c.inst),V.d (dI i.c.side),V.d (dI i.c.dk),V.d (dI i.c.dr),V.d (dI i.c.least),V.d (dI i.c.time),V.d (mQ i)] 46)/\dj (ab [V.nm 0 0] 54)/\ab [V.d (D.v (az (sb l.m.p.code))),V.own 3,V.d (dI l.m.p.tick),V.d (dI l.m.p.low),V.d (dI l.m.p.high),V.d (dI l.m.p.wide),V.d (dI l.m.p.dt),V.d (dI l.m.p.top),V.d (dI l.m.p.least),V.d (dI l.m.p.part),V.own 4,V.nm 1 0,V.mp 2] (137:bc)=yY i.m 0/\zE l.m.s=yY i.m 1/\af (zX l.m.used)=yY i.m 2/\aa 1 (iE l.m.p.dm)=yY i.m 3/\aa 1 (iE l.m.p.settle)=yY i.m 4)) (((am xP (i.out d)).length+1)*(64:Nat)<=(140737488355328:Nat)/\∃(e:ND),e.inst=i.c.inst/\sb e.m.p.code=sb i.m.p.code/\e.m.p.tick=i.m.p.tick/\e.m.p.low=i.m.p.low/\e.m.p.high=i.m.p.high/\e.m.p.wide=i.m.p.wide/\e.m.p.dt=i.m.p.dt/\e.m.p.top=i.m.p.top/\e.m.p.least=i.m.p.least/\e.m.p.part=i.m.p.part/\zE e.m.s=yY i.m 1/\zX e.m.used=zX i.m.used/\aa 1 (iE e.m.p.dm)=yY i.m 3/\aa 1 (iE e.m.p.settle)=yY i.m 4/\(Zg e)/\∀(f:Unit),True->dq (e.m.p.gj e.inst).snd.snd (∃(g:Jy),g.inst=i.c.inst/\g.x.dk=i.x.dk/\g.x.dr=i.x.dr/\g.x.iN=i.x.iN/\am yX g.x.ig=am yX i.x.ig/\sb g.m.p.code=sb e.m.p.code/\g.m.p.tick=e.m.p.tick/\g.m.p.low=e.m.p.low/\g.m.p.high=e.m.p.high/\g.m.p.wide=e.m.p.wide/\g.m.p.dt=e.m.p.dt/\g.m.p.top=e.m.p.top/\g.m.p.least=e.m.p.least/\g.m.p.part=e.m.p.part/\zE g.m.s=zE e.m.s/\zX g.m.used=zX e.m.used/\aa 1 (iE g.m.p.dm)=aa 1 (iE e.m.p.dm)/\aa 1 (iE g.m.p.settle)=aa 1 (iE e.m.p.settle)/\(YK g)/\∀(h:Unit),True->∃(j:G5),j.r.kind=3/\j.r.id=i.c.id/\j.r.inst=i.c.inst/\j.r.side=i.c.side/\j.r.dk=i.x.dk/\j.r.dr=i.x.dr/\j.r.left=i.left/\j.r.oY=0/\j.Bc=(qQ g).fst/\j.Ep=(qQ g).snd/\sb j.m.p.code=sb g.m.p.code/\j.m.p.tick=g.m.p.tick/\j.m.p.low=g.m.p.low/\j.m.p.high=g.m.p.high/\j.m.p.wide=g.m.p.wide/\j.m.p.dt=g.m.p.dt/\j.m.p.top=g.m.p.top/\j.m.p.least=g.m.p.least/\j.m.p.part=g.m.p.part/\zE j.m.s=zE g.m.s/\zX j.m.used=zX g.m.used/\aa 1 (iE j.m.p.dm)=aa 1 (iE g.m.p.dm)/\aa 1 (iE j.m.p.settle)=aa 1 (iE g.m.p.settle)/\(YV j)/\∀(k:Unit),True->True/\((am xP (i.out d)++[[dI 3,dI i.c.id,dI i.c.inst,dI i.c.side,dI i.x.dk,dI i.x.dr,dI i.left,dI 0]]).length+2)*(64:Nat)<=(140737488355328:Nat)/\∃(l:Unit),sb i.m.p.code=sb j.m.p.code/\i.m.p.tick=j.m.p.tick/\i.m.p.low=j.m.p.low/\i.m.p.high=j.m.p.high/\i.m.p.wide=j.m.p.wide/\i.m.p.dt=j.m.p.dt/\i.m.p.top=j.m.p.top/\i.m.p.least=j.m.p.least/\i.m.p.part=j.m.p.part/\zE i.m.s=zE j.m.s/\zX i.m.used=zX j.m.used/\aa 1 (iE i.m.p.dm)=aa 1 (iE j.m.p.dm)/\aa 1 (iE i.m.p.settle)=aa 1 (iE j.m.p.settle)/\am xP (nN i.m.p i.c i.x i.left)=am xP (i.out d)++[[dI 3,dI i.c.id,dI i.c.inst,dI i.c.side,dI i.x.dk,dI i.x.dr,dI i.left,dI 0]]++[xP (dA j),xP (dE j)]/\True) (∃(g:Unit),sb i.m.p.code=sb e.m.p.code/\i.m.p.tick=e.m.p.tick/\i.m.p.low=e.m.p.low/\i.m.p.high=e.m.p.high/\i.m.p.wide=e.m.p.wide/\i.m.p.dt=e.m.p.dt/\i.m.p.top=e.m.p.top/\i.m.p.least=e.m.p.least/\i.m.p.part=e.m.p.part/\zE i.m.s=zE e.m.s/\zX i.m.used=zX e.m.used/\aa 1 (iE i.m.p.dm)=aa 1 (iE e.m.p.dm)/\aa 1 (iE i.m.p.settle)=aa 1 (iE e.m.p.settle)/\am xP (nN i.m.p i.c i.x i.left)=am xP (i.out d)++[[dI 3,dI i.c.id,dI i.c.inst,dI i.c.side,dI i.x.dk,dI i.x.dr,dI i.left,dI 0]]/\True))
def z4y:aab.ok Tryz.prog 158:=ib (V:=y9e) mixed fj 0 (λ_=>[]) (λ_=>[]) [] Tryz.func158 λ(i:A6) _=>⟨(),rfl,trivial⟩
def yLz (i:G5) (h:By.dq i):z1f i:=by
 obtain⟨⟨hc,hp⟩,hs⟩:i.m.Bh/\(i.r.side=1\/i.r.side=2):=h;have hw:aj.wrap (3-i.r.side)=3-i.r.side:=iA oM;unfold z1f lI dA dE uS vR jQ dI;rw[hw];refine⟨⟨i.m.p,i.r.inst⟩,gr (iT ⟨rfl,hp,λ_ _=> ?_⟩)⟩;exact kp
def z4t:By.ok Tryz.prog 231:=ib mixed (dx MG fj) 0 (λ_=>[]) (λ_=>[]) [] Tryz.func231 yLz
def yXm:aal.ok Tryz.prog 229:=ib (V:=y8x) mixed (dx MG fj) 0 (λ_=>[]) (λ_=>[]) [] Tryz.func229 λ(i:ND) h=>by
 obtain⟨hc,hp⟩:i.m.Bh:=h;exact⟨⟨i.m.p,i.inst⟩,gr (iT ⟨rfl,hp,λ_ _=>kp⟩)⟩
def y3n {l:List bQ} {k:Nat} {f:bQ} (h:l[k]? =av f):zD (l.map yX) k 0 6=av [D.v (.int .i64 f.id),D.v (.int .i64 f.inst),D.v (.int .i64 f.side),D.v (.int .i64 f.dk),D.v (.int .i64 f.dr),D.v (.int .i64 f.left)]:=ju h (by simp[yX]) rfl
def vof (i:NC) (h:ofC.dq i):Vof i:=by
 have hl:i.x.ig.length<=1000000:=h;have e4:(i.x.ig.map yX).length=i.x.ig.length:=im ..;unfold Vof VA dI;refine⟨0,rfl,λj=>j<=i.x.ig.length/\(i.x.ig.take j).find? (λf=>decide (f.inst=i.k))=aw,λj=>i.x.ig.length-j,⟨mz _,rfl⟩,?_⟩;rintro j ⟨j1,j2⟩;refine zH (λc=> ?_) (λc=> ?_)
 ·obtain⟨f,hf⟩:=z6 (l:=i.x.ig) (i:=j) oM;refine⟨⟨oM,oM⟩,_,_,_,_,_,_,y3n hf,Cv.dq.mk (λg=>⟨(),?_,gu⟩) (λg=>⟨j+1,rf oM,⟨oM,?_⟩,Z9,gu⟩)⟩
  ·have g:f.inst=i.k:=by simpa using g
   have e:i.x.ig.find? (λf=>decide (f.inst=i.k))=av f:=by
    rw[<- BK j i.x.ig,List.find?_append,j2,DC (by omega),(jv.1 hf).2,List.find?_cons_of_pos (by simpa using g)];rfl
   rw[ES,e]
  ·have g:¬f.inst=i.k:=by simpa using g
   rw[tb,hf,List.find?_append,j2];simp[g]
 ·have:j=i.x.ig.length:=by omega
  rw[this,oh (lk _)]at j2;exact⟨(),by rw[ES,j2],gu⟩
def y5w:ofC.ok Tryz.prog 240:=ib mixed fj 0 (λ_=>[]) (λ_=>ofA) [] Tryz.func240 vof
def yKj (i:Jy) (h:Bz.dq i):z0k i:=by
 obtain⟨⟨hc,hp⟩,Po,hl⟩:i.m.Bh/\gx i.x.dk/\i.x.ig.length<=1000000:=h;unfold z0k qQ tJ y7 jQ;refine Cv.dq.mk (λe=> ?_) (λe=> ?_)
 ·have e:i.x.iN=aq:=by simpa using e
  have h0:vD i.m.p i.inst i.x=((f8 i.m.p i.inst i.x.dk).1,(f8 i.m.p i.inst i.x.dk).2.1):=by rw[vD,fh e]
  rw[h0];exact⟨⟨i.m.p,i.inst,i.x.dk⟩,gr (nn ⟨rfl,⟨hc,hp,Po⟩,λ_ _=>kp⟩)⟩
 ·have e:¬i.x.iN=aq:=by simpa using e
  have h0:vD i.m.p i.inst i.x=(ES i.x (i.m.p.gj i.inst).1,ES i.x (i.m.p.gj i.inst).2.1):=by rw[vD,fb e]
  rw[h0];exact⟨⟨i.m.p,i.inst⟩,gr (iT ⟨rfl,hp,λ_ _=>⟨⟨i.x,(i.m.p.gj i.inst).1⟩,nn ⟨rfl,hl,λ_ _=>⟨⟨i.x,(i.m.p.gj i.inst).2.1⟩,nn ⟨rfl,hl,λ_ _=>kp⟩⟩⟩⟩⟩)⟩
def z6x:Bz.ok Tryz.prog 230:=ib mixed (dx MG (dx z4z (dx y5w fj))) 0 (λ_=>[]) (λ_=>[]) [] Tryz.func230 yKj
def Xc (p:ff) (x:wC) (r:fq):(nW p x r).length<=3:=by
 rw[nW,iJ];split
 ·rw[N8];simp
 ·simp
def yCk {p:ff} {x:wC} {r:fq} (h:(p.gj r.inst).2.2=aq):nW p x r=[r]:=by
 rw[nW,fb (by rw[h];decide)]
def z3b {p:ff} {x:wC} {r:fq} (h:(p.gj r.inst).2.2=ar):nW p x r=r::N8 p r (vD p r.inst x).1 (vD p r.inst x).2:=by
 rw[nW,fh h]
def rq.Dm (i:rq):∀j,(i.out j).length<=3*j
 |0=>lk _
 |j+1=>by
  have ih:=rq.Dm i j;rw[rq.out]at ih ⊢;rw[tb,yq,iv];cases e:i.x.ig[j]? with
  |none=>simp only[Option.toList_none,KP,ua];omega
  |some f=>
   have:=Xc i.m.p i.x (Hm f);simp only[Eb,wg,KP,oU];omega
def rq.Gh (i:rq) {j:Nat} {f:bQ} (h:i.x.ig[j]? =av f):i.out (j+1)=i.out j++nW i.m.p i.x (Hm f):=by
 rw[rq.out,rq.out,tb,yq,h];simp
def y1x (i:rq) (h:FN.dq i):yLq i:=by
 obtain⟨hf,Po,hl,GY,xl⟩:i.m.Bh/\gx i.x.dk/\i.x.ig.length<=1000000/\(i.c.side=1\/i.c.side=2)/\∀f∈i.x.ig,f.side=1\/f.side=2:=h;have e4:(i.x.ig.map yX).length=i.x.ig.length:=im ..;unfold yLq mQ Zg YV YK dA dE qQ dI;refine⟨0,rfl,rfl,λj=>j<=i.x.ig.length,λj=>i.x.ig.length-j,mz _,?_⟩;intro j hj;have ho:=i.Dm j;have e5:((i.out j).map xP).length=(i.out j).length:=im ..;refine zH (λc=> ?_) (λc=> ?_)
 ·obtain⟨f,hfj⟩:=z6 (l:=i.x.ig) (i:=j) oM;have Ca:=i.Gh hfj;have aaW:=xl f (lq hfj);refine⟨⟨oM,oM⟩,_,_,_,_,_,_,y3n hfj,oM,⟨i.m,f.inst⟩,rfl,rfl,rfl,rfl,rfl,rfl,rfl,rfl,rfl,rfl,rfl,rfl,rfl,rfl,hf,λ_ _=>Cv.dq.mk (λe=> ?_) (λe=> ?_)⟩
  ·have e:(i.m.p.gj (Hm f).inst).2.2=ar:=e;rw[z3b e]at Ca;refine⟨⟨i.m,f.inst,i.x⟩,gr (mh (iT ⟨rfl,⟨hf,Po,hl⟩,λ_ _=>⟨⟨i.m,Hm f,(vD i.m.p f.inst i.x).1,(vD i.m.p f.inst i.x).2⟩,gr (gr (mh ⟨rfl,⟨hf,aaW⟩,λ_ _=>⟨trivial,by rw[iv,e5];simp only[iJ,ua];omega,j+1,rf oM,?_,oM,Z9,gu⟩⟩))⟩⟩))⟩;rw[Ca,jr,jh];rfl
  ·have e:(i.m.p.gj (Hm f).inst).2.2=aq:=e;rw[yCk e]at Ca;refine⟨j+1,rf oM,?_,oM,Z9,gu⟩;rw[Ca,jr];rfl
 ·have hj:j=i.x.ig.length:=by omega
  have Jn:i.x.ig.flatMap (λf=>nW i.m.p i.x (Hm f))=i.out j:=by rw[rq.out,hj,oh (lk _)]
  have hR:nN i.m.p i.c i.x i.left=i.out j++nW i.m.p i.x ⟨3,i.c.id,i.c.inst,i.c.side,i.x.dk,i.x.dr,i.left,0⟩:=by rw[nN,Jn]
  refine⟨oM,⟨i.m,i.c.inst⟩,gr (yj ⟨rfl,hf,λ_ _=>Cv.dq.mk (λe=> ?_) (λe=> ?_)⟩)⟩
  ·have e:(i.m.p.gj (⟨3,i.c.id,i.c.inst,i.c.side,i.x.dk,i.x.dr,i.left,0⟩:fq).inst).2.2=ar:=e;rw[z3b e]at hR;refine⟨⟨i.m,i.c.inst,i.x⟩,gr (mh (iT ⟨rfl,⟨hf,Po,hl⟩,λ_ _=>⟨⟨i.m,⟨3,i.c.id,i.c.inst,i.c.side,i.x.dk,i.x.dr,i.left,0⟩,(vD i.m.p i.c.inst i.x).1,(vD i.m.p i.c.inst i.x).2⟩,gr (gr (mh ⟨rfl,⟨hf,GY⟩,λ_ _=>⟨trivial,by rw[iv,e5];simp only[iJ,ua];omega,?_⟩⟩))⟩⟩))⟩;rw[hR,jr,jh];exact kp
  ·have e:(i.m.p.gj (⟨3,i.c.id,i.c.inst,i.c.side,i.x.dk,i.x.dr,i.left,0⟩:fq).inst).2.2=aq:=e;rw[yCk e]at hR;rw[hR,jr];exact kp
def yOi:FN.ok Tryz.prog 219:=ib mixed (dx yXm (dx z6x (dx z4t fj))) 1 (λ_=>[]) (λi=>yYm i) [] Tryz.func219 y1x
structure qn where
 m:iq
 p:ff
 B:List (List zI)
 U:List Int
 c:ir
 X:G6
@[reducible] def qn.Nc (i:qn):Prop:=i.m.fq i.p i.B i.U/\iS i.p i.B
@[reducible] def qn.tw (i:qn):Prop:=(0<=i.c.inst/\i.c.inst<i.B.length)/\(1<=i.c.dr/\i.c.dr<=1000000)/\(i.c.side=1\/i.c.side=2)
@[reducible] def NJ (X:G6) (p:ff):Alt:={o:=iq,res:=λ_=> .own 5,post:=λo=>BG o++[KB X.R],rel:=λo=>o.fq p X.B X.U}
def FW:gi where
 ι:=qn
 pat:=λi=>[.nm 0 0,CD i.c]
 pre:=λi=>BG i.m
 dq:=λi=>i.Nc/\i.tw/\i.p.dk i.c.inst i.c.dk=0/\i.X=bS i.p i.B i.U i.c
 alts:=λi=>[NJ i.X i.p]
structure Lj where
 left:Int
 k:Nat
 out:List fq
def y1m (i:qn):List gp:=[{ι:=Lj,dv:=λj=>[(5,.own 0),(8,zA j.left),(51,zA j.k)],rows:=λj=>[KB j.out]}]
def FK:gi where
 ι:=qn
 pat:=λi=>[.nm 0 0,CD i.c]
 pre:=λi=>BG i.m
 dq:=λi=>i.Nc/\i.c.right=0/\i.c.kind=1/\i.X=pK i.p i.B i.U i.c
 alts:=λi=>[NJ i.X i.p]
def yXl:List (Nat×gp):=[(22,ij 6),(44,bj 47),(52,bj 69)]
structure C5 where
 m:iq
 p:ff
 B:List (List zI)
 U:List Int
 id:Int
 q:Int
 inst:Int
 o:zI
 X:G6
@[reducible] def C5.Nc (i:C5):Prop:=i.m.fq i.p i.B i.U/\iS i.p i.B
def IB:gi where
 ι:=C5
 pat:=λi=>[.nm 0 0,zA i.id,zA i.inst,MQ i.o]
 pre:=λi=>BG i.m
 dq:=λi=>i.Nc/\i.X=u7 i.B i.U i.id i.inst i.o
 alts:=λi=>[NJ i.X i.p]
def Ir:gi where
 ι:=C5
 pat:=λi=>[.nm 0 0,zA i.id,zA i.q,zA i.inst,MQ i.o]
 pre:=λi=>BG i.m
 dq:=λi=>i.Nc/\gx (i.o.dr-i.q)/\i.X=b8 i.B i.U i.id i.q i.inst i.o
 alts:=λi=>[NJ i.X i.p]
structure MO where
 m:iq
 p:ff
 B:List (List zI)
 U:List Int
 c:ir
 inst:Int
 o:zI
 X:G6
def Bv:gi where
 ι:=MO
 pat:=λi=>[.nm 0 0,CD i.c,zA i.inst,MQ i.o]
 pre:=λi=>BG i.m
 dq:=λi=>i.m.fq i.p i.B i.U/\iS i.p i.B/\z5 i.B i.c.id=(i.inst,i.o,ar)/\(1<=i.c.dr/\i.c.dr<=1000000)/\i.X=dB i.p i.B i.U i.c i.inst i.o
 alts:=λi=>[NJ i.X i.p]
def doC:gi where
 ι:=qn
 pat:=λi=>[.nm 0 0,CD i.c]
 pre:=λi=>[jX i.m]
 dq:=λi=>i.Nc/\i.c.label.length<=140737488355328/\gx i.c.dr/\i.X=AS i.p i.B i.U i.c
 alts:=λi=>[{o:=iq,res:=λ_=> .own 1,post:=λo=>[jX o,KB i.X.R],rel:=λo=>o.fq i.p i.X.B i.X.U}]
end Sx
