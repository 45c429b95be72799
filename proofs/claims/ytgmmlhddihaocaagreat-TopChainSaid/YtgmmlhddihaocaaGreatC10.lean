/- Texts of ours. No condition. -/
import Derived.Shelf.Spec.SlicesGrow
import Derived.Test.YtgmmlhddihaocaaGreatC9
set_option linter.all false
open Sx.ff renaming ja->aa,cells->ab,qq->ac,jt->ae,map->af,own->ag
open Go.IntKind renaming i64->aj,u8->ak
open List renaming map->am,drop_take->ao
open Bool renaming false->ap,true->aq
open Go.Builtin renaming zeroCells->ar
open Option renaming some->au,none->av
open ByteArray renaming mk->aw
open BitVec renaming ofInt->ax
open Go.Value renaming string->ay
open Go renaming grownCap->az,TypeId->ba,size_zeroCells->bc
namespace Sx
set_option maxRecDepth 100000
open Go Cv Go.Proofs
def JR:Go.Shelf.Ren:=⟨λx=>if x=4 then 113 else x,λx=>if x=22 then 43 else if x=25 then 5 else x,λx=>x⟩
def y2w:Lays8.n4 Tryz.prog JR where
 mixed:=mixed
 f4:=⟨Tryz.f113.name,by decide+kernel,by kernel_rfl⟩
 t0:=by kernel_rfl
 a0:=λ_=>by kernel_rfl
 z0:=λ_=>by kernel_rfl
 v0:=λ_=>by kernel_rfl
 t3:=by kernel_rfl
 a3:=λ_=>by kernel_rfl
 z3:=λ_=>by kernel_rfl
 v3:=λ_=>by kernel_rfl
 t4:=by kernel_rfl
 a4:=λ_=>by kernel_rfl
 z4:=λ_=>by kernel_rfl
 v4:=λ_=>by kernel_rfl
 t9:=by kernel_rfl
 a9:=λ_=>by kernel_rfl
 z9:=λ_=>by kernel_rfl
 v9:=λ_=>by kernel_rfl
 t20:=by kernel_rfl
 a20:=λ_=>by kernel_rfl
 z20:=λ_=>by kernel_rfl
 v20:=λ_=>by kernel_rfl
 t22:=by kernel_rfl
 a22:=λ_=>by kernel_rfl
 z22:=λ_=>by kernel_rfl
 v22:=λ_=>by kernel_rfl
def y5q:vT Tryz.prog 43=au (5,1,1,#[.int .u8 0]):=by kernel_rfl
def yQh:Bj.ok Tryz.prog 113:=by
 intro(n:Nat) hc k L E w ys R hv;obtain⟨c1,c2⟩:1<=n/\n<=1099511627776:=hc;simp only[Bj,fj,gp,VR,DR]at hv;obtain⟨_,_,rfl,⟨rfl,_⟩,_,_,rfl,⟨rfl,_⟩,rfl⟩:=hv;obtain⟨inf,zv,q1,q2,q3,q4,q5,q6⟩:=kJ y5q;have vt:=Any8.slices_Grow_grow y2w inf zv q2 q5 oM av 0 0 n [] w (km _) oM (by rw[q4];omega) oM (by simp) (λ_=>rfl) (λa h=>by cases h);rw[show JR.t 25=5 from rfl]at vt;refine aZ (by kernel_rfl) (vt.mono ?_);rintro en w' ⟨rfl,rfl⟩;have hG:=grownCap_ge w (0+n) 0 5;have H:=((R.hp.drew).new (.cells (([]:List Value).toArray++ar zv.cells (0+n-0)++ar zv.cells (az w (0+n) 0 5-(0+n))) 5))
 have ha:(([]:List Value).toArray++ar zv.cells (0+n-0)++ar zv.cells (az w (0+n) 0 5-(0+n)))=([]++((ar zv.cells (0+n-0)).toList++(ar zv.cells (az w (0+n) 0 5-(0+n))).toList)).toArray:=by
  apply Array.ext';simp
 have hz:zv.cells.size=1:=by rw[q6];rfl
 have hl:([]++((ar zv.cells (0+n-0)).toList++(ar zv.cells (az w (0+n) 0 5-(0+n))).toList)).length=az w (0+n) 0 5*1:=by
  rw[yh,im,IV,IV,bc,bc,hz];omega
 rw[ha]at H ⊢;have H3:=H.Aj (n:=0) (sz:=1) (by simp) hl (my _);obtain⟨E',r1,r2,r3⟩:=cY (rows:=[]) (eg:=[]) (nx:=0) R.nx (by simp[iz]) (λx hx=>by cases hx) H3;exact⟨_,rfl,_,vf.2 rfl,(),trivial,E',r1,r3,⟨r2.nx,r2.hp⟩⟩
def NN {ls:List (List UInt8)} {k:Nat} {l:List UInt8} (h:ls[k]? =au l):zD (ls.map gi) k 0 1=au [D.ro 1 (bE l)]:=jq h (by simp[gi]) rfl
def tV {α:Type} {ls:List (List α)} {k:Nat} {l:List α} (h:ls[k]? =au l):(ls.take (k+1)).flatten=(ls.take k).flatten++l:=by
 rw[sm,h,D0,MP];simp
def z9u {α:Type} (ls:List (List α)) (k:Nat):(ls.take k).flatten.length<=ls.flatten.length:=by
 conv=>rhs;rw[<- Bz k ls,MP,im]
 omega
def y1x (ls:List (List UInt8)) (h:xi.dp ls):Ty ls:=by
 obtain⟨h1,h2,h3⟩:1<=ls.flatten.length/\ls.flatten.length<=1099511627776/\ls.length<=1000:=h;unfold Ty aA kA;rw[ia];refine⟨0,rfl,rfl,λk=>k<=ls.length,λk=>ls.length-k,my _,λk hk=>zH (λgr=> ?_) (λgr=> ?_)⟩
 ·obtain⟨l,hl⟩:=z7 (l:=ls) (i:=k) oM;have hk:k<=ls.length:=hk;have e1:=z9u ls (k+1);rw[tV hl,im]at e1;refine⟨⟨oM,oM⟩,bE l,NN hl,zH (λc=> ?_) (λ_=>⟨k+1,?_,qw oM,Z9,Z9,trivial⟩)⟩
  ·rw[yH,ir (by omega)]at c;omega
  ·rw[tV hl,im,yH,ir (by omega)];simp
 ·obtain rfl:k=ls.length:=by have hk:k<=ls.length:=hk;omega
  rw[By];refine⟨ls.flatten.length,trivial,rfl,⟨h1,h2⟩,λ_ _=>⟨0,rfl,rfl,λk=>k<=ls.length,λk=>ls.length-k,my _,λk hk=>zH (λgr=> ?_) (λgr=> ?_)⟩⟩
  ·obtain⟨l,hl⟩:=z7 (l:=ls) (i:=k) oM;have hk:k<=ls.length:=hk;have e1:=z9u ls (k+1);rw[tV hl,im]at e1;refine⟨⟨oM,oM⟩,bE l,NN hl,by rw[yH,yH];omega,k+1,qw oM,by rw[tV hl,NJ],Z9,Z9,trivial⟩
  ·obtain rfl:k=ls.length:=by have hk:k<=ls.length:=hk;omega
   rw[By];exact⟨(),rfl,trivial⟩
def z7y:xi.ok Tryz.prog 50:=y1e (dw yQh fg) y1x
def AA:JV.ok Tryz.prog 26:=gw (V:=y1s) mixed fg 0 (λ_=>[]) (λ_=>[]) [] Tryz.func26 λ(_:Unit) _=>⟨(),rfl,rfl,trivial⟩
def yNx:Rs.ok Tryz.prog 112:=gw (V:=yVj) mixed fg 0 (λ_=>[]) (λ_=>[]) [0] Tryz.func112 λ(i:HH) h=>by
 have h:i.d.b.length+i.l.length<=1048576:=h;unfold yVj;rw[yH,yH];refine zH (λc=> ?_) (λ_=>⟨oM,(),rfl,rfl,NJ _ _,trivial⟩);rw[ir (by omega)]at c;omega
def ySq:Rm.ok Tryz.prog 181:=gw (V:=y5j) mixed fg 0 (λ_=>[]) (λ_=>[]) [0] Tryz.func181 λ(d:Dk) h=>⟨(),by rw[yH],rfl,trivial⟩
def yCa:Rr.ok Tryz.prog 80:=gw (V:=y3j) mixed (dw zPp fg) 0 (λ_=>[]) (λ_=>[]) [0] Tryz.func80 λ(d:Dk) h=>by
 obtain⟨h1,h2⟩:d.ok:=h;exact⟨_,rfl,by rw[yH];omega,λ_ _=>⟨(),iM trivial⟩⟩
def z5f:rr.ok Tryz.prog 70:=yEk fg λi h=>λb hb=>
 Cv.dp.mk (λe=>⟨(),hb e,trivial⟩) (λ_=>⟨by rw[nw,Nat.mul_one];exact h,(),rfl,trivial⟩)
def yAk:Rn.ok Tryz.prog 81:=gw (V:=yVg) mixed (dw z5f fg) 0 (λ_=>[]) (λ_=>[]) [0] Tryz.func81 λ(i:HH) h=>by
 have h:i.l.length<=1048576:=h;unfold yVg;refine zH (λc=> ?_) (λ_=>⟨_,rfl,by rw[yH];omega,λ_ _=>⟨(),rfl,by rw[yH],rfl,trivial⟩⟩);rw[yH]at c;omega
def y5b:∀n:Fin 256,jf (aj.wrap (ax aj.bits (if aj.signed=aq then(-1:Int)else aj.max) ^^^ ax aj.bits (n.val:Int)).toNat)=UInt8.ofNat (255-n.val):=by decide+kernel
def y6s:∀n:Fin 256,ak.wrap (ax ak.bits (if ak.signed=aq then(-1:Int)else ak.max) ^^^ ax ak.bits (n.val:Int)).toNat=255-(n.val:Int):=by decide+kernel
def uB (l:List UInt8):(xZ l).length=l.length+6:=by
 simp only[xZ,iD,im,xH]
def yWd (l:List UInt8) (h:FI.dp l):yGk l:=by
 have h:l.length<=255:=h;have hn:=y5b ⟨l.length,oM⟩;dsimp only at hn;unfold yGk;rw[yH];revert hn;generalize aj.wrap (ax aj.bits (if aj.signed=aq then(-1:Int)else aj.max) ^^^ ax aj.bits (l.length:Int)).toNat=X;intro hn;refine zH (λc=>by omega) (λ_=>⟨(),trivial,λ_ _=>⟨⟨[],l.length⟩,rfl,rfl,by simp[WN.ok],λ_ _=>⟨⟨_,_⟩,rfl,rfl,by simp[WN.ok],λ_ _=>⟨?_,l,rfl,oM,λ_ _=>⟨⟨_,aQ l⟩,rfl,NJ _ _,⟨?_,YI l⟩,λ_ _=>⟨_,rfl,?_,λ_ _=>⟨(),rfl,?_,trivial⟩⟩⟩⟩⟩⟩⟩)
 ·rw[yH];simp;omega
 ·dsimp only;simp;omega
 ·dsimp only;simp[xH];omega
 ·dsimp only;rw[hn,xZ];simp
def z1j:FI.ok Tryz.prog 73:=gw mixed (dw Se (dw RS (dw Zb (dw yKf (dw R7 fg))))) 0 (λ_=>yXn) (λ_=>[]) [] Tryz.func73 yWd
def yJp {c:Int} (h:0<=c/\c<4294967296):qE (le c 4)=c:=by
 simp only[le,qE,Oj];omega
def Xk {l:List UInt8} (h:l.length<=255) (r:List UInt8):Bv (xZ l++r)=(l,6+l.length,0):=by
 have h0:((xZ l++r).getD 0 0).toNat=l.length:=by
  have:=J5 (n:=(l.length:Int)) oM;show(jf (l.length:Int)).toNat=l.length;omega
 have h1:((xZ l++r).getD 1 0).toNat=255-l.length:=by
  show(UInt8.ofNat (255-l.length)).toNat=_;exact UInt8.toNat_ofNat_of_lt' (by
                                     have:255-l.length<256:=by omega
                                     simpa using this)
 have h2:(xZ l++r).drop 2=l++(le (aQ l) 4++r):=by
  show(l++le (aQ l) 4)++r=_;rw[jd]
 have h3:(xZ l++r).drop (2+l.length)=le (aQ l) 4++r:=by
  rw[<- Cw,h2,List.drop_left]
 unfold Bv;rw[h0,h1,h2,h3,MH,List.take_left' (xH 4 _),yJp (YI l)];rw[ej (by rw[im,uB];omega),ej (by omega),ej (by rw[im,uB];omega),ej (by simp)]
def y8i (i:CP) (h:PE.dp i):y5c i:=by
 obtain⟨h1,h2⟩:i.k<=i.b.length/\i.b.length<=1099511627776:=h;have ex:i.x=Bv (i.b.drop i.k):=rfl;have hll:(i.b.drop i.k).length<=1099511627776:=by rw[oV];omega
 have bad:∀e:Int,e≠0->i.x.2.2=e->∀{A:Prop},A\/∃o:Unit,True/\(0:Int)=0/\i.x.2.2=e/\(i.x.2.2=0->False):=λe he hx=> .inr ⟨(),trivial,rfl,hx,λh=>he (hx▸h)⟩
 unfold y5c eU SQ Ww dA cX mN;rw[ow,<- Mg,yH i.b];generalize i.b.drop i.k=l at*;rw[yH l];refine zH (λc=>by omega) (λ_=>⟨⟨oM,oM⟩,zH (λc=>bad 10 Z8 (by rw[ex,Bv,fc (by omega)])) (λc=> ?_)⟩);obtain⟨a,ha⟩:∃a,l[0]? =au a:=⟨_,vd oM⟩
 obtain⟨b,hb⟩:∃b,l[1]? =au b:=⟨_,vd oM⟩
 have ea:l.getD 0 0=a:=by rw[np,ha];rfl
 have eb:l.getD 1 0=b:=by rw[np,hb];rfl
 have la:=a.toNat_lt;have hn:=y6s ⟨a.toNat,la⟩;dsimp only at hn;refine⟨⟨oM,oM⟩,b.toNat,wQ hb,⟨oM,oM⟩,a.toNat,wQ ha,?_⟩;rw[hn];have wa:aj.wrap (a.toNat:Int)=a.toNat:=ir oM;have w2:aj.wrap ((2:Int)+a.toNat)=2+a.toNat:=ir oM;have w3:aj.wrap ((2:Int)+a.toNat+4)=2+a.toNat+4:=ir oM;have w4:aj.wrap ((i.k:Int)+(2+a.toNat))=i.k+(2+a.toNat):=ir oM;have w5:aj.wrap ((i.k:Int)+(2+a.toNat)+4)=i.k+(2+a.toNat)+4:=ir oM;have t1:((2:Int)+a.toNat).toNat=2+a.toNat:=by omega
 have t2:((2:Int)+a.toNat+4).toNat=2+a.toNat+4:=by omega
 refine Cv.dp.mk (λc2=>bad 14 Z8 ?_) (λc2=>⟨⟨oM,oM⟩,a.toNat,wQ ha,?_⟩)
 ·have c2:¬((b.toNat:Int)=255-a.toNat):=by simpa using c2
  rw[ex,Bv,ej (by omega),ea,eb,fc (by omega)]
 have c2:(b.toNat:Int)=255-a.toNat:=by simpa using c2
 rw[wa,w2,w3,w4,w5,t1,t2,show Int.toNat 2=2 from rfl];refine zH (λc3=>bad 10 Z8 ?_) (λc3=> ?_)
 ·rw[ex,Bv,ej (by omega),ea,eb,ej (by omega),fc (by omega)]
 have l1:((l.take (2+a.toNat+4)).drop (2+a.toNat)).length=4:=by rw[oV,oe];omega
 have g1:(l.take (2+a.toNat+4)).drop (2+a.toNat)=(l.drop (2+a.toNat)).take 4:=by rw[ao];congr 1;omega
 have g2:(l.take (2+a.toNat)).drop 2=(l.drop 2).take a.toNat:=by rw[ao];congr 1;omega
 have g3:RN.kj ⟨(l.take (2+a.toNat+4)).drop (2+a.toNat),ap,4⟩=(l.drop (2+a.toNat)).take 4:=by
  rw[RN.kj,ej (by simp only[RN.bad,l1];decide)];dsimp only;rw[og (by omega),g1]
 have l2:((l.drop 2).take a.toNat).length=a.toNat:=by rw[oe,oV];omega
 refine⟨⟨oM,oM,oM⟩,(l.take (2+a.toNat+4)).drop (2+a.toNat),by rw[Mg,N8],oM,λ_ _=>⟨⟨oM,oM,oM⟩,⟨_,ap,4⟩,rfl,rfl,⟨Z9,Z9⟩,λ_ _=>⟨(l.take (2+a.toNat)).drop 2,by rw[Mg,N8],by rw[g2];omega,λ_ _=> ?_⟩⟩⟩;rw[g2,g3];have hr:=mR ((l.drop (2+a.toNat)).take 4);have hl4:((l.drop (2+a.toNat)).take 4).length=4:=by rw[<- g1];exact l1
 rw[hl4]at hr;rw[y4c (by omega)];refine Cv.dp.mk (λc4=>bad 14 Z8 ?_) (λc4=> ?_)
 ·rw[ex,Bv,ej (by omega),ea,eb,ej (by omega),ej (by omega),fc (by simpa using c4)]
 have ex2:i.x=((l.drop 2).take a.toNat,6+a.toNat,0):=by
  rw[ex,Bv,ej (by omega),ea,eb,ej (by omega),ej (by omega),ej (by simpa using c4)]
 rw[ex2,<- N8,<- Mg,g2,yH,l2];exact⟨⟨oM,oM,oM⟩,oM,.inl ⟨(),Z9,rfl,rfl,rfl⟩⟩
def yGy:PE.ok Tryz.prog 131:=gw mixed (dw Vj (dw Zm (dw Zb fg))) 0 (λ_=>[]) (λ_=>[]) [] Tryz.func131 y8i
def z7u (A B:List (List UInt8)):mu (A++B)=mu A++mu B:=by rw[mu,yi];rfl
def SO (l:List UInt8) (L:List (List UInt8)):mu (l::L)=xZ l++mu L:=rfl
def z3b {L:List (List UInt8)} {k:Nat} {l:List UInt8} (h:L[k]? =au l):mu (L.take (k+1))=mu (L.take k)++xZ l:=pG h
def zVb (L:List (List UInt8)) (k:Nat):mu L=mu (L.take k)++mu (L.drop k):=by rw[<- z7u,Bz]
def z9w (L:List (List UInt8)):L.length<=(mu L).length:=by
 induction L with
 |nil=>exact km _
 |cons l L ih=>rw[SO,im,uB,iD];omega
def y5x (i:Dz) (h:Jt.dp i):yTr i:=by
 obtain⟨h1,h2,h3⟩:i.ok:=h;have hn:=z9w i.L;have tb:∀k,(mu i.L).length=(mu (i.L.take k)).length+(mu (i.L.drop k)).length:=λk=>by
  have:=congrArg List.length (zVb i.L k);rwa [im]at this
 unfold yTr Xx fT;rw[yH,im];refine⟨0,rfl,rfl,λk=>k<=i.L.length,λk=>i.L.length-k,my _,λk hk=>zH (λgr=> ?_) (λgr=> ?_)⟩
 ·have hk:k<=i.L.length:=hk;have hs:=tb k;have hx:(CP.mk (mu i.L++i.t) (mu (i.L.take k)).length).x=Bv (mu (i.L.drop k)++i.t):=by
   show Bv ((mu i.L++i.t).drop _)=_;rw[zVb i.L k,jd,List.drop_left]
  refine⟨⟨mu i.L++i.t,(mu (i.L.take k)).length⟩,rfl,rfl,⟨by dsimp only;rw[im];omega,by dsimp only;rw[im];omega⟩,λ_ e0=> ?_,λ_ e1=> ?_⟩
  ·rw[hx]at e0 ⊢;rcases uo k i.L.length with ra|ra
   ·obtain⟨l,hl⟩:=z7 ra;have hd:i.L.drop k=l::i.L.drop (k+1):=by
     rw[Dq ra];congr 1;rw[vd ra]at hl;exact Option.some.inj hl
    have Fe:=h1 l (lr hl);rw[hd,SO,jd,Xk Fe];refine⟨by rw[ia,oe];omega,k+1,?_,?_,Z9,Z9,trivial⟩
    ·rw[z3b hl,im,uB];dsimp only;omega
    ·rw[sm,hl];simp[gi]
   ·rw[Hh ra]at e0;rw[show mu ([]:List (List UInt8))++i.t=i.t from rfl,h2]at e0;cases e0
  ·rw[hx]at e1 ⊢;rcases uo k i.L.length with ra|ra
   ·obtain⟨l,hl⟩:=z7 ra;have hd:i.L.drop k=l::i.L.drop (k+1):=by
     rw[Dq ra];congr 1;rw[vd ra]at hl;exact Option.some.inj hl
    have Fe:=h1 l (lr hl);rw[hd,SO,jd,Xk Fe]at e1;exact absurd rfl e1
   ·obtain rfl:k=i.L.length:=by omega
    rw[List.drop_length,show mu ([]:List (List UInt8))++i.t=i.t from rfl,h2,By];exact Cv.dp.mk (λe=>by cases e) (λ_=>Cv.dp.mk (λ_=>⟨(),iM trivial⟩) (λe=>by cases e))
 ·have hk:k<=i.L.length:=hk;have hs:=tb k;have h5:=z9w (i.L.drop k);rw[oV]at h5;obtain rfl:k=i.L.length:=by omega
  rw[By];exact⟨(),iM trivial⟩
def yNz:Jt.ok Tryz.prog 152:=gw mixed (dw yGy fg) 0 (λ_=>[]) (λi=>y2i i) [] Tryz.func152 y5x
def y1g:aax.ok Tryz.prog 100:=gw (V:=y4o) mixed (dw yCa (dw yNz (dw yAk fg))) 0 (λ_=>[]) (λ_=>[]) [] Tryz.func100 λ(i:BM) h=>by
 obtain⟨hs,hd⟩:(Dz.mk i.L i.t).ok/\i.d.ok:=h;have e0:(bE i.d.b).length=(mu i.L).length+i.t.length:=by rw[yH,BM.d,im]
 have h3:=hs.2.2;dsimp only at h3;unfold y4o;refine⟨i.d,rfl,hd,λ_ _=>⟨⟨i.L,i.t⟩,rfl,hs,λ_ _=>zH (λc=> ?_) (λc=> ?_)⟩⟩
 ·have ht:i.t≠[]:=λe=>by rw[e0,e]at c;simp at c
  refine⟨⟨oM,by rw[e0];dsimp only;omega⟩,⟨i.d,mu i.L⟩,?_,rfl,Z9,λ_ _=>⟨(),rfl,?_,by rw[ia],rfl,trivial⟩⟩
  ·dsimp only;rw[ow,<- N8,BM.d,MH]
  ·rw[BM.d',ej ht]
 ·have ht:i.t=[]:=List.length_eq_zero_iff.1 (by rw[e0]at c;dsimp only at c;omega);refine⟨(),rfl,?_,by rw[ia],rfl,trivial⟩;rw[BM.d',fc ht]
def yQd:QT.ok Tryz.prog 49:=gw (V:=y2f) mixed (dw z1j (dw yNx fg)) 0 (λ_=>[]) (λ_=>[]) [] Tryz.func49 λ(i:Jm) h=>by
 obtain⟨h1,h2,h3,h4⟩:i.l.length<=255/\i.d.b.length+i.l.length+6<=1048576/\0<=i.n/\i.n<=1048576:=h;exact⟨i.l,rfl,h1,λ_ _=>⟨⟨i.d,xZ i.l⟩,rfl,rfl,by dsimp only;rw[uB];omega,λ_ _=>⟨(),rfl,by rw[ir (by omega)],rfl,trivial⟩⟩⟩
def yPc:QS.ok Tryz.prog 137:=gw (V:=y6b) mixed (dw ySq fg) 0 (λ_=>[]) (λ_=>[]) [] Tryz.func137 λ(i:Jm) h=>⟨i.d,rfl,h,λ_ _=>⟨(),rfl,rfl,trivial⟩⟩
open Classical
def lW (i:RN):i.left.length<=i.l.length:=by
 unfold RN.left;split
 ·omega
 ·rw[oV];omega
def nU {r:RB} (h:r.ok):r.byte.2.ok:=xw (lW _) h
def gR {r:RB} (h:r.ok):r.iY.2.ok:=xw (lW _) h
def Ti (l:List UInt8):bE l=jF ⟨l.toArray⟩:=rfl
def y1q (s:List UInt8):Prop:=
 ∃(a:Nat×Nat),(↑a.snd:Int)=0/\sb s=sb s/\a.fst=0/\∃(b:Nat×Nat->Prop),∃(c:Nat×Nat->Nat),b a/\∀(d:Nat×Nat),b d->dp (d.fst.blt (sb s).size) (dp (decide ((qG s d)<32)) (∃(e:Unit),dK s=ap/\True) (dp ((qG s d)==127) (∃(e:Unit),dK s=ap/\True) (dp ((qG s d)==65533) (∃(e:Unit),dK s=ap/\True) (dY d s b c)))) (dp (decide ((↑d.snd:Int)>=1)) (∃(e:Unit),dK s=decide ((↑d.snd:Int)<=12)/\True) (∃(e:Unit),dK s=ap/\True))
def Xy (a:ib):Prop:=∃(b:List UInt8),sb b=sb a.label/\b.length<=140737488355328/\∀(c:Unit),True->dp (!dK b) (∃(d:Unit),a.fw=29/\True) (dp (decide (a.dj>=(-2000000))) (dp (!decide (a.dj<=2000000)) (∃(d:Unit),a.fw=23/\True) (dp (decide (a.inst<0)) (∃(d:Unit),a.fw=20/\True) (dp (decide (a.inst>255)) (∃(d:Unit),a.fw=20/\True) (∃(d:Unit),a.fw=0/\True)))) (∃(d:Unit),a.fw=23/\True))
def yTi (c:ib):Prop:=
 dp (c.side !=1) (dp (c.side !=2) (∃(a:Unit),c.fw=21/\True) (dp (decide (c.time<1)) (∃(a:Unit),c.fw=27/\True) (dp (decide (c.time>3)) (∃(a:Unit),c.fw=27/\True) (dp (decide (c.dq>=1)) (dp (!decide (c.dq<=1000000)) (∃(a:Unit),c.fw=24/\True) (dp (decide (c.least<0)) (∃(a:Unit),c.fw=28/\True) (dp (decide (c.least>c.dq)) (∃(a:Unit),c.fw=28/\True) (dp (!(sb c.label).toList==(aw #[]).toList) (Xy c) (dp (decide (c.dj>=(-2000000))) (dp (!decide (c.dj<=2000000)) (∃(a:Unit),c.fw=23/\True) (dp (decide (c.inst<0)) (∃(a:Unit),c.fw=20/\True) (dp (decide (c.inst>255)) (∃(a:Unit),c.fw=20/\True) (∃(a:Unit),c.fw=0/\True)))) (∃(a:Unit),c.fw=23/\True)))))) (∃(a:Unit),c.fw=24/\True))))) (dp (decide (c.time<1)) (∃(a:Unit),c.fw=27/\True) (dp (decide (c.time>3)) (∃(a:Unit),c.fw=27/\True) (dp (decide (c.dq>=1)) (dp (!decide (c.dq<=1000000)) (∃(a:Unit),c.fw=24/\True) (dp (decide (c.least<0)) (∃(a:Unit),c.fw=28/\True) (dp (decide (c.least>c.dq)) (∃(a:Unit),c.fw=28/\True) (dp (!(sb c.label).toList==(aw #[]).toList) (Xy c) (dp (decide (c.dj>=(-2000000))) (dp (!decide (c.dj<=2000000)) (∃(a:Unit),c.fw=23/\True) (dp (decide (c.inst<0)) (∃(a:Unit),c.fw=20/\True) (dp (decide (c.inst>255)) (∃(a:Unit),c.fw=20/\True) (∃(a:Unit),c.fw=0/\True)))) (∃(a:Unit),c.fw=23/\True)))))) (∃(a:Unit),c.fw=24/\True))))
def yNq (c:ib):Prop:=
 dp (decide (c.kind<1)) (∃(a:Unit),c.right=31/\True) (dp (decide (c.kind>4)) (∃(a:Unit),c.right=31/\True) (dp (decide (c.id<1)) (∃(a:Unit),c.right=1/\True) (dp (decide (c.id>1099511627776)) (∃(a:Unit),c.right=1/\True) (dp (c.kind==1) (∃(a:ib),a.kind=c.kind/\a.id=c.id/\a.inst=c.inst/\a.side=c.side/\a.dj=c.dj/\a.dq=c.dq/\a.least=c.least/\a.time=c.time/\sb a.label=sb c.label/\a.label.length<=140737488355328/\∀(b:Unit),True->∃(d:Unit),c.right=a.fw/\True) (dp (c.kind !=2) (dp (decide (c.dq>=1)) (dp (!decide (c.dq<=1000000)) (∃(a:Unit),c.right=24/\True) (dp (c.kind==4) (dp (decide (c.dj>=(-2000000))) (dp (!decide (c.dj<=2000000)) (∃(a:Unit),c.right=23/\True) (∃(a:Unit),c.right=0/\True)) (∃(a:Unit),c.right=23/\True)) (∃(a:Unit),c.right=0/\True))) (∃(a:Unit),c.right=24/\True)) (dp (c.kind==4) (dp (decide (c.dj>=(-2000000))) (dp (!decide (c.dj<=2000000)) (∃(a:Unit),c.right=23/\True) (∃(a:Unit),c.right=0/\True)) (∃(a:Unit),c.right=23/\True)) (∃(a:Unit),c.right=0/\True)))))))
def y6j (s:List UInt8) (h:P6.dp s):y1q s:=by
 have h:s.length<=140737488355328:=h;have hr:=XE s;unfold y1q qG dY;refine⟨(0,0),rfl,rfl,rfl,λx=>x.1<=s.length/\x.2+(gD s x.1).length=(kY s).length/\(kY s).all Gk=(gD s x.1).all λx=>Gk x.2,λx=>s.length-x.1,⟨oM,by rw[kY,ia];simp,by rw[kY,List.all_map];rfl⟩,?_⟩;rintro⟨p,n⟩ ⟨h1,h2,h3⟩;dsimp only at h1 h2 h3 ⊢;refine Cv.dp.mk (λhp=> ?_) (λhp=> ?_)
 ·have hp:p<s.length:=by simpa[xv]using hp
  have hw:=bF s hp;rw[jP hp,iD]at h2;rw[jP hp,List.all_cons]at h3;generalize hc:(Utf8.decode (sb s) p).1=c at h2 h3 ⊢;generalize hww:(Utf8.decode (sb s) p).2=w at h2 h3 hw ⊢;dsimp only at h3;have bad:Gk c=ap->∃(o:Unit),dK s=ap/\True:=λe=>⟨(),by rw[dK,h3,e];rfl,trivial⟩
  refine zH (λc1=>bad ?_) (λc1=>Cv.dp.mk (λc2=>bad ?_) (λc2=>Cv.dp.mk (λc3=>bad ?_) (λc3=> ?_)))
  ·simp[Gk];omega
  ·have c2:(c:Int)=127:=by simpa using c2
   simp[Gk];omega
  ·have c3:(c:Int)=65533:=by simpa using c3
   simp[Gk];omega
  ·have c2:¬(c:Int)=127:=by simpa using c2
   have c3:¬(c:Int)=65533:=by simpa using c3
   have e:Gk c=aq:=by simp[Gk];omega
   refine⟨(p+w,n+1),?_,rfl,rfl,⟨hw.2,by(first|omega|(dsimp only;omega)),by rw[h3,e];rfl⟩,by(first|omega|(dsimp only;omega)),trivial⟩;rw[ir (by omega)];rfl
 ·have hp:s.length<=p:=by have:=TB hp;simpa using this
  rw[uJ hp]at h2 h3;have h2:n=(kY s).length:=h2;have h3:(kY s).all Gk=aq:=h3;refine zH (λc=>⟨(),?_,trivial⟩) (λc=>⟨(),?_,trivial⟩)
  ·rw[dK,h3,<- h2,lg (show 1<=n by omega)];simp only[zw];congr 1;simp only[eq_iff_iff];omega
  ·rw[dK,<- h2,kr (show ¬1<=n by omega)];simp
def y1d:P6.ok Tryz.prog 201:=gw mixed fg 0 (λ_=>[]) (λs=>y6n s) [] Tryz.func201 y6j
def y8g (a b:Int):(a==b)=decide (a=b):=by
 by_cases h:a=b
 ·subst h;simp
 ·simp[h]
def y4t (a b:Int):(a !=b)=decide (a≠b):=by
 by_cases h:a=b
 ·subst h;simp
 ·simp[h]
def eqB (a b:List UInt8):((sb a).toList==(sb b).toList)=decide (a=b):=by
 rw[pM,pM];by_cases h:a=b
 ·subst h;simp
 ·simp[h]
def yXf:aw #[]=sb []:=rfl
def y5g (c:ib) (h:De.dp c):yTi c:=by
 have h:c.label.length<=140737488355328:=h;unfold yTi Xy;simp only[yXf,eqB,y4t];have tail:¬(c.side≠1/\c.side≠2)->dp (decide (c.time<1)) (∃(o:Unit),c.fw=27/\True) (dp (decide (c.time>3)) (∃(o:Unit),c.fw=27/\True) (dp (decide (c.dq>=1)) (dp (!decide (c.dq<=1000000)) (∃(o:Unit),c.fw=24/\True) (dp (decide (c.least<0)) (∃(o:Unit),c.fw=28/\True) (dp (decide (c.least>c.dq)) (∃(o:Unit),c.fw=28/\True) (dp (!decide (c.label=[])) (∃(i:List UInt8),sb i=sb c.label/\i.length<=140737488355328/\∀(o:Unit),True->dp (!dK i) (∃(o:Unit),c.fw=29/\True) (dp (decide (c.dj>=-2000000)) (dp (!decide (c.dj<=2000000)) (∃(o:Unit),c.fw=23/\True) (dp (decide (c.inst<0)) (∃(o:Unit),c.fw=20/\True) (dp (decide (c.inst>255)) (∃(o:Unit),c.fw=20/\True) (∃(o:Unit),c.fw=0/\True)))) (∃(o:Unit),c.fw=23/\True))) (dp (decide (c.dj>=-2000000)) (dp (!decide (c.dj<=2000000)) (∃(o:Unit),c.fw=23/\True) (dp (decide (c.inst<0)) (∃(o:Unit),c.fw=20/\True) (dp (decide (c.inst>255)) (∃(o:Unit),c.fw=20/\True) (∃(o:Unit),c.fw=0/\True)))) (∃(o:Unit),c.fw=23/\True)))))) (∃(o:Unit),c.fw=24/\True))):=by
  intro hs;have e1:c.fw=if c.time<1\/3<c.time then 27 else if kE c.dq=ap then 24 else if c.least<0\/c.dq<c.least then 28
   else if c.label≠[]/\dK c.label=ap then 29 else if vR c.dj=ap then 23 else if c.inst<0\/255<c.inst then 20 else 0:=by rw[ib.fw,ej hs]
  refine zH (λd1=>⟨(),by rw[e1,fc (.inl d1)],trivial⟩) λd1=>zH (λd2=>⟨(),by rw[e1,fc (.inr d2)],trivial⟩) λd2=> ?_
  rw[ej (by omega)]at e1;have q (hq:kE c.dq=ap):∃(o:Unit),c.fw=24/\True:=⟨(),by rw[e1,fc hq],trivial⟩
  refine zH (λd3=>Cv.dp.mk (λd4=>q ?_) λd4=> ?_) λd3=>q ?_
  ·have d4:¬c.dq<=1000000:=by simpa using d4
   simp[kE,d4]
  ·have d4:c.dq<=1000000:=by simpa using d4
   have hq:¬kE c.dq=ap:=by simp[kE,d4];omega
   rw[ej hq]at e1;refine zH (λd5=>⟨(),by rw[e1,fc (.inl d5)],trivial⟩) λd5=>zH (λd6=>⟨(),by rw[e1,fc (.inr d6)],trivial⟩) λd6=> ?_
   rw[ej (by omega)]at e1;have last:¬(c.label≠[]/\dK c.label=ap)->dp (decide (c.dj>=-2000000)) (dp (!decide (c.dj<=2000000)) (∃(o:Unit),c.fw=23/\True) (dp (decide (c.inst<0)) (∃(o:Unit),c.fw=20/\True) (dp (decide (c.inst>255)) (∃(o:Unit),c.fw=20/\True) (∃(o:Unit),c.fw=0/\True)))) (∃(o:Unit),c.fw=23/\True):=by
    intro hl;rw[ej hl]at e1;have pr (hq:vR c.dj=ap):∃(o:Unit),c.fw=23/\True:=⟨(),by rw[e1,fc hq],trivial⟩
    refine zH (λg1=>Cv.dp.mk (λg2=>pr ?_) λg2=> ?_) λg1=>pr ?_
    ·have g2:¬c.dj<=2000000:=by simpa using g2
     simp[vR,g2]
    ·have g2:c.dj<=2000000:=by simpa using g2
     have hp:¬vR c.dj=ap:=by simp[vR,g2];omega
     rw[ej hp]at e1;refine zH (λg3=>⟨(),by rw[e1,fc (.inl g3)],trivial⟩) λg3=>zH (λg4=>⟨(),by rw[e1,fc (.inr g4)],trivial⟩) λg4=>⟨(),by rw[e1,ej (by omega)],trivial⟩
    ·simp[vR];omega
   refine Cv.dp.mk (λd7=>⟨c.label,rfl,h,λ_ _=>Cv.dp.mk (λd8=> ?_) λd8=>last ?_⟩) λd7=>last ?_
   ·have d7:¬c.label=[]:=by simpa using d7
    have d8:dK c.label=ap:=by simpa using d8
    exact⟨(),by rw[e1,fc ⟨d7,d8⟩],trivial⟩
   ·have d8:dK c.label=aq:=by simpa using d8
    simp[d8]
   ·have d7:c.label=[]:=by simpa using d7
    simp[d7]
  ·simp[kE];omega
 refine zH (λc1=>zH (λc2=>⟨(),by rw[ib.fw,fc ⟨c1,c2⟩],trivial⟩) λc2=>tail ?_) λc1=>tail ?_
 ·omega
 ·omega
def yOj:De.ok Tryz.prog 165:=gw mixed (dw y1d fg) 1 (λ_=>[]) (λ_=>[]) [] Tryz.func165 y5g
def yXe (c:ib) (h:FT.dp c):yNq c:=by
 have h:c.label.length<=140737488355328:=h;unfold yNq;simp only[y8g,y4t];refine zH (λc1=>⟨(),by rw[ib.right,fc (.inl c1)],trivial⟩) λc1=>zH (λc2=>⟨(),by rw[ib.right,fc (.inr c2)],trivial⟩) λc2=> ?_
 refine zH (λc3=>⟨(),by rw[ib.right,ej (by omega),fc (.inl c3)],trivial⟩) λc3=>zH (λc4=>⟨(),by rw[ib.right,ej (by omega),fc (.inr c4)],trivial⟩) λc4=> ?_
 have e0:c.right=if c.kind=1 then c.fw else if c.kind≠2/\kE c.dq=ap then 24 else if c.kind=4/\vR c.dj=ap then 23 else 0:=by rw[ib.right,ej (by omega),ej (by omega)]
 refine zH (λc5=>⟨c,?_⟩) λc5=> ?_
 ·rw[fc c5]at e0;exact kp
 rw[ej c5]at e0;have last (hn:¬(c.kind≠2/\kE c.dq=ap)):dp (decide (c.kind=4)) (dp (decide (c.dj>=-2000000)) (dp (!decide (c.dj<=2000000)) (∃(o:Unit),c.right=23/\True) (∃(o:Unit),c.right=0/\True)) (∃(o:Unit),c.right=23/\True)) (∃(o:Unit),c.right=0/\True):=by
  rw[ej hn]at e0;refine zH (λd1=>zH (λd2=>Cv.dp.mk (λd3=> ?_) λd3=> ?_) λd2=> ?_) λd1=> ?_
  ·have d3:¬c.dj<=2000000:=by simpa using d3
   exact⟨(),by rw[e0,fc ⟨d1,by simp[vR,d3]⟩],trivial⟩
  ·have d3:c.dj<=2000000:=by simpa using d3
   exact⟨(),by rw[e0,ej (by simp[vR,d3];omega)],trivial⟩
  ·exact⟨(),by rw[e0,fc ⟨d1,by simp[vR];omega⟩],trivial⟩
  ·exact⟨(),by rw[e0,ej (by simp[d1])],trivial⟩
 refine zH (λd1=>zH (λd2=>Cv.dp.mk (λd3=> ?_) λd3=>last ?_) λd2=> ?_) λd1=>last ?_
 ·have d3:¬c.dq<=1000000:=by simpa using d3
  exact⟨(),by rw[e0,fc ⟨d1,by simp[kE,d3]⟩],trivial⟩
 ·have d3:c.dq<=1000000:=by simpa using d3
  simp[kE,d3];omega
 ·exact⟨(),by rw[e0,fc ⟨d1,by simp[kE];omega⟩],trivial⟩
 ·omega
def Wu:FT.ok Tryz.prog 115:=gw mixed (dw yOj fg) 1 (λ_=>[]) (λ_=>[]) [] Tryz.func115 yXe
def Lx:fy:=fj RB (λi=>[.nm 0 0]) (λi=>[PA i]) RB.ok (λi=>sV i.text.1) (λi=>[PA i.text.2])
structure Pz where
 l:List UInt8
 s:List UInt8
def JX:fy:=fj (List UInt8) (λb=>[oy 1 (bE b)]) (λ_=>[]) (λb=>b.length<=1099511627776) (λb=> .iW [Cs (xJ b).1,zA (xJ b).2]) (λ_=>[])
def y2q:List (Nat×gj):=[(12,bj 19),(26,{ι:=ib×RB,du:=λ_=>[(4,.nm 0 0),(5,.nm 1 0)],rows:=λx=>[PA x.2,.cells x.1.cells 46],oP:=λ_=>[(4,.nm 0 0),(5,.nm 1 0)],lp:=λx=>[PA x.2,.cells x.1.cells 46]})]
def yWo (i:RB):Prop:=
 ∃(ig:RB),ac (List UInt8×Bool) 1 nt (ig.l,ig.b)=PA i/\ig.l.length<=1099511627776/\∀(o:Unit),True->∃(mq:RN),(↑mq.n:Int)=qE (ig.n 1).kj/\ac (List UInt8×Bool) 1 nt (mq.l,mq.b)=ac (List UInt8×Bool) 1 nt ((ig.n 1).left,(ig.n 1).bad)/\(mq.n<=255/\mq.l.length<=1099511627776)/\∀(o:Unit),True->∃(b:ByteArray),di ((1:Nat))/\bE mq.kj=jF b/\∃(o:Unit),sb ((RB.mk (i.n 1).left (i.n 1).bad).n (qE (i.n 1).kj).toNat).kj=b/\ac (List UInt8×Bool) 1 nt (((RB.mk (i.n 1).left (i.n 1).bad).n (qE (i.n 1).kj).toNat).left,((RB.mk (i.n 1).left (i.n 1).bad).n (qE (i.n 1).kj).toNat).bad)=ac (List UInt8×Bool) 1 nt (mq.left,mq.bad)/\True
def W9:Prop:=ab (Sx.V.agg [V.d (dI 0),V.d (dI 0),V.d (dI 0),V.d (dI 0),V.d (dI 0),V.d (dI 0),V.d (dI 0),V.d (dI 0),V.d kT]).cl 46=ab (Sx.V.agg [V.d (dI 0),V.d (dI 0),V.d (dI 0),V.d (dI 0),V.d (dI 0),V.d (dI 0),V.d (dI 0),V.d (dI 0),V.d kT]).cl 46
def Wc (a:Bool->Prop) (b:Bool) (c:RB):Prop:=a b/\di (ab [V.d (dI (qE (c.n 1).kj)),V.d (dI 0),V.d (dI 0),V.d (dI 0),V.d (dI 0),V.d (dI 0),V.d (dI 0),V.d (dI 0),V.d kT] 46)/\di (ac (List UInt8×Bool) 1 nt ((c.n 1).left,(c.n 1).bad))/\W9
def Xn (a:ib×RB->Prop) (b:ib×RB):Prop:=a b/\W9
def Xo (a:ib×RB) (b:ib×RB) (c:ib×RB->Prop):Prop:=a.fst.least=b.fst.least/\a.fst.time=b.fst.time/\sb a.fst.label=sb b.fst.label/\Xn c a
def WR (a:ib×RB) (b:RB) (c:ib×RB) (d:ib×RB->Prop):Prop:=a.fst.dq=aj.wrap (qE (b.n 8).kj)/\Xo a c d
def S6 (a:RB):=((RB.mk (a.n 1).left (a.n 1).bad).n (qE (a.n 1).kj).toNat)
def yUb (b:List UInt8):Prop:=
 ∃(a:List UInt8),bE a=bE b/\a.length<=1099511627776/\∀(c:Unit),True->∃(d:RB),ac (List UInt8×Bool) 1 nt (d.l,d.b)=ac (List UInt8×Bool) 1 nt (a,ap)/\d.l.length<=1099511627776/\∀(e:Unit),True->∃(f:Bool),∃(g:Bool->Prop),dp (decide (qE (d.n 1).kj<1)) (∃(h:Bool),h=aq/\Wc g h d) (∃(h:Bool),h=decide (qE (d.n 1).kj>4)/\Wc g h d)/\∀(h:Bool),g h->dp h (∃(j:Unit),(xJ b).fst.kind=0/\(xJ b).fst.id=0/\(xJ b).fst.inst=0/\(xJ b).fst.side=0/\(xJ b).fst.dj=0/\(xJ b).fst.dq=0/\(xJ b).fst.least=0/\(xJ b).fst.time=0/\sb (xJ b).fst.label=aw #[]/\(xJ b).snd=31/\True) (∃(j:RB),ac (List UInt8×Bool) 1 nt (j.l,j.b)=ac (List UInt8×Bool) 1 nt ((d.n 1).left,(d.n 1).bad)/\j.l.length<=1099511627776/\∀(k:Unit),True->∃(l:ib×RB),ac (List UInt8×Bool) 1 nt (l.snd.l,l.snd.b)=ac (List UInt8×Bool) 1 nt ((j.n 8).left,(j.n 8).bad)/\l.fst.kind=qE (d.n 1).kj/\l.fst.id=aj.wrap (qE (j.n 8).kj)/\l.fst.inst=0/\l.fst.side=0/\l.fst.dj=0/\l.fst.dq=0/\l.fst.least=0/\l.fst.time=0/\sb l.fst.label=aw #[]/\∃(m:ib×RB->Prop),dp (l.fst.kind==1) (∃(n:RB),ac (List UInt8×Bool) 1 nt (n.l,n.b)=ac (List UInt8×Bool) 1 nt (l.snd.l,l.snd.b)/\n.l.length<=1099511627776/\∀(p:Unit),True->∃(q:RB),ac (List UInt8×Bool) 1 nt (q.l,q.b)=ac (List UInt8×Bool) 1 nt ((n.n 1).left,(n.n 1).bad)/\q.l.length<=1099511627776/\∀(r:Unit),True->∃(s:RB),ac (List UInt8×Bool) 1 nt (s.l,s.b)=ac (List UInt8×Bool) 1 nt ((q.n 1).left,(q.n 1).bad)/\s.l.length<=1099511627776/\∀(t:Unit),True->∃(u:RB),ac (List UInt8×Bool) 1 nt (u.l,u.b)=ac (List UInt8×Bool) 1 nt ((s.n 1).left,(s.n 1).bad)/\u.l.length<=1099511627776/\∀(v:Unit),True->∃(w:RB),ac (List UInt8×Bool) 1 nt (w.l,w.b)=ac (List UInt8×Bool) 1 nt ((u.n 8).left,(u.n 8).bad)/\w.l.length<=1099511627776/\∀(x:Unit),True->∃(y:RB),ac (List UInt8×Bool) 1 nt (y.l,y.b)=ac (List UInt8×Bool) 1 nt ((w.n 8).left,(w.n 8).bad)/\y.l.length<=1099511627776/\∀(z:Unit),True->∃(jb:RB),ac (List UInt8×Bool) 1 nt (jb.l,jb.b)=ac (List UInt8×Bool) 1 nt ((y.n 8).left,(y.n 8).bad)/\jb.ok/\∀(oZ:Unit),True->∃(iH:ib×RB),ac (List UInt8×Bool) 1 nt (iH.snd.l,iH.snd.b)=ac (List UInt8×Bool) 1 nt ((S6 jb).left,(S6 jb).bad)/\iH.fst.kind=l.fst.kind/\iH.fst.id=l.fst.id/\iH.fst.inst=qE (n.n 1).kj/\iH.fst.side=qE (q.n 1).kj/\iH.fst.dj=aj.wrap (qE (u.n 8).kj)/\iH.fst.dq=aj.wrap (qE (w.n 8).kj)/\iH.fst.least=aj.wrap (qE (y.n 8).kj)/\iH.fst.time=qE (s.n 1).kj/\sb iH.fst.label=sb (S6 jb).kj/\Xn m iH) (dp (l.fst.kind==3) (∃(n:RB),ac (List UInt8×Bool) 1 nt (n.l,n.b)=ac (List UInt8×Bool) 1 nt (l.snd.l,l.snd.b)/\n.l.length<=1099511627776/\∀(p:Unit),True->∃(q:ib×RB),ac (List UInt8×Bool) 1 nt (q.snd.l,q.snd.b)=ac (List UInt8×Bool) 1 nt ((n.n 8).left,(n.n 8).bad)/\q.fst.kind=l.fst.kind/\q.fst.id=l.fst.id/\q.fst.inst=l.fst.inst/\q.fst.side=l.fst.side/\q.fst.dj=l.fst.dj/\WR q n l m) (dp (l.fst.kind==4) (∃(n:RB),ac (List UInt8×Bool) 1 nt (n.l,n.b)=ac (List UInt8×Bool) 1 nt (l.snd.l,l.snd.b)/\n.l.length<=1099511627776/\∀(p:Unit),True->∃(q:RB),ac (List UInt8×Bool) 1 nt (q.l,q.b)=ac (List UInt8×Bool) 1 nt ((n.n 8).left,(n.n 8).bad)/\q.l.length<=1099511627776/\∀(r:Unit),True->∃(s:ib×RB),ac (List UInt8×Bool) 1 nt (s.snd.l,s.snd.b)=ac (List UInt8×Bool) 1 nt ((q.n 8).left,(q.n 8).bad)/\s.fst.kind=l.fst.kind/\s.fst.id=l.fst.id/\s.fst.inst=l.fst.inst/\s.fst.side=l.fst.side/\s.fst.dj=aj.wrap (qE (n.n 8).kj)/\WR s q l m) (∃(n:ib×RB),ac (List UInt8×Bool) 1 nt (n.snd.l,n.snd.b)=ac (List UInt8×Bool) 1 nt (l.snd.l,l.snd.b)/\n.fst.kind=l.fst.kind/\n.fst.id=l.fst.id/\n.fst.inst=l.fst.inst/\n.fst.side=l.fst.side/\n.fst.dj=l.fst.dj/\n.fst.dq=l.fst.dq/\Xo n l m)))/\∀(n:ib×RB),m n->∃(p:RB),ac (List UInt8×Bool) 1 nt (p.l,p.b)=ac (List UInt8×Bool) 1 nt (n.snd.l,n.snd.b)/\p.l.length<=1099511627776/\∀(q:Unit),True->dp ((if p.b=aq then(10:Int)else if 0<p.l.length then(15:Int)else(0:Int)) !=0) (∃(r:Unit),(xJ b).fst.kind=0/\(xJ b).fst.id=0/\(xJ b).fst.inst=0/\(xJ b).fst.side=0/\(xJ b).fst.dj=0/\(xJ b).fst.dq=0/\(xJ b).fst.least=0/\(xJ b).fst.time=0/\sb (xJ b).fst.label=aw #[]/\(xJ b).snd=12/\True) (∃(r:ib),r.kind=n.fst.kind/\r.id=n.fst.id/\r.inst=n.fst.inst/\r.side=n.fst.side/\r.dj=n.fst.dj/\r.dq=n.fst.dq/\r.least=n.fst.least/\r.time=n.fst.time/\sb r.label=sb n.fst.label/\r.label.length<=140737488355328/\∀(s:Unit),True->dp (r.right !=0) (∃(t:Unit),(xJ b).fst.kind=0/\(xJ b).fst.id=0/\(xJ b).fst.inst=0/\(xJ b).fst.side=0/\(xJ b).fst.dj=0/\(xJ b).fst.dq=0/\(xJ b).fst.least=0/\(xJ b).fst.time=0/\sb (xJ b).fst.label=aw #[]/\(xJ b).snd=r.right/\True) (∃(t:Unit),(xJ b).fst.kind=n.fst.kind/\(xJ b).fst.id=n.fst.id/\(xJ b).fst.inst=n.fst.inst/\(xJ b).fst.side=n.fst.side/\(xJ b).fst.dj=n.fst.dj/\(xJ b).fst.dq=n.fst.dq/\(xJ b).fst.least=n.fst.least/\(xJ b).fst.time=n.fst.time/\sb (xJ b).fst.label=sb n.fst.label/\(xJ b).snd=0/\True)))
def z1w (r:RB):0<=r.byte.1/\r.byte.1<=255:=by
 have h:=mR (r.n 1).kj;have hl:(r.n 1).kj.length<=1:=R8 (r.n 1);show 0<=qE (r.n 1).kj/\qE (r.n 1).kj<=255;obtain e|e:(r.n 1).kj.length=0\/(r.n 1).kj.length=1:=by omega
 ·rw[e]at h;omega
 ·rw[e]at h;omega
def yRy {r:RB} (h:r.ok):r.text.2.ok:=xw (lW _) (xw (lW _) h)
def yHm:Lx.ok Tryz.prog 192:=gw (V:=yWo) mixed (dw z0s (dw z7x fg)) 0 (λ_=>[]) (λ_=>[]) [] Tryz.func192 λ(i:RB) h=>by
 have h:i.l.length<=1099511627776:=h;have hb:=z1w i;exact⟨i,rfl,h,λ_ _=>⟨⟨(i.n 1).left,(i.n 1).bad,i.byte.1.toNat⟩,by dsimp only;exact Int.toNat_of_nonneg hb.1,rfl,⟨Z9,xw (lW _) h⟩,λ_ _=>⟨_,rfl,Ti _,(),rfl,rfl,trivial⟩⟩⟩
def yUs {k id:Int} {r:RB} (h:r.ok):(x5 k id r).2.ok/\(x5 k id r).1.label.length<=255:=by
 rw[x5];split
 ·have h6:=gR (gR (gR (nU (nU (nU h)))));refine⟨yRy h6,?_⟩;show(RB.text (r.byte.2.byte.2.byte.2.iY.2.iY.2.iY.2)).1.length<=255;generalize r.byte.2.byte.2.byte.2.iY.2.iY.2.iY.2=q;have:=z1w q;have:(q.text.1).length<=q.byte.1.toNat:=R8 _;omega
 split
 ·exact⟨gR h,my _⟩
 split
 ·exact⟨gR (gR h),my _⟩
 ·exact⟨h,my _⟩
def y4s (b:List UInt8) (h:JX.dp b):yUb b:=by
 have h:b.length<=1099511627776:=h;obtain⟨r0,hr⟩:∃r0,r0=RB.mk b ap:=⟨_,rfl⟩
 have GD:r0.ok:=by rw[hr];exact h
 have ra:=nU GD;have Hw:=gR ra;have A8:xJ b=if r0.byte.1<1\/4<r0.byte.1 then(G0,31)else if(x5 r0.byte.1 r0.byte.2.iY.1 r0.byte.2.iY.2).2.ue≠0 then(G0,12)else if(x5 r0.byte.1 r0.byte.2.iY.1 r0.byte.2.iY.2).1.right≠0 then(G0,(x5 r0.byte.1 r0.byte.2.iY.1 r0.byte.2.iY.2).1.right)else((x5 r0.byte.1 r0.byte.2.iY.1 r0.byte.2.iY.2).1,0):=by
  rw[hr];rfl
 unfold yUb Wc S6 WR Xo Xn W9 kT dI;generalize xJ b=X at A8 ⊢;refine⟨b,rfl,h,λ_ _=>⟨r0,by rw[hr],GD,λ_ _=>⟨aq,λx=>x=decide (r0.byte.1<1\/4<r0.byte.1),zH (λe=>⟨aq,rfl,(lg (.inl e)).symm,gn⟩) (λe=>⟨_,rfl,decide_eq_decide.2 ⟨.inr,λx=>x.resolve_left e⟩,gn⟩),?_⟩⟩⟩;rintro _ rfl;refine zH (λe=> ?_) (λe=> ?_)
 ·rw[A8,fc e];exact⟨(),oA (iM trivial)⟩
 rw[ej e]at A8;generalize hk:r0.byte.1=k at A8;refine⟨r0.byte.2,rfl,ra,λ_ _=>⟨(⟨r0.byte.1,r0.byte.2.iY.1,0,0,0,0,0,0,[]⟩,r0.byte.2.iY.2),ma (iM ⟨rfl,λx=>x=x5 r0.byte.1 r0.byte.2.iY.1 r0.byte.2.iY.2,?_,?_⟩)⟩⟩
 ·generalize r0.byte.2.iY.2=r2 at*;generalize r0.byte.2.iY.1=id at*;rw[hk];refine Cv.dp.mk (λe=> ?_) (λe1=>Cv.dp.mk (λe=> ?_) (λe3=>Cv.dp.mk (λe=> ?_) (λe4=> ?_)))
  ·have e:k=1:=by simpa using e
   have h1:=nU Hw;have h2:=nU h1;have h3:=nU h2;have h4:=gR h3;have h5:=gR h4;have h6:=gR h5;exact⟨r2,rfl,Hw,λ_ _=>⟨_,rfl,h1,λ_ _=>⟨_,rfl,h2,λ_ _=>⟨_,rfl,h3,λ_ _=>⟨_,rfl,h4,λ_ _=>⟨_,rfl,h5,λ_ _=>⟨_,rfl,h6,λ_ _=>⟨x5 k id r2,by rw[x5,fc e];rfl,by rw[x5,fc e],by rw[x5,fc e],by rw[x5,fc e];rfl,by rw[x5,fc e];rfl,by rw[x5,fc e];rfl,by rw[x5,fc e];rfl,by rw[x5,fc e];rfl,by rw[x5,fc e];rfl,by rw[x5,fc e];rfl,rfl,gn⟩⟩⟩⟩⟩⟩⟩⟩
  ·have e1:¬k=1:=by simpa using e1
   have e:k=3:=by simpa using e
   have hd:x5 k id r2=(⟨k,id,0,0,0,r2.iY.1,0,0,[]⟩,r2.iY.2):=by rw[x5,ej e1,fc e]
   exact⟨r2,rfl,Hw,λ_ _=>⟨(⟨k,id,0,0,0,r2.iY.1,0,0,[]⟩,r2.iY.2),ma (iM ⟨rfl,hd.symm,gn⟩)⟩⟩
  ·have e1:¬k=1:=by simpa using e1
   have e3:¬k=3:=by simpa using e3
   have e:k=4:=by simpa using e
   have hd:x5 k id r2=(⟨k,id,0,0,r2.iY.1,r2.iY.2.iY.1,0,0,[]⟩,r2.iY.2.iY.2):=by rw[x5,ej e1,ej e3,fc e]
   exact⟨r2,rfl,Hw,λ_ _=>⟨_,rfl,gR Hw,λ_ _=>⟨(⟨k,id,0,0,r2.iY.1,r2.iY.2.iY.1,0,0,[]⟩,r2.iY.2.iY.2),ma (iM ⟨rfl,hd.symm,gn⟩)⟩⟩⟩
  ·have e1:¬k=1:=by simpa using e1
   have e3:¬k=3:=by simpa using e3
   have e4:¬k=4:=by simpa using e4
   have hd:x5 k id r2=(⟨k,id,0,0,0,0,0,0,[]⟩,r2):=by rw[x5,ej e1,ej e3,ej e4]
   exact⟨(⟨k,id,0,0,0,0,0,0,[]⟩,r2),ma (iM ⟨rfl,hd.symm,gn⟩)⟩
 ·rintro x hx;obtain⟨o1,o2⟩:=yUs (k:=r0.byte.1) (id:=r0.byte.2.iY.1) Hw;rw[<- hx]at o1 o2;rw[<- hk,<- hx]at A8;obtain⟨c,q⟩:=x;refine⟨q,rfl,o1,λ_ _=>Cv.dp.mk (λe=> ?_) (λe=>⟨c,gm ⟨rfl,xw o2 Z8,λ_ _=>Cv.dp.mk (λe2=> ?_) (λe2=> ?_)⟩⟩)⟩
  ·have e:q.ue≠0:=by simpa[RB.ue]using e
   rw[A8,fc e];exact⟨(),oA (iM trivial)⟩
  ·have e:¬q.ue≠0:=by simpa[RB.ue]using e
   have e2:c.right≠0:=by simpa using e2
   rw[A8,ej e,fc e2];exact⟨(),oA (iM trivial)⟩
  ·have e:¬q.ue≠0:=by simpa[RB.ue]using e
   have e2:¬c.right≠0:=by simpa using e2
   rw[A8,ej e,ej e2];exact⟨(),oA (iM trivial)⟩
def yQc:JX.ok Tryz.prog 156:=gw mixed (dw Vj (dw z0s (dw z1h (dw yHm (dw ySo (dw Wu fg)))))) 0 (λ_=>y2q) (λ_=>[]) [] Tryz.func156 y4s
structure BJ where
 s:gl
 p:fb
 B:List (List zI)
 inst:Int
 sd:Bool
@[reducible] def BJ.ok (i:BJ):Prop:=i.s.fk i.p i.B/\i.B.length<=1000
def HB (B:List (List zI)) (inst:Int):List zI:=if inst<0 then[]else B.getD inst.toNat []
def Jq:fy:=fj BJ (λi=>[.nm 0 0,zA i.inst,zA (zC i.sd)]) (λi=>[zE i.s]) (λi=>i.ok) (λ_=> .own 1) (λi=>[zE i.s,.own 177 3 ((gL (HB i.B i.inst) (zC i.sd)).map kg)])
def aE (a:BJ):=(gL (HB a.B a.inst) (zC a.sd))
def WH (a:BJ):Prop:=∃(b:Unit),di (sb a.s.p.code)/\di a.s.p.tick/\di a.s.p.low/\di a.s.p.high/\di a.s.p.wide/\di a.s.p.dr/\di a.s.p.top/\di a.s.p.least/\di a.s.p.part/\di (ae 211 dm 6 zQ a.s.dz av)/\di (yR a.s.wh)/\di (aa 1 (iE a.s.p.dk))/\di (aa 1 (iE a.s.p.settle))/\am kg (aE a)=[]/\True
def yUx (i:BJ):Prop:=
 dp (decide (i.inst>=0)) (dp (!decide (i.inst<(↑i.s.dz.length:Int))) (WH i) ((0<=i.inst/\i.inst<(↑i.s.dz.length:Int))/\i.inst.toNat<i.s.dz.length/\∃(a:dm),i.s.dz[i.inst.toNat]?=au a/\∃(b:BkT),zC b.s=zC i.sd/\yA b.b=yA a/\b.b.fk b.L/\∀(c:Unit),True->∃(d:dm),yA b.b=yA d/\di i.inst.toNat/\i.inst.toNat<i.s.dz.length/\∃(e:Unit),di (sb i.s.p.code)/\di i.s.p.tick/\di i.s.p.low/\di i.s.p.high/\di i.s.p.wide/\di i.s.p.dr/\di i.s.p.top/\di i.s.p.least/\di i.s.p.part/\ae 211 dm 6 zQ i.s.dz av=ae 211 dm 6 zQ (i.s.dz.set i.inst.toNat d) av/\di (yR i.s.wh)/\di (aa 1 (iE i.s.p.dk))/\di (aa 1 (iE i.s.p.settle))/\am kg (aE i)=am kg (gL b.L (zC b.s))/\True)) (WH i)
def yPz {B:List (List zI)} {inst:Int} {L:List zI} (h0:0<=inst) (hL:B[inst.toNat]? =au L):HB B inst=L:=by
 rw[HB,ej (by omega),zT hL]
def ySm {B:List (List zI)} {inst:Int} (h:inst<0\/(B.length:Int)<=inst):HB B inst=[]:=by
 rw[HB];split
 ·rfl
 ·rw[np,tx (by omega)];rfl
def y1u (i:BJ) (h:Jq.dp i):yUx i:=by
 obtain⟨hR,hB⟩:i.s.fk i.p i.B/\i.B.length<=1000:=h;have zj:=hR.bl;have out (hx:i.inst<0\/(i.B.length:Int)<=i.inst):am kg (gL (HB i.B i.inst) (zC i.sd))=[]:=by
  rw[ySm hx];rfl
 unfold yUx WH aE;refine zH (λc=>Cv.dp.mk (λd=> ?_) (λd=> ?_)) (λc=> ?_)
 ·have d:¬i.inst<(i.s.dz.length:Int):=by simpa using d
  rw[out (.inr (by omega))];exact⟨(),gn⟩
 ·have d:i.inst<(i.s.dz.length:Int):=by simpa using d
  obtain⟨b,hb⟩:=z7 (l:=i.s.dz) (i:=i.inst.toNat) oM;obtain⟨L,hL⟩:=z7 (l:=i.B) (i:=i.inst.toNat) oM;refine⟨⟨c,d⟩,oM,b,hb,⟨b,L,i.sd⟩,rfl,rfl,hR.bk _ b L hb hL,λ_ _=>⟨b,rfl,rfl,oM,?_⟩⟩;rw[uR hb,yPz c hL];exact⟨(),gn⟩
 ·rw[out (.inl (by omega))];exact⟨(),gn⟩
def yQq:Jq.ok Tryz.prog 94:=gw mixed (dw yWt fg) 1 (λ_=>[]) (λ_=>[]) [0] Tryz.func94 y1u
def IF (s:Int) (F:List zI):Prop:=F.Pairwise λo o'=>jy s o'.dj o.dj=ap
def Ew (L:List zI) (s:Int):List zI:=L.filter λo=>decide (o.side=s)
structure tr (p:fb) (B:List (List zI)):Prop where
 ok:iQ p B
 od:TT B
 ub:((rm 0 B).map (·.1)).Nodup
 wk:∀(k:Nat) (L:List zI),B[k]? =au L->∀s,s=1\/s=2->IF s (Ew L s)
def zYy {s:Int} {b:dm} {Q:List (List Nat)}:∀{R:List xL},(R.Pairwise λr r'=>jy s r.dj r'.dj=aq)->IF s (R.flatMap (b.gv Q s))
 |[],_=>List.Pairwise.nil
 |r::R,h=>by
  rw[Hf]at h;rw[vx,IF,List.pairwise_append];refine⟨List.pairwise_of_forall_mem_list λo ho o' oz=> ?_,zYy h.2,λo ho o' oz=> ?_⟩
  ·rw[(qI ho).2,(qI oz).2];exact Mo _ _
  ·obtain⟨r',ob,oz⟩:=AB.1 oz;rw[(qI ho).2,(qI oz).2];exact z2t (h.1 r' ob)
def dm.fk.wk {b:dm} {L:List zI} (h:b.fk L) {s:Int} (hs:s=1\/s=2):IF s (Ew L s):=by
 obtain⟨Q,c,ht,rfl⟩:=h;rw[Ew,zTh hs];exact zYy (c.wk s hs)
def gl.fk.wf {s:gl} {p:fb} {B:List (List zI)} (h:s.fk p B) (hb:iQ p B):tr p B:=by
 refine⟨hb,h.om,h.ids,λk L hL=> ?_⟩;obtain⟨b,hb⟩:=z7 (l:=s.dz) (i:=k) (by rw[h.bl];exact(jl.1 hL).1);exactλs hs=>(h.bk k b L hb hL).wk hs
def yHq {L:List zI} (h:∀o∈L,J7 o) (hn:(L.map (·.id)).Nodup) (id q:Int):∀o∈(qB L id q).1,J7 o:=by
 intro o ho;rw[qB]at ho;split at ho
 ·exact h o ho
 split at ho
 ·exact h o ho
 rename_i hb;obtain⟨o',oz,e⟩:=MN.1 ho;have h0:=h o' oz;split at e
 ·rename_i e1;have hg:=sI hn oz;rw[e1]at hg;rw[hg]at hb;split at e
  ·cases e
  ·rename_i e2;cases e;have:=h0.q;exact⟨h0.s,Z9⟩
 ·cases e;exact h0
def yIz (L:List zI) (id q:Int):(qB L id q).1.length<=L.length:=by
 rw[qB];split
 ·exact km _
 split
 ·exact km _
 exact List.length_filterMap_le _ _
def yMf {L:List zI} {s:Int} (h:IF s (Ew L s)) (id q:Int):IF s (Ew (qB L id q).1 s):=by
 rw[qB];split
 ·exact h
 split
 ·exact h
 have e:Ew (h9 L id q) s=h9 (Ew L s) id q:=by
  rw[Ew,Ew,h9,h9,List.filter_filterMap,List.filterMap_filter];refine mK λo _=> ?_
  by_cases e1:o.id=id
  ·rw[fc e1];by_cases e2:o.dq=q
   ·rw[fc e2];simp
   ·rw[ej e2];by_cases e3:o.side=s<;>simp[Option.filter,e3]
  ·rw[ej e1];by_cases e3:o.side=s<;>simp[Option.filter,e3]
 rw[e,h9];refine List.Pairwise.filterMap _ (λa a' haa b hb b' Ae=> ?_) h;have g:∀{a b:zI},(if a.id=id then(if a.dq=q then av else au {a with dq:=a.dq-q})else au a)=au b->b.dj=a.dj:=by
  intro a b e;split at e
  ·split at e
   ·cases e
   ·cases e;rfl
  ·cases e;rfl
 rw[g hb,g Ae];exact haa
def yPj {B:List (List zI)} (h:((rm 0 B).map (·.1)).Nodup) {k:Nat} {L L':List zI} (hL:B[k]? =au L) (hs:(L'.map (·.id)).Sublist (L.map (·.id))):((rm 0 (B.set k L')).map (·.1)).Nodup:=by
 have hk:=(jl.1 hL).1;obtain⟨rest,hr⟩:=Sc (B:=B) 0 k hk;have h0:=hr L;rw[uR hL]at h0;have h1:=(h0.map (·.1)).nodup_iff.1 h
 refine((hr L').map (·.1)).nodup_iff.2 ?_
 rw[jk,vu]at h1 ⊢;exact h1.sublist (List.Sublist.append hs (List.Sublist.refl _))
def tr.take {p:fb} {B:List (List zI)} (h:tr p B) (id q:Int):tr p (kK B id q).1:=by
 refine⟨h.ok.take id q,?_,?_,?_⟩
 all_goals
  rw[kK];cases hi:aW B id with
  |none=>first|exact h.od|exact h.ub|exact h.wk
  |some k=>
   obtain⟨L,hL,hh⟩:=g7 hi;have ho:=h.od k L hL;dsimp only;rw[zT hL]
   first
   |(intro j M hM
     rcases b7 hM with⟨rfl,rfl⟩|⟨_,hM⟩
     ·refine⟨yHq ho.1 ho.2.1 id q,?_,xw (yIz L id q) ho.2.2⟩;rcases VP ho.2.1 id q with⟨e,_⟩|⟨e,_⟩
      ·rw[e];exact ho.2.1
      ·rw[e];exact ho.2.1.sublist (List.Sublist.map _ OB)
     ·exact h.od j M hM)
   |(refine yPj h.ub hL ?_
     rcases VP ho.2.1 id q with⟨e,_⟩|⟨e,_⟩
     ·rw[e];exact List.Sublist.refl _
     ·rw[e];exact List.Sublist.map _ OB)
   |(intro j M hM s hs
     rcases b7 hM with⟨rfl,rfl⟩|⟨_,hM⟩
     ·exact yMf (h.wk _ L hL s hs) id q
     ·exact h.wk j M hM s hs)
def tr.takes {p:fb}:∀{fs:List bG} {B:List (List zI)},tr p B->tr p (kZ B fs)
 |[],B,h=>h
 |f::fs,B,h=>tr.takes (fs:=fs) (h.take f.id f.dq)
def zTd {p:fb} {B:List (List zI)} (h:tr p B) {inst:Int} {sd:Bool} {dj q:Int} {t:j9} {B':List (List zI)} (e:mC p B inst sd dj q=au (t,B')):tr p B'/\B'.length=B.length:=by
 rw[mC]at e;dsimp only at e;split at e
 ·split at e
  ·cases e;exact⟨h.takes.takes,by rw[uU,uU]⟩
  ·cases e;exact⟨h.takes,by rw[uU]⟩
 ·cases e
def pN {p:fb} {inst:Int} {sd:Bool} {dj:Int}:∀(m:Nat) (q:Int) (B:List (List zI)),q.toNat<=m->tr p B->tr p (wS p B inst sd dj q).B/\(wS p B inst sd dj q).B.length=B.length/\(0<=q->0<=(wS p B inst sd dj q).left/\(wS p B inst sd dj q).left<=q)
 |m,q,B,hm,h=>by
  by_cases hq:q<=0
  ·rw[Ob (.inl hq)];exact⟨h,rfl,λx=>⟨x,yg _⟩⟩
  cases hs:mC p B inst sd dj q with
  |none=>
   rw[Ob (.inr hs)];exact⟨h,rfl,λx=>⟨x,yg _⟩⟩
  |some x=>
   obtain⟨t,C⟩:=x;obtain⟨k1,k2⟩:=zTd h hs;have qk:=NA oM hs;cases m with
   |zero=>omega
   |succ m=>
   obtain⟨i1,i2,i3⟩:=pN (p:=p) (inst:=inst) (sd:=sd) (dj:=dj) m (q-t.dq) C oM k1;rw[V0 (by omega) hs];exact⟨i1,i2.trans k2,λ_=>⟨(i3 oM).1,by dsimp only;have:=(i3 oM).2;omega⟩⟩
@[reducible] def nf.ok (i:nf):Prop:=i.s.fk i.p i.B/\iQ i.p i.B/\(0<=i.inst/\i.inst<i.B.length)/\1<=i.q/\i.q<=1000000
def CZ:fy:=fj nf (λi=>[.nm 0 0,zA i.inst,zA (zC i.sd),zA i.dj,zA i.q]) (λi=>[zE i.s]) (λi=>i.ok) (λi=>zA (i.q-i.r.left)) (λi=>[zE i.s])
def mB (p:fb) (B:List (List zI)) (inst:Int) (sd:Bool) (dj q:Int):Bool:=
 decide ((wS p B inst sd dj q).left≠0) && (kM ⟨p,(wS p B inst sd dj q).B.map kC,inst⟩ (zC (!sd))).any λx=>bM sd dj x.dj
def Fo:fy:=fj nf (λi=>[.nm 0 0,zA i.inst,zA (zC i.sd),zA i.dj,zA i.q]) (λi=>[zE i.s]) (λi=>i.ok) (λi=>yL (mB i.p i.B i.inst i.sd i.dj i.q)) (λi=>[zE i.s])
def G1 (B:List (List zI)):Nat:=(rm 0 B).length
def Bs:fy:=fj BJ (λi=>[.nm 0 0]) (λi=>[zE i.s]) (λi=>i.ok) (λi=>zA (G1 i.B)) (λi=>[zE i.s])
def fZ (p:fb) (inst dj:Int):Int×Int×Int:=
 if(p.ga inst).2.2=ap then(0,0,20)else if p.dj inst dj≠0 then(0,0,p.dj inst dj)else
 let Ed:=p.settle.getD (p.ga inst).2.1.toNat 0
 let a:=if p.high<Ed+dj then(p.high,p.high-dj)else(Ed+dj,Ed)
 if a.1<p.low then(p.low,p.low-dj,0)else(a.1,a.2,0)
structure Np where
 p:fb
 inst:Int
 dj:Int
def Bp:fy:=fj Np (λi=>[nu i.p,zA i.inst,zA i.dj]) (λ_=>[]) (λi=>i.p.check=0/\i.p.small/\gq i.dj) (λi=> .iW [zA (fZ i.p i.inst i.dj).1,zA (fZ i.p i.inst i.dj).2.1,zA (fZ i.p i.inst i.dj).2.2]) (λ_=>[])
def ijj (t u:Nat):gj:={ι:=Int×Int,du:=λn=>[(t,zA n.1),(u,zA n.2)],rows:=λ_=>[]}
def lpJ:List (Nat×gj):=[(50,ijj 15 14),(58,ijj 15 14)]
def y0u:List gj:=[{ι:=Nat,du:=λj=>[(40,zA j)],rows:=λ_=>[]}]
def yXw:List (Nat×gj):=[(8,{ι:=Unit,du:=λ_=>[],rows:=λ_=>[],CB:=[11]})]
def fS (a:gl):Prop:=a.dz.length<=1000000/\∀(b:dm),b∈a.dz->(b.a.du.length<=1000000/\b.a.dx.length<=1000000)/\b.ez.length<=1000000/\b.dv.length<=1000000/\b.spare.length<=1000000
def qS (a:nf):Prop:=a.s.fk a.p a.B/\iQ a.p a.B/\(0<=a.inst/\a.inst<(↑a.B.length:Int))/\1<=a.q/\a.q<=1000000
def YC (a:nf):Prop:=∃(b:gl),sb b.p.code=sb a.s.p.code/\b.p.tick=a.s.p.tick/\b.p.low=a.s.p.low/\b.p.high=a.s.p.high/\b.p.wide=a.s.p.wide/\b.p.dr=a.s.p.dr/\b.p.top=a.s.p.top/\b.p.least=a.s.p.least/\b.p.part=a.s.p.part/\ae 211 dm 6 zQ b.dz av=ae 211 dm 6 zQ a.s.dz av/\yR b.wh=yR a.s.wh/\aa 1 (iE b.p.dk)=aa 1 (iE a.s.p.dk)/\aa 1 (iE b.p.settle)=aa 1 (iE a.s.p.settle)/\(fS b)/\∀(c:Unit),True->∃(d:nf),d.inst=a.inst/\zC d.sd=zC a.sd/\d.dj=a.dj/\d.q=a.q/\zE d.s=zE b/\(qS d)/\∀(e:gl),e.fk d.p d.r.B->∃(f:Unit),a.q-a.r.left=aj.wrap (a.q-d.r.left)/\zE a.s=zE b/\True
def wW (a:nf):Prop:=∃(b:Unit),a.q-a.r.left=0/\di (sb a.s.p.code)/\di a.s.p.tick/\di a.s.p.low/\di a.s.p.high/\di a.s.p.wide/\di a.s.p.dr/\di a.s.p.top/\di a.s.p.least/\di a.s.p.part/\di (ae 211 dm 6 zQ a.s.dz av)/\di (yR a.s.wh)/\di (aa 1 (iE a.s.p.dk))/\di (aa 1 (iE a.s.p.settle))/\True
def z8v (i:nf):Prop:=
 dp (decide (i.inst>=0)) (dp (decide (i.inst<(↑i.s.dz.length:Int))) (dp (zC i.sd==1) (dp (decide (i.q>=1)) (dp (!decide (i.q<=1000000)) (wW i) (YC i)) (wW i)) (dp (zC i.sd==2) (dp (decide (i.q>=1)) (dp (!decide (i.q<=1000000)) (wW i) (YC i)) (wW i)) (wW i))) (wW i)) (wW i)
def z0j (i:BJ):Prop:=
 ∃(a:Unit),(↑(G1 i.B):Int)=(↑(yR i.s.wh).length:Int)/\di (sb i.s.p.code)/\di i.s.p.tick/\di i.s.p.low/\di i.s.p.high/\di i.s.p.wide/\di i.s.p.dr/\di i.s.p.top/\di i.s.p.least/\di i.s.p.part/\di (ae 211 dm 6 zQ i.s.dz av)/\di (yR i.s.wh)/\di (aa 1 (iE i.s.p.dk))/\di (aa 1 (iE i.s.p.settle))/\True
def dJ (a:Int×Int->Prop) (b:Int×Int) (c:Np):Prop:=a b/\di (ab [V.d (D.v (ay (sb c.p.code))),V.own 0,V.d (dI c.p.tick),V.d (dI c.p.low),V.d (dI c.p.high),V.d (dI c.p.wide),V.d (dI c.p.dr),V.d (dI c.p.top),V.d (dI c.p.least),V.d (dI c.p.part),V.own 1] 25)/\di (aa 1 (iE c.p.settle))/\di (aa 1 (iE c.p.dk))
def y7 (a:Np):=(fZ a.p a.inst a.dj)
def z0v (i:Np):Prop:=
 ∃(a:fb),sb a.code=sb i.p.code/\iE a.dk=iE i.p.dk/\a.tick=i.p.tick/\a.low=i.p.low/\a.high=i.p.high/\a.wide=i.p.wide/\a.dr=i.p.dr/\a.top=i.p.top/\a.least=i.p.least/\a.part=i.p.part/\iE a.settle=iE i.p.settle/\(zW a)/\∀(b:Unit),True->dp (a.check !=0) (∃(c:Unit),(y7 i).fst=0/\(y7 i).snd.fst=0/\(y7 i).snd.snd=1/\True) (∃(c:bI),sb c.p.code=sb i.p.code/\iE c.p.dk=iE i.p.dk/\c.p.tick=i.p.tick/\c.p.low=i.p.low/\c.p.high=i.p.high/\c.p.wide=i.p.wide/\c.p.dr=i.p.dr/\c.p.top=i.p.top/\c.p.least=i.p.least/\c.p.part=i.p.part/\iE c.p.settle=iE i.p.settle/\c.n=i.inst/\(jI c)/\∀(d:Unit),True->dp (!(c.p.ga c.n).snd.snd) (∃(e:Unit),(y7 i).fst=0/\(y7 i).snd.fst=0/\(y7 i).snd.snd=20/\True) (∃(e:eM),sb e.p.code=sb i.p.code/\iE e.p.dk=iE i.p.dk/\e.p.tick=i.p.tick/\e.p.low=i.p.low/\e.p.high=i.p.high/\e.p.wide=i.p.wide/\e.p.dr=i.p.dr/\e.p.top=i.p.top/\e.p.least=i.p.least/\e.p.part=i.p.part/\iE e.p.settle=iE i.p.settle/\e.a=i.inst/\e.b=i.dj/\(qC e)/\∀(f:Unit),True->dp (e.p.dj e.a e.b !=0) (∃(g:Unit),(y7 i).fst=0/\(y7 i).snd.fst=0/\(y7 i).snd.snd=e.p.dj e.a e.b/\True) ((0<=(c.p.ga c.n).snd.fst/\(c.p.ga c.n).snd.fst<(↑(iE i.p.settle).length:Int))/\∃(g:Int),zD (iE i.p.settle) (c.p.ga c.n).snd.fst.toNat 0 1=au [dI g]/\∃(h:Int×Int),∃(j:Int×Int->Prop),dp (decide (aj.wrap (g+i.dj)>i.p.high)) (∃(k:Int×Int),k.fst=i.p.high/\k.snd=aj.wrap (i.p.high-i.dj)/\dJ j k i) (∃(k:Int×Int),k.fst=aj.wrap (g+i.dj)/\k.snd=g/\dJ j k i)/\∀(k:Int×Int),j k->∃(l:Int×Int),∃(m:Int×Int->Prop),dp (decide (k.fst<i.p.low)) (∃(n:Int×Int),n.fst=i.p.low/\n.snd=aj.wrap (i.p.low-i.dj)/\dJ m n i) (∃(n:Int×Int),n.fst=k.fst/\n.snd=k.snd/\dJ m n i)/\∀(n:Int×Int),m n->∃(p:Unit),(y7 i).fst=n.fst/\(y7 i).snd.fst=n.snd/\(y7 i).snd.snd=0/\True)))
def Yh (a:gl) (b:gl):Prop:=sb a.p.code=sb b.p.code/\True/\a.p.tick=b.p.tick/\a.p.low=b.p.low/\a.p.high=b.p.high/\a.p.wide=b.p.wide/\a.p.dr=b.p.dr/\a.p.top=b.p.top/\a.p.least=b.p.least/\a.p.part=b.p.part/\True/\True
def yIl (i:nf):Prop:=
 ∃(a:gl),zE a=zE i.s/\(fS a)/\∀(b:Unit),True->∃(c:nf),c.inst=i.inst/\zC c.sd=zC i.sd/\c.dj=i.dj/\c.q=i.q/\zE c.s=zE a/\(qS c)/\∀(d:gl),d.fk c.p c.r.B->dp (c.r.left==0) (∃(e:Unit),mB i.p i.B i.inst i.sd i.dj i.q=ap/\zE i.s=zE a/\True) (∃(e:gl),sb e.p.code=sb d.p.code/\e.p.tick=d.p.tick/\e.p.low=d.p.low/\e.p.high=d.p.high/\e.p.wide=d.p.wide/\e.p.dr=d.p.dr/\e.p.top=d.p.top/\e.p.least=d.p.least/\e.p.part=d.p.part/\ae 211 dm 6 zQ e.dz av=ae 211 dm 6 zQ d.dz av/\yR e.wh=yR d.wh/\aa 1 (iE e.p.dk)=aa 1 (iE d.p.dk)/\aa 1 (iE e.p.settle)=aa 1 (iE d.p.settle)/\(dU e)/\∀(f:Unit),True->(Yh e d)/\∃(g:Bool),zC g=zC i.sd/\True/\∀(h:Unit),True->(Yh e d)/\∃(j:AP),sb j.i.p.code=sb d.p.code/\iE j.i.p.dk=iE e.p.dk/\j.i.p.tick=d.p.tick/\j.i.p.low=d.p.low/\j.i.p.high=d.p.high/\j.i.p.wide=d.p.wide/\j.i.p.dr=d.p.dr/\j.i.p.top=d.p.top/\j.i.p.least=d.p.least/\j.i.p.part=d.p.part/\iE j.i.p.settle=iE e.p.settle/\am z6 j.i.fa=am z6 e.fa/\j.i.inst=i.inst/\zC j.s=zC !g/\(kL j)/\∀(k:Unit),True->∃(l:Nat),(↑l:Int)=0/\∃(m:Nat->Prop),∃(n:Nat->Nat),m l/\∀(p:Nat),m p->dp (decide ((↑p:Int)<(fV j))) ((0<=(↑p:Int)/\(↑p:Int)<(fV j))/\∃(q:Int),∃(r:Int),∃(s:Int),∃(t:Int),∃(u:Int),∃(v:Int),zD (jZ j) (↑p:Int).toNat 0 6=au [dI q,dI r,dI s,dI t,dI u,dI v]/\∃(w:PC),zC w.s=zC i.sd/\w.p=i.dj/\w.x=q/\True/\∀(x:Unit),True->dp (bM w.s w.p w.x) (∃(y:Unit),mB i.p i.B i.inst i.sd i.dj i.q=aq/\zE i.s=zE a/\True) (∃(y:Nat),(↑y:Int)=aj.wrap ((↑p:Int)+1)/\m y/\n y<n p/\di (ag 128 6 (jZ j))/\di (ab [V.d (fF e),V.own 5,V.d (dI e.p.tick),V.d (dI e.p.low),V.d (dI e.p.high),V.d (dI e.p.wide),V.d (dI e.p.dr),V.d (dI e.p.top),V.d (dI e.p.least),V.d (dI e.p.part),V.own 6,V.own 3,V.mp 4] (210:ba))/\di (ae 211 dm 6 zQ e.dz av)/\di (af (yR e.wh))/\di (aa 1 (iE e.p.dk))/\di (aa 1 (iE e.p.settle))/\di (aa 6 (am z6 e.fa))/\di (aa 1 (iE d.p.dk))/\di (aa 1 (iE d.p.settle))/\di (ag 331 4 (am wN c.r.steps))/\zE a=zE a)) (∃(q:Unit),mB i.p i.B i.inst i.sd i.dj i.q=ap/\zE i.s=zE a/\True))
def gl.fk.small {s:gl} {p:fb} {B:List (List zI)} (h:s.fk p B) (hb:iQ p B):s.small:=by
 have:=xR p;refine⟨by rw[h.bl,hb.bl];omega,λb hm=> ?_⟩;obtain⟨k,hk⟩:=BU.1 hm;have gr:=(jl.1 hk).1;rw[h.bl]at gr;obtain⟨L,hL⟩:=z7 gr;obtain⟨Q,c,_⟩:=h.bk k b L hk hL;exact c.small
def yRu (i:nf) (h:CZ.dp i):z8v i:=by
 have h':i.ok:=h;obtain⟨hR,hB,⟨h0,h1⟩,qe,qk⟩:=h';have zj:=hR.bl;have hl:=(pN (inst:=i.inst) (sd:=i.sd) (dj:=i.dj) _ i.q i.B (km _) (hR.wf hB)).2.2 oM;have er:i.r=wS i.p i.B i.inst i.sd i.dj i.q:=rfl;unfold z8v YC qS fS wW;refine(λhT=>zH (λc=>zH (λc2=>Cv.dp.mk (λ_=>zH (λ_=>Cv.dp.mk (λe=>absurd qk (by simpa using e)) (λ_=>hT)) (λe=>absurd qe e)) (λe1=>Cv.dp.mk (λ_=>zH (λ_=>Cv.dp.mk (λe=>absurd qk (by simpa using e)) (λ_=>hT)) (λe=>absurd qe e)) (λe2=>by
  rcases N4 i.sd with e|e
  ·rw[e]at e1;cases e1
  ·rw[e]at e2;cases e2))) (λc2=>absurd oM c2)) (λc=>absurd h0 c)) ?_
 refine⟨i.s,gm (nr ⟨rfl,hR.small hB,λ_ _=>⟨i,nr ⟨rfl,h,λo ho=>⟨(),?_,rfl,trivial⟩⟩⟩⟩)⟩;rw[ir (by rw[er];omega)]
def yEe:CZ.ok Tryz.prog 195:=gw mixed (dw Wp (dw Zx fg)) 2 (λ_=>[]) (λ_=>[]) [0] Tryz.func195 yRu
def yHk (i:BJ) (h:Bs.dp i):z0j i:=by
 obtain⟨hR,hB⟩:i.s.fk i.p i.B/\i.B.length<=1000:=h;unfold z0j;have e:(yR i.s.wh).length=G1 i.B:=by rw[yR,ia,hR.wh.length_eq,G1]
 exact⟨(),by rw[e],gn⟩
def z3m:Bs.ok Tryz.prog 194:=gw mixed fg 0 (λ_=>[]) (λ_=>[]) [0] Tryz.func194 yHk
def V5 {p:fb} {i n:Int} (h:p.dj i n=0):0<=i/\i<p.count:=by
 rw[fb.dj]at h;split at h
 ·cases h
 split at h
 ·cases h
 omega
def yLf (i:Np) (h:Bp.dp i):z0v i:=by
 obtain⟨hc,hp,O0⟩:i.p.check=0/\i.p.small/\gq i.dj:=h;unfold z0v y7 dJ zW jI qC dI;refine⟨i.p,rfl,rfl,rfl,rfl,rfl,rfl,rfl,rfl,rfl,rfl,rfl,hp,λ_ _=>Cv.dp.mk (λe=>by rw[hc]at e;cases e) (λ_=> ?_)⟩;refine⟨⟨i.p,i.inst⟩,rfl,rfl,rfl,rfl,rfl,rfl,rfl,rfl,rfl,rfl,rfl,rfl,hp,λ_ _=>Cv.dp.mk (λe=> ?_) (λe=> ?_)⟩
 ·have e:(i.p.ga i.inst).2.2=ap:=by simpa using e
  have h0:fZ i.p i.inst i.dj=(0,0,20):=by rw[fZ,fc e]
  rw[h0];exact⟨(),iM trivial⟩
 have e:(i.p.ga i.inst).2.2=aq:=by simpa using e
 refine⟨⟨i.p,i.inst,i.dj⟩,gm (nr ⟨rfl,hp,λ_ _=>Cv.dp.mk (λe2=> ?_) (λe2=> ?_)⟩)⟩
 ·have e2:¬i.p.dj i.inst i.dj=0:=by simpa using e2
  have h0:fZ i.p i.inst i.dj=(0,0,i.p.dj i.inst i.dj):=by rw[fZ,ej (by rw[e];decide),fc e2]
  rw[h0];exact⟨(),iM trivial⟩
 have e2:i.p.dj i.inst i.dj=0:=by simpa using e2
 have vj:=V5 e2;have BF:=eX hc e2;have ok:=qR hc;have b1:=ok.b1;have b2:=ok.b2;have b3:=ok.b3;have s1:=ok.s1;have s2:=ok.s2;have s3:=ok.s3;obtain⟨k,hk⟩:∃k:Nat,i.inst=k:=⟨i.inst.toNat,oM⟩
 have hl:=fD hc (k:=k) oM;rw[<- hk]at hl;rcases hl with⟨_,_,_,l3,l4⟩|⟨x,_⟩
 rotate_left
 ·rw[e]at x;cases x
 have yd:(iE i.p.settle).length=i.p.settle.length:=y4 _;obtain⟨n,hn⟩:=z7 (l:=i.p.settle) (i:=(i.p.ga i.inst).2.1.toNat) oM;have hm:=lr hn;have m1:=z9t hm;have m2:=z9h hm;have hg:i.p.settle.getD (i.p.ga i.inst).2.1.toNat 0=n:=zT hn;have h0:fZ i.p i.inst i.dj=(if(if i.p.high<n+i.dj then(i.p.high,i.p.high-i.dj)else(n+i.dj,n)).1<i.p.low then(i.p.low,i.p.low-i.dj,0)else((if i.p.high<n+i.dj then(i.p.high,i.p.high-i.dj)else(n+i.dj,n)).1,(if i.p.high<n+i.dj then(i.p.high,i.p.high-i.dj)else(n+i.dj,n)).2,0)):=by
  rw[fZ,ej (by rw[e];decide),ej (by rw[e2];decide)];dsimp only;rw[hg]
 dsimp only;refine⟨⟨l3,oM⟩,n,qz hn,(0,0),λa=>a=if i.p.high<n+i.dj then(i.p.high,i.p.high-i.dj)else(n+i.dj,n),zH (λc=>⟨(i.p.high,i.p.high-i.dj),rfl,(ir oM).symm,?_,gn⟩) (λc=>⟨(n+i.dj,n),(ir oM).symm,rfl,?_,gn⟩),?_⟩
 ·rw[ir (by omega)]at c;rw[fc c]
 ·rw[ir (by omega)]at c;rw[ej c]
 rintro _ rfl;generalize (if i.p.high<n+i.dj then(i.p.high,i.p.high-i.dj)else(n+i.dj,n))=a at h0 ⊢;refine⟨(0,0),λb=>b=if a.1<i.p.low then(i.p.low,i.p.low-i.dj)else a,zH (λc=>⟨(i.p.low,i.p.low-i.dj),rfl,(ir oM).symm,by rw[fc c],gn⟩) (λc=>⟨a,rfl,rfl,by rw[ej c],gn⟩),?_⟩;rintro _ rfl;rw[h0];by_cases c:a.1<i.p.low
 ·rw[fc c,fc c];exact⟨(),iM trivial⟩
 ·rw[ej c,ej c];exact⟨(),iM trivial⟩
def z7p:Bp.ok Tryz.prog 239:=gw mixed (dw lF (dw Ms (dw lL fg))) 0 (λ_=>lpJ) (λ_=>[]) [] Tryz.func239 yLf
def yQo {l:List Quote} {k:Nat} {q:Quote} (h:l[k]? =au q):zD (l.map zJ) k 0 6=au [D.v (.int .i64 q.dj),D.v (.int .i64 q.dq),D.v (.int .i64 q.a.inst),D.v (.int .i64 q.a.side),D.v (.int .i64 q.b.inst),D.v (.int .i64 q.b.side)]:=jq h (by simp[zJ]) rfl
def yYw (i:nf) (h:Fo.dp i):yIl i:=by
 have h':i.ok:=h;obtain⟨hR,hB,⟨h0,h1⟩,qe,qk⟩:=h';have AU:=hR.wf hB;obtain⟨k1,k2,k3⟩:=pN (inst:=i.inst) (sd:=i.sd) (dj:=i.dj) _ i.q i.B (km _) AU;have vz:=xR i.p;unfold yIl fF Yh qS fS fV jZ kL fE dU dI;refine⟨i.s,rfl,hR.small hB,λ_ _=>⟨i,nr ⟨rfl,h,λo ho=> ?_⟩⟩⟩;have er:i.r=wS i.p i.B i.inst i.sd i.dj i.q:=rfl;have es:mB i.p i.B i.inst i.sd i.dj i.q=(decide ((wS i.p i.B i.inst i.sd i.dj i.q).left≠0) && (kM ⟨i.p,(wS i.p i.B i.inst i.sd i.dj i.q).B.map kC,i.inst⟩ (zC (!i.sd))).any λx=>bM i.sd i.dj x.dj):=rfl;rw[er]at ho ⊢;rw[es];generalize wS i.p i.B i.inst i.sd i.dj i.q=R at*;obtain⟨ts,lf,RB⟩:=R;dsimp only at*;refine Cv.dp.mk (λe=>⟨(),?_,rfl,trivial⟩) (λe=> ?_)
 ·have e:lf=0:=by simpa using e
  rw[e];rfl
 have e:lf≠0:=by simpa using e
 rw[lg e,zw];have ep:=ho.ep;have hB':=k1.ok;have zj:=hB'.bl;have DJ:o.oc:=ho.EV oM;have CE:o.p.small:=by rw[ep];exact hB'.ps
 have ta:vU (RB.map kC):=hB'.fa;have hle:=Sy ⟨o.p,RB.map kC,i.inst⟩ (zC (!i.sd));refine⟨o,gm (nr ⟨rfl,DJ,λ_ _=>⟨⟨rfl,trivial,oA ⟨rfl,trivial,trivial⟩⟩,i.sd,rfl,trivial,λ_ _=>⟨⟨rfl,trivial,oA ⟨rfl,trivial,trivial⟩⟩,⟨⟨o.p,RB.map kC,i.inst⟩,!i.sd⟩,oA (iM ⟨rfl,by rw[ho.fa],rfl,rfl,⟨CE,ta⟩,λ_ _=> ?_⟩)⟩⟩⟩)⟩;dsimp only;rw[<- ep];generalize kM ⟨o.p,RB.map kC,i.inst⟩ (zC (!i.sd))=Q at*;have e4:(Q.map zJ).length=Q.length:=ia ..;refine⟨0,rfl,λj=>j<=Q.length/\(Q.take j).any (λx=>bM i.sd i.dj x.dj)=ap,λj=>Q.length-j,⟨my _,rfl⟩,?_⟩;rintro j ⟨j1,j2⟩;refine zH (λc=> ?_) (λc=>⟨(),?_,rfl,trivial⟩)
 ·obtain⟨q,hq⟩:=z7 (l:=Q) (i:=j) oM;refine⟨⟨oM,oM⟩,_,_,_,_,_,_,yQo hq,⟨i.sd,i.dj,q.dj⟩,rfl,rfl,rfl,trivial,λ_ _=>Cv.dp.mk (λg=>⟨(),?_,rfl,trivial⟩) (λg=>⟨j+1,qw oM,⟨oM,?_⟩,Z9,gn⟩)⟩
  ·rw[List.any_eq_true];exact⟨q,lr hq,g⟩
  ·rw[sm,hq,List.any_append,j2];show(ap||([q].any λx=>bM i.sd i.dj x.dj))=ap;simp only[List.any_cons,List.any_nil,Bool.or_false,Kx];exact g
 ·have:j=Q.length:=by omega
  rw[this,og (km _)]at j2;exact j2
def z1n:Fo.ok Tryz.prog 196:=gw mixed (dw Wp (dw Zx (dw zYt (dw yJh (dw zVp (dw z1i fg)))))) 0 (λ_=>yXw) (λ_=>y0u) [] Tryz.func196 yYw
def nY (c:ib) (oS:Int):List fk:=[⟨2,c.id,0,0,0,0,0,oS⟩]
def EG (x:j9) (k:Int):Int:=match x.gz.find? λf=>decide (f.inst=k)with
 |some f=>f.dj
 |none=>x.dj
def wZ (p:fb) (inst:Int) (x:j9):Int×Int:=if x.iJ=ap then((fZ p inst x.dj).1,(fZ p inst x.dj).2.1)else(EG x (p.ga inst).1,EG x (p.ga inst).2.1)
def NS (p:fb) (r:fk) (A4 Ed:Int):List fk:=[{r with inst:=(p.ga r.inst).1,dj:=A4},{r with inst:=(p.ga r.inst).2.1,side:=3-r.side,dj:=Ed}]
def nB (p:fb) (x:j9) (r:fk):List fk:=r::if(p.ga r.inst).2.2=aq then NS p r (wZ p r.inst x).1 (wZ p r.inst x).2 else[]
def G5 (f:bG):fk:=⟨3,f.id,f.inst,f.side,f.dj,f.dq,f.left,0⟩
def nH (p:fb) (c:ib) (x:j9) (left:Int):List fk:=x.gz.flatMap (λf=>nB p x (G5 f))++nB p x ⟨3,c.id,c.inst,c.side,x.dj,x.dq,left,0⟩
def mA (p:fb) (c:ib):List j9->Int->List fk
 |[],_=>[]
 |x::l,left=>nH p c x (left-x.dq)++mA p c l (left-x.dq)
structure GS where
 B:List (List zI)
 U:List Int
 R:List fk
def Gh (U:List Int) (id:Int):List Int:=if id∈U then U else U++[id]
def bJ (p:fb) (B:List (List zI)) (U:List Int) (c:ib):GS:=match wS p B c.inst (decide (c.side=2)) c.dj c.dq with
 |⟨ts,left,B'⟩=>⟨if left≠0/\c.time=1 then(Ki p B' c.inst c.id c.side c.dj left).1 else B',Gh U c.id,
  (⟨1,c.id,c.inst,c.side,c.dj,c.dq,c.dq,0⟩::mA p c ts c.dq)++if left≠0/\c.time≠1 then[⟨4,c.id,c.inst,c.side,c.dj,left,0,0⟩]else[]⟩
def ib.KG (c:ib):Int:=if c.time=3 then c.dq else c.least
def nW (p:fb) (B:List (List zI)) (U:List Int) (c:ib):GS:=
 if p.dj c.inst c.dj≠0 then⟨B,U,nY c (p.dj c.inst c.dj)⟩
 else if c.id∈U then⟨B,U,nY c 25⟩
 else if 250<=G1 B then⟨B,U,nY c 13⟩
 else if 0<c.KG/\c.dq-(wS p B c.inst (decide (c.side=2)) c.dj c.dq).left<c.KG then⟨B,U,nY c 28⟩
 else if c.time=1/\mB p B c.inst (decide (c.side=2)) c.dj c.dq=aq then⟨B,U,nY c 23⟩
 else bJ p B U c
def uT (B:List (List zI)) (U:List Int) (id inst:Int) (o:zI):GS:=⟨(kK B id o.dq).1,U,[⟨4,id,inst,o.side,o.dj,o.dq,0,0⟩]⟩
def bW (B:List (List zI)) (U:List Int) (id q inst:Int) (o:zI):GS:=⟨(kK B id q).1,U,[⟨5,id,inst,o.side,o.dj,q,o.dq-q,0⟩]⟩
def f9 (p:fb) (B:List (List zI)) (U:List Int) (c:ib) (inst:Int) (o:zI):GS:=
 if p.dj inst c.dj≠0 then⟨B,U,nY c (p.dj inst c.dj)⟩
 else if c.dj=o.dj/\c.dq<=o.dq then bW B U c.id (o.dq-c.dq) inst o
 else if mB p (kK B c.id o.dq).1 inst (decide (o.side=2)) c.dj c.dq=aq then⟨B,U,nY c 23⟩
 else
  let x:=uT B U c.id inst o
  let y:=bJ p x.B U ⟨1,c.id,inst,o.side,c.dj,c.dq,0,1,[]⟩
  ⟨y.B,y.U,x.R++y.R⟩
def AJ (p:fb) (B:List (List zI)) (U:List Int) (c:ib):GS:=
 if c.right≠0 then⟨B,U,nY c c.right⟩
 else if c.kind=1 then nW p B U c
 else if(z5 B c.id).2.2=ap then⟨B,U,nY c 26⟩
 else if c.kind=4 then f9 p B U c (z5 B c.id).1 (z5 B c.id).2.1
 else if c.kind=2\/(z5 B c.id).2.1.dq<=c.dq then uT B U c.id (z5 B c.id).1 (z5 B c.id).2.1
 else bW B U c.id c.dq (z5 B c.id).1 (z5 B c.id).2.1
structure ic.fk (m:ic) (p:fb) (B:List (List zI)) (U:List Int):Prop where
 ep:m.p=p
 s:m.s.fk p B
 u:m.used=U
@[reducible] def Bu (m:ic):List ff:=[yW m 0,yW m 1,yW m 2,yW m 3,yW m 4]
@[reducible] def yTc (x:j9):V:= .agg [zA x.dj,zA x.dq,yL x.iJ,oy 6 (x.gz.map yY)]
@[reducible] def tRp:Nat:=49
@[reducible] def Kv (l:List fk):ff:= .own tRp 8 (l.map xP)
structure AX where
 c:ib
 oS:Int
def aab:fy:=fj AX (λi=>[Cs i.c,zA i.oS]) (λ_=>[]) (λ_=>True) (λ_=> .own 0) (λi=>[Kv (nY i.c i.oS)])
structure GR where
 m:ic
 r:fk
 A4:Int
 Ed:Int
@[reducible] def ic.A9 (m:ic):Prop:=m.p.check=0/\m.p.small
def Bn:fy:=fj GR (λi=>[.nm 0 0,y6i i.r,zA i.A4,zA i.Ed]) (λi=>Bu i.m) (λi=>i.m.A9/\(i.r.side=1\/i.r.side=2)) (λ_=> .own 5) (λi=>Bu i.m++[Kv (NS i.m.p i.r i.A4 i.Ed)])
structure Nn where
 m:ic
 inst:Int
def aak:fy:=fj Nn (λi=>[.nm 0 0,zA i.inst]) (λi=>Bu i.m) (λi=>i.m.A9) (λi=>yL (i.m.p.ga i.inst).2.2) (λi=>Bu i.m)
structure Nm where
 x:j9
 k:Int
@[reducible] def z2x (x:j9) (n:Nat):List ff:=[.cells [zA x.dj,zA x.dq,yL x.iJ,.own n] 331,.ja 6 (x.gz.map yY)]
def ofC:fy:=fj Nm (λi=>[zA i.k,.nm 0 0]) (λi=>z2x i.x 1) (λi=>i.x.gz.length<=1000000) (λi=>zA (EG i.x i.k)) (λi=>z2x i.x 1)
def ofA:List gj:=[{ι:=Nat,du:=λj=>[(9,zA j)],rows:=λ_=>[]}]
structure Jk where
 m:ic
 inst:Int
 x:j9
def Bo:fy:=fj Jk (λi=>[.nm 0 0,zA i.inst,yTc i.x]) (λi=>Bu i.m) (λi=>i.m.A9/\gq i.x.dj/\i.x.gz.length<=1000000) (λi=> .iW [zA (wZ i.m.p i.inst i.x).1,zA (wZ i.m.p i.inst i.x).2]) (λi=>Bu i.m)
structure rh where
 m:ic
 c:ib
 x:j9
 left:Int
def rh.out (i:rh) (j:Nat):List fk:=(i.x.gz.take j).flatMap λf=>nB i.m.p i.x (G5 f)
def FD:fy:=fj rh (λi=>[.nm 0 0,Cs i.c,yTc i.x,zA i.left]) (λi=>Bu i.m) (λi=>i.m.A9/\gq i.x.dj/\i.x.gz.length<=1000000/\(i.c.side=1\/i.c.side=2)/\∀f∈i.x.gz,f.side=1\/f.side=2) (λ_=> .own 5) (λi=>Bu i.m++[Kv (nH i.m.p i.c i.x i.left)])
def yWq (i:rh):List gj:=[{ι:=Nat,du:=λj=>[(9,.nm 0 0),(17,zA j)],rows:=λj=>[.cells [.own 1] 36,Kv (i.out j)]}]
def y7m (i:AX):Prop:=
 ∃(o:Unit),[xP (fk.mk 2 i.c.id 0 0 0 0 0 i.oS)]=[[D.v (.int .i64 2),D.v (.int .i64 i.c.id),D.v (.int .i64 0),D.v (.int .i64 0),D.v (.int .i64 0),D.v (.int .i64 0),D.v (.int .i64 0),D.v (.int .i64 i.oS)]]/\True
def hZ (a:GR):Prop:=a.r.kind=a.r.kind/\di a.r.id/\di a.r.inst/\di a.r.side/\di a.r.dj/\di a.r.dq/\di a.r.left/\di a.r.oS/\True
def fW (a:GR):=(fk.mk a.r.kind a.r.id (a.m.p.ga a.r.inst).snd.fst (3-a.r.side) a.Ed a.r.dq a.r.left a.r.oS)
def dF (a:GR):=(fk.mk a.r.kind a.r.id (a.m.p.ga a.r.inst).fst a.r.side a.A4 a.r.dq a.r.left a.r.oS)
def lN (a:GR) (b:bI):Prop:=(hZ a)/\(hZ a)/\(hZ a)/\(hZ a)/\(hZ a)/\di a.r.side/\∃(c:Unit),di (sb a.m.p.code)/\di a.m.p.tick/\di a.m.p.low/\di a.m.p.high/\di a.m.p.wide/\di a.m.p.dr/\di a.m.p.top/\di a.m.p.least/\di a.m.p.part/\zE a.m.s=yW a.m 1/\di (zX a.m.used)/\aa 1 (iE a.m.p.dk)=yW a.m 3/\aa 1 (iE a.m.p.settle)=yW a.m 4/\[xP (dF a),xP (fW a)]=[[dI a.r.kind,dI a.r.id,dI ((b.p.ga b.n).fst),dI a.r.side,dI a.A4,dI a.r.dq,dI a.r.left,dI a.r.oS],[dI a.r.kind,dI a.r.id,dI (vL b),dI (aj.wrap (3-a.r.side)),dI a.Ed,dI a.r.dq,dI a.r.left,dI a.r.oS]]/\True
def z0c (i:GR):Prop:=
 ∃(a:bI),sb a.p.code=sb i.m.p.code/\iE a.p.dk=iE i.m.p.dk/\a.p.tick=i.m.p.tick/\a.p.low=i.m.p.low/\a.p.high=i.m.p.high/\a.p.wide=i.m.p.wide/\a.p.dr=i.m.p.dr/\a.p.top=i.m.p.top/\a.p.least=i.m.p.least/\a.p.part=i.m.p.part/\iE a.p.settle=iE i.m.p.settle/\a.n=i.r.inst/\(jI a)/\∀(b:Unit),True->(lN i a)/\lN i a
def y6t (i:Nn):Prop:=
 ∃(ig:bI),sb ig.p.code=sb i.m.p.code/\iE ig.p.dk=iE i.m.p.dk/\ig.p.tick=i.m.p.tick/\ig.p.low=i.m.p.low/\ig.p.high=i.m.p.high/\ig.p.wide=i.m.p.wide/\ig.p.dr=i.m.p.dr/\ig.p.top=i.m.p.top/\ig.p.least=i.m.p.least/\ig.p.part=i.m.p.part/\iE ig.p.settle=iE i.m.p.settle/\ig.n=i.inst/\(ig.p.code.length<=1099511627776/\ig.p.dk.length<=1099511627776/\ig.p.settle.length<=1099511627776)/\∀(o:Unit),True->∃(o:Unit),(i.m.p.ga i.inst).snd.snd=(ig.p.ga ig.n).snd.snd/\di (sb i.m.p.code)/\di i.m.p.tick/\di i.m.p.low/\di i.m.p.high/\di i.m.p.wide/\di i.m.p.dr/\di i.m.p.top/\di i.m.p.least/\di i.m.p.part/\zE i.m.s=yW i.m 1/\di (zX i.m.used)/\aa 1 (iE i.m.p.dk)=yW i.m 3/\aa 1 (iE i.m.p.settle)=yW i.m 4/\True
def Vs (a:Nm):Prop:=a.x.dj=a.x.dj/\di a.x.dq/\di a.x.iJ/\di (aa 6 (am yY a.x.gz))/\True
def Vof (i:Nm):Prop:=
 ∃(a:Nat),(↑a:Int)=0/\∃(b:Nat->Prop),∃(c:Nat->Nat),b a/\∀(d:Nat),b d->dp (decide ((↑d:Int)<(↑(am yY i.x.gz).length:Int))) ((0<=(↑d:Int)/\(↑d:Int)<(↑(am yY i.x.gz).length:Int))/\∃(e:Int),∃(f:Int),∃(g:Int),∃(h:Int),∃(j:Int),∃(k:Int),zD (am yY i.x.gz) (↑d:Int).toNat 0 6=au [dI e,dI f,dI g,dI h,dI j,dI k]/\dp (f==i.k) (∃(l:Unit),EG i.x i.k=h/\Vs i) (∃(l:Nat),(↑l:Int)=aj.wrap ((↑d:Int)+1)/\b l/\c l<c d/\di (ab [zA i.x.dj,zA i.x.dq,yL i.x.iJ,V.own 1] (331:ba))/\di (aa 6 (am yY i.x.gz)))) (∃(e:Unit),EG i.x i.k=i.x.dj/\Vs i)
def rW (a:Jk):Prop:=sb a.m.p.code=sb a.m.p.code/\di a.m.p.tick/\di a.m.p.low/\di a.m.p.high/\di a.m.p.wide/\di a.m.p.dr/\di a.m.p.top/\di a.m.p.least/\di a.m.p.part/\zE a.m.s=yW a.m 1/\di (zX a.m.used)/\aa 1 (iE a.m.p.dk)=yW a.m 3/\aa 1 (iE a.m.p.settle)=yW a.m 4/\True
def qN (a:Jk):=(wZ a.m.p a.inst a.x)
def z0g (i:Jk):Prop:=
 dp (!i.x.iJ) (∃(a:Np),sb a.p.code=sb i.m.p.code/\iE a.p.dk=iE i.m.p.dk/\a.p.tick=i.m.p.tick/\a.p.low=i.m.p.low/\a.p.high=i.m.p.high/\a.p.wide=i.m.p.wide/\a.p.dr=i.m.p.dr/\a.p.top=i.m.p.top/\a.p.least=i.m.p.least/\a.p.part=i.m.p.part/\iE a.p.settle=iE i.m.p.settle/\a.inst=i.inst/\a.dj=i.x.dj/\(a.p.check=0/\(a.p.code.length<=1099511627776/\a.p.dk.length<=1099511627776/\a.p.settle.length<=1099511627776)/\(-9223372036854775808)<=a.dj/\a.dj<=9223372036854775807)/\∀(b:Unit),True->∃(c:Unit),(qN i).fst=(y7 a).fst/\(qN i).snd=(y7 a).snd.fst/\rW i) (∃(a:bI),sb a.p.code=sb i.m.p.code/\iE a.p.dk=iE i.m.p.dk/\a.p.tick=i.m.p.tick/\a.p.low=i.m.p.low/\a.p.high=i.m.p.high/\a.p.wide=i.m.p.wide/\a.p.dr=i.m.p.dr/\a.p.top=i.m.p.top/\a.p.least=i.m.p.least/\a.p.part=i.m.p.part/\iE a.p.settle=iE i.m.p.settle/\a.n=i.inst/\(jI a)/\∀(b:Unit),True->∃(c:Nm),c.k=(a.p.ga a.n).fst/\c.x.dj=i.x.dj/\c.x.dq=i.x.dq/\c.x.iJ=i.x.iJ/\aa 6 (am yY c.x.gz)=aa 6 (am yY i.x.gz)/\c.x.gz.length<=1000000/\∀(d:Unit),True->∃(e:Nm),e.k=(a.p.ga a.n).snd.fst/\e.x.dj=c.x.dj/\e.x.dq=c.x.dq/\e.x.iJ=c.x.iJ/\aa 6 (am yY e.x.gz)=aa 6 (am yY c.x.gz)/\e.x.gz.length<=1000000/\∀(f:Unit),True->∃(g:Unit),(qN i).fst=EG c.x c.k/\(qN i).snd=EG e.x e.k/\rW i)
def X' (a:Jk):Prop:=(a.m.p.check=0/\a.m.p.code.length<=1099511627776/\a.m.p.dk.length<=1099511627776/\a.m.p.settle.length<=1099511627776)/\((-9223372036854775808)<=a.x.dj/\a.x.dj<=9223372036854775807)/\a.x.gz.length<=1000000
def XW (a:GR):Prop:=(a.m.p.check=0/\a.m.p.code.length<=1099511627776/\a.m.p.dk.length<=1099511627776/\a.m.p.settle.length<=1099511627776)/\(a.r.side=1\/a.r.side=2)
def Yp (a:Nn):Prop:=a.m.p.check=0/\a.m.p.code.length<=1099511627776/\a.m.p.dk.length<=1099511627776/\a.m.p.settle.length<=1099511627776
def aV (a:rh):=(D.v (ay (sb a.c.label)))
def yIs (i:rh):Prop:=
 ∃(a:Nat),(↑a:Int)=0/\am xP (i.out a)=[]/\∃(b:Nat->Prop),∃(c:Nat->Nat),b a/\∀(d:Nat),b d->dp (decide ((↑d:Int)<(↑(am yY i.x.gz).length:Int))) ((0<=(↑d:Int)/\(↑d:Int)<(↑(am yY i.x.gz).length:Int))/\∃(e:Int),∃(f:Int),∃(g:Int),∃(h:Int),∃(j:Int),∃(k:Int),zD (am yY i.x.gz) (↑d:Int).toNat 0 6=au [dI e,dI f,dI g,dI h,dI j,dI k]/\((am xP (i.out d)).length+1)*(64:Nat)<=(140737488355328:Nat)/\∃(l:Nn),l.inst=f/\sb l.m.p.code=sb i.m.p.code/\l.m.p.tick=i.m.p.tick/\l.m.p.low=i.m.p.low/\l.m.p.high=i.m.p.high/\l.m.p.wide=i.m.p.wide/\l.m.p.dr=i.m.p.dr/\l.m.p.top=i.m.p.top/\l.m.p.least=i.m.p.least/\l.m.p.part=i.m.p.part/\zE l.m.s=yW i.m 1/\zX l.m.used=zX i.m.used/\aa 1 (iE l.m.p.dk)=yW i.m 3/\aa 1 (iE l.m.p.settle)=yW i.m 4/\(Yp l)/\∀(m:Unit),True->dp (l.m.p.ga l.inst).snd.snd (∃(n:Jk),n.inst=f/\n.x.dj=i.x.dj/\n.x.dq=i.x.dq/\n.x.iJ=i.x.iJ/\am yY n.x.gz=am yY i.x.gz/\sb n.m.p.code=sb l.m.p.code/\n.m.p.tick=l.m.p.tick/\n.m.p.low=l.m.p.low/\n.m.p.high=l.m.p.high/\n.m.p.wide=l.m.p.wide/\n.m.p.dr=l.m.p.dr/\n.m.p.top=l.m.p.top/\n.m.p.least=l.m.p.least/\n.m.p.part=l.m.p.part/\zE n.m.s=zE l.m.s/\zX n.m.used=zX l.m.used/\aa 1 (iE n.m.p.dk)=aa 1 (iE l.m.p.dk)/\aa 1 (iE n.m.p.settle)=aa 1 (iE l.m.p.settle)/\(X' n)/\∀(p:Unit),True->∃(q:GR),q.r.kind=3/\q.r.id=e/\q.r.inst=f/\q.r.side=g/\q.r.dj=h/\q.r.dq=j/\q.r.left=k/\q.r.oS=0/\q.A4=(qN n).fst/\q.Ed=(qN n).snd/\sb q.m.p.code=sb n.m.p.code/\q.m.p.tick=n.m.p.tick/\q.m.p.low=n.m.p.low/\q.m.p.high=n.m.p.high/\q.m.p.wide=n.m.p.wide/\q.m.p.dr=n.m.p.dr/\q.m.p.top=n.m.p.top/\q.m.p.least=n.m.p.least/\q.m.p.part=n.m.p.part/\zE q.m.s=zE n.m.s/\zX q.m.used=zX n.m.used/\aa 1 (iE q.m.p.dk)=aa 1 (iE n.m.p.dk)/\aa 1 (iE q.m.p.settle)=aa 1 (iE n.m.p.settle)/\(XW q)/\∀(r:Unit),True->True/\((am xP (i.out d)++[[dI 3,dI e,dI f,dI g,dI h,dI j,dI k,dI 0]]).length+2)*(64:Nat)<=(140737488355328:Nat)/\∃(s:Nat),(↑s:Int)=aj.wrap ((↑d:Int)+1)/\am xP (i.out s)=am xP (i.out d)++[[dI 3,dI e,dI f,dI g,dI h,dI j,dI k,dI 0]]++[xP (dF q),xP (fW q)]/\b s/\c s<c d/\di (ab [V.d (dI i.x.dj),V.d (dI i.x.dq),V.d (D.v (.bool i.x.iJ)),V.own 7] 331)/\di (aa 6 (am yY i.x.gz))/\di (ab [V.d (dI i.c.kind),V.d (dI i.c.id),V.d (dI i.c.inst),V.d (dI i.c.side),V.d (dI i.c.dj),V.d (dI i.c.dq),V.d (dI i.c.least),V.d (dI i.c.time),V.d (aV i)] 46)/\di (ab [V.nm 0 0] 54)/\ab [V.d (D.v (ay (sb q.m.p.code))),V.own 3,V.d (dI q.m.p.tick),V.d (dI q.m.p.low),V.d (dI q.m.p.high),V.d (dI q.m.p.wide),V.d (dI q.m.p.dr),V.d (dI q.m.p.top),V.d (dI q.m.p.least),V.d (dI q.m.p.part),V.own 4,V.nm 1 0,V.mp 2] (137:ba)=yW i.m 0/\zE q.m.s=yW i.m 1/\af (zX q.m.used)=yW i.m 2/\aa 1 (iE q.m.p.dk)=yW i.m 3/\aa 1 (iE q.m.p.settle)=yW i.m 4) (∃(n:Nat),(↑n:Int)=aj.wrap ((↑d:Int)+1)/\am xP (i.out n)=am xP (i.out d)++[[dI 3,dI e,dI f,dI g,dI h,dI j,dI k,dI 0]]/\b n/\c n<c d/\di (ab [V.d (dI i.x.dj),V.d (dI i.x.dq),V.d (D.v (.bool i.x.iJ)),V.own 7] 331)/\di (aa 6 (am yY i.x.gz))/\di (ab [V.d (dI i.c.kind),V.d (dI i.c.id),V.d (dI i.c.inst),V.d (dI i.c.side),V.d (dI i.c.dj),V.d (dI i.c.dq),V.d (dI i.c.least),V.d (dI i.c.time),V.d (aV i)] 46)/\di (ab [V.nm 0 0] 54)/\ab [V.d (D.v (ay (sb l.m.p.code))),V.own 3,V.d (dI l.m.p.tick),V.d (dI l.m.p.low),V.d (dI l.m.p.high),V.d (dI l.m.p.wide),V.d (dI l.m.p.dr),V.d (dI l.m.p.top),V.d (dI l.m.p.least),V.d (dI l.m.p.part),V.own 4,V.nm 1 0,V.mp 2] (137:ba)=yW i.m 0/\zE l.m.s=yW i.m 1/\af (zX l.m.used)=yW i.m 2/\aa 1 (iE l.m.p.dk)=yW i.m 3/\aa 1 (iE l.m.p.settle)=yW i.m 4)) (((am xP (i.out d)).length+1)*(64:Nat)<=(140737488355328:Nat)/\∃(e:Nn),e.inst=i.c.inst/\sb e.m.p.code=sb i.m.p.code/\e.m.p.tick=i.m.p.tick/\e.m.p.low=i.m.p.low/\e.m.p.high=i.m.p.high/\e.m.p.wide=i.m.p.wide/\e.m.p.dr=i.m.p.dr/\e.m.p.top=i.m.p.top/\e.m.p.least=i.m.p.least/\e.m.p.part=i.m.p.part/\zE e.m.s=yW i.m 1/\zX e.m.used=zX i.m.used/\aa 1 (iE e.m.p.dk)=yW i.m 3/\aa 1 (iE e.m.p.settle)=yW i.m 4/\(Yp e)/\∀(f:Unit),True->dp (e.m.p.ga e.inst).snd.snd (∃(g:Jk),g.inst=i.c.inst/\g.x.dj=i.x.dj/\g.x.dq=i.x.dq/\g.x.iJ=i.x.iJ/\am yY g.x.gz=am yY i.x.gz/\sb g.m.p.code=sb e.m.p.code/\g.m.p.tick=e.m.p.tick/\g.m.p.low=e.m.p.low/\g.m.p.high=e.m.p.high/\g.m.p.wide=e.m.p.wide/\g.m.p.dr=e.m.p.dr/\g.m.p.top=e.m.p.top/\g.m.p.least=e.m.p.least/\g.m.p.part=e.m.p.part/\zE g.m.s=zE e.m.s/\zX g.m.used=zX e.m.used/\aa 1 (iE g.m.p.dk)=aa 1 (iE e.m.p.dk)/\aa 1 (iE g.m.p.settle)=aa 1 (iE e.m.p.settle)/\(X' g)/\∀(h:Unit),True->∃(j:GR),j.r.kind=3/\j.r.id=i.c.id/\j.r.inst=i.c.inst/\j.r.side=i.c.side/\j.r.dj=i.x.dj/\j.r.dq=i.x.dq/\j.r.left=i.left/\j.r.oS=0/\j.A4=(qN g).fst/\j.Ed=(qN g).snd/\sb j.m.p.code=sb g.m.p.code/\j.m.p.tick=g.m.p.tick/\j.m.p.low=g.m.p.low/\j.m.p.high=g.m.p.high/\j.m.p.wide=g.m.p.wide/\j.m.p.dr=g.m.p.dr/\j.m.p.top=g.m.p.top/\j.m.p.least=g.m.p.least/\j.m.p.part=g.m.p.part/\zE j.m.s=zE g.m.s/\zX j.m.used=zX g.m.used/\aa 1 (iE j.m.p.dk)=aa 1 (iE g.m.p.dk)/\aa 1 (iE j.m.p.settle)=aa 1 (iE g.m.p.settle)/\(XW j)/\∀(k:Unit),True->True/\((am xP (i.out d)++[[dI 3,dI i.c.id,dI i.c.inst,dI i.c.side,dI i.x.dj,dI i.x.dq,dI i.left,dI 0]]).length+2)*(64:Nat)<=(140737488355328:Nat)/\∃(l:Unit),sb i.m.p.code=sb j.m.p.code/\i.m.p.tick=j.m.p.tick/\i.m.p.low=j.m.p.low/\i.m.p.high=j.m.p.high/\i.m.p.wide=j.m.p.wide/\i.m.p.dr=j.m.p.dr/\i.m.p.top=j.m.p.top/\i.m.p.least=j.m.p.least/\i.m.p.part=j.m.p.part/\zE i.m.s=zE j.m.s/\zX i.m.used=zX j.m.used/\aa 1 (iE i.m.p.dk)=aa 1 (iE j.m.p.dk)/\aa 1 (iE i.m.p.settle)=aa 1 (iE j.m.p.settle)/\am xP (nH i.m.p i.c i.x i.left)=am xP (i.out d)++[[dI 3,dI i.c.id,dI i.c.inst,dI i.c.side,dI i.x.dj,dI i.x.dq,dI i.left,dI 0]]++[xP (dF j),xP (fW j)]/\True) (∃(g:Unit),sb i.m.p.code=sb e.m.p.code/\i.m.p.tick=e.m.p.tick/\i.m.p.low=e.m.p.low/\i.m.p.high=e.m.p.high/\i.m.p.wide=e.m.p.wide/\i.m.p.dr=e.m.p.dr/\i.m.p.top=e.m.p.top/\i.m.p.least=e.m.p.least/\i.m.p.part=e.m.p.part/\zE i.m.s=zE e.m.s/\zX i.m.used=zX e.m.used/\aa 1 (iE i.m.p.dk)=aa 1 (iE e.m.p.dk)/\aa 1 (iE i.m.p.settle)=aa 1 (iE e.m.p.settle)/\am xP (nH i.m.p i.c i.x i.left)=am xP (i.out d)++[[dI 3,dI i.c.id,dI i.c.inst,dI i.c.side,dI i.x.dj,dI i.x.dq,dI i.left,dI 0]]/\True))
def Zq:aab.ok Tryz.prog 158:=gw (V:=y7m) mixed fg 0 (λ_=>[]) (λ_=>[]) [] Tryz.func158 λ(i:AX) _=>⟨(),rfl,trivial⟩
def yKp (i:GR) (h:Bn.dp i):z0c i:=by
 obtain⟨⟨hc,hp⟩,hs⟩:i.m.A9/\(i.r.side=1\/i.r.side=2):=h;have hw:aj.wrap (3-i.r.side)=3-i.r.side:=ir oM;unfold z0c lN dF fW hZ vL jI dI;rw[hw];refine⟨⟨i.m.p,i.r.inst⟩,gm (iM ⟨rfl,hp,λ_ _=> ?_⟩)⟩;exact kp
def z3x:Bn.ok Tryz.prog 231:=gw mixed (dw Ms fg) 0 (λ_=>[]) (λ_=>[]) [] Tryz.func231 yKp
def yVn:aak.ok Tryz.prog 229:=gw (V:=y6t) mixed (dw Ms fg) 0 (λ_=>[]) (λ_=>[]) [] Tryz.func229 λ(i:Nn) h=>by
 obtain⟨hc,hp⟩:i.m.A9:=h;exact⟨⟨i.m.p,i.inst⟩,gm (iM ⟨rfl,hp,λ_ _=>kp⟩)⟩
def y4p {l:List bG} {k:Nat} {f:bG} (h:l[k]? =au f):zD (l.map yY) k 0 6=au [D.v (.int .i64 f.id),D.v (.int .i64 f.inst),D.v (.int .i64 f.side),D.v (.int .i64 f.dj),D.v (.int .i64 f.dq),D.v (.int .i64 f.left)]:=jq h (by simp[yY]) rfl
def vof (i:Nm) (h:ofC.dp i):Vof i:=by
 have hl:i.x.gz.length<=1000000:=h;have e4:(i.x.gz.map yY).length=i.x.gz.length:=ia ..;unfold Vof Vs dI;refine⟨0,rfl,λj=>j<=i.x.gz.length/\(i.x.gz.take j).find? (λf=>decide (f.inst=i.k))=av,λj=>i.x.gz.length-j,⟨my _,rfl⟩,?_⟩;rintro j ⟨j1,j2⟩;refine zH (λc=> ?_) (λc=> ?_)
 ·obtain⟨f,hf⟩:=z7 (l:=i.x.gz) (i:=j) oM;refine⟨⟨oM,oM⟩,_,_,_,_,_,_,y4p hf,Cv.dp.mk (λg=>⟨(),?_,gn⟩) (λg=>⟨j+1,qw oM,⟨oM,?_⟩,Z9,gn⟩)⟩
  ·have g:f.inst=i.k:=by simpa using g
   have e:i.x.gz.find? (λf=>decide (f.inst=i.k))=au f:=by
    rw[<- Bz j i.x.gz,List.find?_append,j2,Dq (by omega),(jl.1 hf).2,List.find?_cons_of_pos (by simpa using g)];rfl
   rw[EG,e]
  ·have g:¬f.inst=i.k:=by simpa using g
   rw[sm,hf,List.find?_append,j2];simp[g]
 ·have:j=i.x.gz.length:=by omega
  rw[this,og (km _)]at j2;exact⟨(),by rw[EG,j2],gn⟩
def y6c:ofC.ok Tryz.prog 240:=gw mixed fg 0 (λ_=>[]) (λ_=>ofA) [] Tryz.func240 vof
def yHt (i:Jk) (h:Bo.dp i):z0g i:=by
 obtain⟨⟨hc,hp⟩,O0,hl⟩:i.m.A9/\gq i.x.dj/\i.x.gz.length<=1000000:=h;unfold z0g qN rW y7 jI;refine Cv.dp.mk (λe=> ?_) (λe=> ?_)
 ·have e:i.x.iJ=ap:=by simpa using e
  have h0:wZ i.m.p i.inst i.x=((fZ i.m.p i.inst i.x.dj).1,(fZ i.m.p i.inst i.x.dj).2.1):=by rw[wZ,fc e]
  rw[h0];exact⟨⟨i.m.p,i.inst,i.x.dj⟩,gm (nr ⟨rfl,⟨hc,hp,O0⟩,λ_ _=>kp⟩)⟩
 ·have e:¬i.x.iJ=ap:=by simpa using e
  have h0:wZ i.m.p i.inst i.x=(EG i.x (i.m.p.ga i.inst).1,EG i.x (i.m.p.ga i.inst).2.1):=by rw[wZ,ej e]
  rw[h0];exact⟨⟨i.m.p,i.inst⟩,gm (iM ⟨rfl,hp,λ_ _=>⟨⟨i.x,(i.m.p.ga i.inst).1⟩,nr ⟨rfl,hl,λ_ _=>⟨⟨i.x,(i.m.p.ga i.inst).2.1⟩,nr ⟨rfl,hl,λ_ _=>kp⟩⟩⟩⟩⟩)⟩
def z4h:Bo.ok Tryz.prog 230:=gw mixed (dw Ms (dw z7p (dw y6c fg))) 0 (λ_=>[]) (λ_=>[]) [] Tryz.func230 yHt
def VO (p:fb) (x:j9) (r:fk):(nB p x r).length<=3:=by
 rw[nB,iD];split
 ·rw[NS];simp
 ·simp
def yAx {p:fb} {x:j9} {r:fk} (h:(p.ga r.inst).2.2=ap):nB p x r=[r]:=by
 rw[nB,ej (by rw[h];decide)]
def z0l {p:fb} {x:j9} {r:fk} (h:(p.ga r.inst).2.2=aq):nB p x r=r::NS p r (wZ p r.inst x).1 (wZ p r.inst x).2:=by
 rw[nB,fc h]
def rh.C8 (i:rh):∀j,(i.out j).length<=3*j
 |0=>km _
 |j+1=>by
  have ih:=rh.C8 i j;rw[rh.out]at ih ⊢;rw[sm,yi,im];cases e:i.x.gz[j]? with
  |none=>simp only[Option.toList_none,KA,tp];omega
  |some f=>
   have:=VO i.m.p i.x (G5 f);simp only[D0,vx,KA,oL];omega
def rh.F7 (i:rh) {j:Nat} {f:bG} (h:i.x.gz[j]? =au f):i.out (j+1)=i.out j++nB i.m.p i.x (G5 f):=by
 rw[rh.out,rh.out,sm,yi,h];simp
def yYa (i:rh) (h:FD.dp i):yIs i:=by
 obtain⟨hf,O0,hl,GM,wx⟩:i.m.A9/\gq i.x.dj/\i.x.gz.length<=1000000/\(i.c.side=1\/i.c.side=2)/\∀f∈i.x.gz,f.side=1\/f.side=2:=h;have e4:(i.x.gz.map yY).length=i.x.gz.length:=ia ..;unfold yIs aV Yp XW X' dF fW qN dI;refine⟨0,rfl,rfl,λj=>j<=i.x.gz.length,λj=>i.x.gz.length-j,my _,?_⟩;intro j hj;have ho:=i.C8 j;have e5:((i.out j).map xP).length=(i.out j).length:=ia ..;refine zH (λc=> ?_) (λc=> ?_)
 ·obtain⟨f,hfj⟩:=z7 (l:=i.x.gz) (i:=j) oM;have BX:=i.F7 hfj;have aaS:=wx f (lr hfj);refine⟨⟨oM,oM⟩,_,_,_,_,_,_,y4p hfj,oM,⟨i.m,f.inst⟩,rfl,rfl,rfl,rfl,rfl,rfl,rfl,rfl,rfl,rfl,rfl,rfl,rfl,rfl,hf,λ_ _=>Cv.dp.mk (λe=> ?_) (λe=> ?_)⟩
  ·have e:(i.m.p.ga (G5 f).inst).2.2=aq:=e;rw[z0l e]at BX;refine⟨⟨i.m,f.inst,i.x⟩,gm (ma (iM ⟨rfl,⟨hf,O0,hl⟩,λ_ _=>⟨⟨i.m,G5 f,(wZ i.m.p f.inst i.x).1,(wZ i.m.p f.inst i.x).2⟩,gm (gm (ma ⟨rfl,⟨hf,aaS⟩,λ_ _=>⟨trivial,by rw[im,e5];simp only[iD,tp];omega,j+1,qw oM,?_,oM,Z9,gn⟩⟩))⟩⟩))⟩;rw[BX,jk,jd];rfl
  ·have e:(i.m.p.ga (G5 f).inst).2.2=ap:=e;rw[yAx e]at BX;refine⟨j+1,qw oM,?_,oM,Z9,gn⟩;rw[BX,jk];rfl
 ·have hj:j=i.x.gz.length:=by omega
  have I':i.x.gz.flatMap (λf=>nB i.m.p i.x (G5 f))=i.out j:=by rw[rh.out,hj,og (km _)]
  have hR:nH i.m.p i.c i.x i.left=i.out j++nB i.m.p i.x ⟨3,i.c.id,i.c.inst,i.c.side,i.x.dj,i.x.dq,i.left,0⟩:=by rw[nH,I']
  refine⟨oM,⟨i.m,i.c.inst⟩,gm (Aa ⟨rfl,hf,λ_ _=>Cv.dp.mk (λe=> ?_) (λe=> ?_)⟩)⟩
  ·have e:(i.m.p.ga (⟨3,i.c.id,i.c.inst,i.c.side,i.x.dj,i.x.dq,i.left,0⟩:fk).inst).2.2=aq:=e;rw[z0l e]at hR;refine⟨⟨i.m,i.c.inst,i.x⟩,gm (ma (iM ⟨rfl,⟨hf,O0,hl⟩,λ_ _=>⟨⟨i.m,⟨3,i.c.id,i.c.inst,i.c.side,i.x.dj,i.x.dq,i.left,0⟩,(wZ i.m.p i.c.inst i.x).1,(wZ i.m.p i.c.inst i.x).2⟩,gm (gm (ma ⟨rfl,⟨hf,GM⟩,λ_ _=>⟨trivial,by rw[im,e5];simp only[iD,tp];omega,?_⟩⟩))⟩⟩))⟩;rw[hR,jk,jd];exact kp
  ·have e:(i.m.p.ga (⟨3,i.c.id,i.c.inst,i.c.side,i.x.dj,i.x.dq,i.left,0⟩:fk).inst).2.2=ap:=e;rw[yAx e]at hR;rw[hR,jk];exact kp
def yMk:FD.ok Tryz.prog 219:=gw mixed (dw yVn (dw z4h (dw z3x fg))) 1 (λ_=>[]) (λi=>yWq i) [] Tryz.func219 yYa
structure qg where
 m:ic
 p:fb
 B:List (List zI)
 U:List Int
 c:ib
 X:GS
@[reducible] def qg.MY (i:qg):Prop:=i.m.fk i.p i.B i.U/\iQ i.p i.B
@[reducible] def qg.tj (i:qg):Prop:=(0<=i.c.inst/\i.c.inst<i.B.length)/\(1<=i.c.dq/\i.c.dq<=1000000)/\(i.c.side=1\/i.c.side=2)
@[reducible] def Nw (X:GS) (p:fb):Alt:={o:=ic,res:=λ_=> .own 5,post:=λo=>Bu o++[Kv X.R],rel:=λo=>o.fk p X.B X.U}
def FL:fy where
 ι:=qg
 pat:=λi=>[.nm 0 0,Cs i.c]
 pre:=λi=>Bu i.m
 dp:=λi=>i.MY/\i.tj/\i.p.dj i.c.inst i.c.dj=0/\i.X=bJ i.p i.B i.U i.c
 alts:=λi=>[Nw i.X i.p]
structure K3 where
 left:Int
 k:Nat
 out:List fk
def yXr (i:qg):List gj:=[{ι:=K3,du:=λj=>[(5,.own 0),(8,zA j.left),(51,zA j.k)],rows:=λj=>[Kv j.out]}]
def FA:fy where
 ι:=qg
 pat:=λi=>[.nm 0 0,Cs i.c]
 pre:=λi=>Bu i.m
 dp:=λi=>i.MY/\i.c.right=0/\i.c.kind=1/\i.X=nW i.p i.B i.U i.c
 alts:=λi=>[Nw i.X i.p]
def yWc:List (Nat×gj):=[(22,ij 6),(44,bj 47),(52,bj 69)]
structure CS where
 m:ic
 p:fb
 B:List (List zI)
 U:List Int
 id:Int
 q:Int
 inst:Int
 o:zI
 X:GS
@[reducible] def CS.MY (i:CS):Prop:=i.m.fk i.p i.B i.U/\iQ i.p i.B
def Ik:fy where
 ι:=CS
 pat:=λi=>[.nm 0 0,zA i.id,zA i.inst,Mz i.o]
 pre:=λi=>Bu i.m
 dp:=λi=>i.MY/\i.X=uT i.B i.U i.id i.inst i.o
 alts:=λi=>[Nw i.X i.p]
def HZ:fy where
 ι:=CS
 pat:=λi=>[.nm 0 0,zA i.id,zA i.q,zA i.inst,Mz i.o]
 pre:=λi=>Bu i.m
 dp:=λi=>i.MY/\gq (i.o.dq-i.q)/\i.X=bW i.B i.U i.id i.q i.inst i.o
 alts:=λi=>[Nw i.X i.p]
structure ME where
 m:ic
 p:fb
 B:List (List zI)
 U:List Int
 c:ib
 inst:Int
 o:zI
 X:GS
def Bk:fy where
 ι:=ME
 pat:=λi=>[.nm 0 0,Cs i.c,zA i.inst,Mz i.o]
 pre:=λi=>Bu i.m
 dp:=λi=>i.m.fk i.p i.B i.U/\iQ i.p i.B/\z5 i.B i.c.id=(i.inst,i.o,aq)/\(1<=i.c.dq/\i.c.dq<=1000000)/\i.X=f9 i.p i.B i.U i.c i.inst i.o
 alts:=λi=>[Nw i.X i.p]
def doC:fy where
 ι:=qg
 pat:=λi=>[.nm 0 0,Cs i.c]
 pre:=λi=>[jR i.m]
 dp:=λi=>i.MY/\i.c.label.length<=140737488355328/\gq i.c.dq/\i.X=AJ i.p i.B i.U i.c
 alts:=λi=>[{o:=ic,res:=λ_=> .own 1,post:=λo=>[jR o,Kv i.X.R],rel:=λo=>o.fk i.p i.X.B i.X.U}]
end Sx
