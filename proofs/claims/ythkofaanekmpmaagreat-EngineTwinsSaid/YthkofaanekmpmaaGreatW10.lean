/- Texts of ours. No condition. -/
import Derived.Shelf.Spec.SlicesGrow
import Derived.Test.YthkofaanekmpmaaGreatW9
set_option linter.all false
open Sx.AObj renaming fro->aa,cells->ab,adt->ac,objs->ae,map->af,own->ag
open Go.IntKind renaming i64->aj,u8->ak,u64->am
open List renaming map->ao
open Bool renaming false->ap,true->aq
open Go.Builtin renaming zeroCells->ar
open Option renaming some->au,none->av
open Go.Value renaming string->aw
open ByteArray renaming mk->ax
open BitVec renaming ofInt->ay
open Go renaming grownCap->az,TypeId->ba,size_zeroCells->bc
namespace Sx
set_option maxRecDepth 100000
open Go Cv Go.Proofs
def growR:Go.Shelf.Ren:=⟨λx=>if x=4 then 141 else x,λx=>if x=22 then 53 else if x=25 then 5 else x,λx=>x⟩
def y1f:Lays8.n4 Tryz.prog growR where
 mixed:=mixed
 f4:=⟨Tryz.f141.name,by decide+kernel,by kernel_rfl⟩
 t0:=by kernel_rfl
 a0:=λ_=>by kernel_rfl
 z0:=λ_=>by kernel_rfl
 v0:=λ_=>by kernel_rfl
 t3:=by kernel_rfl
 a3:=λ_=>by kernel_rfl
 z3:=λ_=>by kernel_rfl
 v3:=λ_=>by kernel_rfl
 t4:=by kernel_rfl
 a4:=λ_=>by kernel_rfl
 z4:=λ_=>by kernel_rfl
 v4:=λ_=>by kernel_rfl
 t9:=by kernel_rfl
 a9:=λ_=>by kernel_rfl
 z9:=λ_=>by kernel_rfl
 v9:=λ_=>by kernel_rfl
 t20:=by kernel_rfl
 a20:=λ_=>by kernel_rfl
 z20:=λ_=>by kernel_rfl
 v20:=λ_=>by kernel_rfl
 t22:=by kernel_rfl
 a22:=λ_=>by kernel_rfl
 z22:=λ_=>by kernel_rfl
 v22:=λ_=>by kernel_rfl
def y0j:uM Tryz.prog 53=au (5,1,1,#[.int .u8 0]):=by kernel_rfl
def yLr:growC.ok Tryz.prog 141:=by
 intro(n:Nat) hc k L E w ys R hv;obtain⟨c1,c2⟩:1<=n/\n<=1099511627776:=hc;simp only[growC,con1,VRL,VR,DR]at hv;obtain⟨_,_,rfl,⟨rfl,_⟩,_,_,rfl,⟨rfl,_⟩,rfl⟩:=hv;obtain⟨inf,zv,q1,q2,q3,q4,q5,q6⟩:=kL y0j;have hcall:=Any8.slices_Grow_grow y1f inf zv q2 q5 oM av 0 0 n [] w (y6p _) oM (by rw[q4];omega) oM (by simp) (λ_=>rfl) (λa h=>by cases h);rw[show growR.t 25=5 from rfl]at hcall;refine mY (by kernel_rfl) (hcall.mono ?_);rintro en w' ⟨rfl,rfl⟩;have hG:=grownCap_ge w (0+n) 0 5;have H:=((R.hp.drew).new (.cells (([]:List Value).toArray++ar zv.cells (0+n-0)++ar zv.cells (az w (0+n) 0 5-(0+n))) 5))
 have ha:(([]:List Value).toArray++ar zv.cells (0+n-0)++ar zv.cells (az w (0+n) 0 5-(0+n)))=([]++((ar zv.cells (0+n-0)).toList++(ar zv.cells (az w (0+n) 0 5-(0+n))).toList)).toArray:=by
  apply Array.ext';simp
 have hz:zv.cells.size=1:=by rw[q6];rfl
 have hl:([]++((ar zv.cells (0+n-0)).toList++(ar zv.cells (az w (0+n) 0 5-(0+n))).toList)).length=az w (0+n) 0 5*1:=by
  rw[y8j,y5s,y9r,y9r,bc,bc,hz];omega
 rw[ha]at H ⊢;have H3:=H.slmk (n:=0) (sz:=1) (by simp) hl (y6z _);obtain⟨E',r1,r2,r3⟩:=cZ (rows:=[]) (els:=[]) (nx:=0) R.nx (by simp[DRL]) (λx hx=>by cases hx) H3;exact⟨_,rfl,_,y7g.2 rfl,(),trivial,E',r1,r3,⟨r2.nx,r2.hp⟩⟩
def zVk {ls:List (List UInt8)} {k:Nat} {l:List UInt8} (h:ls[k]? =au l):zE (ls.map rcE) k 0 1=au [D.ro 1 (bE l)]:=elA h (by simp[rcE]) rfl
def rT {α:Type} {ls:List (List α)} {k:Nat} {l:List α} (h:ls[k]? =au l):(ls.take (k+1)).flatten=(ls.take k).flatten++l:=by
 rw[y7c,h,y8w,xAt];simp
def z7c {α:Type} (ls:List (List α)) (k:Nat):(ls.take k).flatten.length<=ls.flatten.length:=by
 conv=>rhs;rw[<- y8a k ls,xAt,y5s]
 omega
def y1u (ls:List (List UInt8)) (h:flatC.cnd ls):z8o ls:=by
 obtain⟨h1,h2,h3⟩:1<=ls.flatten.length/\ls.flatten.length<=1099511627776/\ls.length<=1000:=h;unfold z8o aH kE;rw[y5u];refine⟨0,rfl,rfl,λk=>k<=ls.length,λk=>ls.length-k,y6z _,λk hk=>zH (λhlt=> ?_) (λhlt=> ?_)⟩
 ·obtain⟨l,hl⟩:=yA (l:=ls) (i:=k) oM;have hk:k<=ls.length:=hk;have e1:=z7c ls (k+1);rw[rT hl,y5s]at e1;refine⟨⟨oM,oM⟩,bE l,zVk hl,zH (λc=> ?_) (λ_=>⟨k+1,?_,wjn oM,Z9,Z9,trivial⟩)⟩
  ·rw[yQ,w64 (by omega)]at c;omega
  ·rw[rT hl,y5s,yQ,w64 (by omega)];simp
 ·obtain rfl:k=ls.length:=by have hk:k<=ls.length:=hk;omega
  rw[y8s];refine⟨ls.flatten.length,trivial,rfl,⟨h1,h2⟩,λ_ _=>⟨0,rfl,rfl,λk=>k<=ls.length,λk=>ls.length-k,y6z _,λk hk=>zH (λhlt=> ?_) (λhlt=> ?_)⟩⟩
  ·obtain⟨l,hl⟩:=yA (l:=ls) (i:=k) oM;have hk:k<=ls.length:=hk;have e1:=z7c ls (k+1);rw[rT hl,y5s]at e1;refine⟨⟨oM,oM⟩,bE l,zVk hl,by rw[yQ,yQ];omega,k+1,wjn oM,by rw[rT hl,zIq],Z9,Z9,trivial⟩
  ·obtain rfl:k=ls.length:=by have hk:k<=ls.length:=hk;omega
   rw[y8s];exact⟨(),rfl,trivial⟩
def z9e:flatC.ok Tryz.prog 94:=yTp (gokc yLr gok0) y1u
def dnew_ok:dnewC.ok Tryz.prog 32:=okw (V:=y0t) mixed gok0 0 (λ_=>[]) (λ_=>[]) [] Tryz.func32 λ(_:Unit) _=>⟨(),rfl,rfl,trivial⟩
def yOg:dappC.ok Tryz.prog 140:=okw (V:=yQi) mixed gok0 0 (λ_=>[]) (λ_=>[]) [0] Tryz.func140 λ(i:DbI) h=>by
 have h:i.d.b.length+i.l.length<=1048576:=h;unfold yQi;rw[yQ,yQ];refine zH (λc=> ?_) (λ_=>⟨oM,(),rfl,rfl,zIq _ _,trivial⟩);rw[w64 (by omega)]at c;omega
def yOb:dsynC.ok Tryz.prog 149:=okw (V:=y0m) mixed gok0 0 (λ_=>[]) (λ_=>[]) [0] Tryz.func149 λ(d:Dk) h=>⟨(),by rw[yQ],rfl,trivial⟩
def dbyt_ok:dbytC.ok Tryz.prog 46:=okw (V:=yYs) mixed (gokc zPo gok0) 0 (λ_=>[]) (λ_=>[]) [0] Tryz.func46 λ(d:Dk) h=>by
 obtain⟨h1,h2⟩:d.ok:=h;exact⟨_,rfl,by rw[yQ];omega,λ_ _=>⟨(),rF3 trivial⟩⟩
def z5e:cloneBN.ok Tryz.prog 99:=yAn gok0 λi h=>λb hb=>
 Cv.cnd.mk (λe=>⟨(),hb e,trivial⟩) (λ_=>⟨by rw[y6t,Nat.mul_one];exact h,(),rfl,trivial⟩)
def yPd:dswpC.ok Tryz.prog 139:=okw (V:=yRo) mixed (gokc z5e gok0) 0 (λ_=>[]) (λ_=>[]) [0] Tryz.func139 λ(i:DbI) h=>by
 have h:i.l.length<=1048576:=h;unfold yRo;refine zH (λc=> ?_) (λ_=>⟨_,rfl,by rw[yQ];omega,λ_ _=>⟨(),rfl,by rw[yQ],rfl,trivial⟩⟩);rw[yQ]at c;omega
def yOh:dcraC.ok Tryz.prog 96:=okw (V:=ySf) mixed gok0 0 (λ_=>[]) (λ_=>[]) [0] Tryz.func96 λ(i:DnI) h=>by
 obtain⟨h1,h2⟩:i.d.ok:=h;have e0:(if(0:Int)>i.n then(0:Int)else i.n)=max i.n 0:=by rw[Int.max_def];split<;>split<;>omega
 have e1:aj.wrap (((bE i.d.b).length:Int)-i.d.safe)=(i.d.b.length:Int)-i.d.safe:=by rw[yQ,w64 (by omega)]
 have hk:(i.d.keep i.n:Int)=i.d.safe+min (max i.n 0) ((i.d.b.length:Int)-i.d.safe):=by rw[Dk.keep];omega
 have e2:aj.wrap ((i.d.safe:Int)+min (max i.n 0) ((i.d.b.length:Int)-i.d.safe))=i.d.keep i.n:=by rw[w64 (by omega),hk]
 unfold ySf rH;rw[e0,e1,e2,y6m,yQ,y6l,yQ,<- sI];exact⟨⟨oM,oM⟩,(),oM,rfl,trivial⟩
def y1m:∀n:Fin 256,lob (aj.wrap (ay aj.bits (if aj.signed=aq then(-1:Int)else aj.max) ^^^ ay aj.bits (n.val:Int)).toNat)=UInt8.ofNat (255-n.val):=by decide+kernel
def y3g:∀n:Fin 256,ak.wrap (ay ak.bits (if ak.signed=aq then(-1:Int)else ak.max) ^^^ ay ak.bits (n.val:Int)).toNat=255-(n.val:Int):=by decide+kernel
def gY (l:List UInt8):(xI l).length=l.length+6:=by
 simp only[xI,y5y,y5s,qM]
def yWf (l:List UInt8) (h:frameC.cnd l):yKb l:=by
 have h:l.length<=255:=h;have hn:=y1m ⟨l.length,oM⟩;dsimp only at hn;unfold yKb;rw[yQ];revert hn;generalize aj.wrap (ay aj.bits (if aj.signed=aq then(-1:Int)else aj.max) ^^^ ay aj.bits (l.length:Int)).toNat=X;intro hn;refine zH (λc=>by omega) (λ_=>⟨(),trivial,λ_ _=>⟨⟨[],l.length⟩,rfl,rfl,by simp[WN.ok],λ_ _=>⟨⟨_,_⟩,rfl,rfl,by simp[WN.ok],λ_ _=>⟨?_,l,rfl,oM,λ_ _=>⟨⟨_,mA l⟩,rfl,zIq _ _,⟨?_,eV l⟩,λ_ _=>⟨_,rfl,?_,λ_ _=>⟨(),rfl,?_,trivial⟩⟩⟩⟩⟩⟩⟩)
 ·rw[yQ];simp;omega
 ·dsimp only;simp;omega
 ·dsimp only;simp[qM];omega
 ·dsimp only;rw[hn,xI];simp
def yKl:frameC.ok Tryz.prog 79:=okw mixed (gokc z6k (gokc z8s (gokc z2f (gokc yEh (gokc z6g gok0))))) 0 (λ_=>yTh) (λ_=>[]) [] Tryz.func79 yWf
def yHm {c:Int} (h:0<=c/\c<4294967296):kB (le c 4)=c:=by
 simp only[le,kB,y2h];omega
def zSo {l:List UInt8} (h:l.length<=255) (r:List UInt8):zCx (xI l++r)=(l,6+l.length,0):=by
 have h0:((xI l++r).getD 0 0).toNat=l.length:=by
  have:=y2j (n:=(l.length:Int)) oM;show(lob (l.length:Int)).toNat=l.length;omega
 have h1:((xI l++r).getD 1 0).toNat=255-l.length:=by
  show(UInt8.ofNat (255-l.length)).toNat=_;exact UInt8.toNat_ofNat_of_lt' (by
                                     have:255-l.length<256:=by omega
                                     simpa using this)
 have h2:(xI l++r).drop 2=l++(le (mA l) 4++r):=by
  show(l++le (mA l) 4)++r=_;rw[y6a]
 have h3:(xI l++r).drop (2+l.length)=le (mA l) 4++r:=by
  rw[<- y9d,h2,List.drop_left]
 unfold zCx;rw[h0,h1,h2,h3,xBz,List.take_left' (qM 4 _),yHm (eV l)];rw[y5t (by rw[y5s,gY];omega),y5t (by omega),y5t (by rw[y5s,gY];omega),y5t (by simp)]
def y3e (i:OpI) (h:wopC.cnd i):y0v i:=by
 obtain⟨h1,h2⟩:i.k<=i.b.length/\i.b.length<=1099511627776:=h;have ex:i.x=zCx (i.b.drop i.k):=rfl;have hll:(i.b.drop i.k).length<=1099511627776:=by rw[y6s];omega
 have bad:∀e:Int,e≠0->i.x.2.2=e->∀{A:Prop},A\/∃o:Unit,True/\(0:Int)=0/\i.x.2.2=e/\(i.x.2.2=0->False):=λe he hx=> .inr ⟨(),trivial,rfl,hx,λh=>he (hx▸h)⟩
 unfold y0v eY zFg zMt dA cY mE zNl;rw[y6m,<- zEh,yQ i.b];generalize i.b.drop i.k=l at*;rw[yQ l];refine zH (λc=>by omega) (λ_=>⟨⟨oM,oM⟩,zH (λc=>bad 10 Z8 (by rw[ex,zCx,y5v (by omega)])) (λc=> ?_)⟩);obtain⟨a,ha⟩:∃a,l[0]? =au a:=⟨_,y6v oM⟩
 obtain⟨b,hb⟩:∃b,l[1]? =au b:=⟨_,y6v oM⟩
 have ea:l.getD 0 0=a:=by rw[y6c,ha];rfl
 have eb:l.getD 1 0=b:=by rw[y6c,hb];rfl
 have la:=a.toNat_lt;have hn:=y3g ⟨a.toNat,la⟩;dsimp only at hn;refine⟨⟨oM,oM⟩,b.toNat,cD hb,⟨oM,oM⟩,a.toNat,cD ha,?_⟩;rw[hn];have wa:aj.wrap (a.toNat:Int)=a.toNat:=w64 oM;have w2:aj.wrap ((2:Int)+a.toNat)=2+a.toNat:=w64 oM;have w3:aj.wrap ((2:Int)+a.toNat+4)=2+a.toNat+4:=w64 oM;have w4:aj.wrap ((i.k:Int)+(2+a.toNat))=i.k+(2+a.toNat):=w64 oM;have w5:aj.wrap ((i.k:Int)+(2+a.toNat)+4)=i.k+(2+a.toNat)+4:=w64 oM;have t1:((2:Int)+a.toNat).toNat=2+a.toNat:=by omega
 have t2:((2:Int)+a.toNat+4).toNat=2+a.toNat+4:=by omega
 refine Cv.cnd.mk (λc2=>bad 14 Z8 ?_) (λc2=>⟨⟨oM,oM⟩,a.toNat,cD ha,?_⟩)
 ·have c2:¬((b.toNat:Int)=255-a.toNat):=by simpa using c2
  rw[ex,zCx,y5t (by omega),ea,eb,y5v (by omega)]
 have c2:(b.toNat:Int)=255-a.toNat:=by simpa using c2
 rw[wa,w2,w3,w4,w5,t1,t2,show Int.toNat 2=2 from rfl];refine zH (λc3=>bad 10 Z8 ?_) (λc3=> ?_)
 ·rw[ex,zCx,y5t (by omega),ea,eb,y5t (by omega),y5v (by omega)]
 have l1:((l.take (2+a.toNat+4)).drop (2+a.toNat)).length=4:=by rw[y6s,y6l];omega
 have g1:(l.take (2+a.toNat+4)).drop (2+a.toNat)=(l.drop (2+a.toNat)).take 4:=by rw[List.drop_take];congr 1;omega
 have g2:(l.take (2+a.toNat)).drop 2=(l.drop 2).take a.toNat:=by rw[List.drop_take];congr 1;omega
 have g3:RN.got ⟨(l.take (2+a.toNat+4)).drop (2+a.toNat),ap,4⟩=(l.drop (2+a.toNat)).take 4:=by
  rw[RN.got,y5t (by simp only[RN.bad,l1];decide)];dsimp only;rw[y6f (by omega),g1]
 have l2:((l.drop 2).take a.toNat).length=a.toNat:=by rw[y6l,y6s];omega
 refine⟨⟨oM,oM,oM⟩,(l.take (2+a.toNat+4)).drop (2+a.toNat),by rw[zEh,sI],oM,λ_ _=>⟨⟨oM,oM,oM⟩,⟨_,ap,4⟩,rfl,rfl,⟨Z9,Z9⟩,λ_ _=>⟨(l.take (2+a.toNat)).drop 2,by rw[zEh,sI],by rw[g2];omega,λ_ _=> ?_⟩⟩⟩;rw[g2,g3];have hr:=mX ((l.drop (2+a.toNat)).take 4);have hl4:((l.drop (2+a.toNat)).take 4).length=4:=by rw[<- g1];exact l1
 rw[hl4]at hr;rw[y0b (by omega)];refine Cv.cnd.mk (λc4=>bad 14 Z8 ?_) (λc4=> ?_)
 ·rw[ex,zCx,y5t (by omega),ea,eb,y5t (by omega),y5t (by omega),y5v (by simpa using c4)]
 have ex2:i.x=((l.drop 2).take a.toNat,6+a.toNat,0):=by
  rw[ex,zCx,y5t (by omega),ea,eb,y5t (by omega),y5t (by omega),y5t (by simpa using c4)]
 rw[ex2,<- sI,<- zEh,g2,yQ,l2];exact⟨⟨oM,oM,oM⟩,oM,.inl ⟨(),Z9,rfl,rfl,rfl⟩⟩
def yTz:wopC.ok Tryz.prog 180:=okw mixed (gokc z6e (gokc z4w (gokc z2f gok0))) 0 (λ_=>[]) (λ_=>[]) [] Tryz.func180 y3e
def yLu (A B:List (List UInt8)):fsB (A++B)=fsB A++fsB B:=by rw[fsB,y7r];rfl
def zNn (l:List UInt8) (L:List (List UInt8)):fsB (l::L)=xI l++fsB L:=rfl
def yFv {L:List (List UInt8)} {k:Nat} {l:List UInt8} (h:L[k]? =au l):fsB (L.take (k+1))=fsB (L.take k)++xI l:=pR h
def zTl (L:List (List UInt8)) (k:Nat):fsB L=fsB (L.take k)++fsB (L.drop k):=by rw[<- yLu,y8a]
def z8f (L:List (List UInt8)):L.length<=(fsB L).length:=by
 induction L with
 |nil=>exact y6p _
 |cons l L ih=>rw[zNn,y5s,gY,y5y];omega
def y0f (i:ScI) (h:scanC.cnd i):yQu i:=by
 obtain⟨h1,h2,h3⟩:i.ok:=h;have hn:=z8f i.L;have hsp:∀k,(fsB i.L).length=(fsB (i.L.take k)).length+(fsB (i.L.drop k)).length:=λk=>by
  have:=congrArg List.length (zTl i.L k);rwa [y5s]at this
 unfold yQu zHu fE;rw[yQ,y5s];refine⟨0,rfl,rfl,λk=>k<=i.L.length,λk=>i.L.length-k,y6z _,λk hk=>zH (λhlt=> ?_) (λhlt=> ?_)⟩
 ·have hk:k<=i.L.length:=hk;have hs:=hsp k;have hx:(OpI.mk (fsB i.L++i.t) (fsB (i.L.take k)).length).x=zCx (fsB (i.L.drop k)++i.t):=by
   show zCx ((fsB i.L++i.t).drop _)=_;rw[zTl i.L k,y6a,List.drop_left]
  refine⟨⟨fsB i.L++i.t,(fsB (i.L.take k)).length⟩,rfl,rfl,⟨by dsimp only;rw[y5s];omega,by dsimp only;rw[y5s];omega⟩,λ_ e0=> ?_,λ_ e1=> ?_⟩
  ·rw[hx]at e0 ⊢;rcases y8c k i.L.length with hk2|hk2
   ·obtain⟨l,hl⟩:=yA hk2;have hd:i.L.drop k=l::i.L.drop (k+1):=by
     rw[y8b hk2];congr 1;rw[y6v hk2]at hl;exact Option.some.inj hl
    have hl255:=h1 l (y6e hl);rw[hd,zNn,y6a,zSo hl255];refine⟨by rw[y5u,y6l];omega,k+1,?_,?_,Z9,Z9,trivial⟩
    ·rw[yFv hl,y5s,gY];dsimp only;omega
    ·rw[y7c,hl];simp[rcE]
   ·rw[y9b hk2]at e0;rw[show fsB ([]:List (List UInt8))++i.t=i.t from rfl,h2]at e0;cases e0
  ·rw[hx]at e1 ⊢;rcases y8c k i.L.length with hk2|hk2
   ·obtain⟨l,hl⟩:=yA hk2;have hd:i.L.drop k=l::i.L.drop (k+1):=by
     rw[y8b hk2];congr 1;rw[y6v hk2]at hl;exact Option.some.inj hl
    have hl255:=h1 l (y6e hl);rw[hd,zNn,y6a,zSo hl255]at e1;exact absurd rfl e1
   ·obtain rfl:k=i.L.length:=by omega
    rw[List.drop_length,show fsB ([]:List (List UInt8))++i.t=i.t from rfl,h2,y8s];exact Cv.cnd.mk (λe=>by cases e) (λ_=>Cv.cnd.mk (λ_=>⟨(),rF3 trivial⟩) (λe=>by cases e))
 ·have hk:k<=i.L.length:=hk;have hs:=hsp k;have h5:=z8f (i.L.drop k);rw[y6s]at h5;obtain rfl:k=i.L.length:=by omega
  rw[y8s];exact⟨(),rF3 trivial⟩
def yMj:scanC.ok Tryz.prog 138:=okw mixed (gokc yTz gok0) 0 (λ_=>[]) (λi=>y1q i) [] Tryz.func138 y0f
def yXs:jopC.ok Tryz.prog 87:=okw (V:=yZf) mixed (gokc dbyt_ok (gokc yMj (gokc yPd gok0))) 0 (λ_=>[]) (λ_=>[]) [] Tryz.func87 λ(i:JoI) h=>by
 obtain⟨hs,hd⟩:(ScI.mk i.L i.t).ok/\i.d.ok:=h;have e0:(bE i.d.b).length=(fsB i.L).length+i.t.length:=by rw[yQ,JoI.d,y5s]
 have h3:=hs.2.2;dsimp only at h3;unfold yZf;refine⟨i.d,rfl,hd,λ_ _=>⟨⟨i.L,i.t⟩,rfl,hs,λ_ _=>zH (λc=> ?_) (λc=> ?_)⟩⟩
 ·have ht:i.t≠[]:=λe=>by rw[e0,e]at c;simp at c
  refine⟨⟨oM,by rw[e0];dsimp only;omega⟩,⟨i.d,fsB i.L⟩,?_,rfl,Z9,λ_ _=>⟨(),rfl,?_,by rw[y5u],rfl,trivial⟩⟩
  ·dsimp only;rw[y6m,<- sI,JoI.d,xBz]
  ·rw[JoI.d',y5t ht]
 ·have ht:i.t=[]:=List.length_eq_zero_iff.1 (by rw[e0]at c;dsimp only at c;omega);refine⟨(),rfl,?_,by rw[y5u],rfl,trivial⟩;rw[JoI.d',y5v ht]
def yNt:jappC.ok Tryz.prog 93:=okw (V:=yZi) mixed (gokc yKl (gokc yOg gok0)) 0 (λ_=>[]) (λ_=>[]) [] Tryz.func93 λ(i:JaI) h=>by
 obtain⟨h1,h2,h3,h4⟩:i.l.length<=255/\i.d.b.length+i.l.length+6<=1048576/\0<=i.n/\i.n<=1048576:=h;exact⟨i.l,rfl,h1,λ_ _=>⟨⟨i.d,xI i.l⟩,rfl,rfl,by dsimp only;rw[gY];omega,λ_ _=>⟨(),rfl,by rw[w64 (by omega)],rfl,trivial⟩⟩⟩
def jsyn_ok:jsynC.ok Tryz.prog 102:=okw (V:=yZr) mixed (gokc yOb gok0) 0 (λ_=>[]) (λ_=>[]) [] Tryz.func102 λ(i:JaI) h=>⟨i.d,rfl,h,λ_ _=>⟨(),rfl,rfl,trivial⟩⟩
open Classical
def lT (i:RN):i.left.length<=i.l.length:=by
 unfold RN.left;split
 ·omega
 ·rw[y6s];omega
def nF {r:RB} (h:r.ok):r.byte.2.ok:=y8p (lT _) h
def gT {r:RB} (h:r.ok):r.long.2.ok:=y8p (lT _) h
def hJ (l:List UInt8):bE l=qB ⟨l.toArray⟩:=rfl
def fbyteC:Con:=con1 WN (λi=>[roV 1 (bE i.l),zA i.n]) (λ_=>[]) WN.ok (λ_=> .own 0) (λi=>[.own tU8 1 (bE (i.l++[lob i.n]))])
def flongC:Con:=con1 WN (λi=>[roV 1 (bE i.l),zA i.n]) (λ_=>[]) WN.ok (λ_=> .own 0) (λi=>[.own tU8 1 (bE (i.l++le i.n 8))])
def yTc (i:WN):List SAnn:=[{ι:=Nat,slots:=λj=>[(5,.own 0),(6,eE ((8*j:Nat):Int))],rows:=λj=>[.own tU8 1 (bE (i.l++le i.n j))]}]
def yXe (i:WN):Prop:=
 (0+(bE i.l).length)*(1:Nat)<=(140737488355328:Nat)/\(([]++bE i.l).length+1)*(1:Nat)<=(140737488355328:Nat)/\∃(o:Unit),bE (i.l++[lob i.n])=[]++bE i.l++[[D.v (.int .u8 (ak.wrap i.n))]]/\True
def yXi (i:WN):Prop:=
 (0+(bE i.l).length)*(1:Nat)<=(140737488355328:Nat)/\∃(i0:Nat),(↑(8*i0):Int)=0/\bE (i.l++le i.n i0)=[]++bE i.l/\∃(I:Nat->Prop),∃(μ:Nat->Nat),I i0/\∀(i_1:Nat),I i_1->cnd (decide ((↑(8*i_1):Int)<64)) (0<=(↑(8*i_1):Int)/\((bE (i.l++le i.n i_1)).length+1)*(1:Nat)<=(140737488355328:Nat)/\∃(i':Nat),(↑(8*i'):Int)=am.wrap ((↑(8*i_1):Int)+8)/\bE (i.l++le i.n i')=bE (i.l++le i.n i_1)++[[D.v (.int .u8 (ak.wrap (bV am (am.wrap i.n) (↑(8*i_1):Int))))]]/\I i'/\μ i'<μ i_1/\True) (∃(o:Unit),bE (i.l++le i.n 8)=bE (i.l++le i.n i_1)/\True)
def zWi:∀(k m:Nat) (n:Int),k<=m->(le n m).take k=le n k
 |0,m,n,h=>by simp[le]
 |k+1,m+1,n,h=>by simp only[le,y7e];rw[zWi k m _ (by omega)]
def z8e {k:Nat} (h:k<=8) (n:Int):le (am.wrap n) k=le n k:=by
 rw[<- zWi k 8 _ h,zSw,zWi k 8 _ h]
def z1p:fbyteC.ok Tryz.prog 143:=okw (V:=yXe) mixed gok0 0 (λ_=>[]) (λ_=>[]) [] Tryz.func143 λ(i:WN) h=>by
 have h:i.l.length+8<=1099511627776:=h;refine⟨by rw[yQ];omega,by rw[y8j,yQ];omega,(),?_,trivial⟩;rw[zIq,zBg];rfl
def yHj:flongC.ok Tryz.prog 86:=okw (V:=yXi) mixed gok0 0 (λ_=>[]) (λi=>yTc i) [] Tryz.func86 λ(i:WN) h=>by
 have h:i.l.length+8<=1099511627776:=h;refine⟨by rw[yQ];omega,0,rfl,by simp[le],λj=>j<=8,λj=>8-j,Z8,λj hj=>zH (λhlt=> ?_) (λhlt=> ?_)⟩
 ·dsimp only at hj;have hu:=cN i.n;refine⟨oM,?_,j+1,?_,?_,by(first|omega|(dsimp only;omega)),by(first|omega|(dsimp only;omega)),trivial⟩
  ·rw[yQ,y5s,qM];omega
  ·rw[zBs (by omega)];omega
  ·rw[zBg,l9 .u64 _ (8*j) (by show 8*j<=64;omega),show(2:Int) ^ (8*j)=256 ^ j by rw[show(256:Int)=2 ^ 8 from rfl,<- Int.pow_mul],<- z8e (k:=j+1) (by omega) i.n,z8h,z8e (by omega),<- y6a,zIq];rfl
 ·dsimp only at hj;obtain rfl:j=8:=by omega
  exact⟨(),rfl,trivial⟩
def y1z (s:List UInt8):Prop:=
 ∃(a:Nat×Nat),(↑a.snd:Int)=0/\sb s=sb s/\a.fst=0/\∃(b:Nat×Nat->Prop),∃(c:Nat×Nat->Nat),b a/\∀(d:Nat×Nat),b d->cnd (d.fst.blt (sb s).size) (cnd (decide ((qG s d)<32)) (∃(e:Unit),fZ s=ap/\True) (cnd ((qG s d)==127) (∃(e:Unit),fZ s=ap/\True) (cnd ((qG s d)==65533) (∃(e:Unit),fZ s=ap/\True) (cF d s b c)))) (cnd (decide ((↑d.snd:Int)>=1)) (∃(e:Unit),fZ s=decide ((↑d.snd:Int)<=12)/\True) (∃(e:Unit),fZ s=ap/\True))
def zHb (a:Cmd):Prop:=∃(b:List UInt8),sb b=sb a.label/\b.length<=140737488355328/\∀(c:Unit),True->cnd (!fZ b) (∃(d:Unit),a.orderE=29/\True) (cnd (decide (a.price>=(-2000000))) (cnd (!decide (a.price<=2000000)) (∃(d:Unit),a.orderE=23/\True) (cnd (decide (a.inst<0)) (∃(d:Unit),a.orderE=20/\True) (cnd (decide (a.inst>255)) (∃(d:Unit),a.orderE=20/\True) (∃(d:Unit),a.orderE=0/\True)))) (∃(d:Unit),a.orderE=23/\True))
def pD (a:Cmd):=(!(sb a.label).toList==(ax #[]).toList)
def yRc (c:Cmd):Prop:=
 cnd (c.side !=1) (cnd (c.side !=2) (∃(a:Unit),c.orderE=21/\True) (cnd (decide (c.time<1)) (∃(a:Unit),c.orderE=27/\True) (cnd (decide (c.time>3)) (∃(a:Unit),c.orderE=27/\True) (cnd (decide (c.qty>=1)) (cnd (!decide (c.qty<=1000000)) (∃(a:Unit),c.orderE=24/\True) (cnd (decide (c.least<0)) (∃(a:Unit),c.orderE=28/\True) (cnd (decide (c.least>c.qty)) (∃(a:Unit),c.orderE=28/\True) (cnd (pD c) (zHb c) (cnd (decide (c.price>=(-2000000))) (cnd (!decide (c.price<=2000000)) (∃(a:Unit),c.orderE=23/\True) (cnd (decide (c.inst<0)) (∃(a:Unit),c.orderE=20/\True) (cnd (decide (c.inst>255)) (∃(a:Unit),c.orderE=20/\True) (∃(a:Unit),c.orderE=0/\True)))) (∃(a:Unit),c.orderE=23/\True)))))) (∃(a:Unit),c.orderE=24/\True))))) (cnd (decide (c.time<1)) (∃(a:Unit),c.orderE=27/\True) (cnd (decide (c.time>3)) (∃(a:Unit),c.orderE=27/\True) (cnd (decide (c.qty>=1)) (cnd (!decide (c.qty<=1000000)) (∃(a:Unit),c.orderE=24/\True) (cnd (decide (c.least<0)) (∃(a:Unit),c.orderE=28/\True) (cnd (decide (c.least>c.qty)) (∃(a:Unit),c.orderE=28/\True) (cnd (pD c) (zHb c) (cnd (decide (c.price>=(-2000000))) (cnd (!decide (c.price<=2000000)) (∃(a:Unit),c.orderE=23/\True) (cnd (decide (c.inst<0)) (∃(a:Unit),c.orderE=20/\True) (cnd (decide (c.inst>255)) (∃(a:Unit),c.orderE=20/\True) (∃(a:Unit),c.orderE=0/\True)))) (∃(a:Unit),c.orderE=23/\True)))))) (∃(a:Unit),c.orderE=24/\True))))
def yFu (c:Cmd):Prop:=
 cnd (decide (c.kind<1)) (∃(a:Unit),c.right=31/\True) (cnd (decide (c.kind>4)) (∃(a:Unit),c.right=31/\True) (cnd (decide (c.id<1)) (∃(a:Unit),c.right=1/\True) (cnd (decide (c.id>1099511627776)) (∃(a:Unit),c.right=1/\True) (cnd (c.kind==1) (∃(a:Cmd),a.kind=c.kind/\a.id=c.id/\a.inst=c.inst/\a.side=c.side/\a.price=c.price/\a.qty=c.qty/\a.least=c.least/\a.time=c.time/\sb a.label=sb c.label/\a.label.length<=140737488355328/\∀(b:Unit),True->∃(d:Unit),c.right=a.orderE/\True) (cnd (c.kind !=2) (cnd (decide (c.qty>=1)) (cnd (!decide (c.qty<=1000000)) (∃(a:Unit),c.right=24/\True) (cnd (c.kind==4) (cnd (decide (c.price>=(-2000000))) (cnd (!decide (c.price<=2000000)) (∃(a:Unit),c.right=23/\True) (∃(a:Unit),c.right=0/\True)) (∃(a:Unit),c.right=23/\True)) (∃(a:Unit),c.right=0/\True))) (∃(a:Unit),c.right=24/\True)) (cnd (c.kind==4) (cnd (decide (c.price>=(-2000000))) (cnd (!decide (c.price<=2000000)) (∃(a:Unit),c.right=23/\True) (∃(a:Unit),c.right=0/\True)) (∃(a:Unit),c.right=23/\True)) (∃(a:Unit),c.right=0/\True)))))))
def y4i (s:List UInt8) (h:labC.cnd s):y1z s:=by
 have h:s.length<=140737488355328:=h;have hr:=zHd s;unfold y1z qG cF;refine⟨(0,0),rfl,rfl,rfl,λx=>x.1<=s.length/\x.2+(gC s x.1).length=(kW s).length/\(kW s).all zQp=(gC s x.1).all λx=>zQp x.2,λx=>s.length-x.1,⟨oM,by rw[kW,y5u];simp,by rw[kW,List.all_map];rfl⟩,?_⟩;rintro⟨p,n⟩ ⟨h1,h2,h3⟩;dsimp only at h1 h2 h3 ⊢;refine Cv.cnd.mk (λhp=> ?_) (λhp=> ?_)
 ·have hp:p<s.length:=by simpa[y8u]using hp
  have hw:=bC s hp;rw[jX hp,y5y]at h2;rw[jX hp,List.all_cons]at h3;generalize hc:(Utf8.decode (sb s) p).1=c at h2 h3 ⊢;generalize hww:(Utf8.decode (sb s) p).2=w at h2 h3 hw ⊢;dsimp only at h3;have bad:zQp c=ap->∃(o:Unit),fZ s=ap/\True:=λe=>⟨(),by rw[fZ,h3,e];rfl,trivial⟩
  refine zH (λc1=>bad ?_) (λc1=>Cv.cnd.mk (λc2=>bad ?_) (λc2=>Cv.cnd.mk (λc3=>bad ?_) (λc3=> ?_)))
  ·simp[zQp];omega
  ·have c2:(c:Int)=127:=by simpa using c2
   simp[zQp];omega
  ·have c3:(c:Int)=65533:=by simpa using c3
   simp[zQp];omega
  ·have c2:¬(c:Int)=127:=by simpa using c2
   have c3:¬(c:Int)=65533:=by simpa using c3
   have e:zQp c=aq:=by simp[zQp];omega
   refine⟨(p+w,n+1),?_,rfl,rfl,⟨hw.2,by(first|omega|(dsimp only;omega)),by rw[h3,e];rfl⟩,by(first|omega|(dsimp only;omega)),trivial⟩;rw[w64 (by omega)];rfl
 ·have hp:s.length<=p:=by have:=z6h hp;simpa using this
  rw[uN hp]at h2 h3;have h2:n=(kW s).length:=h2;have h3:(kW s).all zQp=aq:=h3;refine zH (λc=>⟨(),?_,trivial⟩) (λc=>⟨(),?_,trivial⟩)
  ·rw[fZ,h3,<- h2,y6k (show 1<=n by omega)];simp only[y8q];congr 1;simp only[eq_iff_iff];omega
  ·rw[fZ,<- h2,y6g (show ¬1<=n by omega)];simp
def yVq:labC.ok Tryz.prog 203:=okw mixed gok0 0 (λ_=>[]) (λs=>y3p s) [] Tryz.func203 y4i
def y3u (a b:Int):(a==b)=decide (a=b):=by
 by_cases h:a=b
 ·subst h;simp
 ·simp[h]
def y2q (a b:Int):(a !=b)=decide (a≠b):=by
 by_cases h:a=b
 ·subst h;simp
 ·simp[h]
def eqB (a b:List UInt8):((sb a).toList==(sb b).toList)=decide (a=b):=by
 rw[nU,nU];by_cases h:a=b
 ·subst h;simp
 ·simp[h]
def yTl:ax #[]=sb []:=rfl
def yZd (c:Cmd) (h:cmdOrdC.cnd c):yRc c:=by
 have h:c.label.length<=140737488355328:=h;unfold yRc pD zHb;simp only[yTl,eqB,y2q];have tail:¬(c.side≠1/\c.side≠2)->cnd (decide (c.time<1)) (∃(o:Unit),c.orderE=27/\True) (cnd (decide (c.time>3)) (∃(o:Unit),c.orderE=27/\True) (cnd (decide (c.qty>=1)) (cnd (!decide (c.qty<=1000000)) (∃(o:Unit),c.orderE=24/\True) (cnd (decide (c.least<0)) (∃(o:Unit),c.orderE=28/\True) (cnd (decide (c.least>c.qty)) (∃(o:Unit),c.orderE=28/\True) (cnd (!decide (c.label=[])) (∃(i:List UInt8),sb i=sb c.label/\i.length<=140737488355328/\∀(o:Unit),True->cnd (!fZ i) (∃(o:Unit),c.orderE=29/\True) (cnd (decide (c.price>=-2000000)) (cnd (!decide (c.price<=2000000)) (∃(o:Unit),c.orderE=23/\True) (cnd (decide (c.inst<0)) (∃(o:Unit),c.orderE=20/\True) (cnd (decide (c.inst>255)) (∃(o:Unit),c.orderE=20/\True) (∃(o:Unit),c.orderE=0/\True)))) (∃(o:Unit),c.orderE=23/\True))) (cnd (decide (c.price>=-2000000)) (cnd (!decide (c.price<=2000000)) (∃(o:Unit),c.orderE=23/\True) (cnd (decide (c.inst<0)) (∃(o:Unit),c.orderE=20/\True) (cnd (decide (c.inst>255)) (∃(o:Unit),c.orderE=20/\True) (∃(o:Unit),c.orderE=0/\True)))) (∃(o:Unit),c.orderE=23/\True)))))) (∃(o:Unit),c.orderE=24/\True))):=by
  intro hs;have e1:c.orderE=if c.time<1\/3<c.time then 27 else if jF c.qty=ap then 24 else if c.least<0\/c.qty<c.least then 28
   else if c.label≠[]/\fZ c.label=ap then 29 else if uJ c.price=ap then 23 else if c.inst<0\/255<c.inst then 20 else 0:=by rw[Cmd.orderE,y5t hs]
  refine zH (λd1=>⟨(),by rw[e1,y5v (.inl d1)],trivial⟩) λd1=>zH (λd2=>⟨(),by rw[e1,y5v (.inr d2)],trivial⟩) λd2=> ?_
  rw[y5t (by omega)]at e1;have q (hq:jF c.qty=ap):∃(o:Unit),c.orderE=24/\True:=⟨(),by rw[e1,y5v hq],trivial⟩
  refine zH (λd3=>Cv.cnd.mk (λd4=>q ?_) λd4=> ?_) λd3=>q ?_
  ·have d4:¬c.qty<=1000000:=by simpa using d4
   simp[jF,d4]
  ·have d4:c.qty<=1000000:=by simpa using d4
   have hq:¬jF c.qty=ap:=by simp[jF,d4];omega
   rw[y5t hq]at e1;refine zH (λd5=>⟨(),by rw[e1,y5v (.inl d5)],trivial⟩) λd5=>zH (λd6=>⟨(),by rw[e1,y5v (.inr d6)],trivial⟩) λd6=> ?_
   rw[y5t (by omega)]at e1;have last:¬(c.label≠[]/\fZ c.label=ap)->cnd (decide (c.price>=-2000000)) (cnd (!decide (c.price<=2000000)) (∃(o:Unit),c.orderE=23/\True) (cnd (decide (c.inst<0)) (∃(o:Unit),c.orderE=20/\True) (cnd (decide (c.inst>255)) (∃(o:Unit),c.orderE=20/\True) (∃(o:Unit),c.orderE=0/\True)))) (∃(o:Unit),c.orderE=23/\True):=by
    intro hl;rw[y5t hl]at e1;have pr (hq:uJ c.price=ap):∃(o:Unit),c.orderE=23/\True:=⟨(),by rw[e1,y5v hq],trivial⟩
    refine zH (λg1=>Cv.cnd.mk (λg2=>pr ?_) λg2=> ?_) λg1=>pr ?_
    ·have g2:¬c.price<=2000000:=by simpa using g2
     simp[uJ,g2]
    ·have g2:c.price<=2000000:=by simpa using g2
     have hp:¬uJ c.price=ap:=by simp[uJ,g2];omega
     rw[y5t hp]at e1;refine zH (λg3=>⟨(),by rw[e1,y5v (.inl g3)],trivial⟩) λg3=>zH (λg4=>⟨(),by rw[e1,y5v (.inr g4)],trivial⟩) λg4=>⟨(),by rw[e1,y5t (by omega)],trivial⟩
    ·simp[uJ];omega
   refine Cv.cnd.mk (λd7=>⟨c.label,rfl,h,λ_ _=>Cv.cnd.mk (λd8=> ?_) λd8=>last ?_⟩) λd7=>last ?_
   ·have d7:¬c.label=[]:=by simpa using d7
    have d8:fZ c.label=ap:=by simpa using d8
    exact⟨(),by rw[e1,y5v ⟨d7,d8⟩],trivial⟩
   ·have d8:fZ c.label=aq:=by simpa using d8
    simp[d8]
   ·have d7:c.label=[]:=by simpa using d7
    simp[d7]
  ·simp[jF];omega
 refine zH (λc1=>zH (λc2=>⟨(),by rw[Cmd.orderE,y5v ⟨c1,c2⟩],trivial⟩) λc2=>tail ?_) λc1=>tail ?_
 ·omega
 ·omega
def yMo:cmdOrdC.ok Tryz.prog 163:=okw mixed (gokc yVq gok0) 1 (λ_=>[]) (λ_=>[]) [] Tryz.func163 yZd
def ySq (c:Cmd) (h:cmdRtC.cnd c):yFu c:=by
 have h:c.label.length<=140737488355328:=h;unfold yFu;simp only[y3u,y2q];refine zH (λc1=>⟨(),by rw[Cmd.right,y5v (.inl c1)],trivial⟩) λc1=>zH (λc2=>⟨(),by rw[Cmd.right,y5v (.inr c2)],trivial⟩) λc2=> ?_
 refine zH (λc3=>⟨(),by rw[Cmd.right,y5t (by omega),y5v (.inl c3)],trivial⟩) λc3=>zH (λc4=>⟨(),by rw[Cmd.right,y5t (by omega),y5v (.inr c4)],trivial⟩) λc4=> ?_
 have e0:c.right=if c.kind=1 then c.orderE else if c.kind≠2/\jF c.qty=ap then 24 else if c.kind=4/\uJ c.price=ap then 23 else 0:=by rw[Cmd.right,y5t (by omega),y5t (by omega)]
 refine zH (λc5=>⟨c,?_⟩) λc5=> ?_
 ·rw[y5v c5]at e0;exact kp
 rw[y5t c5]at e0;have last (hn:¬(c.kind≠2/\jF c.qty=ap)):cnd (decide (c.kind=4)) (cnd (decide (c.price>=-2000000)) (cnd (!decide (c.price<=2000000)) (∃(o:Unit),c.right=23/\True) (∃(o:Unit),c.right=0/\True)) (∃(o:Unit),c.right=23/\True)) (∃(o:Unit),c.right=0/\True):=by
  rw[y5t hn]at e0;refine zH (λd1=>zH (λd2=>Cv.cnd.mk (λd3=> ?_) λd3=> ?_) λd2=> ?_) λd1=> ?_
  ·have d3:¬c.price<=2000000:=by simpa using d3
   exact⟨(),by rw[e0,y5v ⟨d1,by simp[uJ,d3]⟩],trivial⟩
  ·have d3:c.price<=2000000:=by simpa using d3
   exact⟨(),by rw[e0,y5t (by simp[uJ,d3];omega)],trivial⟩
  ·exact⟨(),by rw[e0,y5v ⟨d1,by simp[uJ];omega⟩],trivial⟩
  ·exact⟨(),by rw[e0,y5t (by simp[d1])],trivial⟩
 refine zH (λd1=>zH (λd2=>Cv.cnd.mk (λd3=> ?_) λd3=>last ?_) λd2=> ?_) λd1=>last ?_
 ·have d3:¬c.qty<=1000000:=by simpa using d3
  exact⟨(),by rw[e0,y5v ⟨d1,by simp[jF,d3]⟩],trivial⟩
 ·have d3:c.qty<=1000000:=by simpa using d3
  simp[jF,d3];omega
 ·exact⟨(),by rw[e0,y5v ⟨d1,by simp[jF];omega⟩],trivial⟩
 ·omega
def zYy:cmdRtC.ok Tryz.prog 111:=okw mixed (gokc yMo gok0) 1 (λ_=>[]) (λ_=>[]) [] Tryz.func111 ySq
def rtextC:Con:=con1 RB (λi=>[.nm 0 0]) (λi=>[RdB i]) RB.ok (λi=>sV i.text.1) (λi=>[RdB i.text.2])
structure TxB where
 l:List UInt8
 s:List UInt8
def ftextC:Con:=con1 TxB (λi=>[roV 1 (bE i.l),sV i.s]) (λ_=>[]) (λi=>i.l.length+300<=1099511627776/\i.s.length<=255) (λ_=> .own 0) (λi=>[.own tU8 1 (bE (i.l++zJt i.s))])
def r6rightC:Con:=con1 Cmd (λc=>[zFr c]) (λ_=>[]) (λc=>c.label=[]/\c.right=0) (λc=>zA 0) (λ_=>[])
def unJ:SAnn:={ι:=Unit,slots:=λ_=>[],rows:=λ_=>[]}
def yGc:List (Nat×SAnn):=[(4,bj 10),(12,bj 18),(22,unJ),(40,bj 50),(50,unJ),(68,bj 90),(76,bj 103)]
def r6encC:Con:=con1 Cmd (λc=>[zFr c]) (λ_=>[]) (λc=>c.label=[]/\c.right=0) (λc=> .tup [roV 1 (bE c.enc),zA 0]) (λ_=>[])
def cdecC:Con:=con1 (List UInt8) (λb=>[roV 1 (bE b)]) (λ_=>[]) (λb=>b.length<=1099511627776) (λb=> .tup [zFr (xO b).1,zA (xO b).2]) (λ_=>[])
def yZh:List (Nat×SAnn):=[(12,bj 19),(26,{ι:=Cmd×RB,slots:=λ_=>[(4,.nm 0 0),(5,.nm 1 0)],rows:=λx=>[RdB x.2,.cells x.1.cells 80],slots0:=λ_=>[(4,.nm 0 0),(5,.nm 1 0)],rows0:=λx=>[RdB x.2,.cells x.1.cells 80]})]
def yTt (i:RB):Prop:=
 ∃(i_1:RB),ac (List UInt8×Bool) 1 RdU (i_1.l,i_1.b)=RdB i/\i_1.l.length<=1099511627776/\∀(o:Unit),True->∃(i_2:RN),(↑i_2.n:Int)=kB (i_1.n 1).got/\ac (List UInt8×Bool) 1 RdU (i_2.l,i_2.b)=ac (List UInt8×Bool) 1 RdU ((i_1.n 1).left,(i_1.n 1).bad)/\(i_2.n<=255/\i_2.l.length<=1099511627776)/\∀(o:Unit),True->∃(b:ByteArray),dh ((1:Nat))/\bE i_2.got=qB b/\∃(o:Unit),sb ((RB.mk (i.n 1).left (i.n 1).bad).n (kB (i.n 1).got).toNat).got=b/\ac (List UInt8×Bool) 1 RdU (((RB.mk (i.n 1).left (i.n 1).bad).n (kB (i.n 1).got).toNat).left,((RB.mk (i.n 1).left (i.n 1).bad).n (kB (i.n 1).got).toNat).bad)=ac (List UInt8×Bool) 1 RdU (i_2.left,i_2.bad)/\True
def yUf (i:TxB):Prop:=
 cnd (decide ((↑(sb i.s).size:Int)>255)) (((0:Int)<=(255:Int)/\255<=(↑(sb i.s).size:Int))/\∃(i_1:WN),bE i_1.l=bE i.l/\i_1.n=(↑((sb i.s).extract 0 (Int.toNat 255)).size:Int)/\i_1.ok/\∀(o:Unit),True->((bE (i_1.l++[lob i_1.n])).length+(qB ((sb i.s).extract 0 (Int.toNat 255))).length)*(1:Nat)<=(140737488355328:Nat)/\∃(o:Unit),bE (i.l++zJt i.s)=bE (i_1.l++[lob i_1.n])++qB ((sb i.s).extract 0 (Int.toNat 255))/\True) (∃(i_1:WN),bE i_1.l=bE i.l/\i_1.n=(↑(sb i.s).size:Int)/\i_1.ok/\∀(o:Unit),True->((bE (i_1.l++[lob i_1.n])).length+(qB (sb i.s)).length)*(1:Nat)<=(140737488355328:Nat)/\∃(o:Unit),bE (i.l++zJt i.s)=bE (i_1.l++[lob i_1.n])++qB (sb i.s)/\True)
def sU (a:Cmd):Prop:=ab [V.d (dI a.kind),V.d (dI a.id),V.d (dI a.inst),V.d (dI a.side),V.d (dI a.price),V.d (dI a.qty),V.d (dI a.least),V.d (dI a.time),V.d (D.v (aw (sb a.label)))] 80=ab [V.d (dI a.kind),V.d (dI a.id),V.d (dI a.inst),V.d (dI a.side),V.d (dI a.price),V.d (dI a.qty),V.d (dI a.least),V.d (dI a.time),V.d (D.v (aw (sb a.label)))] 80
def jS (a:Bool->Prop) (b:Bool) (c:Cmd):Prop:=a b/\sU c
def tA (a:Cmd) (b:Bool->Prop):Prop:=∃(c:Bool),c=decide (a.price>2000000)/\jS b c a
def bS (a:Bool->Prop) (b:Cmd):Prop:=∃(c:Bool),c=ap/\jS a c b
def vE (a:Bool->Prop) (b:Cmd):Prop:=∃(c:Bool),c=aq/\jS a c b
def hY (a:Unit->Prop) (b:Cmd):Prop:=∃(c:Unit),a c/\sU b
def z1h (c:Cmd):Prop:=
 ∃(a:Bool),∃(b:Bool->Prop),cnd (decide (c.kind<1)) (vE b c) (∃(d:Bool),d=decide (c.kind>4)/\jS b d c)/\∀(d:Bool),b d->cnd d (∃(e:Unit),(0:Int)=(31:Int)/\True) (∃(e:Bool),∃(f:Bool->Prop),cnd (decide (c.id<1)) (vE f c) (∃(g:Bool),g=decide (c.id>1099511627776)/\jS f g c)/\∀(g:Bool),f g->cnd g (∃(h:Unit),(0:Int)=(1:Int)/\True) (∃(h:Unit),∃(j:Unit->Prop),cnd (c.kind==1) (cnd (c.side !=1) (cnd (c.side !=2) (∃(k:Unit),(0:Int)=(21:Int)/\True) (cnd (decide (c.time<1)) (∃(k:Unit),(0:Int)=(27:Int)/\True) (cnd (decide (c.time>3)) (∃(k:Unit),(0:Int)=(27:Int)/\True) (hY j c)))) (cnd (decide (c.time<1)) (∃(k:Unit),(0:Int)=(27:Int)/\True) (cnd (decide (c.time>3)) (∃(k:Unit),(0:Int)=(27:Int)/\True) (hY j c)))) (hY j c)/\∀(k:Unit),j k->∃(l:Bool),∃(m:Bool->Prop),cnd (c.kind !=2) (cnd (decide (c.qty<1)) (vE m c) (∃(n:Bool),n=decide (c.qty>1000000)/\jS m n c)) (bS m c)/\∀(n:Bool),m n->cnd n (∃(p:Unit),(0:Int)=(24:Int)/\True) (∃(p:Unit),∃(q:Unit->Prop),cnd (c.kind==1) (cnd (decide (c.least<0)) (∃(r:Unit),(0:Int)=(28:Int)/\True) (cnd (decide (c.least>c.qty)) (∃(r:Unit),(0:Int)=(28:Int)/\True) (cnd (pD c) False (hY q c)))) (hY q c)/\∀(r:Unit),q r->∃(s:Bool),∃(t:Bool->Prop),cnd (c.kind==1) (cnd (decide (c.price<(-2000000))) (vE t c) (tA c t)) (cnd (c.kind==4) (cnd (decide (c.price<(-2000000))) (vE t c) (tA c t)) (bS t c))/\∀(u:Bool),t u->cnd u (∃(v:Unit),(0:Int)=(23:Int)/\True) (∃(v:Bool),∃(w:Bool->Prop),cnd (c.kind==1) (cnd (decide (c.inst<0)) (vE w c) (∃(x:Bool),x=decide (c.inst>255)/\jS w x c)) (bS w c)/\∀(x:Bool),w x->cnd x (∃(y:Unit),(0:Int)=(20:Int)/\True) (∃(y:Unit),dh ((0:Int))/\True)))))
def zEd (a:WN) (b:Cmd):Prop:=∃(c:WN),bE c.l=bE (a.l++le a.n 8)/\c.n=b.qty/\c.ok/\∀(d:Unit),True->∃(e:Unit),bE b.enc=bE (c.l++le c.n 8)/\dh ((0:Int))/\True
def yDn (c:Cmd):Prop:=
 ∃(a:Cmd),a.kind=c.kind/\a.id=c.id/\a.inst=c.inst/\a.side=c.side/\a.price=c.price/\a.qty=c.qty/\a.least=c.least/\a.time=c.time/\sb a.label=sb c.label/\(a.label=[]/\a.right=0)/\∀(b:Unit),True->∃(d:WN),bE d.l=[]/\d.n=c.kind/\d.ok/\∀(e:Unit),True->dh c.id/\∃(f:WN),bE f.l=bE (d.l++[lob d.n])/\f.n=c.id/\f.ok/\∀(g:Unit),True->cnd (c.kind==1) (∃(h:WN),bE h.l=bE (f.l++le f.n 8)/\h.n=c.inst/\h.ok/\∀(j:Unit),True->dh c.time/\dh c.side/\∃(k:WN),bE k.l=bE (h.l++[lob h.n])/\k.n=c.side/\k.ok/\∀(l:Unit),True->dh c.time/\∃(m:WN),bE m.l=bE (k.l++[lob k.n])/\m.n=c.time/\m.ok/\∀(n:Unit),True->∃(p:WN),bE p.l=bE (m.l++[lob m.n])/\p.n=c.price/\p.ok/\∀(q:Unit),True->dh c.least/\dh c.qty/\∃(r:WN),bE r.l=bE (p.l++le p.n 8)/\r.n=c.qty/\r.ok/\∀(s:Unit),True->dh c.least/\∃(t:WN),bE t.l=bE (r.l++le r.n 8)/\t.n=c.least/\t.ok/\∀(u:Unit),True->∃(v:TxB),bE v.l=bE (t.l++le t.n 8)/\sb v.s=sb c.label/\(v.l.length+(300:Nat)<=(1099511627776:Nat)/\v.s.length<=255)/\∀(w:Unit),True->∃(x:Unit),bE c.enc=bE (v.l++zJt v.s)/\dh ((0:Int))/\True) (cnd (c.kind==3) (zEd f c) (cnd (c.kind==4) (∃(h:WN),bE h.l=bE (f.l++le f.n 8)/\h.n=c.price/\h.ok/\∀(j:Unit),True->dh c.qty/\zEd h c) (∃(h:Unit),bE c.enc=bE (f.l++le f.n 8)/\dh ((0:Int))/\True)))
def zHv:Prop:=ab (Sx.V.agg [V.d (dI 0),V.d (dI 0),V.d (dI 0),V.d (dI 0),V.d (dI 0),V.d (dI 0),V.d (dI 0),V.d (dI 0),V.d jA]).cl 80=ab (Sx.V.agg [V.d (dI 0),V.d (dI 0),V.d (dI 0),V.d (dI 0),V.d (dI 0),V.d (dI 0),V.d (dI 0),V.d (dI 0),V.d jA]).cl 80
def zQf (a:Bool->Prop) (b:Bool) (c:RB):Prop:=a b/\dh (ab [V.d (dI (kB (c.n 1).got)),V.d (dI 0),V.d (dI 0),V.d (dI 0),V.d (dI 0),V.d (dI 0),V.d (dI 0),V.d (dI 0),V.d jA] 80)/\dh (ac (List UInt8×Bool) 1 RdU ((c.n 1).left,(c.n 1).bad))/\zHv
def zIm (a:Cmd×RB->Prop) (b:Cmd×RB):Prop:=a b/\zHv
def zGw (a:Cmd×RB) (b:Cmd×RB) (c:Cmd×RB->Prop):Prop:=a.fst.least=b.fst.least/\a.fst.time=b.fst.time/\sb a.fst.label=sb b.fst.label/\zIm c a
def zIo (a:Cmd×RB) (b:RB) (c:Cmd×RB) (d:Cmd×RB->Prop):Prop:=a.fst.qty=aj.wrap (kB (b.n 8).got)/\zGw a c d
def l5 (a:RB):=((RB.mk (a.n 1).left (a.n 1).bad).n (kB (a.n 1).got).toNat)
def yRl (b:List UInt8):Prop:=
 ∃(a:List UInt8),bE a=bE b/\a.length<=1099511627776/\∀(c:Unit),True->∃(d:RB),ac (List UInt8×Bool) 1 RdU (d.l,d.b)=ac (List UInt8×Bool) 1 RdU (a,ap)/\d.l.length<=1099511627776/\∀(e:Unit),True->∃(f:Bool),∃(g:Bool->Prop),cnd (decide (kB (d.n 1).got<1)) (∃(h:Bool),h=aq/\zQf g h d) (∃(h:Bool),h=decide (kB (d.n 1).got>4)/\zQf g h d)/\∀(h:Bool),g h->cnd h (∃(j:Unit),(xO b).fst.kind=0/\(xO b).fst.id=0/\(xO b).fst.inst=0/\(xO b).fst.side=0/\(xO b).fst.price=0/\(xO b).fst.qty=0/\(xO b).fst.least=0/\(xO b).fst.time=0/\sb (xO b).fst.label=ax #[]/\(xO b).snd=31/\True) (∃(j:RB),ac (List UInt8×Bool) 1 RdU (j.l,j.b)=ac (List UInt8×Bool) 1 RdU ((d.n 1).left,(d.n 1).bad)/\j.l.length<=1099511627776/\∀(k:Unit),True->∃(l:Cmd×RB),ac (List UInt8×Bool) 1 RdU (l.snd.l,l.snd.b)=ac (List UInt8×Bool) 1 RdU ((j.n 8).left,(j.n 8).bad)/\l.fst.kind=kB (d.n 1).got/\l.fst.id=aj.wrap (kB (j.n 8).got)/\l.fst.inst=0/\l.fst.side=0/\l.fst.price=0/\l.fst.qty=0/\l.fst.least=0/\l.fst.time=0/\sb l.fst.label=ax #[]/\∃(m:Cmd×RB->Prop),cnd (l.fst.kind==1) (∃(n:RB),ac (List UInt8×Bool) 1 RdU (n.l,n.b)=ac (List UInt8×Bool) 1 RdU (l.snd.l,l.snd.b)/\n.l.length<=1099511627776/\∀(p:Unit),True->∃(q:RB),ac (List UInt8×Bool) 1 RdU (q.l,q.b)=ac (List UInt8×Bool) 1 RdU ((n.n 1).left,(n.n 1).bad)/\q.l.length<=1099511627776/\∀(r:Unit),True->∃(s:RB),ac (List UInt8×Bool) 1 RdU (s.l,s.b)=ac (List UInt8×Bool) 1 RdU ((q.n 1).left,(q.n 1).bad)/\s.l.length<=1099511627776/\∀(t:Unit),True->∃(u:RB),ac (List UInt8×Bool) 1 RdU (u.l,u.b)=ac (List UInt8×Bool) 1 RdU ((s.n 1).left,(s.n 1).bad)/\u.l.length<=1099511627776/\∀(v:Unit),True->∃(w:RB),ac (List UInt8×Bool) 1 RdU (w.l,w.b)=ac (List UInt8×Bool) 1 RdU ((u.n 8).left,(u.n 8).bad)/\w.l.length<=1099511627776/\∀(x:Unit),True->∃(y:RB),ac (List UInt8×Bool) 1 RdU (y.l,y.b)=ac (List UInt8×Bool) 1 RdU ((w.n 8).left,(w.n 8).bad)/\y.l.length<=1099511627776/\∀(z:Unit),True->∃(a_1:RB),ac (List UInt8×Bool) 1 RdU (a_1.l,a_1.b)=ac (List UInt8×Bool) 1 RdU ((y.n 8).left,(y.n 8).bad)/\a_1.ok/\∀(a_2:Unit),True->∃(a_3:Cmd×RB),ac (List UInt8×Bool) 1 RdU (a_3.snd.l,a_3.snd.b)=ac (List UInt8×Bool) 1 RdU ((l5 a_1).left,(l5 a_1).bad)/\a_3.fst.kind=l.fst.kind/\a_3.fst.id=l.fst.id/\a_3.fst.inst=kB (n.n 1).got/\a_3.fst.side=kB (q.n 1).got/\a_3.fst.price=aj.wrap (kB (u.n 8).got)/\a_3.fst.qty=aj.wrap (kB (w.n 8).got)/\a_3.fst.least=aj.wrap (kB (y.n 8).got)/\a_3.fst.time=kB (s.n 1).got/\sb a_3.fst.label=sb (l5 a_1).got/\zIm m a_3) (cnd (l.fst.kind==3) (∃(n:RB),ac (List UInt8×Bool) 1 RdU (n.l,n.b)=ac (List UInt8×Bool) 1 RdU (l.snd.l,l.snd.b)/\n.l.length<=1099511627776/\∀(p:Unit),True->∃(q:Cmd×RB),ac (List UInt8×Bool) 1 RdU (q.snd.l,q.snd.b)=ac (List UInt8×Bool) 1 RdU ((n.n 8).left,(n.n 8).bad)/\q.fst.kind=l.fst.kind/\q.fst.id=l.fst.id/\q.fst.inst=l.fst.inst/\q.fst.side=l.fst.side/\q.fst.price=l.fst.price/\zIo q n l m) (cnd (l.fst.kind==4) (∃(n:RB),ac (List UInt8×Bool) 1 RdU (n.l,n.b)=ac (List UInt8×Bool) 1 RdU (l.snd.l,l.snd.b)/\n.l.length<=1099511627776/\∀(p:Unit),True->∃(q:RB),ac (List UInt8×Bool) 1 RdU (q.l,q.b)=ac (List UInt8×Bool) 1 RdU ((n.n 8).left,(n.n 8).bad)/\q.l.length<=1099511627776/\∀(r:Unit),True->∃(s:Cmd×RB),ac (List UInt8×Bool) 1 RdU (s.snd.l,s.snd.b)=ac (List UInt8×Bool) 1 RdU ((q.n 8).left,(q.n 8).bad)/\s.fst.kind=l.fst.kind/\s.fst.id=l.fst.id/\s.fst.inst=l.fst.inst/\s.fst.side=l.fst.side/\s.fst.price=aj.wrap (kB (n.n 8).got)/\zIo s q l m) (∃(n:Cmd×RB),ac (List UInt8×Bool) 1 RdU (n.snd.l,n.snd.b)=ac (List UInt8×Bool) 1 RdU (l.snd.l,l.snd.b)/\n.fst.kind=l.fst.kind/\n.fst.id=l.fst.id/\n.fst.inst=l.fst.inst/\n.fst.side=l.fst.side/\n.fst.price=l.fst.price/\n.fst.qty=l.fst.qty/\zGw n l m)))/\∀(n:Cmd×RB),m n->∃(p:RB),ac (List UInt8×Bool) 1 RdU (p.l,p.b)=ac (List UInt8×Bool) 1 RdU (n.snd.l,n.snd.b)/\p.l.length<=1099511627776/\∀(q:Unit),True->cnd ((if p.b=aq then(10:Int)else if 0<p.l.length then(15:Int)else(0:Int)) !=0) (∃(r:Unit),(xO b).fst.kind=0/\(xO b).fst.id=0/\(xO b).fst.inst=0/\(xO b).fst.side=0/\(xO b).fst.price=0/\(xO b).fst.qty=0/\(xO b).fst.least=0/\(xO b).fst.time=0/\sb (xO b).fst.label=ax #[]/\(xO b).snd=12/\True) (∃(r:Cmd),r.kind=n.fst.kind/\r.id=n.fst.id/\r.inst=n.fst.inst/\r.side=n.fst.side/\r.price=n.fst.price/\r.qty=n.fst.qty/\r.least=n.fst.least/\r.time=n.fst.time/\sb r.label=sb n.fst.label/\r.label.length<=140737488355328/\∀(s:Unit),True->cnd (r.right !=0) (∃(t:Unit),(xO b).fst.kind=0/\(xO b).fst.id=0/\(xO b).fst.inst=0/\(xO b).fst.side=0/\(xO b).fst.price=0/\(xO b).fst.qty=0/\(xO b).fst.least=0/\(xO b).fst.time=0/\sb (xO b).fst.label=ax #[]/\(xO b).snd=r.right/\True) (∃(t:Unit),(xO b).fst.kind=n.fst.kind/\(xO b).fst.id=n.fst.id/\(xO b).fst.inst=n.fst.inst/\(xO b).fst.side=n.fst.side/\(xO b).fst.price=n.fst.price/\(xO b).fst.qty=n.fst.qty/\(xO b).fst.least=n.fst.least/\(xO b).fst.time=n.fst.time/\sb (xO b).fst.label=sb n.fst.label/\(xO b).snd=0/\True)))
def z1n (r:RB):0<=r.byte.1/\r.byte.1<=255:=by
 have h:=mX (r.n 1).got;have hl:(r.n 1).got.length<=1:=zLr (r.n 1);show 0<=kB (r.n 1).got/\kB (r.n 1).got<=255;obtain e|e:(r.n 1).got.length=0\/(r.n 1).got.length=1:=by omega
 ·rw[e]at h;omega
 ·rw[e]at h;omega
def yLw {r:RB} (h:r.ok):r.text.2.ok:=y8p (lT _) (y8p (lT _) h)
def yIt:rtextC.ok Tryz.prog 187:=okw (V:=yTt) mixed (gokc z1c (gokc z8t gok0)) 0 (λ_=>[]) (λ_=>[]) [] Tryz.func187 λ(i:RB) h=>by
 have h:i.l.length<=1099511627776:=h;have hb:=z1n i;exact⟨i,rfl,h,λ_ _=>⟨⟨(i.n 1).left,(i.n 1).bad,i.byte.1.toNat⟩,by dsimp only;exact Int.toNat_of_nonneg hb.1,rfl,⟨Z9,y8p (lT _) h⟩,λ_ _=>⟨_,rfl,hJ _,(),rfl,rfl,trivial⟩⟩⟩
def yEa:ftextC.ok Tryz.prog 144:=okw (V:=yUf) mixed (gokc z1p gok0) 0 (λ_=>[]) (λ_=>[]) [] Tryz.func144 λ(i:TxB) h=>by
 obtain⟨l,s⟩:=i;obtain⟨h,hl⟩:l.length+300<=1099511627776/\s.length<=255:=h;have hs:(sb s).size=s.length:=zLm s;refine zH (λe=> ?_) (λe=> ?_)
 ·have e:((sb s).size:Int)>255:=e;omega
 ·have et:s.take 255=s:=y6f oM;refine⟨⟨l,s.length⟩,rfl,by dsimp only;rw[hs],by dsimp only[WN.ok];omega,λ_ _=>⟨?_,(),?_,trivial⟩⟩
  ·dsimp only;rw[zRn,yQ,yQ,y5s];simp[sb];omega
  ·dsimp only;rw[zRn,<- zIq,zJt,et];simp[sb]
def yEr (c:Cmd) (h:r6rightC.cnd c):z1h c:=by
 obtain⟨hl,hr⟩:c.label=[]/\c.right=0:=h;obtain⟨hk,hi,hq,hp,ho⟩:=zTy hr;unfold z1h hY vE bS tA jS sU pD dI;refine⟨ap,λb=>b=ap,zH (λe=>absurd e oM) (λ_=>⟨_,rfl,y6g oM,k0q⟩),?_⟩;rintro _ rfl;refine Cv.cnd.mk (λe=>absurd e Z8) (λ_=> ?_);refine⟨ap,λb=>b=ap,zH (λe=>absurd e oM) (λ_=>⟨_,rfl,y6g oM,k0q⟩),?_⟩;rintro _ rfl;refine Cv.cnd.mk (λe=>absurd e Z8) (λ_=> ?_);refine⟨(),λ_=>True,Cv.cnd.mk (λe=> ?_) (λ_=>⟨(),trivial,k0q⟩),λ_ _=> ?_⟩
 ·obtain⟨s1,s2,s3,s4,s5⟩:=ho (by simpa using e);refine Cv.cnd.mk (λe1=>Cv.cnd.mk (λe2=> ?_) (λ_=> ?_)) (λ_=> ?_)
  ·have e1:c.side≠1:=by simpa using e1
   have e2:c.side≠2:=by simpa using e2
   omega
  all_goals exact zH (λe=>absurd e oM) (λ_=>zH (λe=>absurd e oM) (λ_=>⟨(),trivial,k0q⟩))
 refine⟨ap,λb=>b=ap,Cv.cnd.mk (λe=> ?_) (λ_=>⟨_,rfl,rfl,k0q⟩),?_⟩
 ·have hq:=hq (by simpa using e);exact zH (λe=>absurd e oM) (λ_=>⟨_,rfl,y6g oM,k0q⟩)
 rintro _ rfl;refine Cv.cnd.mk (λe=>absurd e Z8) (λ_=> ?_);refine⟨(),λ_=>True,Cv.cnd.mk (λe=> ?_) (λ_=>⟨(),trivial,k0q⟩),λ_ _=> ?_⟩
 ·obtain⟨s1,s2,s3,s4,s5⟩:=ho (by simpa using e);refine zH (λe=>absurd e oM) (λ_=>zH (λe=>absurd e oM) (λ_=>Cv.cnd.mk (λe=> ?_) (λ_=>⟨(),trivial,k0q⟩)));rw[hl]at e;exact absurd e (by decide+kernel)
 have hpr:∀{Q:Prop},Q->(c.kind=1\/c.kind=4)->cnd (decide (c.price< -2000000)) (∃i':Bool,i'=aq/\i'=ap/\Q) (∃i':Bool,i'=decide (c.price>2000000)/\i'=ap/\Q):=λhQ hk=>by
  have:=hp hk;exact zH (λe=>absurd e oM) (λ_=>⟨_,rfl,y6g oM,hQ⟩)
 refine⟨ap,λb=>b=ap,Cv.cnd.mk (λe=>hpr (k0q) (.inl (by simpa using e))) (λ_=>Cv.cnd.mk (λe=>hpr (k0q) (.inr (by simpa using e))) (λ_=>⟨_,rfl,rfl,k0q⟩)),?_⟩;rintro _ rfl;refine Cv.cnd.mk (λe=>absurd e Z8) (λ_=> ?_);refine⟨ap,λb=>b=ap,Cv.cnd.mk (λe=> ?_) (λ_=>⟨_,rfl,rfl,k0q⟩),?_⟩
 ·obtain⟨s1,s2,s3,s4,s5⟩:=ho (by simpa using e);exact zH (λe=>absurd e oM) (λ_=>⟨_,rfl,y6g oM,k0q⟩)
 rintro _ rfl;exact Cv.cnd.mk (λe=>absurd e Z8) (λ_=>⟨(),rfl,trivial⟩)
def z2k:r6rightC.ok Tryz.prog 142:=okw mixed gok0 0 (λ_=>yGc) (λ_=>[]) [] Tryz.func142 yEr
def yXf (c:Cmd) (h:r6encC.cnd c):yDn c:=by
 obtain⟨hl,hr⟩:c.label=[]/\c.right=0:=h;have he:c.enc=lob c.kind::(le c.id 8++c.tail):=by rw[Cmd.enc,y5t (by simp[hr])]
 unfold yDn zEd;refine⟨c,rF8 ⟨rfl,⟨hl,hr⟩,λ_ _=>⟨⟨[],c.kind⟩,rfl,rfl,by simp[WN.ok],λ_ _=>⟨rfl,⟨[lob c.kind],c.id⟩,rfl,rfl,by simp[WN.ok],λ_ _=> ?_⟩⟩⟩⟩;dsimp only;refine Cv.cnd.mk (λe=> ?_) (λe=>Cv.cnd.mk (λe3=> ?_) (λe3=>Cv.cnd.mk (λe4=> ?_) (λe4=> ?_)))
 ·have e:c.kind=1:=by simpa using e
  have ht:c.tail=lob c.inst::lob c.side::lob c.time::(le c.price 8++(le c.qty 8++(le c.least 8++zJt c.label))):=by rw[Cmd.tail,y5v e]
  refine⟨⟨[lob c.kind]++le c.id 8,c.inst⟩,rfl,rfl,by simp[WN.ok,qM],λ_ _=>⟨rfl,rfl,⟨_,c.side⟩,rfl,rfl,by simp[WN.ok,qM],λ_ _=>⟨rfl,⟨_,c.time⟩,rfl,rfl,by simp[WN.ok,qM],λ_ _=>⟨⟨_,c.price⟩,rfl,rfl,by simp[WN.ok,qM],λ_ _=>⟨rfl,rfl,⟨_,c.qty⟩,rfl,rfl,by simp[WN.ok,qM],λ_ _=>⟨rfl,⟨_,c.least⟩,rfl,rfl,by simp[WN.ok,qM],λ_ _=>⟨⟨_,c.label⟩,rfl,rfl,⟨by simp[qM],by show c.label.length<=255;rw[hl];decide⟩,λ_ _=>⟨(),?_,rfl,trivial⟩⟩⟩⟩⟩⟩⟩⟩;dsimp only;rw[he,ht];simp
 ·have e3:c.kind=3:=by simpa using e3
  have ht:c.tail=le c.qty 8:=by rw[Cmd.tail,y5t (by omega),y5v e3]
  refine⟨⟨[lob c.kind]++le c.id 8,c.qty⟩,rfl,rfl,by simp[WN.ok,qM],λ_ _=>⟨(),?_,rfl,trivial⟩⟩;dsimp only;rw[he,ht];simp
 ·have e4:c.kind=4:=by simpa using e4
  have ht:c.tail=le c.price 8++le c.qty 8:=by rw[Cmd.tail,y5t (by omega),y5t (by omega),y5v e4]
  refine⟨⟨[lob c.kind]++le c.id 8,c.price⟩,rfl,rfl,by simp[WN.ok,qM],λ_ _=>⟨rfl,⟨_,c.qty⟩,rfl,rfl,by simp[WN.ok,qM],λ_ _=>⟨(),?_,rfl,trivial⟩⟩⟩;dsimp only;rw[he,ht];simp
 ·have e:¬c.kind=1:=by simpa using e
  have e3:¬c.kind=3:=by simpa using e3
  have e4:¬c.kind=4:=by simpa using e4
  have ht:c.tail=[]:=by rw[Cmd.tail,y5t e,y5t e3,y5t e4]
  refine⟨(),?_,rfl,trivial⟩;rw[he,ht];simp
def zWy:r6encC.ok Tryz.prog 95:=okw mixed (gokc z2k (gokc z1p (gokc yHj (gokc yEa gok0)))) 0 (λ_=>[]) (λ_=>[]) [] Tryz.func95 yXf
def yQk {k id:Int} {r:RB} (h:r.ok):(qH k id r).2.ok/\(qH k id r).1.label.length<=255:=by
 rw[qH];split
 ·have h6:=gT (gT (gT (nF (nF (nF h)))));refine⟨yLw h6,?_⟩;show(RB.text (r.byte.2.byte.2.byte.2.long.2.long.2.long.2)).1.length<=255;generalize r.byte.2.byte.2.byte.2.long.2.long.2.long.2=q;have:=z1n q;have:(q.text.1).length<=q.byte.1.toNat:=zLr _;omega
 split
 ·exact⟨gT h,y6z _⟩
 split
 ·exact⟨gT (gT h),y6z _⟩
 ·exact⟨h,y6z _⟩
def y3b (b:List UInt8) (h:cdecC.cnd b):yRl b:=by
 have h:b.length<=1099511627776:=h;obtain⟨r0,hr⟩:∃r0,r0=RB.mk b ap:=⟨_,rfl⟩
 have hr0:r0.ok:=by rw[hr];exact h
 have hk2:=nF hr0;have hk3:=gT hk2;have hdec:xO b=if r0.byte.1<1\/4<r0.byte.1 then(zXl,31)else if(qH r0.byte.1 r0.byte.2.long.1 r0.byte.2.long.2).2.endOf≠0 then(zXl,12)else if(qH r0.byte.1 r0.byte.2.long.1 r0.byte.2.long.2).1.right≠0 then(zXl,(qH r0.byte.1 r0.byte.2.long.1 r0.byte.2.long.2).1.right)else((qH r0.byte.1 r0.byte.2.long.1 r0.byte.2.long.2).1,0):=by
  rw[hr];rfl
 unfold yRl zQf l5 zIo zGw zIm zHv jA dI;generalize xO b=X at hdec ⊢;refine⟨b,rfl,h,λ_ _=>⟨r0,by rw[hr],hr0,λ_ _=>⟨aq,λx=>x=decide (r0.byte.1<1\/4<r0.byte.1),zH (λe=>⟨aq,rfl,(y6k (.inl e)).symm,k0q⟩) (λe=>⟨_,rfl,decide_eq_decide.2 ⟨.inr,λx=>x.resolve_left e⟩,k0q⟩),?_⟩⟩⟩;rintro _ rfl;refine zH (λe=> ?_) (λe=> ?_)
 ·rw[hdec,y5v e];exact⟨(),rF7 (rF3 trivial)⟩
 rw[y5t e]at hdec;generalize hk:r0.byte.1=k at hdec;refine⟨r0.byte.2,rfl,hk2,λ_ _=>⟨(⟨r0.byte.1,r0.byte.2.long.1,0,0,0,0,0,0,[]⟩,r0.byte.2.long.2),rF6 (rF3 ⟨rfl,λx=>x=qH r0.byte.1 r0.byte.2.long.1 r0.byte.2.long.2,?_,?_⟩)⟩⟩
 ·generalize r0.byte.2.long.2=r2 at*;generalize r0.byte.2.long.1=id at*;rw[hk];refine Cv.cnd.mk (λe=> ?_) (λe1=>Cv.cnd.mk (λe=> ?_) (λe3=>Cv.cnd.mk (λe=> ?_) (λe4=> ?_)))
  ·have e:k=1:=by simpa using e
   have h1:=nF hk3;have h2:=nF h1;have h3:=nF h2;have h4:=gT h3;have h5:=gT h4;have h6:=gT h5;exact⟨r2,rfl,hk3,λ_ _=>⟨_,rfl,h1,λ_ _=>⟨_,rfl,h2,λ_ _=>⟨_,rfl,h3,λ_ _=>⟨_,rfl,h4,λ_ _=>⟨_,rfl,h5,λ_ _=>⟨_,rfl,h6,λ_ _=>⟨qH k id r2,by rw[qH,y5v e];rfl,by rw[qH,y5v e],by rw[qH,y5v e],by rw[qH,y5v e];rfl,by rw[qH,y5v e];rfl,by rw[qH,y5v e];rfl,by rw[qH,y5v e];rfl,by rw[qH,y5v e];rfl,by rw[qH,y5v e];rfl,by rw[qH,y5v e];rfl,rfl,k0q⟩⟩⟩⟩⟩⟩⟩⟩
  ·have e1:¬k=1:=by simpa using e1
   have e:k=3:=by simpa using e
   have hd:qH k id r2=(⟨k,id,0,0,0,r2.long.1,0,0,[]⟩,r2.long.2):=by rw[qH,y5t e1,y5v e]
   exact⟨r2,rfl,hk3,λ_ _=>⟨(⟨k,id,0,0,0,r2.long.1,0,0,[]⟩,r2.long.2),rF6 (rF3 ⟨rfl,hd.symm,k0q⟩)⟩⟩
  ·have e1:¬k=1:=by simpa using e1
   have e3:¬k=3:=by simpa using e3
   have e:k=4:=by simpa using e
   have hd:qH k id r2=(⟨k,id,0,0,r2.long.1,r2.long.2.long.1,0,0,[]⟩,r2.long.2.long.2):=by rw[qH,y5t e1,y5t e3,y5v e]
   exact⟨r2,rfl,hk3,λ_ _=>⟨_,rfl,gT hk3,λ_ _=>⟨(⟨k,id,0,0,r2.long.1,r2.long.2.long.1,0,0,[]⟩,r2.long.2.long.2),rF6 (rF3 ⟨rfl,hd.symm,k0q⟩)⟩⟩⟩
  ·have e1:¬k=1:=by simpa using e1
   have e3:¬k=3:=by simpa using e3
   have e4:¬k=4:=by simpa using e4
   have hd:qH k id r2=(⟨k,id,0,0,0,0,0,0,[]⟩,r2):=by rw[qH,y5t e1,y5t e3,y5t e4]
   exact⟨(⟨k,id,0,0,0,0,0,0,[]⟩,r2),rF6 (rF3 ⟨rfl,hd.symm,k0q⟩)⟩
 ·rintro x hx;obtain⟨o1,o2⟩:=yQk (k:=r0.byte.1) (id:=r0.byte.2.long.1) hk3;rw[<- hx]at o1 o2;rw[<- hk,<- hx]at hdec;obtain⟨c,q⟩:=x;refine⟨q,rfl,o1,λ_ _=>Cv.cnd.mk (λe=> ?_) (λe=>⟨c,rF8 ⟨rfl,y8p o2 Z8,λ_ _=>Cv.cnd.mk (λe2=> ?_) (λe2=> ?_)⟩⟩)⟩
  ·have e:q.endOf≠0:=by simpa[RB.endOf]using e
   rw[hdec,y5v e];exact⟨(),rF7 (rF3 trivial)⟩
  ·have e:¬q.endOf≠0:=by simpa[RB.endOf]using e
   have e2:c.right≠0:=by simpa using e2
   rw[hdec,y5t e,y5v e2];exact⟨(),rF7 (rF3 trivial)⟩
  ·have e:¬q.endOf≠0:=by simpa[RB.endOf]using e
   have e2:¬c.right≠0:=by simpa using e2
   rw[hdec,y5t e,y5t e2];exact⟨(),rF7 (rF3 trivial)⟩
def yOc:cdecC.ok Tryz.prog 147:=okw mixed (gokc z6e (gokc z1c (gokc yFn (gokc yIt (gokc yPq (gokc zYy gok0)))))) 0 (λ_=>yZh) (λ_=>[]) [] Tryz.func147 y3b
structure SoI where
 s:MSt
 p:Prd
 B:List (List zI)
 inst:Int
 sd:Bool
@[reducible] def SoI.ok (i:SoI):Prop:=i.s.Rep i.p i.B/\i.B.length<=1000
def atB (B:List (List zI)) (inst:Int):List zI:=if inst<0 then[]else B.getD inst.toNat []
def sladC:Con:=con1 SoI (λi=>[.nm 0 0,zA i.inst,zA (zC i.sd)]) (λi=>[zD i.s]) (λi=>i.ok) (λ_=> .own 1) (λi=>[zD i.s,.own 41 3 ((gR (atB i.B i.inst) (zC i.sd)).map lvE)])
def aG (a:SoI):=(gR (atB a.B a.inst) (zC a.sd))
def zHh (a:SoI):Prop:=∃(b:Unit),dh (sb a.s.p.code)/\dh a.s.p.tick/\dh a.s.p.low/\dh a.s.p.high/\dh a.s.p.wide/\dh a.s.p.rule/\dh a.s.p.top/\dh a.s.p.least/\dh a.s.p.part/\dh (ae 241 Book 6 zP a.s.books av)/\dh (yS a.s.wh)/\dh (aa 1 (iE a.s.p.months))/\dh (aa 1 (iE a.s.p.settle))/\ao lvE (aG a)=[]/\True
def yQq (i:SoI):Prop:=
 cnd (decide (i.inst>=0)) (cnd (!decide (i.inst<(↑i.s.books.length:Int))) (zHh i) ((0<=i.inst/\i.inst<(↑i.s.books.length:Int))/\i.inst.toNat<i.s.books.length/\∃(a:Book),i.s.books[i.inst.toNat]?=au a/\∃(b:BkT),zC b.s=zC i.sd/\z7 b.b=z7 a/\b.b.Rep b.L/\∀(c:Unit),True->∃(d:Book),z7 b.b=z7 d/\dh i.inst.toNat/\i.inst.toNat<i.s.books.length/\∃(e:Unit),dh (sb i.s.p.code)/\dh i.s.p.tick/\dh i.s.p.low/\dh i.s.p.high/\dh i.s.p.wide/\dh i.s.p.rule/\dh i.s.p.top/\dh i.s.p.least/\dh i.s.p.part/\ae 241 Book 6 zP i.s.books av=ae 241 Book 6 zP (i.s.books.set i.inst.toNat d) av/\dh (yS i.s.wh)/\dh (aa 1 (iE i.s.p.months))/\dh (aa 1 (iE i.s.p.settle))/\ao lvE (aG i)=ao lvE (gR b.L (zC b.s))/\True)) (zHh i)
def yNm {B:List (List zI)} {inst:Int} {L:List zI} (h0:0<=inst) (hL:B[inst.toNat]? =au L):atB B inst=L:=by
 rw[atB,y5t (by omega),zT hL]
def yNg {B:List (List zI)} {inst:Int} (h:inst<0\/(B.length:Int)<=inst):atB B inst=[]:=by
 rw[atB];split
 ·rfl
 ·rw[y6c,y7a (by omega)];rfl
def yYy (i:SoI) (h:sladC.cnd i):yQq i:=by
 obtain⟨hR,hB⟩:i.s.Rep i.p i.B/\i.B.length<=1000:=h;have hbl:=hR.bl;have out (hx:i.inst<0\/(i.B.length:Int)<=i.inst):ao lvE (gR (atB i.B i.inst) (zC i.sd))=[]:=by
  rw[yNg hx];rfl
 unfold yQq zHh aG;refine zH (λc=>Cv.cnd.mk (λd=> ?_) (λd=> ?_)) (λc=> ?_)
 ·have d:¬i.inst<(i.s.books.length:Int):=by simpa using d
  rw[out (.inr (by omega))];exact⟨(),k0q⟩
 ·have d:i.inst<(i.s.books.length:Int):=by simpa using d
  obtain⟨b,hb⟩:=yA (l:=i.s.books) (i:=i.inst.toNat) oM;obtain⟨L,hL⟩:=yA (l:=i.B) (i:=i.inst.toNat) oM;refine⟨⟨c,d⟩,oM,b,hb,⟨b,L,i.sd⟩,rfl,rfl,hR.bk _ b L hb hL,λ_ _=>⟨b,rfl,rfl,oM,?_⟩⟩;rw[hP hb,yNm c hL];exact⟨(),k0q⟩
 ·rw[out (.inl (by omega))];exact⟨(),k0q⟩
def yMm:sladC.ok Tryz.prog 107:=okw mixed (gokc yWv gok0) 1 (λ_=>[]) (λ_=>[]) [0] Tryz.func107 yYy
def zYh (s:Int) (F:List zI):Prop:=F.Pairwise λo o'=>btr s o'.price o.price=ap
def eO (L:List zI) (s:Int):List zI:=L.filter λo=>decide (o.side=s)
structure BWf (p:Prd) (B:List (List zI)):Prop where
 ok:BOk p B
 od:yOv B
 ub:((whL 0 B).map (·.1)).Nodup
 srt:∀(k:Nat) (L:List zI),B[k]? =au L->∀s,s=1\/s=2->zYh s (eO L s)
def z1o {s:Int} {b:Book} {Q:List (List Nat)}:∀{R:List xN},(R.Pairwise λr r'=>btr s r.price r'.price=aq)->zYh s (R.flatMap (b.rOrds Q s))
 |[],_=>List.Pairwise.nil
 |r::R,h=>by
  rw[y9n]at h;rw[y7o,zYh,List.pairwise_append];refine⟨List.pairwise_of_forall_mem_list λo ho o' ho'=> ?_,z1o h.2,λo ho o' ho'=> ?_⟩
  ·rw[(qK ho).2,(qK ho').2];exact zAu _ _
  ·obtain⟨r',hr',ho'⟩:=y8n.1 ho';rw[(qK ho).2,(qK ho').2];exact z0p (h.1 r' hr')
def Book.Rep.srt {b:Book} {L:List zI} (h:b.Rep L) {s:Int} (hs:s=1\/s=2):zYh s (eO L s):=by
 obtain⟨Q,c,ht,rfl⟩:=h;rw[eO,zRm hs];exact z1o (c.srt s hs)
def MSt.Rep.wf {s:MSt} {p:Prd} {B:List (List zI)} (h:s.Rep p B) (hb:BOk p B):BWf p B:=by
 refine⟨hb,h.ords,h.ids,λk L hL=> ?_⟩;obtain⟨b,hb⟩:=yA (l:=s.books) (i:=k) (by rw[h.bl];exact(y5x.1 hL).1);exactλs hs=>(h.bk k b L hb hL).srt hs
def yJg {L:List zI} (h:∀o∈L,zQb o) (hn:(L.map (·.id)).Nodup) (id q:Int):∀o∈(x7 L id q).1,zQb o:=by
 intro o ho;rw[x7]at ho;split at ho
 ·exact h o ho
 split at ho
 ·exact h o ho
 rename_i hb;obtain⟨o',ho',e⟩:=xBa.1 ho;have h0:=h o' ho';split at e
 ·rename_i e1;have hg:=sN hn ho';rw[e1]at hg;rw[hg]at hb;split at e
  ·cases e
  ·rename_i e2;cases e;have:=h0.q;exact⟨h0.s,Z9⟩
 ·cases e;exact h0
def yKz (L:List zI) (id q:Int):(x7 L id q).1.length<=L.length:=by
 rw[x7];split
 ·exact y6p _
 split
 ·exact y6p _
 exact List.length_filterMap_le _ _
def yEz {L:List zI} {s:Int} (h:zYh s (eO L s)) (id q:Int):zYh s (eO (x7 L id q).1 s):=by
 rw[x7];split
 ·exact h
 split
 ·exact h
 have e:eO (gB L id q) s=gB (eO L s) id q:=by
  rw[eO,eO,gB,gB,List.filter_filterMap,List.filterMap_filter];refine mW λo _=> ?_
  by_cases e1:o.id=id
  ·rw[y5v e1];by_cases e2:o.qty=q
   ·rw[y5v e2];simp
   ·rw[y5t e2];by_cases e3:o.side=s<;>simp[Option.filter,e3]
  ·rw[y5t e1];by_cases e3:o.side=s<;>simp[Option.filter,e3]
 rw[e,gB];refine List.Pairwise.filterMap _ (λa a' haa b hb b' hb'=> ?_) h;have g:∀{a b:zI},(if a.id=id then(if a.qty=q then av else au {a with qty:=a.qty-q})else au a)=au b->b.price=a.price:=by
  intro a b e;split at e
  ·split at e
   ·cases e
   ·cases e;rfl
  ·cases e;rfl
 rw[g hb,g hb'];exact haa
def yMp {B:List (List zI)} (h:((whL 0 B).map (·.1)).Nodup) {k:Nat} {L L':List zI} (hL:B[k]? =au L) (hs:(L'.map (·.id)).Sublist (L.map (·.id))):((whL 0 (B.set k L')).map (·.1)).Nodup:=by
 have hk:=(y5x.1 hL).1;obtain⟨rest,hr⟩:=zLe (B:=B) 0 k hk;have h0:=hr L;rw[hP hL]at h0;have h1:=(h0.map (·.1)).nodup_iff.1 h
 refine((hr L').map (·.1)).nodup_iff.2 ?_
 rw[y6d,y8i]at h1 ⊢;exact h1.sublist (List.Sublist.append hs (List.Sublist.refl _))
def BWf.take {p:Prd} {B:List (List zI)} (h:BWf p B) (id q:Int):BWf p (kO B id q).1:=by
 refine⟨h.ok.take id q,?_,?_,?_⟩
 all_goals
  rw[kO];cases hi:mJ B id with
  |none=>first|exact h.od|exact h.ub|exact h.srt
  |some k=>
   obtain⟨L,hL,hh⟩:=gZ hi;have ho:=h.od k L hL;dsimp only;rw[zT hL]
   first
   |(intro j M hM
     rcases bX hM with⟨rfl,rfl⟩|⟨_,hM⟩
     ·refine⟨yJg ho.1 ho.2.1 id q,?_,y8p (yKz L id q) ho.2.2⟩;rcases zOf ho.2.1 id q with⟨e,_⟩|⟨e,_⟩
      ·rw[e];exact ho.2.1
      ·rw[e];exact ho.2.1.sublist (List.Sublist.map _ xBn)
     ·exact h.od j M hM)
   |(refine yMp h.ub hL ?_
     rcases zOf ho.2.1 id q with⟨e,_⟩|⟨e,_⟩
     ·rw[e];exact List.Sublist.refl _
     ·rw[e];exact List.Sublist.map _ xBn)
   |(intro j M hM s hs
     rcases bX hM with⟨rfl,rfl⟩|⟨_,hM⟩
     ·exact yEz (h.srt _ L hL s hs) id q
     ·exact h.srt j M hM s hs)
def BWf.takes {p:Prd}:∀{fs:List c9} {B:List (List zI)},BWf p B->BWf p (kU B fs)
 |[],B,h=>h
 |f::fs,B,h=>BWf.takes (fs:=fs) (h.take f.id f.qty)
def zRp {p:Prd} {B:List (List zI)} (h:BWf p B) {inst:Int} {sd:Bool} {price q:Int} {t:j7} {B':List (List zI)} (e:aP p B inst sd price q=au (t,B')):BWf p B'/\B'.length=B.length:=by
 rw[aP]at e;dsimp only at e;split at e
 ·split at e
  ·cases e;exact⟨h.takes.takes,by rw[uR,uR]⟩
  ·cases e;exact⟨h.takes,by rw[uR]⟩
 ·cases e
def rG {p:Prd} {inst:Int} {sd:Bool} {price:Int}:∀(m:Nat) (q:Int) (B:List (List zI)),q.toNat<=m->BWf p B->BWf p (wN p B inst sd price q).B/\(wN p B inst sd price q).B.length=B.length/\(0<=q->0<=(wN p B inst sd price q).left/\(wN p B inst sd price q).left<=q)
 |m,q,B,hm,h=>by
  by_cases hq:q<=0
  ·rw[lV (.inl hq)];exact⟨h,rfl,λx=>⟨x,y9h _⟩⟩
  cases hs:aP p B inst sd price q with
  |none=>
   rw[lV (.inr hs)];exact⟨h,rfl,λx=>⟨x,y9h _⟩⟩
  |some x=>
   obtain⟨t,C⟩:=x;obtain⟨k1,k2⟩:=zRp h hs;have hq2:=zOp oM hs;cases m with
   |zero=>omega
   |succ m=>
   obtain⟨i1,i2,i3⟩:=rG (p:=p) (inst:=inst) (sd:=sd) (price:=price) m (q-t.qty) C oM k1;rw[zNo (by omega) hs];exact⟨i1,i2.trans k2,λ_=>⟨(i3 oM).1,by dsimp only;have:=(i3 oM).2;omega⟩⟩
@[reducible] def RunI.ok (i:RunI):Prop:=i.s.Rep i.p i.B/\BOk i.p i.B/\(0<=i.inst/\i.inst<i.B.length)/\1<=i.q/\i.q<=1000000
def scouldC:Con:=con1 RunI (λi=>[.nm 0 0,zA i.inst,zA (zC i.sd),zA i.price,zA i.q]) (λi=>[zD i.s]) (λi=>i.ok) (λi=>zA (i.q-i.r.left)) (λi=>[zD i.s])
def mR (p:Prd) (B:List (List zI)) (inst:Int) (sd:Bool) (price q:Int):Bool:=
 decide ((wN p B inst sd price q).left≠0) && (kP ⟨p,(wN p B inst sd price q).B.map kD,inst⟩ (zC (!sd))).any λx=>bK sd price x.price
def stuckC:Con:=con1 RunI (λi=>[.nm 0 0,zA i.inst,zA (zC i.sd),zA i.price,zA i.q]) (λi=>[zD i.s]) (λi=>i.ok) (λi=>yR (mR i.p i.B i.inst i.sd i.price i.q)) (λi=>[zD i.s])
def zUs (B:List (List zI)):Nat:=(whL 0 B).length
def countC16:Con:=con1 SoI (λi=>[.nm 0 0]) (λi=>[zD i.s]) (λi=>i.ok) (λi=>zA (zUs i.B)) (λi=>[zD i.s])
def dG (p:Prd) (inst price:Int):Int×Int×Int:=
 if(p.legs inst).2.2=ap then(0,0,20)else if p.price inst price≠0 then(0,0,p.price inst price)else
 let far:=p.settle.getD (p.legs inst).2.1.toNat 0
 let a:=if p.high<far+price then(p.high,p.high-price)else(far+price,far)
 if a.1<p.low then(p.low,p.low-price,0)else(a.1,a.2,0)
structure LpI where
 p:Prd
 inst:Int
 price:Int
def lpricesC:Con:=con1 LpI (λi=>[prdV i.p,zA i.inst,zA i.price]) (λ_=>[]) (λi=>i.p.check=0/\i.p.small/\yY i.price) (λi=> .tup [zA (dG i.p i.inst i.price).1,zA (dG i.p i.inst i.price).2.1,zA (dG i.p i.inst i.price).2.2]) (λ_=>[])
def ijj (t u:Nat):SAnn:={ι:=Int×Int,slots:=λn=>[(t,zA n.1),(u,zA n.2)],rows:=λ_=>[]}
def lpJ:List (Nat×SAnn):=[(50,ijj 15 14),(58,ijj 15 14)]
def yUv:List SAnn:=[{ι:=Nat,slots:=λj=>[(40,zA j)],rows:=λ_=>[]}]
def yXm:List (Nat×SAnn):=[(8,{ι:=Unit,slots:=λ_=>[],rows:=λ_=>[],opn:=[11]})]
def fC (a:MSt):Prop:=a.books.length<=1000000/\∀(b:Book),b∈a.books->(b.a.slots.length<=1000000/\b.a.queues.length<=1000000)/\b.buys.length<=1000000/\b.sells.length<=1000000/\b.spare.length<=1000000
def qT (a:RunI):Prop:=a.s.Rep a.p a.B/\BOk a.p a.B/\(0<=a.inst/\a.inst<(↑a.B.length:Int))/\1<=a.q/\a.q<=1000000
def zDd (a:RunI):Prop:=∃(b:MSt),sb b.p.code=sb a.s.p.code/\b.p.tick=a.s.p.tick/\b.p.low=a.s.p.low/\b.p.high=a.s.p.high/\b.p.wide=a.s.p.wide/\b.p.rule=a.s.p.rule/\b.p.top=a.s.p.top/\b.p.least=a.s.p.least/\b.p.part=a.s.p.part/\ae 241 Book 6 zP b.books av=ae 241 Book 6 zP a.s.books av/\yS b.wh=yS a.s.wh/\aa 1 (iE b.p.months)=aa 1 (iE a.s.p.months)/\aa 1 (iE b.p.settle)=aa 1 (iE a.s.p.settle)/\(fC b)/\∀(c:Unit),True->∃(d:RunI),d.inst=a.inst/\zC d.sd=zC a.sd/\d.price=a.price/\d.q=a.q/\zD d.s=zD b/\(qT d)/\∀(e:MSt),e.Rep d.p d.r.B->∃(f:Unit),a.q-a.r.left=aj.wrap (a.q-d.r.left)/\zD a.s=zD b/\True
def wO (a:RunI):Prop:=∃(b:Unit),a.q-a.r.left=0/\dh (sb a.s.p.code)/\dh a.s.p.tick/\dh a.s.p.low/\dh a.s.p.high/\dh a.s.p.wide/\dh a.s.p.rule/\dh a.s.p.top/\dh a.s.p.least/\dh a.s.p.part/\dh (ae 241 Book 6 zP a.s.books av)/\dh (yS a.s.wh)/\dh (aa 1 (iE a.s.p.months))/\dh (aa 1 (iE a.s.p.settle))/\True
def z9a (i:RunI):Prop:=
 cnd (decide (i.inst>=0)) (cnd (decide (i.inst<(↑i.s.books.length:Int))) (cnd (zC i.sd==1) (cnd (decide (i.q>=1)) (cnd (!decide (i.q<=1000000)) (wO i) (zDd i)) (wO i)) (cnd (zC i.sd==2) (cnd (decide (i.q>=1)) (cnd (!decide (i.q<=1000000)) (wO i) (zDd i)) (wO i)) (wO i))) (wO i)) (wO i)
def z0s (i:SoI):Prop:=
 ∃(a:Unit),(↑(zUs i.B):Int)=(↑(yS i.s.wh).length:Int)/\dh (sb i.s.p.code)/\dh i.s.p.tick/\dh i.s.p.low/\dh i.s.p.high/\dh i.s.p.wide/\dh i.s.p.rule/\dh i.s.p.top/\dh i.s.p.least/\dh i.s.p.part/\dh (ae 241 Book 6 zP i.s.books av)/\dh (yS i.s.wh)/\dh (aa 1 (iE i.s.p.months))/\dh (aa 1 (iE i.s.p.settle))/\True
def cW (a:Int×Int->Prop) (b:Int×Int) (c:LpI):Prop:=a b/\dh (ab [V.d (D.v (aw (sb c.p.code))),V.own 0,V.d (dI c.p.tick),V.d (dI c.p.low),V.d (dI c.p.high),V.d (dI c.p.wide),V.d (dI c.p.rule),V.d (dI c.p.top),V.d (dI c.p.least),V.d (dI c.p.part),V.own 1] 25)/\dh (aa 1 (iE c.p.settle))/\dh (aa 1 (iE c.p.months))
def y7 (a:LpI):=(dG a.p a.inst a.price)
def zYo (i:LpI):Prop:=
 ∃(a:Prd),sb a.code=sb i.p.code/\iE a.months=iE i.p.months/\a.tick=i.p.tick/\a.low=i.p.low/\a.high=i.p.high/\a.wide=i.p.wide/\a.rule=i.p.rule/\a.top=i.p.top/\a.least=i.p.least/\a.part=i.p.part/\iE a.settle=iE i.p.settle/\(yD a)/\∀(b:Unit),True->cnd (a.check !=0) (∃(c:Unit),(y7 i).fst=0/\(y7 i).snd.fst=0/\(y7 i).snd.snd=1/\True) (∃(c:c8),sb c.p.code=sb i.p.code/\iE c.p.months=iE i.p.months/\c.p.tick=i.p.tick/\c.p.low=i.p.low/\c.p.high=i.p.high/\c.p.wide=i.p.wide/\c.p.rule=i.p.rule/\c.p.top=i.p.top/\c.p.least=i.p.least/\c.p.part=i.p.part/\iE c.p.settle=iE i.p.settle/\c.n=i.inst/\(jK c)/\∀(d:Unit),True->cnd (!(c.p.legs c.n).snd.snd) (∃(e:Unit),(y7 i).fst=0/\(y7 i).snd.fst=0/\(y7 i).snd.snd=20/\True) (∃(e:eD),sb e.p.code=sb i.p.code/\iE e.p.months=iE i.p.months/\e.p.tick=i.p.tick/\e.p.low=i.p.low/\e.p.high=i.p.high/\e.p.wide=i.p.wide/\e.p.rule=i.p.rule/\e.p.top=i.p.top/\e.p.least=i.p.least/\e.p.part=i.p.part/\iE e.p.settle=iE i.p.settle/\e.a=i.inst/\e.b=i.price/\(qD e)/\∀(f:Unit),True->cnd (e.p.price e.a e.b !=0) (∃(g:Unit),(y7 i).fst=0/\(y7 i).snd.fst=0/\(y7 i).snd.snd=e.p.price e.a e.b/\True) ((0<=(c.p.legs c.n).snd.fst/\(c.p.legs c.n).snd.fst<(↑(iE i.p.settle).length:Int))/\∃(g:Int),zE (iE i.p.settle) (c.p.legs c.n).snd.fst.toNat 0 1=au [dI g]/\∃(h:Int×Int),∃(j:Int×Int->Prop),cnd (decide (aj.wrap (g+i.price)>i.p.high)) (∃(k:Int×Int),k.fst=i.p.high/\k.snd=aj.wrap (i.p.high-i.price)/\cW j k i) (∃(k:Int×Int),k.fst=aj.wrap (g+i.price)/\k.snd=g/\cW j k i)/\∀(k:Int×Int),j k->∃(l:Int×Int),∃(m:Int×Int->Prop),cnd (decide (k.fst<i.p.low)) (∃(n:Int×Int),n.fst=i.p.low/\n.snd=aj.wrap (i.p.low-i.price)/\cW m n i) (∃(n:Int×Int),n.fst=k.fst/\n.snd=k.snd/\cW m n i)/\∀(n:Int×Int),m n->∃(p:Unit),(y7 i).fst=n.fst/\(y7 i).snd.fst=n.snd/\(y7 i).snd.snd=0/\True)))
def zCb (a:MSt) (b:MSt):Prop:=sb a.p.code=sb b.p.code/\True/\a.p.tick=b.p.tick/\a.p.low=b.p.low/\a.p.high=b.p.high/\a.p.wide=b.p.wide/\a.p.rule=b.p.rule/\a.p.top=b.p.top/\a.p.least=b.p.least/\a.p.part=b.p.part/\True/\True
def yFc (i:RunI):Prop:=
 ∃(a:MSt),zD a=zD i.s/\(fC a)/\∀(b:Unit),True->∃(c:RunI),c.inst=i.inst/\zC c.sd=zC i.sd/\c.price=i.price/\c.q=i.q/\zD c.s=zD a/\(qT c)/\∀(d:MSt),d.Rep c.p c.r.B->cnd (c.r.left==0) (∃(e:Unit),mR i.p i.B i.inst i.sd i.price i.q=ap/\zD i.s=zD a/\True) (∃(e:MSt),sb e.p.code=sb d.p.code/\e.p.tick=d.p.tick/\e.p.low=d.p.low/\e.p.high=d.p.high/\e.p.wide=d.p.wide/\e.p.rule=d.p.rule/\e.p.top=d.p.top/\e.p.least=d.p.least/\e.p.part=d.p.part/\ae 241 Book 6 zP e.books av=ae 241 Book 6 zP d.books av/\yS e.wh=yS d.wh/\aa 1 (iE e.p.months)=aa 1 (iE d.p.months)/\aa 1 (iE e.p.settle)=aa 1 (iE d.p.settle)/\(cG e)/\∀(f:Unit),True->(zCb e d)/\∃(g:Bool),zC g=zC i.sd/\True/\∀(h:Unit),True->(zCb e d)/\∃(j:lG),sb j.i.p.code=sb d.p.code/\iE j.i.p.months=iE e.p.months/\j.i.p.tick=d.p.tick/\j.i.p.low=d.p.low/\j.i.p.high=d.p.high/\j.i.p.wide=d.p.wide/\j.i.p.rule=d.p.rule/\j.i.p.top=d.p.top/\j.i.p.least=d.p.least/\j.i.p.part=d.p.part/\iE j.i.p.settle=iE e.p.settle/\ao z5 j.i.tops=ao z5 e.tops/\j.i.inst=i.inst/\zC j.s=zC !g/\(kM j)/\∀(k:Unit),True->∃(l:Nat),(↑l:Int)=0/\∃(m:Nat->Prop),∃(n:Nat->Nat),m l/\∀(p:Nat),m p->cnd (decide ((↑p:Int)<(fS j))) ((0<=(↑p:Int)/\(↑p:Int)<(fS j))/\∃(q:Int),∃(r:Int),∃(s:Int),∃(t:Int),∃(u:Int),∃(v:Int),zE (jV j) (↑p:Int).toNat 0 6=au [dI q,dI r,dI s,dI t,dI u,dI v]/\∃(w:GoI),zC w.s=zC i.sd/\w.p=i.price/\w.x=q/\True/\∀(x:Unit),True->cnd (bK w.s w.p w.x) (∃(y:Unit),mR i.p i.B i.inst i.sd i.price i.q=aq/\zD i.s=zD a/\True) (∃(y:Nat),(↑y:Int)=aj.wrap ((↑p:Int)+1)/\m y/\n y<n p/\dh (ag 259 6 (jV j))/\dh (ab [V.d (fW e),V.own 5,V.d (dI e.p.tick),V.d (dI e.p.low),V.d (dI e.p.high),V.d (dI e.p.wide),V.d (dI e.p.rule),V.d (dI e.p.top),V.d (dI e.p.least),V.d (dI e.p.part),V.own 6,V.own 3,V.mp 4] (240:ba))/\dh (ae 241 Book 6 zP e.books av)/\dh (af (yS e.wh))/\dh (aa 1 (iE e.p.months))/\dh (aa 1 (iE e.p.settle))/\dh (aa 6 (ao z5 e.tops))/\dh (aa 1 (iE d.p.months))/\dh (aa 1 (iE d.p.settle))/\dh (ag 321 4 (ao wI c.r.steps))/\zD a=zD a)) (∃(q:Unit),mR i.p i.B i.inst i.sd i.price i.q=ap/\zD i.s=zD a/\True))
def MSt.Rep.small {s:MSt} {p:Prd} {B:List (List zI)} (h:s.Rep p B) (hb:BOk p B):s.small:=by
 have:=xU p;refine⟨by rw[h.bl,hb.bl];omega,λb hm=> ?_⟩;obtain⟨k,hk⟩:=y8l.1 hm;have hlt:=(y5x.1 hk).1;rw[h.bl]at hlt;obtain⟨L,hL⟩:=yA hlt;obtain⟨Q,c,_⟩:=h.bk k b L hk hL;exact c.small
def yOf (i:RunI) (h:scouldC.cnd i):z9a i:=by
 have h':i.ok:=h;obtain⟨hR,hB,⟨h0,h1⟩,hq1,hq2⟩:=h';have hbl:=hR.bl;have hl:=(rG (inst:=i.inst) (sd:=i.sd) (price:=i.price) _ i.q i.B (y6p _) (hR.wf hB)).2.2 oM;have er:i.r=wN i.p i.B i.inst i.sd i.price i.q:=rfl;unfold z9a zDd qT fC wO;refine(λhT=>zH (λc=>zH (λc2=>Cv.cnd.mk (λ_=>zH (λ_=>Cv.cnd.mk (λe=>absurd hq2 (by simpa using e)) (λ_=>hT)) (λe=>absurd hq1 e)) (λe1=>Cv.cnd.mk (λ_=>zH (λ_=>Cv.cnd.mk (λe=>absurd hq2 (by simpa using e)) (λ_=>hT)) (λe=>absurd hq1 e)) (λe2=>by
  rcases zEo i.sd with e|e
  ·rw[e]at e1;cases e1
  ·rw[e]at e2;cases e2))) (λc2=>absurd oM c2)) (λc=>absurd h0 c)) ?_
 refine⟨i.s,rF8 (rF4 ⟨rfl,hR.small hB,λ_ _=>⟨i,rF4 ⟨rfl,h,λo ho=>⟨(),?_,rfl,trivial⟩⟩⟩⟩)⟩;rw[w64 (by rw[er];omega)]
def yBq:scouldC.ok Tryz.prog 167:=okw mixed (gokc zFd (gokc z4k gok0)) 2 (λ_=>[]) (λ_=>[]) [0] Tryz.func167 yOf
def yJz (i:SoI) (h:countC16.cnd i):z0s i:=by
 obtain⟨hR,hB⟩:i.s.Rep i.p i.B/\i.B.length<=1000:=h;unfold z0s;have e:(yS i.s.wh).length=zUs i.B:=by rw[yS,y5u,hR.wh.length_eq,zUs]
 exact⟨(),by rw[e],k0q⟩
def z4s:countC16.ok Tryz.prog 166:=okw mixed gok0 0 (λ_=>[]) (λ_=>[]) [0] Tryz.func166 yJz
def zMp {p:Prd} {i n:Int} (h:p.price i n=0):0<=i/\i<p.count:=by
 rw[Prd.price]at h;split at h
 ·cases h
 split at h
 ·cases h
 omega
def yGp (i:LpI) (h:lpricesC.cnd i):zYo i:=by
 obtain⟨hc,hp,hpr⟩:i.p.check=0/\i.p.small/\yY i.price:=h;unfold zYo cW y7 yD jK qD dI;refine⟨i.p,rF7 (rF3 ⟨rfl,hp,λ_ _=>Cv.cnd.mk (λe=>by rw[hc]at e;cases e) (λ_=> ?_)⟩)⟩;refine⟨⟨i.p,i.inst⟩,rF8 (rF3 ⟨rfl,hp,λ_ _=>Cv.cnd.mk (λe=> ?_) (λe=> ?_)⟩)⟩
 ·have e:(i.p.legs i.inst).2.2=ap:=by simpa using e
  have h0:dG i.p i.inst i.price=(0,0,20):=by rw[dG,y5v e]
  rw[h0];exact⟨(),rF3 trivial⟩
 have e:(i.p.legs i.inst).2.2=aq:=by simpa using e
 refine⟨⟨i.p,i.inst,i.price⟩,rF8 (rF4 ⟨rfl,hp,λ_ _=>Cv.cnd.mk (λe2=> ?_) (λe2=> ?_)⟩)⟩
 ·have e2:¬i.p.price i.inst i.price=0:=by simpa using e2
  have h0:dG i.p i.inst i.price=(0,0,i.p.price i.inst i.price):=by rw[dG,y5t (by rw[e];decide),y5v e2]
  rw[h0];exact⟨(),rF3 trivial⟩
 have e2:i.p.price i.inst i.price=0:=by simpa using e2
 have hin:=zMp e2;have hbd:=lD hc e2;have ok:=kH hc;have b1:=ok.b1;have b2:=ok.b2;have b3:=ok.b3;have s1:=ok.s1;have s2:=ok.s2;have s3:=ok.s3;obtain⟨k,hk⟩:∃k:Nat,i.inst=k:=⟨i.inst.toNat,oM⟩
 have hl:=fJ hc (k:=k) oM;rw[<- hk]at hl;rcases hl with⟨_,_,_,l3,l4⟩|⟨x,_⟩
 rotate_left
 ·rw[e]at x;cases x
 have hsl:(iE i.p.settle).length=i.p.settle.length:=y4 _;obtain⟨n,hn⟩:=yA (l:=i.p.settle) (i:=(i.p.legs i.inst).2.1.toNat) oM;have hm:=y6e hn;have m1:=z8v hm;have m2:=z9r hm;have hg:i.p.settle.getD (i.p.legs i.inst).2.1.toNat 0=n:=zT hn;have h0:dG i.p i.inst i.price=(if(if i.p.high<n+i.price then(i.p.high,i.p.high-i.price)else(n+i.price,n)).1<i.p.low then(i.p.low,i.p.low-i.price,0)else((if i.p.high<n+i.price then(i.p.high,i.p.high-i.price)else(n+i.price,n)).1,(if i.p.high<n+i.price then(i.p.high,i.p.high-i.price)else(n+i.price,n)).2,0)):=by
  rw[dG,y5t (by rw[e];decide),y5t (by rw[e2];decide)];dsimp only;rw[hg]
 dsimp only;refine⟨⟨l3,oM⟩,n,elI hn,(0,0),λa=>a=if i.p.high<n+i.price then(i.p.high,i.p.high-i.price)else(n+i.price,n),zH (λc=>⟨(i.p.high,i.p.high-i.price),rfl,(w64 oM).symm,?_,k0q⟩) (λc=>⟨(n+i.price,n),(w64 oM).symm,rfl,?_,k0q⟩),?_⟩
 ·rw[w64 (by omega)]at c;rw[y5v c]
 ·rw[w64 (by omega)]at c;rw[y5t c]
 rintro _ rfl;generalize (if i.p.high<n+i.price then(i.p.high,i.p.high-i.price)else(n+i.price,n))=a at h0 ⊢;refine⟨(0,0),λb=>b=if a.1<i.p.low then(i.p.low,i.p.low-i.price)else a,zH (λc=>⟨(i.p.low,i.p.low-i.price),rfl,(w64 oM).symm,by rw[y5v c],k0q⟩) (λc=>⟨a,rfl,rfl,by rw[y5t c],k0q⟩),?_⟩;rintro _ rfl;rw[h0];by_cases c:a.1<i.p.low
 ·rw[y5v c,y5v c];exact⟨(),rF3 trivial⟩
 ·rw[y5t c,y5t c];exact⟨(),rF3 trivial⟩
def z2c:lpricesC.ok Tryz.prog 264:=okw mixed (gokc eK (gokc zAf (gokc eN gok0))) 0 (λ_=>lpJ) (λ_=>[]) [] Tryz.func264 yGp
def yQe {l:List Quote} {k:Nat} {q:Quote} (h:l[k]? =au q):zE (l.map zJ) k 0 6=au [D.v (.int .i64 q.price),D.v (.int .i64 q.qty),D.v (.int .i64 q.a.inst),D.v (.int .i64 q.a.side),D.v (.int .i64 q.b.inst),D.v (.int .i64 q.b.side)]:=elA h (by simp[zJ]) rfl
def yVo (i:RunI) (h:stuckC.cnd i):yFc i:=by
 have h':i.ok:=h;obtain⟨hR,hB,⟨h0,h1⟩,hq1,hq2⟩:=h';have hwf:=hR.wf hB;obtain⟨k1,k2,k3⟩:=rG (inst:=i.inst) (sd:=i.sd) (price:=i.price) _ i.q i.B (y6p _) hwf;have hcl:=xU i.p;unfold yFc fW zCb qT fC fS jV kM fQ cG dI;refine⟨i.s,rfl,hR.small hB,λ_ _=>⟨i,rF4 ⟨rfl,h,λo ho=> ?_⟩⟩⟩;have er:i.r=wN i.p i.B i.inst i.sd i.price i.q:=rfl;have es:mR i.p i.B i.inst i.sd i.price i.q=(decide ((wN i.p i.B i.inst i.sd i.price i.q).left≠0) && (kP ⟨i.p,(wN i.p i.B i.inst i.sd i.price i.q).B.map kD,i.inst⟩ (zC (!i.sd))).any λx=>bK i.sd i.price x.price):=rfl;rw[er]at ho ⊢;rw[es];generalize wN i.p i.B i.inst i.sd i.price i.q=R at*;obtain⟨ts,lf,RB⟩:=R;dsimp only at*;refine Cv.cnd.mk (λe=>⟨(),?_,rfl,trivial⟩) (λe=> ?_)
 ·have e:lf=0:=by simpa using e
  rw[e];rfl
 have e:lf≠0:=by simpa using e
 rw[y6k e,y8q];have ep:=ho.ep;have hB':=k1.ok;have hbl:=hB'.bl;have hcnt:o.cntOk:=ho.cnt oM;have hps:o.p.small:=by rw[ep];exact hB'.ps
 have hto:vS (RB.map kD):=hB'.tops;have hle:=zFy ⟨o.p,RB.map kD,i.inst⟩ (zC (!i.sd));refine⟨o,rF8 (rF4 ⟨rfl,hcnt,λ_ _=>⟨⟨rfl,trivial,rF7 ⟨rfl,trivial,trivial⟩⟩,i.sd,rfl,trivial,λ_ _=>⟨⟨rfl,trivial,rF7 ⟨rfl,trivial,trivial⟩⟩,⟨⟨o.p,RB.map kD,i.inst⟩,!i.sd⟩,rF7 (rF3 ⟨rfl,by rw[ho.tops],rfl,rfl,⟨hps,hto⟩,λ_ _=> ?_⟩)⟩⟩⟩)⟩;dsimp only;rw[<- ep];generalize kP ⟨o.p,RB.map kD,i.inst⟩ (zC (!i.sd))=Q at*;have e4:(Q.map zJ).length=Q.length:=y5u ..;refine⟨0,rfl,λj=>j<=Q.length/\(Q.take j).any (λx=>bK i.sd i.price x.price)=ap,λj=>Q.length-j,⟨y6z _,rfl⟩,?_⟩;rintro j ⟨j1,j2⟩;refine zH (λc=> ?_) (λc=>⟨(),?_,rfl,trivial⟩)
 ·obtain⟨q,hq⟩:=yA (l:=Q) (i:=j) oM;refine⟨⟨oM,oM⟩,_,_,_,_,_,_,yQe hq,⟨i.sd,i.price,q.price⟩,rfl,rfl,rfl,trivial,λ_ _=>Cv.cnd.mk (λg=>⟨(),?_,rfl,trivial⟩) (λg=>⟨j+1,wjn oM,⟨oM,?_⟩,Z9,k0q⟩)⟩
  ·rw[List.any_eq_true];exact⟨q,y6e hq,g⟩
  ·rw[y7c,hq,List.any_append,j2];show(ap||([q].any λx=>bK i.sd i.price x.price))=ap;simp only[List.any_cons,List.any_nil,Bool.or_false,xBp];exact g
 ·have:j=Q.length:=by omega
  rw[this,y6f (y6p _)]at j2;exact j2
def zYt:stuckC.ok Tryz.prog 168:=okw mixed (gokc zFd (gokc z4k (gokc zXc (gokc yGo (gokc zTk (gokc zXn gok0)))))) 0 (λ_=>yXm) (λ_=>yUv) [] Tryz.func168 yVo
def nQ (c:Cmd) (why:Int):List Rep:=[⟨2,c.id,0,0,0,0,0,why⟩]
def ofF (x:j7) (k:Int):Int:=match x.fills.find? λf=>decide (f.inst=k)with
 |some f=>f.price
 |none=>x.price
def vF (p:Prd) (inst:Int) (x:j7):Int×Int:=if x.implied=ap then((dG p inst x.price).1,(dG p inst x.price).2.1)else(ofF x (p.legs inst).1,ofF x (p.legs inst).2.1)
def zEn (p:Prd) (r:Rep) (near far:Int):List Rep:=[{r with inst:=(p.legs r.inst).1,price:=near},{r with inst:=(p.legs r.inst).2.1,side:=3-r.side,price:=far}]
def m3 (p:Prd) (x:j7) (r:Rep):List Rep:=r::if(p.legs r.inst).2.2=aq then zEn p r (vF p r.inst x).1 (vF p r.inst x).2 else[]
def zEq (f:c9):Rep:=⟨3,f.id,f.inst,f.side,f.price,f.qty,f.left,0⟩
def nC (p:Prd) (c:Cmd) (x:j7) (left:Int):List Rep:=x.fills.flatMap (λf=>m3 p x (zEq f))++m3 p x ⟨3,c.id,c.inst,c.side,x.price,x.qty,left,0⟩
def aR (p:Prd) (c:Cmd):List j7->Int->List Rep
 |[],_=>[]
 |x::l,left=>nC p c x (left-x.qty)++aR p c l (left-x.qty)
structure MkX where
 B:List (List zI)
 U:List Int
 R:List Rep
def zQr (U:List Int) (id:Int):List Int:=if id∈U then U else U++[id]
def bI (p:Prd) (B:List (List zI)) (U:List Int) (c:Cmd):MkX:=match wN p B c.inst (decide (c.side=2)) c.price c.qty with
 |⟨ts,left,B'⟩=>⟨if left≠0/\c.time=1 then(z2z p B' c.inst c.id c.side c.price left).1 else B',zQr U c.id,
  (⟨1,c.id,c.inst,c.side,c.price,c.qty,c.qty,0⟩::aR p c ts c.qty)++if left≠0/\c.time≠1 then[⟨4,c.id,c.inst,c.side,c.price,left,0,0⟩]else[]⟩
def Cmd.lst (c:Cmd):Int:=if c.time=3 then c.qty else c.least
def nN (p:Prd) (B:List (List zI)) (U:List Int) (c:Cmd):MkX:=
 if p.price c.inst c.price≠0 then⟨B,U,nQ c (p.price c.inst c.price)⟩
 else if c.id∈U then⟨B,U,nQ c 25⟩
 else if 250<=zUs B then⟨B,U,nQ c 13⟩
 else if 0<c.lst/\c.qty-(wN p B c.inst (decide (c.side=2)) c.price c.qty).left<c.lst then⟨B,U,nQ c 28⟩
 else if c.time=1/\mR p B c.inst (decide (c.side=2)) c.price c.qty=aq then⟨B,U,nQ c 23⟩
 else bI p B U c
def uU (B:List (List zI)) (U:List Int) (id inst:Int) (o:zI):MkX:=⟨(kO B id o.qty).1,U,[⟨4,id,inst,o.side,o.price,o.qty,0,0⟩]⟩
def bP (B:List (List zI)) (U:List Int) (id q inst:Int) (o:zI):MkX:=⟨(kO B id q).1,U,[⟨5,id,inst,o.side,o.price,q,o.qty-q,0⟩]⟩
def f8 (p:Prd) (B:List (List zI)) (U:List Int) (c:Cmd) (inst:Int) (o:zI):MkX:=
 if p.price inst c.price≠0 then⟨B,U,nQ c (p.price inst c.price)⟩
 else if c.price=o.price/\c.qty<=o.qty then bP B U c.id (o.qty-c.qty) inst o
 else if mR p (kO B c.id o.qty).1 inst (decide (o.side=2)) c.price c.qty=aq then⟨B,U,nQ c 23⟩
 else
  let x:=uU B U c.id inst o
  let y:=bI p x.B U ⟨1,c.id,inst,o.side,c.price,c.qty,0,1,[]⟩
  ⟨y.B,y.U,x.R++y.R⟩
def doF (p:Prd) (B:List (List zI)) (U:List Int) (c:Cmd):MkX:=
 if c.right≠0 then⟨B,U,nQ c c.right⟩
 else if c.kind=1 then nN p B U c
 else if(zZ B c.id).2.2=ap then⟨B,U,nQ c 26⟩
 else if c.kind=4 then f8 p B U c (zZ B c.id).1 (zZ B c.id).2.1
 else if c.kind=2\/(zZ B c.id).2.1.qty<=c.qty then uU B U c.id (zZ B c.id).1 (zZ B c.id).2.1
 else bP B U c.id c.qty (zZ B c.id).1 (zZ B c.id).2.1
structure Mkt.Rep (m:Mkt) (p:Prd) (B:List (List zI)) (U:List Int):Prop where
 ep:m.p=p
 s:m.s.Rep p B
 u:m.used=U
@[reducible] def zBt (m:Mkt):List AObj:=[yM m 0,yM m 1,yM m 2,yM m 3,yM m 4]
@[reducible] def yQs (x:j7):V:= .agg [zA x.price,zA x.qty,yR x.implied,roV 6 (x.fills.map yX)]
@[reducible] def tRp:Nat:=85
@[reducible] def z5k (l:List Rep):AObj:= .own tRp 8 (l.map xV)
structure RjI where
 c:Cmd
 why:Int
def rejC:Con:=con1 RjI (λi=>[zFr i.c,zA i.why]) (λ_=>[]) (λ_=>True) (λ_=> .own 0) (λi=>[z5k (nQ i.c i.why)])
structure MsI where
 m:Mkt
 r:Rep
 near:Int
 far:Int
@[reducible] def Mkt.fine (m:Mkt):Prop:=m.p.check=0/\m.p.small
def mspreadC:Con:=con1 MsI (λi=>[.nm 0 0,y4v i.r,zA i.near,zA i.far]) (λi=>zBt i.m) (λi=>i.m.fine/\(i.r.side=1\/i.r.side=2)) (λ_=> .own 5) (λi=>zBt i.m++[z5k (zEn i.m.p i.r i.near i.far)])
structure MiN where
 m:Mkt
 inst:Int
def misC:Con:=con1 MiN (λi=>[.nm 0 0,zA i.inst]) (λi=>zBt i.m) (λi=>i.m.fine) (λi=>yR (i.m.p.legs i.inst).2.2) (λi=>zBt i.m)
structure OfI where
 x:j7
 k:Int
@[reducible] def zYu (x:j7) (n:Nat):List AObj:=[.cells [zA x.price,zA x.qty,yR x.implied,.own n] 321,.fro 6 (x.fills.map yX)]
def ofC:Con:=con1 OfI (λi=>[zA i.k,.nm 0 0]) (λi=>zYu i.x 1) (λi=>i.x.fills.length<=1000000) (λi=>zA (ofF i.x i.k)) (λi=>zYu i.x 1)
def ofA:List SAnn:=[{ι:=Nat,slots:=λj=>[(9,zA j)],rows:=λ_=>[]}]
structure MpI where
 m:Mkt
 inst:Int
 x:j7
def mpricesC:Con:=con1 MpI (λi=>[.nm 0 0,zA i.inst,yQs i.x]) (λi=>zBt i.m) (λi=>i.m.fine/\yY i.x.price/\i.x.fills.length<=1000000) (λi=> .tup [zA (vF i.m.p i.inst i.x).1,zA (vF i.m.p i.inst i.x).2]) (λi=>zBt i.m)
structure StI' where
 m:Mkt
 c:Cmd
 x:j7
 left:Int
def StI'.out (i:StI') (j:Nat):List Rep:=(i.x.fills.take j).flatMap λf=>m3 i.m.p i.x (zEq f)
def mstepC:Con:=con1 StI' (λi=>[.nm 0 0,zFr i.c,yQs i.x,zA i.left]) (λi=>zBt i.m) (λi=>i.m.fine/\yY i.x.price/\i.x.fills.length<=1000000/\(i.c.side=1\/i.c.side=2)/\∀f∈i.x.fills,f.side=1\/f.side=2) (λ_=> .own 5) (λi=>zBt i.m++[z5k (nC i.m.p i.c i.x i.left)])
def yYl (i:StI'):List SAnn:=[{ι:=Nat,slots:=λj=>[(9,.nm 0 0),(17,zA j)],rows:=λj=>[.cells [.own 1] 106,z5k (i.out j)]}]
def y4q (i:RjI):Prop:=
 ∃(o:Unit),[xV (Rep.mk 2 i.c.id 0 0 0 0 0 i.why)]=[[D.v (.int .i64 2),D.v (.int .i64 i.c.id),D.v (.int .i64 0),D.v (.int .i64 0),D.v (.int .i64 0),D.v (.int .i64 0),D.v (.int .i64 0),D.v (.int .i64 i.why)]]/\True
def hU (a:MsI):Prop:=a.r.kind=a.r.kind/\dh a.r.id/\dh a.r.inst/\dh a.r.side/\dh a.r.price/\dh a.r.qty/\dh a.r.left/\dh a.r.why/\True
def dE (a:MsI):=(Rep.mk a.r.kind a.r.id (a.m.p.legs a.r.inst).snd.fst (3-a.r.side) a.far a.r.qty a.r.left a.r.why)
def f9 (a:MsI):=(Rep.mk a.r.kind a.r.id (a.m.p.legs a.r.inst).fst a.r.side a.near a.r.qty a.r.left a.r.why)
def lP (a:MsI) (b:c8):Prop:=(hU a)/\(hU a)/\(hU a)/\(hU a)/\(hU a)/\dh a.r.side/\∃(c:Unit),dh (sb a.m.p.code)/\dh a.m.p.tick/\dh a.m.p.low/\dh a.m.p.high/\dh a.m.p.wide/\dh a.m.p.rule/\dh a.m.p.top/\dh a.m.p.least/\dh a.m.p.part/\zD a.m.s=yM a.m 1/\dh (zU a.m.used)/\aa 1 (iE a.m.p.months)=yM a.m 3/\aa 1 (iE a.m.p.settle)=yM a.m 4/\[xV (f9 a),xV (dE a)]=[[dI a.r.kind,dI a.r.id,dI ((b.p.legs b.n).fst),dI a.r.side,dI a.near,dI a.r.qty,dI a.r.left,dI a.r.why],[dI a.r.kind,dI a.r.id,dI (vP b),dI (aj.wrap (3-a.r.side)),dI a.far,dI a.r.qty,dI a.r.left,dI a.r.why]]/\True
def zZb (i:MsI):Prop:=
 ∃(a:c8),sb a.p.code=sb i.m.p.code/\iE a.p.months=iE i.m.p.months/\a.p.tick=i.m.p.tick/\a.p.low=i.m.p.low/\a.p.high=i.m.p.high/\a.p.wide=i.m.p.wide/\a.p.rule=i.m.p.rule/\a.p.top=i.m.p.top/\a.p.least=i.m.p.least/\a.p.part=i.m.p.part/\iE a.p.settle=iE i.m.p.settle/\a.n=i.r.inst/\(jK a)/\∀(b:Unit),True->(lP i a)/\lP i a
def y5n (i:MiN):Prop:=
 ∃(i_1:c8),sb i_1.p.code=sb i.m.p.code/\iE i_1.p.months=iE i.m.p.months/\i_1.p.tick=i.m.p.tick/\i_1.p.low=i.m.p.low/\i_1.p.high=i.m.p.high/\i_1.p.wide=i.m.p.wide/\i_1.p.rule=i.m.p.rule/\i_1.p.top=i.m.p.top/\i_1.p.least=i.m.p.least/\i_1.p.part=i.m.p.part/\iE i_1.p.settle=iE i.m.p.settle/\i_1.n=i.inst/\(i_1.p.code.length<=1099511627776/\i_1.p.months.length<=1099511627776/\i_1.p.settle.length<=1099511627776)/\∀(o:Unit),True->∃(o:Unit),(i.m.p.legs i.inst).snd.snd=(i_1.p.legs i_1.n).snd.snd/\dh (sb i.m.p.code)/\dh i.m.p.tick/\dh i.m.p.low/\dh i.m.p.high/\dh i.m.p.wide/\dh i.m.p.rule/\dh i.m.p.top/\dh i.m.p.least/\dh i.m.p.part/\zD i.m.s=yM i.m 1/\dh (zU i.m.used)/\aa 1 (iE i.m.p.months)=yM i.m 3/\aa 1 (iE i.m.p.settle)=yM i.m 4/\True
def zVp (a:OfI):Prop:=a.x.price=a.x.price/\dh a.x.qty/\dh a.x.implied/\dh (aa 6 (ao yX a.x.fills))/\True
def Vof (i:OfI):Prop:=
 ∃(a:Nat),(↑a:Int)=0/\∃(b:Nat->Prop),∃(c:Nat->Nat),b a/\∀(d:Nat),b d->cnd (decide ((↑d:Int)<(↑(ao yX i.x.fills).length:Int))) ((0<=(↑d:Int)/\(↑d:Int)<(↑(ao yX i.x.fills).length:Int))/\∃(e:Int),∃(f:Int),∃(g:Int),∃(h:Int),∃(j:Int),∃(k:Int),zE (ao yX i.x.fills) (↑d:Int).toNat 0 6=au [dI e,dI f,dI g,dI h,dI j,dI k]/\cnd (f==i.k) (∃(l:Unit),ofF i.x i.k=h/\zVp i) (∃(l:Nat),(↑l:Int)=aj.wrap ((↑d:Int)+1)/\b l/\c l<c d/\dh (ab [zA i.x.price,zA i.x.qty,yR i.x.implied,V.own 1] (321:ba))/\dh (aa 6 (ao yX i.x.fills)))) (∃(e:Unit),ofF i.x i.k=i.x.price/\zVp i)
def rN (a:MpI):Prop:=sb a.m.p.code=sb a.m.p.code/\dh a.m.p.tick/\dh a.m.p.low/\dh a.m.p.high/\dh a.m.p.wide/\dh a.m.p.rule/\dh a.m.p.top/\dh a.m.p.least/\dh a.m.p.part/\zD a.m.s=yM a.m 1/\dh (zU a.m.used)/\aa 1 (iE a.m.p.months)=yM a.m 3/\aa 1 (iE a.m.p.settle)=yM a.m 4/\True
def qO (a:MpI):=(vF a.m.p a.inst a.x)
def zZn (i:MpI):Prop:=
 cnd (!i.x.implied) (∃(a:LpI),sb a.p.code=sb i.m.p.code/\iE a.p.months=iE i.m.p.months/\a.p.tick=i.m.p.tick/\a.p.low=i.m.p.low/\a.p.high=i.m.p.high/\a.p.wide=i.m.p.wide/\a.p.rule=i.m.p.rule/\a.p.top=i.m.p.top/\a.p.least=i.m.p.least/\a.p.part=i.m.p.part/\iE a.p.settle=iE i.m.p.settle/\a.inst=i.inst/\a.price=i.x.price/\(a.p.check=0/\(a.p.code.length<=1099511627776/\a.p.months.length<=1099511627776/\a.p.settle.length<=1099511627776)/\(-9223372036854775808)<=a.price/\a.price<=9223372036854775807)/\∀(b:Unit),True->∃(c:Unit),(qO i).fst=(y7 a).fst/\(qO i).snd=(y7 a).snd.fst/\rN i) (∃(a:c8),sb a.p.code=sb i.m.p.code/\iE a.p.months=iE i.m.p.months/\a.p.tick=i.m.p.tick/\a.p.low=i.m.p.low/\a.p.high=i.m.p.high/\a.p.wide=i.m.p.wide/\a.p.rule=i.m.p.rule/\a.p.top=i.m.p.top/\a.p.least=i.m.p.least/\a.p.part=i.m.p.part/\iE a.p.settle=iE i.m.p.settle/\a.n=i.inst/\(jK a)/\∀(b:Unit),True->∃(c:OfI),c.k=(a.p.legs a.n).fst/\c.x.price=i.x.price/\c.x.qty=i.x.qty/\c.x.implied=i.x.implied/\aa 6 (ao yX c.x.fills)=aa 6 (ao yX i.x.fills)/\c.x.fills.length<=1000000/\∀(d:Unit),True->∃(e:OfI),e.k=(a.p.legs a.n).snd.fst/\e.x.price=c.x.price/\e.x.qty=c.x.qty/\e.x.implied=c.x.implied/\aa 6 (ao yX e.x.fills)=aa 6 (ao yX c.x.fills)/\e.x.fills.length<=1000000/\∀(f:Unit),True->∃(g:Unit),(qO i).fst=ofF c.x c.k/\(qO i).snd=ofF e.x e.k/\rN i)
def zDf (a:MpI):Prop:=(a.m.p.check=0/\a.m.p.code.length<=1099511627776/\a.m.p.months.length<=1099511627776/\a.m.p.settle.length<=1099511627776)/\((-9223372036854775808)<=a.x.price/\a.x.price<=9223372036854775807)/\a.x.fills.length<=1000000
def zCj (a:MsI):Prop:=(a.m.p.check=0/\a.m.p.code.length<=1099511627776/\a.m.p.months.length<=1099511627776/\a.m.p.settle.length<=1099511627776)/\(a.r.side=1\/a.r.side=2)
def zCt (a:MiN):Prop:=a.m.p.check=0/\a.m.p.code.length<=1099511627776/\a.m.p.months.length<=1099511627776/\a.m.p.settle.length<=1099511627776
def mP (a:StI'):=(D.v (aw (sb a.c.label)))
def yDz (i:StI'):Prop:=
 ∃(a:Nat),(↑a:Int)=0/\ao xV (i.out a)=[]/\∃(b:Nat->Prop),∃(c:Nat->Nat),b a/\∀(d:Nat),b d->cnd (decide ((↑d:Int)<(↑(ao yX i.x.fills).length:Int))) ((0<=(↑d:Int)/\(↑d:Int)<(↑(ao yX i.x.fills).length:Int))/\∃(e:Int),∃(f:Int),∃(g:Int),∃(h:Int),∃(j:Int),∃(k:Int),zE (ao yX i.x.fills) (↑d:Int).toNat 0 6=au [dI e,dI f,dI g,dI h,dI j,dI k]/\((ao xV (i.out d)).length+1)*(64:Nat)<=(140737488355328:Nat)/\∃(l:MiN),l.inst=f/\sb l.m.p.code=sb i.m.p.code/\l.m.p.tick=i.m.p.tick/\l.m.p.low=i.m.p.low/\l.m.p.high=i.m.p.high/\l.m.p.wide=i.m.p.wide/\l.m.p.rule=i.m.p.rule/\l.m.p.top=i.m.p.top/\l.m.p.least=i.m.p.least/\l.m.p.part=i.m.p.part/\zD l.m.s=yM i.m 1/\zU l.m.used=zU i.m.used/\aa 1 (iE l.m.p.months)=yM i.m 3/\aa 1 (iE l.m.p.settle)=yM i.m 4/\(zCt l)/\∀(m:Unit),True->cnd (l.m.p.legs l.inst).snd.snd (∃(n:MpI),n.inst=f/\n.x.price=i.x.price/\n.x.qty=i.x.qty/\n.x.implied=i.x.implied/\ao yX n.x.fills=ao yX i.x.fills/\sb n.m.p.code=sb l.m.p.code/\n.m.p.tick=l.m.p.tick/\n.m.p.low=l.m.p.low/\n.m.p.high=l.m.p.high/\n.m.p.wide=l.m.p.wide/\n.m.p.rule=l.m.p.rule/\n.m.p.top=l.m.p.top/\n.m.p.least=l.m.p.least/\n.m.p.part=l.m.p.part/\zD n.m.s=zD l.m.s/\zU n.m.used=zU l.m.used/\aa 1 (iE n.m.p.months)=aa 1 (iE l.m.p.months)/\aa 1 (iE n.m.p.settle)=aa 1 (iE l.m.p.settle)/\(zDf n)/\∀(p:Unit),True->∃(q:MsI),q.r.kind=3/\q.r.id=e/\q.r.inst=f/\q.r.side=g/\q.r.price=h/\q.r.qty=j/\q.r.left=k/\q.r.why=0/\q.near=(qO n).fst/\q.far=(qO n).snd/\sb q.m.p.code=sb n.m.p.code/\q.m.p.tick=n.m.p.tick/\q.m.p.low=n.m.p.low/\q.m.p.high=n.m.p.high/\q.m.p.wide=n.m.p.wide/\q.m.p.rule=n.m.p.rule/\q.m.p.top=n.m.p.top/\q.m.p.least=n.m.p.least/\q.m.p.part=n.m.p.part/\zD q.m.s=zD n.m.s/\zU q.m.used=zU n.m.used/\aa 1 (iE q.m.p.months)=aa 1 (iE n.m.p.months)/\aa 1 (iE q.m.p.settle)=aa 1 (iE n.m.p.settle)/\(zCj q)/\∀(r:Unit),True->True/\((ao xV (i.out d)++[[dI 3,dI e,dI f,dI g,dI h,dI j,dI k,dI 0]]).length+2)*(64:Nat)<=(140737488355328:Nat)/\∃(s:Nat),(↑s:Int)=aj.wrap ((↑d:Int)+1)/\ao xV (i.out s)=ao xV (i.out d)++[[dI 3,dI e,dI f,dI g,dI h,dI j,dI k,dI 0]]++[xV (f9 q),xV (dE q)]/\b s/\c s<c d/\dh (ab [V.d (dI i.x.price),V.d (dI i.x.qty),V.d (D.v (.bool i.x.implied)),V.own 7] 321)/\dh (aa 6 (ao yX i.x.fills))/\dh (ab [V.d (dI i.c.kind),V.d (dI i.c.id),V.d (dI i.c.inst),V.d (dI i.c.side),V.d (dI i.c.price),V.d (dI i.c.qty),V.d (dI i.c.least),V.d (dI i.c.time),V.d (mP i)] 80)/\dh (ab [V.nm 0 0] 100)/\ab [V.d (D.v (aw (sb q.m.p.code))),V.own 3,V.d (dI q.m.p.tick),V.d (dI q.m.p.low),V.d (dI q.m.p.high),V.d (dI q.m.p.wide),V.d (dI q.m.p.rule),V.d (dI q.m.p.top),V.d (dI q.m.p.least),V.d (dI q.m.p.part),V.own 4,V.nm 1 0,V.mp 2] (179:ba)=yM i.m 0/\zD q.m.s=yM i.m 1/\af (zU q.m.used)=yM i.m 2/\aa 1 (iE q.m.p.months)=yM i.m 3/\aa 1 (iE q.m.p.settle)=yM i.m 4) (∃(n:Nat),(↑n:Int)=aj.wrap ((↑d:Int)+1)/\ao xV (i.out n)=ao xV (i.out d)++[[dI 3,dI e,dI f,dI g,dI h,dI j,dI k,dI 0]]/\b n/\c n<c d/\dh (ab [V.d (dI i.x.price),V.d (dI i.x.qty),V.d (D.v (.bool i.x.implied)),V.own 7] 321)/\dh (aa 6 (ao yX i.x.fills))/\dh (ab [V.d (dI i.c.kind),V.d (dI i.c.id),V.d (dI i.c.inst),V.d (dI i.c.side),V.d (dI i.c.price),V.d (dI i.c.qty),V.d (dI i.c.least),V.d (dI i.c.time),V.d (mP i)] 80)/\dh (ab [V.nm 0 0] 100)/\ab [V.d (D.v (aw (sb l.m.p.code))),V.own 3,V.d (dI l.m.p.tick),V.d (dI l.m.p.low),V.d (dI l.m.p.high),V.d (dI l.m.p.wide),V.d (dI l.m.p.rule),V.d (dI l.m.p.top),V.d (dI l.m.p.least),V.d (dI l.m.p.part),V.own 4,V.nm 1 0,V.mp 2] (179:ba)=yM i.m 0/\zD l.m.s=yM i.m 1/\af (zU l.m.used)=yM i.m 2/\aa 1 (iE l.m.p.months)=yM i.m 3/\aa 1 (iE l.m.p.settle)=yM i.m 4)) (((ao xV (i.out d)).length+1)*(64:Nat)<=(140737488355328:Nat)/\∃(e:MiN),e.inst=i.c.inst/\sb e.m.p.code=sb i.m.p.code/\e.m.p.tick=i.m.p.tick/\e.m.p.low=i.m.p.low/\e.m.p.high=i.m.p.high/\e.m.p.wide=i.m.p.wide/\e.m.p.rule=i.m.p.rule/\e.m.p.top=i.m.p.top/\e.m.p.least=i.m.p.least/\e.m.p.part=i.m.p.part/\zD e.m.s=yM i.m 1/\zU e.m.used=zU i.m.used/\aa 1 (iE e.m.p.months)=yM i.m 3/\aa 1 (iE e.m.p.settle)=yM i.m 4/\(zCt e)/\∀(f:Unit),True->cnd (e.m.p.legs e.inst).snd.snd (∃(g:MpI),g.inst=i.c.inst/\g.x.price=i.x.price/\g.x.qty=i.x.qty/\g.x.implied=i.x.implied/\ao yX g.x.fills=ao yX i.x.fills/\sb g.m.p.code=sb e.m.p.code/\g.m.p.tick=e.m.p.tick/\g.m.p.low=e.m.p.low/\g.m.p.high=e.m.p.high/\g.m.p.wide=e.m.p.wide/\g.m.p.rule=e.m.p.rule/\g.m.p.top=e.m.p.top/\g.m.p.least=e.m.p.least/\g.m.p.part=e.m.p.part/\zD g.m.s=zD e.m.s/\zU g.m.used=zU e.m.used/\aa 1 (iE g.m.p.months)=aa 1 (iE e.m.p.months)/\aa 1 (iE g.m.p.settle)=aa 1 (iE e.m.p.settle)/\(zDf g)/\∀(h:Unit),True->∃(j:MsI),j.r.kind=3/\j.r.id=i.c.id/\j.r.inst=i.c.inst/\j.r.side=i.c.side/\j.r.price=i.x.price/\j.r.qty=i.x.qty/\j.r.left=i.left/\j.r.why=0/\j.near=(qO g).fst/\j.far=(qO g).snd/\sb j.m.p.code=sb g.m.p.code/\j.m.p.tick=g.m.p.tick/\j.m.p.low=g.m.p.low/\j.m.p.high=g.m.p.high/\j.m.p.wide=g.m.p.wide/\j.m.p.rule=g.m.p.rule/\j.m.p.top=g.m.p.top/\j.m.p.least=g.m.p.least/\j.m.p.part=g.m.p.part/\zD j.m.s=zD g.m.s/\zU j.m.used=zU g.m.used/\aa 1 (iE j.m.p.months)=aa 1 (iE g.m.p.months)/\aa 1 (iE j.m.p.settle)=aa 1 (iE g.m.p.settle)/\(zCj j)/\∀(k:Unit),True->True/\((ao xV (i.out d)++[[dI 3,dI i.c.id,dI i.c.inst,dI i.c.side,dI i.x.price,dI i.x.qty,dI i.left,dI 0]]).length+2)*(64:Nat)<=(140737488355328:Nat)/\∃(l:Unit),sb i.m.p.code=sb j.m.p.code/\i.m.p.tick=j.m.p.tick/\i.m.p.low=j.m.p.low/\i.m.p.high=j.m.p.high/\i.m.p.wide=j.m.p.wide/\i.m.p.rule=j.m.p.rule/\i.m.p.top=j.m.p.top/\i.m.p.least=j.m.p.least/\i.m.p.part=j.m.p.part/\zD i.m.s=zD j.m.s/\zU i.m.used=zU j.m.used/\aa 1 (iE i.m.p.months)=aa 1 (iE j.m.p.months)/\aa 1 (iE i.m.p.settle)=aa 1 (iE j.m.p.settle)/\ao xV (nC i.m.p i.c i.x i.left)=ao xV (i.out d)++[[dI 3,dI i.c.id,dI i.c.inst,dI i.c.side,dI i.x.price,dI i.x.qty,dI i.left,dI 0]]++[xV (f9 j),xV (dE j)]/\True) (∃(g:Unit),sb i.m.p.code=sb e.m.p.code/\i.m.p.tick=e.m.p.tick/\i.m.p.low=e.m.p.low/\i.m.p.high=e.m.p.high/\i.m.p.wide=e.m.p.wide/\i.m.p.rule=e.m.p.rule/\i.m.p.top=e.m.p.top/\i.m.p.least=e.m.p.least/\i.m.p.part=e.m.p.part/\zD i.m.s=zD e.m.s/\zU i.m.used=zU e.m.used/\aa 1 (iE i.m.p.months)=aa 1 (iE e.m.p.months)/\aa 1 (iE i.m.p.settle)=aa 1 (iE e.m.p.settle)/\ao xV (nC i.m.p i.c i.x i.left)=ao xV (i.out d)++[[dI 3,dI i.c.id,dI i.c.inst,dI i.c.side,dI i.x.price,dI i.x.qty,dI i.left,dI 0]]/\True))
def z3i:rejC.ok Tryz.prog 112:=okw (V:=y4q) mixed gok0 0 (λ_=>[]) (λ_=>[]) [] Tryz.func112 λ(i:RjI) _=>⟨(),rfl,trivial⟩
def yIe (i:MsI) (h:mspreadC.cnd i):zZb i:=by
 obtain⟨⟨hc,hp⟩,hs⟩:i.m.fine/\(i.r.side=1\/i.r.side=2):=h;have hw:aj.wrap (3-i.r.side)=3-i.r.side:=w64 oM;unfold zZb lP f9 dE hU vP jK dI;rw[hw];refine⟨⟨i.m.p,i.r.inst⟩,rF8 (rF3 ⟨rfl,hp,λ_ _=> ?_⟩)⟩;exact kp
def z3h:mspreadC.ok Tryz.prog 239:=okw mixed (gokc zAf gok0) 0 (λ_=>[]) (λ_=>[]) [] Tryz.func239 yIe
def yXg:misC.ok Tryz.prog 237:=okw (V:=y5n) mixed (gokc zAf gok0) 0 (λ_=>[]) (λ_=>[]) [] Tryz.func237 λ(i:MiN) h=>by
 obtain⟨hc,hp⟩:i.m.fine:=h;exact⟨⟨i.m.p,i.inst⟩,rF8 (rF3 ⟨rfl,hp,λ_ _=>kp⟩)⟩
def y2l {l:List c9} {k:Nat} {f:c9} (h:l[k]? =au f):zE (l.map yX) k 0 6=au [D.v (.int .i64 f.id),D.v (.int .i64 f.inst),D.v (.int .i64 f.side),D.v (.int .i64 f.price),D.v (.int .i64 f.qty),D.v (.int .i64 f.left)]:=elA h (by simp[yX]) rfl
def vof (i:OfI) (h:ofC.cnd i):Vof i:=by
 have hl:i.x.fills.length<=1000000:=h;have e4:(i.x.fills.map yX).length=i.x.fills.length:=y5u ..;unfold Vof zVp dI;refine⟨0,rfl,λj=>j<=i.x.fills.length/\(i.x.fills.take j).find? (λf=>decide (f.inst=i.k))=av,λj=>i.x.fills.length-j,⟨y6z _,rfl⟩,?_⟩;rintro j ⟨j1,j2⟩;refine zH (λc=> ?_) (λc=> ?_)
 ·obtain⟨f,hf⟩:=yA (l:=i.x.fills) (i:=j) oM;refine⟨⟨oM,oM⟩,_,_,_,_,_,_,y2l hf,Cv.cnd.mk (λg=>⟨(),?_,k0q⟩) (λg=>⟨j+1,wjn oM,⟨oM,?_⟩,Z9,k0q⟩)⟩
  ·have g:f.inst=i.k:=by simpa using g
   have e:i.x.fills.find? (λf=>decide (f.inst=i.k))=au f:=by
    rw[<- y8a j i.x.fills,List.find?_append,j2,y8b (by omega),(y5x.1 hf).2,List.find?_cons_of_pos (by simpa using g)];rfl
   rw[ofF,e]
  ·have g:¬f.inst=i.k:=by simpa using g
   rw[y7c,hf,List.find?_append,j2];simp[g]
 ·have:j=i.x.fills.length:=by omega
  rw[this,y6f (y6p _)]at j2;exact⟨(),by rw[ofF,j2],k0q⟩
def yZp:ofC.ok Tryz.prog 265:=okw mixed gok0 0 (λ_=>[]) (λ_=>ofA) [] Tryz.func265 vof
def yIq (i:MpI) (h:mpricesC.cnd i):zZn i:=by
 obtain⟨⟨hc,hp⟩,hpr,hl⟩:i.m.fine/\yY i.x.price/\i.x.fills.length<=1000000:=h;unfold zZn qO rN y7 jK;refine Cv.cnd.mk (λe=> ?_) (λe=> ?_)
 ·have e:i.x.implied=ap:=by simpa using e
  have h0:vF i.m.p i.inst i.x=((dG i.m.p i.inst i.x.price).1,(dG i.m.p i.inst i.x.price).2.1):=by rw[vF,y5v e]
  rw[h0];exact⟨⟨i.m.p,i.inst,i.x.price⟩,rF8 (rF4 ⟨rfl,⟨hc,hp,hpr⟩,λ_ _=>kp⟩)⟩
 ·have e:¬i.x.implied=ap:=by simpa using e
  have h0:vF i.m.p i.inst i.x=(ofF i.x (i.m.p.legs i.inst).1,ofF i.x (i.m.p.legs i.inst).2.1):=by rw[vF,y5t e]
  rw[h0];exact⟨⟨i.m.p,i.inst⟩,rF8 (rF3 ⟨rfl,hp,λ_ _=>⟨⟨i.x,(i.m.p.legs i.inst).1⟩,rF4 ⟨rfl,hl,λ_ _=>⟨⟨i.x,(i.m.p.legs i.inst).2.1⟩,rF4 ⟨rfl,hl,λ_ _=>kp⟩⟩⟩⟩⟩)⟩
def z2e:mpricesC.ok Tryz.prog 238:=okw mixed (gokc zAf (gokc z2c (gokc yZp gok0))) 0 (λ_=>[]) (λ_=>[]) [] Tryz.func238 yIq
def zOt (p:Prd) (x:j7) (r:Rep):(m3 p x r).length<=3:=by
 rw[m3,y5y];split
 ·rw[zEn];simp
 ·simp
def z7o {p:Prd} {x:j7} {r:Rep} (h:(p.legs r.inst).2.2=ap):m3 p x r=[r]:=by
 rw[m3,y5t (by rw[h];decide)]
def z1r {p:Prd} {x:j7} {r:Rep} (h:(p.legs r.inst).2.2=aq):m3 p x r=r::zEn p r (vF p r.inst x).1 (vF p r.inst x).2:=by
 rw[m3,y5v h]
def StI'.out_len (i:StI'):∀j,(i.out j).length<=3*j
 |0=>y6p _
 |j+1=>by
  have ih:=StI'.out_len i j;rw[StI'.out]at ih ⊢;rw[y7c,y7r,y5s];cases e:i.x.fills[j]? with
  |none=>simp only[Option.toList_none,xAy,y7n];omega
  |some f=>
   have:=zOt i.m.p i.x (zEq f);simp only[y8w,y7o,xAy,y6r];omega
def StI'.out_succ (i:StI') {j:Nat} {f:c9} (h:i.x.fills[j]? =au f):i.out (j+1)=i.out j++m3 i.m.p i.x (zEq f):=by
 rw[StI'.out,StI'.out,y7c,y7r,h];simp
def yYq (i:StI') (h:mstepC.cnd i):yDz i:=by
 obtain⟨hf,hpr,hl,hcs,hfs⟩:i.m.fine/\yY i.x.price/\i.x.fills.length<=1000000/\(i.c.side=1\/i.c.side=2)/\∀f∈i.x.fills,f.side=1\/f.side=2:=h;have e4:(i.x.fills.map yX).length=i.x.fills.length:=y5u ..;unfold yDz mP zCt zCj zDf f9 dE qO dI;refine⟨0,rfl,rfl,λj=>j<=i.x.fills.length,λj=>i.x.fills.length-j,y6z _,?_⟩;intro j hj;have ho:=i.out_len j;have e5:((i.out j).map xV).length=(i.out j).length:=y5u ..;refine zH (λc=> ?_) (λc=> ?_)
 ·obtain⟨f,hfj⟩:=yA (l:=i.x.fills) (i:=j) oM;have hos:=i.out_succ hfj;have hfj2:=hfs f (y6e hfj);refine⟨⟨oM,oM⟩,_,_,_,_,_,_,y2l hfj,oM,⟨i.m,f.inst⟩,rfl,rfl,rfl,rfl,rfl,rfl,rfl,rfl,rfl,rfl,rfl,rfl,rfl,rfl,hf,λ_ _=>Cv.cnd.mk (λe=> ?_) (λe=> ?_)⟩
  ·have e:(i.m.p.legs (zEq f).inst).2.2=aq:=e;rw[z1r e]at hos;refine⟨⟨i.m,f.inst,i.x⟩,rF8 (rF6 (rF3 ⟨rfl,⟨hf,hpr,hl⟩,λ_ _=>⟨⟨i.m,zEq f,(vF i.m.p f.inst i.x).1,(vF i.m.p f.inst i.x).2⟩,rF8 (rF8 (rF6 ⟨rfl,⟨hf,hfj2⟩,λ_ _=>⟨trivial,by rw[y5s,e5];simp only[y5y,y7n];omega,j+1,wjn oM,?_,oM,Z9,k0q⟩⟩))⟩⟩))⟩;rw[hos,y6d,y6a];rfl
  ·have e:(i.m.p.legs (zEq f).inst).2.2=ap:=e;rw[z7o e]at hos;refine⟨j+1,wjn oM,?_,oM,Z9,k0q⟩;rw[hos,y6d];rfl
 ·have hj:j=i.x.fills.length:=by omega
  have ho2:i.x.fills.flatMap (λf=>m3 i.m.p i.x (zEq f))=i.out j:=by rw[StI'.out,hj,y6f (y6p _)]
  have hR:nC i.m.p i.c i.x i.left=i.out j++m3 i.m.p i.x ⟨3,i.c.id,i.c.inst,i.c.side,i.x.price,i.x.qty,i.left,0⟩:=by rw[nC,ho2]
  refine⟨oM,⟨i.m,i.c.inst⟩,rF8 (rF5 ⟨rfl,hf,λ_ _=>Cv.cnd.mk (λe=> ?_) (λe=> ?_)⟩)⟩
  ·have e:(i.m.p.legs (⟨3,i.c.id,i.c.inst,i.c.side,i.x.price,i.x.qty,i.left,0⟩:Rep).inst).2.2=aq:=e;rw[z1r e]at hR;refine⟨⟨i.m,i.c.inst,i.x⟩,rF8 (rF6 (rF3 ⟨rfl,⟨hf,hpr,hl⟩,λ_ _=>⟨⟨i.m,⟨3,i.c.id,i.c.inst,i.c.side,i.x.price,i.x.qty,i.left,0⟩,(vF i.m.p i.c.inst i.x).1,(vF i.m.p i.c.inst i.x).2⟩,rF8 (rF8 (rF6 ⟨rfl,⟨hf,hcs⟩,λ_ _=>⟨trivial,by rw[y5s,e5];simp only[y5y,y7n];omega,?_⟩⟩))⟩⟩))⟩;rw[hR,y6d,y6a];exact kp
  ·have e:(i.m.p.legs (⟨3,i.c.id,i.c.inst,i.c.side,i.x.price,i.x.qty,i.left,0⟩:Rep).inst).2.2=ap:=e;rw[z7o e]at hR;rw[hR,y6d];exact kp
def yIh:mstepC.ok Tryz.prog 208:=okw mixed (gokc yXg (gokc z2e (gokc z3h gok0))) 1 (λ_=>[]) (λi=>yYl i) [] Tryz.func208 yYq
structure EnI where
 m:Mkt
 p:Prd
 B:List (List zI)
 U:List Int
 c:Cmd
 X:MkX
@[reducible] def EnI.std (i:EnI):Prop:=i.m.Rep i.p i.B i.U/\BOk i.p i.B
@[reducible] def EnI.good (i:EnI):Prop:=(0<=i.c.inst/\i.c.inst<i.B.length)/\(1<=i.c.qty/\i.c.qty<=1000000)/\(i.c.side=1\/i.c.side=2)
@[reducible] def zZx (X:MkX) (p:Prd):Alt:={o:=Mkt,res:=λ_=> .own 5,post:=λo=>zBt o++[z5k X.R],rel:=λo=>o.Rep p X.B X.U}
def enterC:Con where
 ι:=EnI
 pat:=λi=>[.nm 0 0,zFr i.c]
 pre:=λi=>zBt i.m
 cnd:=λi=>i.std/\i.good/\i.p.price i.c.inst i.c.price=0/\i.X=bI i.p i.B i.U i.c
 alts:=λi=>[zZx i.X i.p]
structure EnJ where
 left:Int
 k:Nat
 out:List Rep
def yWh (i:EnI):List SAnn:=[{ι:=EnJ,slots:=λj=>[(5,.own 0),(8,zA j.left),(51,zA j.k)],rows:=λj=>[z5k j.out]}]
def orderC:Con where
 ι:=EnI
 pat:=λi=>[.nm 0 0,zFr i.c]
 pre:=λi=>zBt i.m
 cnd:=λi=>i.std/\i.c.right=0/\i.c.kind=1/\i.X=nN i.p i.B i.U i.c
 alts:=λi=>[zZx i.X i.p]
def yYa:List (Nat×SAnn):=[(22,ij 6),(44,bj 47),(52,bj 69)]
structure CaI where
 m:Mkt
 p:Prd
 B:List (List zI)
 U:List Int
 id:Int
 q:Int
 inst:Int
 o:zI
 X:MkX
@[reducible] def CaI.std (i:CaI):Prop:=i.m.Rep i.p i.B i.U/\BOk i.p i.B
def cancelC:Con where
 ι:=CaI
 pat:=λi=>[.nm 0 0,zA i.id,zA i.inst,yCx i.o]
 pre:=λi=>zBt i.m
 cnd:=λi=>i.std/\i.X=uU i.B i.U i.id i.inst i.o
 alts:=λi=>[zZx i.X i.p]
def reduceC:Con where
 ι:=CaI
 pat:=λi=>[.nm 0 0,zA i.id,zA i.q,zA i.inst,yCx i.o]
 pre:=λi=>zBt i.m
 cnd:=λi=>i.std/\yY (i.o.qty-i.q)/\i.X=bP i.B i.U i.id i.q i.inst i.o
 alts:=λi=>[zZx i.X i.p]
structure yAx where
 m:Mkt
 p:Prd
 B:List (List zI)
 U:List Int
 c:Cmd
 inst:Int
 o:zI
 X:MkX
def replaceC:Con where
 ι:=yAx
 pat:=λi=>[.nm 0 0,zFr i.c,zA i.inst,yCx i.o]
 pre:=λi=>zBt i.m
 cnd:=λi=>i.m.Rep i.p i.B i.U/\BOk i.p i.B/\zZ i.B i.c.id=(i.inst,i.o,aq)/\(1<=i.c.qty/\i.c.qty<=1000000)/\i.X=f8 i.p i.B i.U i.c i.inst i.o
 alts:=λi=>[zZx i.X i.p]
def doC:Con where
 ι:=EnI
 pat:=λi=>[.nm 0 0,zFr i.c]
 pre:=λi=>[kX i.m]
 cnd:=λi=>i.std/\i.c.label.length<=140737488355328/\yY i.c.qty/\i.X=doF i.p i.B i.U i.c
 alts:=λi=>[{o:=Mkt,res:=λ_=> .own 1,post:=λo=>[kX o,z5k i.X.R],rel:=λo=>o.Rep i.p i.X.B i.X.U}]
end Sx
