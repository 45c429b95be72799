/- Texts of ours. No condition. -/
import Derived.Shelf.Spec.SlicesGrow
import Derived.Test.YthkofaanekmpmaaGreatB9
set_option linter.all false
open Sx.AObj renaming fro->aa,cells->ab,adt->ac,objs->ae,map->af,own->ag
open Go.IntKind renaming i64->aj,u8->ak,u64->am
open List renaming map->ao
open Bool renaming false->ap,true->aq
open Go.Builtin renaming zeroCells->ar
open Option renaming some->au,none->av
open Go.Value renaming string->aw
open ByteArray renaming mk->ax
open BitVec renaming ofInt->ay
open Go renaming grownCap->az,TypeId->ba,size_zeroCells->bc
namespace Sx
set_option maxRecDepth 100000
open Go Cv Go.Proofs
def growR:Go.Shelf.Ren:=⟨λx=>if x=4 then 141 else x,λx=>if x=22 then 53 else if x=25 then 5 else x,λx=>x⟩
def y2f:Lays8.n4 Tryz.prog growR where
 mixed:=mixed
 f4:=⟨Tryz.f141.name,by decide+kernel,by kernel_rfl⟩
 t0:=by kernel_rfl
 a0:=λ_=>by kernel_rfl
 z0:=λ_=>by kernel_rfl
 v0:=λ_=>by kernel_rfl
 t3:=by kernel_rfl
 a3:=λ_=>by kernel_rfl
 z3:=λ_=>by kernel_rfl
 v3:=λ_=>by kernel_rfl
 t4:=by kernel_rfl
 a4:=λ_=>by kernel_rfl
 z4:=λ_=>by kernel_rfl
 v4:=λ_=>by kernel_rfl
 t9:=by kernel_rfl
 a9:=λ_=>by kernel_rfl
 z9:=λ_=>by kernel_rfl
 v9:=λ_=>by kernel_rfl
 t20:=by kernel_rfl
 a20:=λ_=>by kernel_rfl
 z20:=λ_=>by kernel_rfl
 v20:=λ_=>by kernel_rfl
 t22:=by kernel_rfl
 a22:=λ_=>by kernel_rfl
 z22:=λ_=>by kernel_rfl
 v22:=λ_=>by kernel_rfl
def yYw:vQ Tryz.prog 53=au (5,1,1,#[.int .u8 0]):=by kernel_rfl
def yMp:growC.ok Tryz.prog 141:=by
 intro(n:Nat) hc k L E w ys R hv;obtain⟨c1,c2⟩:1<=n/\n<=1099511627776:=hc;simp only[growC,con1,VRL,VR,DR]at hv;obtain⟨_,_,rfl,⟨rfl,_⟩,_,_,rfl,⟨rfl,_⟩,rfl⟩:=hv;obtain⟨inf,zv,q1,q2,q3,q4,q5,q6⟩:=kG yYw;have hcall:=Any8.slices_Grow_grow y2f inf zv q2 q5 oM av 0 0 n [] w (y5z _) oM (by rw[q4];omega) oM (by simp) (λ_=>rfl) (λa h=>by cases h);rw[show growR.t 25=5 from rfl]at hcall;refine mP (by kernel_rfl) (hcall.mono ?_);rintro en w' ⟨rfl,rfl⟩;have hG:=grownCap_ge w (0+n) 0 5;have H:=((R.hp.drew).new (.cells (([]:List Value).toArray++ar zv.cells (0+n-0)++ar zv.cells (az w (0+n) 0 5-(0+n))) 5))
 have ha:(([]:List Value).toArray++ar zv.cells (0+n-0)++ar zv.cells (az w (0+n) 0 5-(0+n)))=([]++((ar zv.cells (0+n-0)).toList++(ar zv.cells (az w (0+n) 0 5-(0+n))).toList)).toArray:=by
  apply Array.ext';simp
 have hz:zv.cells.size=1:=by rw[q6];rfl
 have hl:([]++((ar zv.cells (0+n-0)).toList++(ar zv.cells (az w (0+n) 0 5-(0+n))).toList)).length=az w (0+n) 0 5*1:=by
  rw[y7t,y5c,y9b,y9b,bc,bc,hz];omega
 rw[ha]at H ⊢;have H3:=H.slmk (n:=0) (sz:=1) (by simp) hl (y6l _);obtain⟨E',r1,r2,r3⟩:=cL (rows:=[]) (els:=[]) (nx:=0) R.nx (by simp[DRL]) (λx hx=>by cases hx) H3;exact⟨_,rfl,_,y6p.2 rfl,(),trivial,E',r1,r3,⟨r2.nx,r2.hp⟩⟩
def z4w {ls:List (List UInt8)} {k:Nat} {l:List UInt8} (h:ls[k]? =au l):zE (ls.map rcE) k 0 1=au [D.ro 1 (bE l)]:=elA h (by simp[rcE]) rfl
def rW {α:Type} {ls:List (List α)} {k:Nat} {l:List α} (h:ls[k]? =au l):(ls.take (k+1)).flatten=(ls.take k).flatten++l:=by
 rw[y6m,h,y8g,xAd];simp
def z6g {α:Type} (ls:List (List α)) (k:Nat):(ls.take k).flatten.length<=ls.flatten.length:=by
 conv=>rhs;rw[<- y7k k ls,xAd,y5c]
 omega
def yZz (ls:List (List UInt8)) (h:flatC.cnd ls):z6o ls:=by
 obtain⟨h1,h2,h3⟩:1<=ls.flatten.length/\ls.flatten.length<=1099511627776/\ls.length<=1000:=h;unfold z6o aB kO;rw[y5e];refine⟨0,rfl,rfl,λk=>k<=ls.length,λk=>ls.length-k,y6l _,λk hk=>zI (λhlt=> ?_) (λhlt=> ?_)⟩
 ·obtain⟨l,hl⟩:=yE (l:=ls) (i:=k) oM;have hk:k<=ls.length:=hk;have e1:=z6g ls (k+1);rw[rW hl,y5c]at e1;refine⟨⟨oM,oM⟩,bE l,z4w hl,zI (λc=> ?_) (λ_=>⟨k+1,?_,wjn oM,Z9,Z9,trivial⟩)⟩
  ·rw[yO,w64 (by omega)]at c;omega
  ·rw[rW hl,y5c,yO,w64 (by omega)];simp
 ·obtain rfl:k=ls.length:=by have hk:k<=ls.length:=hk;omega
  rw[y8c];refine⟨ls.flatten.length,trivial,rfl,⟨h1,h2⟩,λ_ _=>⟨0,rfl,rfl,λk=>k<=ls.length,λk=>ls.length-k,y6l _,λk hk=>zI (λhlt=> ?_) (λhlt=> ?_)⟩⟩
  ·obtain⟨l,hl⟩:=yE (l:=ls) (i:=k) oM;have hk:k<=ls.length:=hk;have e1:=z6g ls (k+1);rw[rW hl,y5c]at e1;refine⟨⟨oM,oM⟩,bE l,z4w hl,by rw[yO,yO];omega,k+1,wjn oM,by rw[rW hl,zHk],Z9,Z9,trivial⟩
  ·obtain rfl:k=ls.length:=by have hk:k<=ls.length:=hk;omega
   rw[y8c];exact⟨(),rfl,trivial⟩
def z7r:flatC.ok Tryz.prog 94:=yXq (gokc yMp gok0) yZz
def dnew_ok:dnewC.ok Tryz.prog 32:=okw (V:=y0o) mixed gok0 0 (λ_=>[]) (λ_=>[]) [] Tryz.func32 λ(_:Unit) _=>⟨(),rfl,rfl,trivial⟩
def yMm:dappC.ok Tryz.prog 140:=okw (V:=yQx) mixed gok0 0 (λ_=>[]) (λ_=>[]) [0] Tryz.func140 λ(i:DbI) h=>by
 have h:i.d.b.length+i.l.length<=1048576:=h;unfold yQx;rw[yO,yO];refine zI (λc=> ?_) (λ_=>⟨oM,(),rfl,rfl,zHk _ _,trivial⟩);rw[w64 (by omega)]at c;omega
def yLz:dsynC.ok Tryz.prog 149:=okw (V:=y0f) mixed gok0 0 (λ_=>[]) (λ_=>[]) [0] Tryz.func149 λ(d:Dk) h=>⟨(),by rw[yO],rfl,trivial⟩
def yLq:dbytC.ok Tryz.prog 46:=okw (V:=yYi) mixed (gokc zMt gok0) 0 (λ_=>[]) (λ_=>[]) [0] Tryz.func46 λ(d:Dk) h=>by
 obtain⟨h1,h2⟩:d.ok:=h;exact⟨_,rfl,by rw[yO];omega,λ_ _=>⟨(),rF3 trivial⟩⟩
def z3t:cloneBN.ok Tryz.prog 99:=yAd gok0 λi h=>λb hb=>
 Cv.cnd.mk (λe=>⟨(),hb e,trivial⟩) (λ_=>⟨by rw[y6c,Nat.mul_one];exact h,(),rfl,trivial⟩)
def yLr:dswpC.ok Tryz.prog 139:=okw (V:=yPz) mixed (gokc z3t gok0) 0 (λ_=>[]) (λ_=>[]) [0] Tryz.func139 λ(i:DbI) h=>by
 have h:i.l.length<=1048576:=h;unfold yPz;refine zI (λc=> ?_) (λ_=>⟨_,rfl,by rw[yO];omega,λ_ _=>⟨(),rfl,by rw[yO],rfl,trivial⟩⟩);rw[yO]at c;omega
def yKw:dcraC.ok Tryz.prog 96:=okw (V:=yRt) mixed gok0 0 (λ_=>[]) (λ_=>[]) [0] Tryz.func96 λ(i:DnI) h=>by
 obtain⟨h1,h2⟩:i.d.ok:=h;have e0:(if(0:Int)>i.n then(0:Int)else i.n)=max i.n 0:=by rw[Int.max_def];split<;>split<;>omega
 have e1:aj.wrap (((bE i.d.b).length:Int)-i.d.safe)=(i.d.b.length:Int)-i.d.safe:=by rw[yO,w64 (by omega)]
 have hk:(i.d.keep i.n:Int)=i.d.safe+min (max i.n 0) ((i.d.b.length:Int)-i.d.safe):=by rw[Dk.keep];omega
 have e2:aj.wrap ((i.d.safe:Int)+min (max i.n 0) ((i.d.b.length:Int)-i.d.safe))=i.d.keep i.n:=by rw[w64 (by omega),hk]
 unfold yRt nT;rw[e0,e1,e2,y5w,yO,y5v,yO,<- sH];exact⟨⟨oM,oM⟩,(),oM,rfl,trivial⟩
def y1j:∀n:Fin 256,lob (aj.wrap (ay aj.bits (if aj.signed=aq then(-1:Int)else aj.max) ^^^ ay aj.bits (n.val:Int)).toNat)=UInt8.ofNat (255-n.val):=by decide+kernel
def y3f:∀n:Fin 256,ak.wrap (ay ak.bits (if ak.signed=aq then(-1:Int)else ak.max) ^^^ ay ak.bits (n.val:Int)).toNat=255-(n.val:Int):=by decide+kernel
def gM (l:List UInt8):(xE l).length=l.length+6:=by
 simp only[xE,y5i,y5c,qG]
def ySl (l:List UInt8) (h:frameC.cnd l):yHe l:=by
 have h:l.length<=255:=h;have hn:=y1j ⟨l.length,oM⟩;dsimp only at hn;unfold yHe;rw[yO];revert hn;generalize aj.wrap (ay aj.bits (if aj.signed=aq then(-1:Int)else aj.max) ^^^ ay aj.bits (l.length:Int)).toNat=X;intro hn;refine zI (λc=>by omega) (λ_=>⟨(),trivial,λ_ _=>⟨⟨[],l.length⟩,rfl,rfl,by simp[WN.ok],λ_ _=>⟨⟨_,_⟩,rfl,rfl,by simp[WN.ok],λ_ _=>⟨?_,l,rfl,oM,λ_ _=>⟨⟨_,aL l⟩,rfl,zHk _ _,⟨?_,eF l⟩,λ_ _=>⟨_,rfl,?_,λ_ _=>⟨(),rfl,?_,trivial⟩⟩⟩⟩⟩⟩⟩)
 ·rw[yO];simp;omega
 ·dsimp only;simp;omega
 ·dsimp only;simp[qG];omega
 ·dsimp only;rw[hn,xE];simp
def yFy:frameC.ok Tryz.prog 79:=okw mixed (gokc z8a (gokc z6x (gokc z2k (gokc yJa (gokc z8v gok0))))) 0 (λ_=>yUf) (λ_=>[]) [] Tryz.func79 ySl
def yDq {c:Int} (h:0<=c/\c<4294967296):qV (le c 4)=c:=by
 simp only[le,qV,yZj];omega
def zRx {l:List UInt8} (h:l.length<=255) (r:List UInt8):zCj (xE l++r)=(l,6+l.length,0):=by
 have h0:((xE l++r).getD 0 0).toNat=l.length:=by
  have:=yKb (n:=(l.length:Int)) oM;show(lob (l.length:Int)).toNat=l.length;omega
 have h1:((xE l++r).getD 1 0).toNat=255-l.length:=by
  show(UInt8.ofNat (255-l.length)).toNat=_;exact UInt8.toNat_ofNat_of_lt' (by
                                     have:255-l.length<256:=by omega
                                     simpa using this)
 have h2:(xE l++r).drop 2=l++(le (aL l) 4++r):=by
  show(l++le (aL l) 4)++r=_;rw[y5k]
 have h3:(xE l++r).drop (2+l.length)=le (aL l) 4++r:=by
  rw[<- y8n,h2,List.drop_left]
 unfold zCj;rw[h0,h1,h2,h3,xBj,List.take_left' (qG 4 _),yDq (eF l)];rw[y5d (by rw[y5c,gM];omega),y5d (by omega),y5d (by rw[y5c,gM];omega),y5d (by simp)]
def y3c (i:OpI) (h:wopC.cnd i):yZt i:=by
 obtain⟨h1,h2⟩:i.k<=i.b.length/\i.b.length<=1099511627776:=h;have ex:i.x=zCj (i.b.drop i.k):=rfl;have hll:(i.b.drop i.k).length<=1099511627776:=by rw[y6b];omega
 have bad:∀e:Int,e≠0->i.x.2.2=e->∀{A:Prop},A\/∃o:Unit,True/\(0:Int)=0/\i.x.2.2=e/\(i.x.2.2=0->False):=λe he hx=> .inr ⟨(),trivial,rfl,hx,λh=>he (hx▸h)⟩
 unfold yZt eK zFs zMv fS cM aQ zNc;rw[y5w,<- zFu,yO i.b];generalize i.b.drop i.k=l at*;rw[yO l];refine zI (λc=>by omega) (λ_=>⟨⟨oM,oM⟩,zI (λc=>bad 10 Z8 (by rw[ex,zCj,y5f (by omega)])) (λc=> ?_)⟩);obtain⟨a,ha⟩:∃a,l[0]? =au a:=⟨_,y6f oM⟩
 obtain⟨b,hb⟩:∃b,l[1]? =au b:=⟨_,y6f oM⟩
 have ea:l.getD 0 0=a:=by rw[y5m,ha];rfl
 have eb:l.getD 1 0=b:=by rw[y5m,hb];rfl
 have la:=a.toNat_lt;have hn:=y3f ⟨a.toNat,la⟩;dsimp only at hn;refine⟨⟨oM,oM⟩,b.toNat,dR hb,⟨oM,oM⟩,a.toNat,dR ha,?_⟩;rw[hn];have wa:aj.wrap (a.toNat:Int)=a.toNat:=w64 oM;have w2:aj.wrap ((2:Int)+a.toNat)=2+a.toNat:=w64 oM;have w3:aj.wrap ((2:Int)+a.toNat+4)=2+a.toNat+4:=w64 oM;have w4:aj.wrap ((i.k:Int)+(2+a.toNat))=i.k+(2+a.toNat):=w64 oM;have w5:aj.wrap ((i.k:Int)+(2+a.toNat)+4)=i.k+(2+a.toNat)+4:=w64 oM;have t1:((2:Int)+a.toNat).toNat=2+a.toNat:=by omega
 have t2:((2:Int)+a.toNat+4).toNat=2+a.toNat+4:=by omega
 refine Cv.cnd.mk (λc2=>bad 14 Z8 ?_) (λc2=>⟨⟨oM,oM⟩,a.toNat,dR ha,?_⟩)
 ·have c2:¬((b.toNat:Int)=255-a.toNat):=by simpa using c2
  rw[ex,zCj,y5d (by omega),ea,eb,y5f (by omega)]
 have c2:(b.toNat:Int)=255-a.toNat:=by simpa using c2
 rw[wa,w2,w3,w4,w5,t1,t2,show Int.toNat 2=2 from rfl];refine zI (λc3=>bad 10 Z8 ?_) (λc3=> ?_)
 ·rw[ex,zCj,y5d (by omega),ea,eb,y5d (by omega),y5f (by omega)]
 have l1:((l.take (2+a.toNat+4)).drop (2+a.toNat)).length=4:=by rw[y6b,y5v];omega
 have g1:(l.take (2+a.toNat+4)).drop (2+a.toNat)=(l.drop (2+a.toNat)).take 4:=by rw[List.drop_take];congr 1;omega
 have g2:(l.take (2+a.toNat)).drop 2=(l.drop 2).take a.toNat:=by rw[List.drop_take];congr 1;omega
 have g3:RN.got ⟨(l.take (2+a.toNat+4)).drop (2+a.toNat),ap,4⟩=(l.drop (2+a.toNat)).take 4:=by
  rw[RN.got,y5d (by simp only[RN.bad,l1];decide)];dsimp only;rw[y5p (by omega),g1]
 have l2:((l.drop 2).take a.toNat).length=a.toNat:=by rw[y5v,y6b];omega
 refine⟨⟨oM,oM,oM⟩,(l.take (2+a.toNat+4)).drop (2+a.toNat),by rw[zFu,sH],oM,λ_ _=>⟨⟨oM,oM,oM⟩,⟨_,ap,4⟩,rfl,rfl,⟨Z9,Z9⟩,λ_ _=>⟨(l.take (2+a.toNat)).drop 2,by rw[zFu,sH],by rw[g2];omega,λ_ _=> ?_⟩⟩⟩;rw[g2,g3];have hr:=aK ((l.drop (2+a.toNat)).take 4);have hl4:((l.drop (2+a.toNat)).take 4).length=4:=by rw[<- g1];exact l1
 rw[hl4]at hr;rw[yZv (by omega)];refine Cv.cnd.mk (λc4=>bad 14 Z8 ?_) (λc4=> ?_)
 ·rw[ex,zCj,y5d (by omega),ea,eb,y5d (by omega),y5d (by omega),y5f (by simpa using c4)]
 have ex2:i.x=((l.drop 2).take a.toNat,6+a.toNat,0):=by
  rw[ex,zCj,y5d (by omega),ea,eb,y5d (by omega),y5d (by omega),y5d (by simpa using c4)]
 rw[ex2,<- sH,<- zFu,g2,yO,l2];exact⟨⟨oM,oM,oM⟩,oM,.inl ⟨(),Z9,rfl,rfl,rfl⟩⟩
def yTq:wopC.ok Tryz.prog 180:=okw mixed (gokc z9c (gokc z2f (gokc z2k gok0))) 0 (λ_=>[]) (λ_=>[]) [] Tryz.func180 y3c
def z8n (A B:List (List UInt8)):fsB (A++B)=fsB A++fsB B:=by rw[fsB,y7b];rfl
def zFh (l:List UInt8) (L:List (List UInt8)):fsB (l::L)=xE l++fsB L:=rfl
def yJo {L:List (List UInt8)} {k:Nat} {l:List UInt8} (h:L[k]? =au l):fsB (L.take (k+1))=fsB (L.take k)++xE l:=nX h
def zQq (L:List (List UInt8)) (k:Nat):fsB L=fsB (L.take k)++fsB (L.drop k):=by rw[<- z8n,y7k]
def z5j (L:List (List UInt8)):L.length<=(fsB L).length:=by
 induction L with
 |nil=>exact y5z _
 |cons l L ih=>rw[zFh,y5c,gM,y5i];omega
def y0l (i:ScI) (h:scanC.cnd i):yQi i:=by
 obtain⟨h1,h2,h3⟩:i.ok:=h;have hn:=z5j i.L;have hsp:∀k,(fsB i.L).length=(fsB (i.L.take k)).length+(fsB (i.L.drop k)).length:=λk=>by
  have:=congrArg List.length (zQq i.L k);rwa [y5c]at this
 unfold yQi zJi fE;rw[yO,y5c];refine⟨0,rfl,rfl,λk=>k<=i.L.length,λk=>i.L.length-k,y6l _,λk hk=>zI (λhlt=> ?_) (λhlt=> ?_)⟩
 ·have hk:k<=i.L.length:=hk;have hs:=hsp k;have hx:(OpI.mk (fsB i.L++i.t) (fsB (i.L.take k)).length).x=zCj (fsB (i.L.drop k)++i.t):=by
   show zCj ((fsB i.L++i.t).drop _)=_;rw[zQq i.L k,y5k,List.drop_left]
  refine⟨⟨fsB i.L++i.t,(fsB (i.L.take k)).length⟩,rfl,rfl,⟨by dsimp only;rw[y5c];omega,by dsimp only;rw[y5c];omega⟩,λ_ e0=> ?_,λ_ e1=> ?_⟩
  ·rw[hx]at e0 ⊢;rcases y7m k i.L.length with hk2|hk2
   ·obtain⟨l,hl⟩:=yE hk2;have hd:i.L.drop k=l::i.L.drop (k+1):=by
     rw[y7l hk2];congr 1;rw[y6f hk2]at hl;exact Option.some.inj hl
    have hl255:=h1 l (y5o hl);rw[hd,zFh,y5k,zRx hl255];refine⟨by rw[y5e,y5v];omega,k+1,?_,?_,Z9,Z9,trivial⟩
    ·rw[yJo hl,y5c,gM];dsimp only;omega
    ·rw[y6m,hl];simp[rcE]
   ·rw[y8l hk2]at e0;rw[show fsB ([]:List (List UInt8))++i.t=i.t from rfl,h2]at e0;cases e0
  ·rw[hx]at e1 ⊢;rcases y7m k i.L.length with hk2|hk2
   ·obtain⟨l,hl⟩:=yE hk2;have hd:i.L.drop k=l::i.L.drop (k+1):=by
     rw[y7l hk2];congr 1;rw[y6f hk2]at hl;exact Option.some.inj hl
    have hl255:=h1 l (y5o hl);rw[hd,zFh,y5k,zRx hl255]at e1;exact absurd rfl e1
   ·obtain rfl:k=i.L.length:=by omega
    rw[List.drop_length,show fsB ([]:List (List UInt8))++i.t=i.t from rfl,h2,y8c];exact Cv.cnd.mk (λe=>by cases e) (λ_=>Cv.cnd.mk (λ_=>⟨(),rF3 trivial⟩) (λe=>by cases e))
 ·have hk:k<=i.L.length:=hk;have hs:=hsp k;have h5:=z5j (i.L.drop k);rw[y6b]at h5;obtain rfl:k=i.L.length:=by omega
  rw[y8c];exact⟨(),rF3 trivial⟩
def yMb:scanC.ok Tryz.prog 138:=okw mixed (gokc yTq gok0) 0 (λ_=>[]) (λi=>y0z i) [] Tryz.func138 y0l
def ySs:jopC.ok Tryz.prog 87:=okw (V:=y0w) mixed (gokc yLq (gokc yMb (gokc yLr gok0))) 0 (λ_=>[]) (λ_=>[]) [] Tryz.func87 λ(i:JoI) h=>by
 obtain⟨hs,hd⟩:(ScI.mk i.L i.t).ok/\i.d.ok:=h;have e0:(bE i.d.b).length=(fsB i.L).length+i.t.length:=by rw[yO,JoI.d,y5c]
 have h3:=hs.2.2;dsimp only at h3;unfold y0w;refine⟨i.d,rfl,hd,λ_ _=>⟨⟨i.L,i.t⟩,rfl,hs,λ_ _=>zI (λc=> ?_) (λc=> ?_)⟩⟩
 ·have ht:i.t≠[]:=λe=>by rw[e0,e]at c;simp at c
  refine⟨⟨oM,by rw[e0];dsimp only;omega⟩,⟨i.d,fsB i.L⟩,?_,rfl,Z9,λ_ _=>⟨(),rfl,?_,by rw[y5e],rfl,trivial⟩⟩
  ·dsimp only;rw[y5w,<- sH,JoI.d,xBj]
  ·rw[JoI.d',y5d ht]
 ·have ht:i.t=[]:=List.length_eq_zero_iff.1 (by rw[e0]at c;dsimp only at c;omega);refine⟨(),rfl,?_,by rw[y5e],rfl,trivial⟩;rw[JoI.d',y5f ht]
def yNi:jappC.ok Tryz.prog 93:=okw (V:=y2g) mixed (gokc yFy (gokc yMm gok0)) 0 (λ_=>[]) (λ_=>[]) [] Tryz.func93 λ(i:JaI) h=>by
 obtain⟨h1,h2,h3,h4⟩:i.l.length<=255/\i.d.b.length+i.l.length+6<=1048576/\0<=i.n/\i.n<=1048576:=h;exact⟨i.l,rfl,h1,λ_ _=>⟨⟨i.d,xE i.l⟩,rfl,rfl,by dsimp only;rw[gM];omega,λ_ _=>⟨(),rfl,by rw[w64 (by omega)],rfl,trivial⟩⟩⟩
def yNg:jsynC.ok Tryz.prog 102:=okw (V:=yYl) mixed (gokc yLz gok0) 0 (λ_=>[]) (λ_=>[]) [] Tryz.func102 λ(i:JaI) h=>⟨i.d,rfl,h,λ_ _=>⟨(),rfl,rfl,trivial⟩⟩
open Classical
def eV (i:RN):i.left.length<=i.l.length:=by
 unfold RN.left;split
 ·omega
 ·rw[y6b];omega
def m4 {r:RB} (h:r.ok):r.byte.2.ok:=y7z (eV _) h
def gG {r:RB} (h:r.ok):r.long.2.ok:=y7z (eV _) h
def b6 (l:List UInt8):bE l=qO ⟨l.toArray⟩:=rfl
def fbyteC:Con:=con1 WN (λi=>[roV 1 (bE i.l),zA i.n]) (λ_=>[]) WN.ok (λ_=> .own 0) (λi=>[.own tU8 1 (bE (i.l++[lob i.n]))])
def flongC:Con:=con1 WN (λi=>[roV 1 (bE i.l),zA i.n]) (λ_=>[]) WN.ok (λ_=> .own 0) (λi=>[.own tU8 1 (bE (i.l++le i.n 8))])
def yTt (i:WN):List SAnn:=[{ι:=Nat,slots:=λj=>[(5,.own 0),(6,tU ((8*j:Nat):Int))],rows:=λj=>[.own tU8 1 (bE (i.l++le i.n j))]}]
def yUw (i:WN):Prop:=
 (0+(bE i.l).length)*(1:Nat)<=(140737488355328:Nat)/\(([]++bE i.l).length+1)*(1:Nat)<=(140737488355328:Nat)/\∃(o:Unit),bE (i.l++[lob i.n])=[]++bE i.l++[[D.v (.int .u8 (ak.wrap i.n))]]/\True
def yVk (i:WN):Prop:=
 (0+(bE i.l).length)*(1:Nat)<=(140737488355328:Nat)/\∃(i0:Nat),(↑(8*i0):Int)=0/\bE (i.l++le i.n i0)=[]++bE i.l/\∃(I:Nat->Prop),∃(μ:Nat->Nat),I i0/\∀(i_1:Nat),I i_1->cnd (decide ((↑(8*i_1):Int)<64)) (0<=(↑(8*i_1):Int)/\((bE (i.l++le i.n i_1)).length+1)*(1:Nat)<=(140737488355328:Nat)/\∃(i':Nat),(↑(8*i'):Int)=am.wrap ((↑(8*i_1):Int)+8)/\bE (i.l++le i.n i')=bE (i.l++le i.n i_1)++[[D.v (.int .u8 (ak.wrap (bQ am (am.wrap i.n) (↑(8*i_1):Int))))]]/\I i'/\μ i'<μ i_1/\True) (∃(o:Unit),bE (i.l++le i.n 8)=bE (i.l++le i.n i_1)/\True)
def zUn:∀(k m:Nat) (n:Int),k<=m->(le n m).take k=le n k
 |0,m,n,h=>by simp[le]
 |k+1,m+1,n,h=>by simp only[le,y6o];rw[zUn k m _ (by omega)]
def z5u {k:Nat} (h:k<=8) (n:Int):le (am.wrap n) k=le n k:=by
 rw[<- zUn k 8 _ h,zTd,zUn k 8 _ h]
def z0x:fbyteC.ok Tryz.prog 143:=okw (V:=yUw) mixed gok0 0 (λ_=>[]) (λ_=>[]) [] Tryz.func143 λ(i:WN) h=>by
 have h:i.l.length+8<=1099511627776:=h;refine⟨by rw[yO];omega,by rw[y7t,yO];omega,(),?_,trivial⟩;rw[zHk,l9];rfl
def yGc:flongC.ok Tryz.prog 86:=okw (V:=yVk) mixed gok0 0 (λ_=>[]) (λi=>yTt i) [] Tryz.func86 λ(i:WN) h=>by
 have h:i.l.length+8<=1099511627776:=h;refine⟨by rw[yO];omega,0,rfl,by simp[le],λj=>j<=8,λj=>8-j,Z8,λj hj=>zI (λhlt=> ?_) (λhlt=> ?_)⟩
 ·dsimp only at hj;have hu:=dP i.n;refine⟨oM,?_,j+1,?_,?_,by(first|omega|(dsimp only;omega)),by(first|omega|(dsimp only;omega)),trivial⟩
  ·rw[yO,y5c,qG];omega
  ·rw[zBn (by omega)];omega
  ·rw[l9,zAj .u64 _ (8*j) (by show 8*j<=64;omega),show(2:Int) ^ (8*j)=256 ^ j by rw[show(256:Int)=2 ^ 8 from rfl,<- Int.pow_mul],<- z5u (k:=j+1) (by omega) i.n,z6t,z5u (by omega),<- y5k,zHk];rfl
 ·dsimp only at hj;obtain rfl:j=8:=by omega
  exact⟨(),rfl,trivial⟩
def y2o (s:List UInt8):Prop:=
 ∃(a:Nat×Nat),(↑a.snd:Int)=0/\sb s=sb s/\a.fst=0/\∃(b:Nat×Nat->Prop),∃(c:Nat×Nat->Nat),b a/\∀(d:Nat×Nat),b d->cnd (d.fst.blt (sb s).size) (cnd (decide ((qC s d)<32)) (∃(e:Unit),fV s=ap/\True) (cnd ((qC s d)==127) (∃(e:Unit),fV s=ap/\True) (cnd ((qC s d)==65533) (∃(e:Unit),fV s=ap/\True) (dQ d s b c)))) (cnd (decide ((↑d.snd:Int)>=1)) (∃(e:Unit),fV s=decide ((↑d.snd:Int)<=12)/\True) (∃(e:Unit),fV s=ap/\True))
def zIx (a:Cmd):Prop:=∃(b:List UInt8),sb b=sb a.label/\b.length<=140737488355328/\∀(c:Unit),True->cnd (!fV b) (∃(d:Unit),a.orderE=29/\True) (cnd (decide (a.price>=(-2000000))) (cnd (!decide (a.price<=2000000)) (∃(d:Unit),a.orderE=23/\True) (cnd (decide (a.inst<0)) (∃(d:Unit),a.orderE=20/\True) (cnd (decide (a.inst>255)) (∃(d:Unit),a.orderE=20/\True) (∃(d:Unit),a.orderE=0/\True)))) (∃(d:Unit),a.orderE=23/\True))
def nK (a:Cmd):=(!(sb a.label).toList==(ax #[]).toList)
def yRk (c:Cmd):Prop:=
 cnd (c.side !=1) (cnd (c.side !=2) (∃(a:Unit),c.orderE=21/\True) (cnd (decide (c.time<1)) (∃(a:Unit),c.orderE=27/\True) (cnd (decide (c.time>3)) (∃(a:Unit),c.orderE=27/\True) (cnd (decide (c.qty>=1)) (cnd (!decide (c.qty<=1000000)) (∃(a:Unit),c.orderE=24/\True) (cnd (decide (c.least<0)) (∃(a:Unit),c.orderE=28/\True) (cnd (decide (c.least>c.qty)) (∃(a:Unit),c.orderE=28/\True) (cnd (nK c) (zIx c) (cnd (decide (c.price>=(-2000000))) (cnd (!decide (c.price<=2000000)) (∃(a:Unit),c.orderE=23/\True) (cnd (decide (c.inst<0)) (∃(a:Unit),c.orderE=20/\True) (cnd (decide (c.inst>255)) (∃(a:Unit),c.orderE=20/\True) (∃(a:Unit),c.orderE=0/\True)))) (∃(a:Unit),c.orderE=23/\True)))))) (∃(a:Unit),c.orderE=24/\True))))) (cnd (decide (c.time<1)) (∃(a:Unit),c.orderE=27/\True) (cnd (decide (c.time>3)) (∃(a:Unit),c.orderE=27/\True) (cnd (decide (c.qty>=1)) (cnd (!decide (c.qty<=1000000)) (∃(a:Unit),c.orderE=24/\True) (cnd (decide (c.least<0)) (∃(a:Unit),c.orderE=28/\True) (cnd (decide (c.least>c.qty)) (∃(a:Unit),c.orderE=28/\True) (cnd (nK c) (zIx c) (cnd (decide (c.price>=(-2000000))) (cnd (!decide (c.price<=2000000)) (∃(a:Unit),c.orderE=23/\True) (cnd (decide (c.inst<0)) (∃(a:Unit),c.orderE=20/\True) (cnd (decide (c.inst>255)) (∃(a:Unit),c.orderE=20/\True) (∃(a:Unit),c.orderE=0/\True)))) (∃(a:Unit),c.orderE=23/\True)))))) (∃(a:Unit),c.orderE=24/\True))))
def yIf (c:Cmd):Prop:=
 cnd (decide (c.kind<1)) (∃(a:Unit),c.right=31/\True) (cnd (decide (c.kind>4)) (∃(a:Unit),c.right=31/\True) (cnd (decide (c.id<1)) (∃(a:Unit),c.right=1/\True) (cnd (decide (c.id>1099511627776)) (∃(a:Unit),c.right=1/\True) (cnd (c.kind==1) (∃(a:Cmd),a.kind=c.kind/\a.id=c.id/\a.inst=c.inst/\a.side=c.side/\a.price=c.price/\a.qty=c.qty/\a.least=c.least/\a.time=c.time/\sb a.label=sb c.label/\a.label.length<=140737488355328/\∀(b:Unit),True->∃(d:Unit),c.right=a.orderE/\True) (cnd (c.kind !=2) (cnd (decide (c.qty>=1)) (cnd (!decide (c.qty<=1000000)) (∃(a:Unit),c.right=24/\True) (cnd (c.kind==4) (cnd (decide (c.price>=(-2000000))) (cnd (!decide (c.price<=2000000)) (∃(a:Unit),c.right=23/\True) (∃(a:Unit),c.right=0/\True)) (∃(a:Unit),c.right=23/\True)) (∃(a:Unit),c.right=0/\True))) (∃(a:Unit),c.right=24/\True)) (cnd (c.kind==4) (cnd (decide (c.price>=(-2000000))) (cnd (!decide (c.price<=2000000)) (∃(a:Unit),c.right=23/\True) (∃(a:Unit),c.right=0/\True)) (∃(a:Unit),c.right=23/\True)) (∃(a:Unit),c.right=0/\True)))))))
def y4q (s:List UInt8) (h:labC.cnd s):y2o s:=by
 have h:s.length<=140737488355328:=h;have hr:=zGs s;unfold y2o qC dQ;refine⟨(0,0),rfl,rfl,rfl,λx=>x.1<=s.length/\x.2+(u7 s x.1).length=(kV s).length/\(kV s).all zQj=(u7 s x.1).all λx=>zQj x.2,λx=>s.length-x.1,⟨oM,by rw[kV,y5e];simp,by rw[kV,List.all_map];rfl⟩,?_⟩;rintro⟨p,n⟩ ⟨h1,h2,h3⟩;dsimp only at h1 h2 h3 ⊢;refine Cv.cnd.mk (λhp=> ?_) (λhp=> ?_)
 ·have hp:p<s.length:=by simpa[y8e]using hp
  have hw:=cV s hp;rw[jU hp,y5i]at h2;rw[jU hp,List.all_cons]at h3;generalize hc:(Utf8.decode (sb s) p).1=c at h2 h3 ⊢;generalize hww:(Utf8.decode (sb s) p).2=w at h2 h3 hw ⊢;dsimp only at h3;have bad:zQj c=ap->∃(o:Unit),fV s=ap/\True:=λe=>⟨(),by rw[fV,h3,e];rfl,trivial⟩
  refine zI (λc1=>bad ?_) (λc1=>Cv.cnd.mk (λc2=>bad ?_) (λc2=>Cv.cnd.mk (λc3=>bad ?_) (λc3=> ?_)))
  ·simp[zQj];omega
  ·have c2:(c:Int)=127:=by simpa using c2
   simp[zQj];omega
  ·have c3:(c:Int)=65533:=by simpa using c3
   simp[zQj];omega
  ·have c2:¬(c:Int)=127:=by simpa using c2
   have c3:¬(c:Int)=65533:=by simpa using c3
   have e:zQj c=aq:=by simp[zQj];omega
   refine⟨(p+w,n+1),?_,rfl,rfl,⟨hw.2,by(first|omega|(dsimp only;omega)),by rw[h3,e];rfl⟩,by(first|omega|(dsimp only;omega)),trivial⟩;rw[w64 (by omega)];rfl
 ·have hp:s.length<=p:=by have:=z8k hp;simpa using this
  rw[vZ hp]at h2 h3;have h2:n=(kV s).length:=h2;have h3:(kV s).all zQj=aq:=h3;refine zI (λc=>⟨(),?_,trivial⟩) (λc=>⟨(),?_,trivial⟩)
  ·rw[fV,h3,<- h2,y5u (show 1<=n by omega)];simp only[y8a];congr 1;simp only[eq_iff_iff];omega
  ·rw[fV,<- h2,y5q (show ¬1<=n by omega)];simp
def ySo:labC.ok Tryz.prog 203:=okw mixed gok0 0 (λ_=>[]) (λs=>y2r s) [] Tryz.func203 y4q
def y3x (a b:Int):(a==b)=decide (a=b):=by
 by_cases h:a=b
 ·subst h;simp
 ·simp[h]
def yZx (a b:Int):(a !=b)=decide (a≠b):=by
 by_cases h:a=b
 ·subst h;simp
 ·simp[h]
def eqB (a b:List UInt8):((sb a).toList==(sb b).toList)=decide (a=b):=by
 rw[pN,pN];by_cases h:a=b
 ·subst h;simp
 ·simp[h]
def yTb:ax #[]=sb []:=rfl
def y2d (c:Cmd) (h:cmdOrdC.cnd c):yRk c:=by
 have h:c.label.length<=140737488355328:=h;unfold yRk nK zIx;simp only[yTb,eqB,yZx];have tail:¬(c.side≠1/\c.side≠2)->cnd (decide (c.time<1)) (∃(o:Unit),c.orderE=27/\True) (cnd (decide (c.time>3)) (∃(o:Unit),c.orderE=27/\True) (cnd (decide (c.qty>=1)) (cnd (!decide (c.qty<=1000000)) (∃(o:Unit),c.orderE=24/\True) (cnd (decide (c.least<0)) (∃(o:Unit),c.orderE=28/\True) (cnd (decide (c.least>c.qty)) (∃(o:Unit),c.orderE=28/\True) (cnd (!decide (c.label=[])) (∃(i:List UInt8),sb i=sb c.label/\i.length<=140737488355328/\∀(o:Unit),True->cnd (!fV i) (∃(o:Unit),c.orderE=29/\True) (cnd (decide (c.price>=-2000000)) (cnd (!decide (c.price<=2000000)) (∃(o:Unit),c.orderE=23/\True) (cnd (decide (c.inst<0)) (∃(o:Unit),c.orderE=20/\True) (cnd (decide (c.inst>255)) (∃(o:Unit),c.orderE=20/\True) (∃(o:Unit),c.orderE=0/\True)))) (∃(o:Unit),c.orderE=23/\True))) (cnd (decide (c.price>=-2000000)) (cnd (!decide (c.price<=2000000)) (∃(o:Unit),c.orderE=23/\True) (cnd (decide (c.inst<0)) (∃(o:Unit),c.orderE=20/\True) (cnd (decide (c.inst>255)) (∃(o:Unit),c.orderE=20/\True) (∃(o:Unit),c.orderE=0/\True)))) (∃(o:Unit),c.orderE=23/\True)))))) (∃(o:Unit),c.orderE=24/\True))):=by
  intro hs;have e1:c.orderE=if c.time<1\/3<c.time then 27 else if jB c.qty=ap then 24 else if c.least<0\/c.qty<c.least then 28
   else if c.label≠[]/\fV c.label=ap then 29 else if vR c.price=ap then 23 else if c.inst<0\/255<c.inst then 20 else 0:=by rw[Cmd.orderE,y5d hs]
  refine zI (λd1=>⟨(),by rw[e1,y5f (.inl d1)],trivial⟩) λd1=>zI (λd2=>⟨(),by rw[e1,y5f (.inr d2)],trivial⟩) λd2=> ?_
  rw[y5d (by omega)]at e1;have q (hq:jB c.qty=ap):∃(o:Unit),c.orderE=24/\True:=⟨(),by rw[e1,y5f hq],trivial⟩
  refine zI (λd3=>Cv.cnd.mk (λd4=>q ?_) λd4=> ?_) λd3=>q ?_
  ·have d4:¬c.qty<=1000000:=by simpa using d4
   simp[jB,d4]
  ·have d4:c.qty<=1000000:=by simpa using d4
   have hq:¬jB c.qty=ap:=by simp[jB,d4];omega
   rw[y5d hq]at e1;refine zI (λd5=>⟨(),by rw[e1,y5f (.inl d5)],trivial⟩) λd5=>zI (λd6=>⟨(),by rw[e1,y5f (.inr d6)],trivial⟩) λd6=> ?_
   rw[y5d (by omega)]at e1;have last:¬(c.label≠[]/\fV c.label=ap)->cnd (decide (c.price>=-2000000)) (cnd (!decide (c.price<=2000000)) (∃(o:Unit),c.orderE=23/\True) (cnd (decide (c.inst<0)) (∃(o:Unit),c.orderE=20/\True) (cnd (decide (c.inst>255)) (∃(o:Unit),c.orderE=20/\True) (∃(o:Unit),c.orderE=0/\True)))) (∃(o:Unit),c.orderE=23/\True):=by
    intro hl;rw[y5d hl]at e1;have pr (hq:vR c.price=ap):∃(o:Unit),c.orderE=23/\True:=⟨(),by rw[e1,y5f hq],trivial⟩
    refine zI (λg1=>Cv.cnd.mk (λg2=>pr ?_) λg2=> ?_) λg1=>pr ?_
    ·have g2:¬c.price<=2000000:=by simpa using g2
     simp[vR,g2]
    ·have g2:c.price<=2000000:=by simpa using g2
     have hp:¬vR c.price=ap:=by simp[vR,g2];omega
     rw[y5d hp]at e1;refine zI (λg3=>⟨(),by rw[e1,y5f (.inl g3)],trivial⟩) λg3=>zI (λg4=>⟨(),by rw[e1,y5f (.inr g4)],trivial⟩) λg4=>⟨(),by rw[e1,y5d (by omega)],trivial⟩
    ·simp[vR];omega
   refine Cv.cnd.mk (λd7=>⟨c.label,rfl,h,λ_ _=>Cv.cnd.mk (λd8=> ?_) λd8=>last ?_⟩) λd7=>last ?_
   ·have d7:¬c.label=[]:=by simpa using d7
    have d8:fV c.label=ap:=by simpa using d8
    exact⟨(),by rw[e1,y5f ⟨d7,d8⟩],trivial⟩
   ·have d8:fV c.label=aq:=by simpa using d8
    simp[d8]
   ·have d7:c.label=[]:=by simpa using d7
    simp[d7]
  ·simp[jB];omega
 refine zI (λc1=>zI (λc2=>⟨(),by rw[Cmd.orderE,y5f ⟨c1,c2⟩],trivial⟩) λc2=>tail ?_) λc1=>tail ?_
 ·omega
 ·omega
def yOa:cmdOrdC.ok Tryz.prog 163:=okw mixed (gokc ySo gok0) 1 (λ_=>[]) (λ_=>[]) [] Tryz.func163 y2d
def yWu (c:Cmd) (h:cmdRtC.cnd c):yIf c:=by
 have h:c.label.length<=140737488355328:=h;unfold yIf;simp only[y3x,yZx];refine zI (λc1=>⟨(),by rw[Cmd.right,y5f (.inl c1)],trivial⟩) λc1=>zI (λc2=>⟨(),by rw[Cmd.right,y5f (.inr c2)],trivial⟩) λc2=> ?_
 refine zI (λc3=>⟨(),by rw[Cmd.right,y5d (by omega),y5f (.inl c3)],trivial⟩) λc3=>zI (λc4=>⟨(),by rw[Cmd.right,y5d (by omega),y5f (.inr c4)],trivial⟩) λc4=> ?_
 have e0:c.right=if c.kind=1 then c.orderE else if c.kind≠2/\jB c.qty=ap then 24 else if c.kind=4/\vR c.price=ap then 23 else 0:=by rw[Cmd.right,y5d (by omega),y5d (by omega)]
 refine zI (λc5=>⟨c,?_⟩) λc5=> ?_
 ·rw[y5f c5]at e0;exact kp
 rw[y5d c5]at e0;have last (hn:¬(c.kind≠2/\jB c.qty=ap)):cnd (decide (c.kind=4)) (cnd (decide (c.price>=-2000000)) (cnd (!decide (c.price<=2000000)) (∃(o:Unit),c.right=23/\True) (∃(o:Unit),c.right=0/\True)) (∃(o:Unit),c.right=23/\True)) (∃(o:Unit),c.right=0/\True):=by
  rw[y5d hn]at e0;refine zI (λd1=>zI (λd2=>Cv.cnd.mk (λd3=> ?_) λd3=> ?_) λd2=> ?_) λd1=> ?_
  ·have d3:¬c.price<=2000000:=by simpa using d3
   exact⟨(),by rw[e0,y5f ⟨d1,by simp[vR,d3]⟩],trivial⟩
  ·have d3:c.price<=2000000:=by simpa using d3
   exact⟨(),by rw[e0,y5d (by simp[vR,d3];omega)],trivial⟩
  ·exact⟨(),by rw[e0,y5f ⟨d1,by simp[vR];omega⟩],trivial⟩
  ·exact⟨(),by rw[e0,y5d (by simp[d1])],trivial⟩
 refine zI (λd1=>zI (λd2=>Cv.cnd.mk (λd3=> ?_) λd3=>last ?_) λd2=> ?_) λd1=>last ?_
 ·have d3:¬c.qty<=1000000:=by simpa using d3
  exact⟨(),by rw[e0,y5f ⟨d1,by simp[jB,d3]⟩],trivial⟩
 ·have d3:c.qty<=1000000:=by simpa using d3
  simp[jB,d3];omega
 ·exact⟨(),by rw[e0,y5f ⟨d1,by simp[jB];omega⟩],trivial⟩
 ·omega
def zYk:cmdRtC.ok Tryz.prog 111:=okw mixed (gokc yOa gok0) 1 (λ_=>[]) (λ_=>[]) [] Tryz.func111 yWu
def rtextC:Con:=con1 RB (λi=>[.nm 0 0]) (λi=>[RdB i]) RB.ok (λi=>sV i.text.1) (λi=>[RdB i.text.2])
structure TxB where
 l:List UInt8
 s:List UInt8
def ftextC:Con:=con1 TxB (λi=>[roV 1 (bE i.l),sV i.s]) (λ_=>[]) (λi=>i.l.length+300<=1099511627776/\i.s.length<=255) (λ_=> .own 0) (λi=>[.own tU8 1 (bE (i.l++zJv i.s))])
def r6rightC:Con:=con1 Cmd (λc=>[zGe c]) (λ_=>[]) (λc=>c.label=[]/\c.right=0) (λc=>zA 0) (λ_=>[])
def unJ:SAnn:={ι:=Unit,slots:=λ_=>[],rows:=λ_=>[]}
def yGx:List (Nat×SAnn):=[(4,bj 10),(12,bj 18),(22,unJ),(40,bj 50),(50,unJ),(68,bj 90),(76,bj 103)]
def r6encC:Con:=con1 Cmd (λc=>[zGe c]) (λ_=>[]) (λc=>c.label=[]/\c.right=0) (λc=> .tup [roV 1 (bE c.enc),zA 0]) (λ_=>[])
def cdecC:Con:=con1 (List UInt8) (λb=>[roV 1 (bE b)]) (λ_=>[]) (λb=>b.length<=1099511627776) (λb=> .tup [zGe (xO b).1,zA (xO b).2]) (λ_=>[])
def y1c:List (Nat×SAnn):=[(12,bj 19),(26,{ι:=Cmd×RB,slots:=λ_=>[(4,.nm 0 0),(5,.nm 1 0)],rows:=λx=>[RdB x.2,.cells x.1.cells 80],slots0:=λ_=>[(4,.nm 0 0),(5,.nm 1 0)],rows0:=λx=>[RdB x.2,.cells x.1.cells 80]})]
def yTc (i:RB):Prop:=
 ∃(i_1:RB),ac (List UInt8×Bool) 1 RdU (i_1.l,i_1.b)=RdB i/\i_1.l.length<=1099511627776/\∀(o:Unit),True->∃(i_2:RN),(↑i_2.n:Int)=qV (i_1.n 1).got/\ac (List UInt8×Bool) 1 RdU (i_2.l,i_2.b)=ac (List UInt8×Bool) 1 RdU ((i_1.n 1).left,(i_1.n 1).bad)/\(i_2.n<=255/\i_2.l.length<=1099511627776)/\∀(o:Unit),True->∃(b:ByteArray),dh ((1:Nat))/\bE i_2.got=qO b/\∃(o:Unit),sb ((RB.mk (i.n 1).left (i.n 1).bad).n (qV (i.n 1).got).toNat).got=b/\ac (List UInt8×Bool) 1 RdU (((RB.mk (i.n 1).left (i.n 1).bad).n (qV (i.n 1).got).toNat).left,((RB.mk (i.n 1).left (i.n 1).bad).n (qV (i.n 1).got).toNat).bad)=ac (List UInt8×Bool) 1 RdU (i_2.left,i_2.bad)/\True
def ySz (i:TxB):Prop:=
 cnd (decide ((↑(sb i.s).size:Int)>255)) (((0:Int)<=(255:Int)/\255<=(↑(sb i.s).size:Int))/\∃(i_1:WN),bE i_1.l=bE i.l/\i_1.n=(↑((sb i.s).extract 0 (Int.toNat 255)).size:Int)/\i_1.ok/\∀(o:Unit),True->((bE (i_1.l++[lob i_1.n])).length+(qO ((sb i.s).extract 0 (Int.toNat 255))).length)*(1:Nat)<=(140737488355328:Nat)/\∃(o:Unit),bE (i.l++zJv i.s)=bE (i_1.l++[lob i_1.n])++qO ((sb i.s).extract 0 (Int.toNat 255))/\True) (∃(i_1:WN),bE i_1.l=bE i.l/\i_1.n=(↑(sb i.s).size:Int)/\i_1.ok/\∀(o:Unit),True->((bE (i_1.l++[lob i_1.n])).length+(qO (sb i.s)).length)*(1:Nat)<=(140737488355328:Nat)/\∃(o:Unit),bE (i.l++zJv i.s)=bE (i_1.l++[lob i_1.n])++qO (sb i.s)/\True)
def sB (a:Cmd):Prop:=ab [V.d (dI a.kind),V.d (dI a.id),V.d (dI a.inst),V.d (dI a.side),V.d (dI a.price),V.d (dI a.qty),V.d (dI a.least),V.d (dI a.time),V.d (D.v (aw (sb a.label)))] 80=ab [V.d (dI a.kind),V.d (dI a.id),V.d (dI a.inst),V.d (dI a.side),V.d (dI a.price),V.d (dI a.qty),V.d (dI a.least),V.d (dI a.time),V.d (D.v (aw (sb a.label)))] 80
def jL (a:Bool->Prop) (b:Bool) (c:Cmd):Prop:=a b/\sB c
def rA (a:Cmd) (b:Bool->Prop):Prop:=∃(c:Bool),c=decide (a.price>2000000)/\jL b c a
def bK (a:Bool->Prop) (b:Cmd):Prop:=∃(c:Bool),c=ap/\jL a c b
def wY (a:Bool->Prop) (b:Cmd):Prop:=∃(c:Bool),c=aq/\jL a c b
def uM (a:Unit->Prop) (b:Cmd):Prop:=∃(c:Unit),a c/\sB b
def z0j (c:Cmd):Prop:=
 ∃(a:Bool),∃(b:Bool->Prop),cnd (decide (c.kind<1)) (wY b c) (∃(d:Bool),d=decide (c.kind>4)/\jL b d c)/\∀(d:Bool),b d->cnd d (∃(e:Unit),(0:Int)=(31:Int)/\True) (∃(e:Bool),∃(f:Bool->Prop),cnd (decide (c.id<1)) (wY f c) (∃(g:Bool),g=decide (c.id>1099511627776)/\jL f g c)/\∀(g:Bool),f g->cnd g (∃(h:Unit),(0:Int)=(1:Int)/\True) (∃(h:Unit),∃(j:Unit->Prop),cnd (c.kind==1) (cnd (c.side !=1) (cnd (c.side !=2) (∃(k:Unit),(0:Int)=(21:Int)/\True) (cnd (decide (c.time<1)) (∃(k:Unit),(0:Int)=(27:Int)/\True) (cnd (decide (c.time>3)) (∃(k:Unit),(0:Int)=(27:Int)/\True) (uM j c)))) (cnd (decide (c.time<1)) (∃(k:Unit),(0:Int)=(27:Int)/\True) (cnd (decide (c.time>3)) (∃(k:Unit),(0:Int)=(27:Int)/\True) (uM j c)))) (uM j c)/\∀(k:Unit),j k->∃(l:Bool),∃(m:Bool->Prop),cnd (c.kind !=2) (cnd (decide (c.qty<1)) (wY m c) (∃(n:Bool),n=decide (c.qty>1000000)/\jL m n c)) (bK m c)/\∀(n:Bool),m n->cnd n (∃(p:Unit),(0:Int)=(24:Int)/\True) (∃(p:Unit),∃(q:Unit->Prop),cnd (c.kind==1) (cnd (decide (c.least<0)) (∃(r:Unit),(0:Int)=(28:Int)/\True) (cnd (decide (c.least>c.qty)) (∃(r:Unit),(0:Int)=(28:Int)/\True) (cnd (nK c) False (uM q c)))) (uM q c)/\∀(r:Unit),q r->∃(s:Bool),∃(t:Bool->Prop),cnd (c.kind==1) (cnd (decide (c.price<(-2000000))) (wY t c) (rA c t)) (cnd (c.kind==4) (cnd (decide (c.price<(-2000000))) (wY t c) (rA c t)) (bK t c))/\∀(u:Bool),t u->cnd u (∃(v:Unit),(0:Int)=(23:Int)/\True) (∃(v:Bool),∃(w:Bool->Prop),cnd (c.kind==1) (cnd (decide (c.inst<0)) (wY w c) (∃(x:Bool),x=decide (c.inst>255)/\jL w x c)) (bK w c)/\∀(x:Bool),w x->cnd x (∃(y:Unit),(0:Int)=(20:Int)/\True) (∃(y:Unit),dh ((0:Int))/\True)))))
def zCd (a:WN) (b:Cmd):Prop:=∃(c:WN),bE c.l=bE (a.l++le a.n 8)/\c.n=b.qty/\c.ok/\∀(d:Unit),True->∃(e:Unit),bE b.enc=bE (c.l++le c.n 8)/\dh ((0:Int))/\True
def yJx (c:Cmd):Prop:=
 ∃(a:Cmd),a.kind=c.kind/\a.id=c.id/\a.inst=c.inst/\a.side=c.side/\a.price=c.price/\a.qty=c.qty/\a.least=c.least/\a.time=c.time/\sb a.label=sb c.label/\(a.label=[]/\a.right=0)/\∀(b:Unit),True->∃(d:WN),bE d.l=[]/\d.n=c.kind/\d.ok/\∀(e:Unit),True->dh c.id/\∃(f:WN),bE f.l=bE (d.l++[lob d.n])/\f.n=c.id/\f.ok/\∀(g:Unit),True->cnd (c.kind==1) (∃(h:WN),bE h.l=bE (f.l++le f.n 8)/\h.n=c.inst/\h.ok/\∀(j:Unit),True->dh c.time/\dh c.side/\∃(k:WN),bE k.l=bE (h.l++[lob h.n])/\k.n=c.side/\k.ok/\∀(l:Unit),True->dh c.time/\∃(m:WN),bE m.l=bE (k.l++[lob k.n])/\m.n=c.time/\m.ok/\∀(n:Unit),True->∃(p:WN),bE p.l=bE (m.l++[lob m.n])/\p.n=c.price/\p.ok/\∀(q:Unit),True->dh c.least/\dh c.qty/\∃(r:WN),bE r.l=bE (p.l++le p.n 8)/\r.n=c.qty/\r.ok/\∀(s:Unit),True->dh c.least/\∃(t:WN),bE t.l=bE (r.l++le r.n 8)/\t.n=c.least/\t.ok/\∀(u:Unit),True->∃(v:TxB),bE v.l=bE (t.l++le t.n 8)/\sb v.s=sb c.label/\(v.l.length+(300:Nat)<=(1099511627776:Nat)/\v.s.length<=255)/\∀(w:Unit),True->∃(x:Unit),bE c.enc=bE (v.l++zJv v.s)/\dh ((0:Int))/\True) (cnd (c.kind==3) (zCd f c) (cnd (c.kind==4) (∃(h:WN),bE h.l=bE (f.l++le f.n 8)/\h.n=c.price/\h.ok/\∀(j:Unit),True->dh c.qty/\zCd h c) (∃(h:Unit),bE c.enc=bE (f.l++le f.n 8)/\dh ((0:Int))/\True)))
def zGo:Prop:=ab (Sx.V.agg [V.d (dI 0),V.d (dI 0),V.d (dI 0),V.d (dI 0),V.d (dI 0),V.d (dI 0),V.d (dI 0),V.d (dI 0),V.d kP]).cl 80=ab (Sx.V.agg [V.d (dI 0),V.d (dI 0),V.d (dI 0),V.d (dI 0),V.d (dI 0),V.d (dI 0),V.d (dI 0),V.d (dI 0),V.d kP]).cl 80
def zMs (a:Bool->Prop) (b:Bool) (c:RB):Prop:=a b/\dh (ab [V.d (dI (qV (c.n 1).got)),V.d (dI 0),V.d (dI 0),V.d (dI 0),V.d (dI 0),V.d (dI 0),V.d (dI 0),V.d (dI 0),V.d kP] 80)/\dh (ac (List UInt8×Bool) 1 RdU ((c.n 1).left,(c.n 1).bad))/\zGo
def zHc (a:Cmd×RB->Prop) (b:Cmd×RB):Prop:=a b/\zGo
def zHt (a:Cmd×RB) (b:Cmd×RB) (c:Cmd×RB->Prop):Prop:=a.fst.least=b.fst.least/\a.fst.time=b.fst.time/\sb a.fst.label=sb b.fst.label/\zHc c a
def zGq (a:Cmd×RB) (b:RB) (c:Cmd×RB) (d:Cmd×RB->Prop):Prop:=a.fst.qty=aj.wrap (qV (b.n 8).got)/\zHt a c d
def zAb (a:RB):=((RB.mk (a.n 1).left (a.n 1).bad).n (qV (a.n 1).got).toNat)
def yQt (b:List UInt8):Prop:=
 ∃(a:List UInt8),bE a=bE b/\a.length<=1099511627776/\∀(c:Unit),True->∃(d:RB),ac (List UInt8×Bool) 1 RdU (d.l,d.b)=ac (List UInt8×Bool) 1 RdU (a,ap)/\d.l.length<=1099511627776/\∀(e:Unit),True->∃(f:Bool),∃(g:Bool->Prop),cnd (decide (qV (d.n 1).got<1)) (∃(h:Bool),h=aq/\zMs g h d) (∃(h:Bool),h=decide (qV (d.n 1).got>4)/\zMs g h d)/\∀(h:Bool),g h->cnd h (∃(j:Unit),(xO b).fst.kind=0/\(xO b).fst.id=0/\(xO b).fst.inst=0/\(xO b).fst.side=0/\(xO b).fst.price=0/\(xO b).fst.qty=0/\(xO b).fst.least=0/\(xO b).fst.time=0/\sb (xO b).fst.label=ax #[]/\(xO b).snd=31/\True) (∃(j:RB),ac (List UInt8×Bool) 1 RdU (j.l,j.b)=ac (List UInt8×Bool) 1 RdU ((d.n 1).left,(d.n 1).bad)/\j.l.length<=1099511627776/\∀(k:Unit),True->∃(l:Cmd×RB),ac (List UInt8×Bool) 1 RdU (l.snd.l,l.snd.b)=ac (List UInt8×Bool) 1 RdU ((j.n 8).left,(j.n 8).bad)/\l.fst.kind=qV (d.n 1).got/\l.fst.id=aj.wrap (qV (j.n 8).got)/\l.fst.inst=0/\l.fst.side=0/\l.fst.price=0/\l.fst.qty=0/\l.fst.least=0/\l.fst.time=0/\sb l.fst.label=ax #[]/\∃(m:Cmd×RB->Prop),cnd (l.fst.kind==1) (∃(n:RB),ac (List UInt8×Bool) 1 RdU (n.l,n.b)=ac (List UInt8×Bool) 1 RdU (l.snd.l,l.snd.b)/\n.l.length<=1099511627776/\∀(p:Unit),True->∃(q:RB),ac (List UInt8×Bool) 1 RdU (q.l,q.b)=ac (List UInt8×Bool) 1 RdU ((n.n 1).left,(n.n 1).bad)/\q.l.length<=1099511627776/\∀(r:Unit),True->∃(s:RB),ac (List UInt8×Bool) 1 RdU (s.l,s.b)=ac (List UInt8×Bool) 1 RdU ((q.n 1).left,(q.n 1).bad)/\s.l.length<=1099511627776/\∀(t:Unit),True->∃(u:RB),ac (List UInt8×Bool) 1 RdU (u.l,u.b)=ac (List UInt8×Bool) 1 RdU ((s.n 1).left,(s.n 1).bad)/\u.l.length<=1099511627776/\∀(v:Unit),True->∃(w:RB),ac (List UInt8×Bool) 1 RdU (w.l,w.b)=ac (List UInt8×Bool) 1 RdU ((u.n 8).left,(u.n 8).bad)/\w.l.length<=1099511627776/\∀(x:Unit),True->∃(y:RB),ac (List UInt8×Bool) 1 RdU (y.l,y.b)=ac (List UInt8×Bool) 1 RdU ((w.n 8).left,(w.n 8).bad)/\y.l.length<=1099511627776/\∀(z:Unit),True->∃(a_1:RB),ac (List UInt8×Bool) 1 RdU (a_1.l,a_1.b)=ac (List UInt8×Bool) 1 RdU ((y.n 8).left,(y.n 8).bad)/\a_1.ok/\∀(a_2:Unit),True->∃(a_3:Cmd×RB),ac (List UInt8×Bool) 1 RdU (a_3.snd.l,a_3.snd.b)=ac (List UInt8×Bool) 1 RdU ((zAb a_1).left,(zAb a_1).bad)/\a_3.fst.kind=l.fst.kind/\a_3.fst.id=l.fst.id/\a_3.fst.inst=qV (n.n 1).got/\a_3.fst.side=qV (q.n 1).got/\a_3.fst.price=aj.wrap (qV (u.n 8).got)/\a_3.fst.qty=aj.wrap (qV (w.n 8).got)/\a_3.fst.least=aj.wrap (qV (y.n 8).got)/\a_3.fst.time=qV (s.n 1).got/\sb a_3.fst.label=sb (zAb a_1).got/\zHc m a_3) (cnd (l.fst.kind==3) (∃(n:RB),ac (List UInt8×Bool) 1 RdU (n.l,n.b)=ac (List UInt8×Bool) 1 RdU (l.snd.l,l.snd.b)/\n.l.length<=1099511627776/\∀(p:Unit),True->∃(q:Cmd×RB),ac (List UInt8×Bool) 1 RdU (q.snd.l,q.snd.b)=ac (List UInt8×Bool) 1 RdU ((n.n 8).left,(n.n 8).bad)/\q.fst.kind=l.fst.kind/\q.fst.id=l.fst.id/\q.fst.inst=l.fst.inst/\q.fst.side=l.fst.side/\q.fst.price=l.fst.price/\zGq q n l m) (cnd (l.fst.kind==4) (∃(n:RB),ac (List UInt8×Bool) 1 RdU (n.l,n.b)=ac (List UInt8×Bool) 1 RdU (l.snd.l,l.snd.b)/\n.l.length<=1099511627776/\∀(p:Unit),True->∃(q:RB),ac (List UInt8×Bool) 1 RdU (q.l,q.b)=ac (List UInt8×Bool) 1 RdU ((n.n 8).left,(n.n 8).bad)/\q.l.length<=1099511627776/\∀(r:Unit),True->∃(s:Cmd×RB),ac (List UInt8×Bool) 1 RdU (s.snd.l,s.snd.b)=ac (List UInt8×Bool) 1 RdU ((q.n 8).left,(q.n 8).bad)/\s.fst.kind=l.fst.kind/\s.fst.id=l.fst.id/\s.fst.inst=l.fst.inst/\s.fst.side=l.fst.side/\s.fst.price=aj.wrap (qV (n.n 8).got)/\zGq s q l m) (∃(n:Cmd×RB),ac (List UInt8×Bool) 1 RdU (n.snd.l,n.snd.b)=ac (List UInt8×Bool) 1 RdU (l.snd.l,l.snd.b)/\n.fst.kind=l.fst.kind/\n.fst.id=l.fst.id/\n.fst.inst=l.fst.inst/\n.fst.side=l.fst.side/\n.fst.price=l.fst.price/\n.fst.qty=l.fst.qty/\zHt n l m)))/\∀(n:Cmd×RB),m n->∃(p:RB),ac (List UInt8×Bool) 1 RdU (p.l,p.b)=ac (List UInt8×Bool) 1 RdU (n.snd.l,n.snd.b)/\p.l.length<=1099511627776/\∀(q:Unit),True->cnd ((if p.b=aq then(10:Int)else if 0<p.l.length then(15:Int)else(0:Int)) !=0) (∃(r:Unit),(xO b).fst.kind=0/\(xO b).fst.id=0/\(xO b).fst.inst=0/\(xO b).fst.side=0/\(xO b).fst.price=0/\(xO b).fst.qty=0/\(xO b).fst.least=0/\(xO b).fst.time=0/\sb (xO b).fst.label=ax #[]/\(xO b).snd=12/\True) (∃(r:Cmd),r.kind=n.fst.kind/\r.id=n.fst.id/\r.inst=n.fst.inst/\r.side=n.fst.side/\r.price=n.fst.price/\r.qty=n.fst.qty/\r.least=n.fst.least/\r.time=n.fst.time/\sb r.label=sb n.fst.label/\r.label.length<=140737488355328/\∀(s:Unit),True->cnd (r.right !=0) (∃(t:Unit),(xO b).fst.kind=0/\(xO b).fst.id=0/\(xO b).fst.inst=0/\(xO b).fst.side=0/\(xO b).fst.price=0/\(xO b).fst.qty=0/\(xO b).fst.least=0/\(xO b).fst.time=0/\sb (xO b).fst.label=ax #[]/\(xO b).snd=r.right/\True) (∃(t:Unit),(xO b).fst.kind=n.fst.kind/\(xO b).fst.id=n.fst.id/\(xO b).fst.inst=n.fst.inst/\(xO b).fst.side=n.fst.side/\(xO b).fst.price=n.fst.price/\(xO b).fst.qty=n.fst.qty/\(xO b).fst.least=n.fst.least/\(xO b).fst.time=n.fst.time/\sb (xO b).fst.label=sb n.fst.label/\(xO b).snd=0/\True)))
def zZp (r:RB):0<=r.byte.1/\r.byte.1<=255:=by
 have h:=aK (r.n 1).got;have hl:(r.n 1).got.length<=1:=zLe (r.n 1);show 0<=qV (r.n 1).got/\qV (r.n 1).got<=255;obtain e|e:(r.n 1).got.length=0\/(r.n 1).got.length=1:=by omega
 ·rw[e]at h;omega
 ·rw[e]at h;omega
def yLo {r:RB} (h:r.ok):r.text.2.ok:=y7z (eV _) (y7z (eV _) h)
def yHj:rtextC.ok Tryz.prog 187:=okw (V:=yTc) mixed (gokc zZr (gokc z5d gok0)) 0 (λ_=>[]) (λ_=>[]) [] Tryz.func187 λ(i:RB) h=>by
 have h:i.l.length<=1099511627776:=h;have hb:=zZp i;exact⟨i,rfl,h,λ_ _=>⟨⟨(i.n 1).left,(i.n 1).bad,i.byte.1.toNat⟩,by dsimp only;exact Int.toNat_of_nonneg hb.1,rfl,⟨Z9,y7z (eV _) h⟩,λ_ _=>⟨_,rfl,b6 _,(),rfl,rfl,trivial⟩⟩⟩
def yHv:ftextC.ok Tryz.prog 144:=okw (V:=ySz) mixed (gokc z0x gok0) 0 (λ_=>[]) (λ_=>[]) [] Tryz.func144 λ(i:TxB) h=>by
 obtain⟨l,s⟩:=i;obtain⟨h,hl⟩:l.length+300<=1099511627776/\s.length<=255:=h;have hs:(sb s).size=s.length:=zKx s;refine zI (λe=> ?_) (λe=> ?_)
 ·have e:((sb s).size:Int)>255:=e;omega
 ·have et:s.take 255=s:=y5p oM;refine⟨⟨l,s.length⟩,rfl,by dsimp only;rw[hs],by dsimp only[WN.ok];omega,λ_ _=>⟨?_,(),?_,trivial⟩⟩
  ·dsimp only;rw[zSk,yO,yO,y5c];simp[sb];omega
  ·dsimp only;rw[zSk,<- zHk,zJv,et];simp[sb]
def yJh (c:Cmd) (h:r6rightC.cnd c):z0j c:=by
 obtain⟨hl,hr⟩:c.label=[]/\c.right=0:=h;obtain⟨hk,hi,hq,hp,ho⟩:=zVz hr;unfold z0j uM wY bK rA jL sB nK dI;refine⟨ap,λb=>b=ap,zI (λe=>absurd e oM) (λ_=>⟨_,rfl,y5q oM,k0q⟩),?_⟩;rintro _ rfl;refine Cv.cnd.mk (λe=>absurd e Z8) (λ_=> ?_);refine⟨ap,λb=>b=ap,zI (λe=>absurd e oM) (λ_=>⟨_,rfl,y5q oM,k0q⟩),?_⟩;rintro _ rfl;refine Cv.cnd.mk (λe=>absurd e Z8) (λ_=> ?_);refine⟨(),λ_=>True,Cv.cnd.mk (λe=> ?_) (λ_=>⟨(),trivial,k0q⟩),λ_ _=> ?_⟩
 ·obtain⟨s1,s2,s3,s4,s5⟩:=ho (by simpa using e);refine Cv.cnd.mk (λe1=>Cv.cnd.mk (λe2=> ?_) (λ_=> ?_)) (λ_=> ?_)
  ·have e1:c.side≠1:=by simpa using e1
   have e2:c.side≠2:=by simpa using e2
   omega
  all_goals exact zI (λe=>absurd e oM) (λ_=>zI (λe=>absurd e oM) (λ_=>⟨(),trivial,k0q⟩))
 refine⟨ap,λb=>b=ap,Cv.cnd.mk (λe=> ?_) (λ_=>⟨_,rfl,rfl,k0q⟩),?_⟩
 ·have hq:=hq (by simpa using e);exact zI (λe=>absurd e oM) (λ_=>⟨_,rfl,y5q oM,k0q⟩)
 rintro _ rfl;refine Cv.cnd.mk (λe=>absurd e Z8) (λ_=> ?_);refine⟨(),λ_=>True,Cv.cnd.mk (λe=> ?_) (λ_=>⟨(),trivial,k0q⟩),λ_ _=> ?_⟩
 ·obtain⟨s1,s2,s3,s4,s5⟩:=ho (by simpa using e);refine zI (λe=>absurd e oM) (λ_=>zI (λe=>absurd e oM) (λ_=>Cv.cnd.mk (λe=> ?_) (λ_=>⟨(),trivial,k0q⟩)));rw[hl]at e;exact absurd e (by decide+kernel)
 have hpr:∀{Q:Prop},Q->(c.kind=1\/c.kind=4)->cnd (decide (c.price< -2000000)) (∃i':Bool,i'=aq/\i'=ap/\Q) (∃i':Bool,i'=decide (c.price>2000000)/\i'=ap/\Q):=λhQ hk=>by
  have:=hp hk;exact zI (λe=>absurd e oM) (λ_=>⟨_,rfl,y5q oM,hQ⟩)
 refine⟨ap,λb=>b=ap,Cv.cnd.mk (λe=>hpr (k0q) (.inl (by simpa using e))) (λ_=>Cv.cnd.mk (λe=>hpr (k0q) (.inr (by simpa using e))) (λ_=>⟨_,rfl,rfl,k0q⟩)),?_⟩;rintro _ rfl;refine Cv.cnd.mk (λe=>absurd e Z8) (λ_=> ?_);refine⟨ap,λb=>b=ap,Cv.cnd.mk (λe=> ?_) (λ_=>⟨_,rfl,rfl,k0q⟩),?_⟩
 ·obtain⟨s1,s2,s3,s4,s5⟩:=ho (by simpa using e);exact zI (λe=>absurd e oM) (λ_=>⟨_,rfl,y5q oM,k0q⟩)
 rintro _ rfl;exact Cv.cnd.mk (λe=>absurd e Z8) (λ_=>⟨(),rfl,trivial⟩)
def z2l:r6rightC.ok Tryz.prog 142:=okw mixed gok0 0 (λ_=>yGx) (λ_=>[]) [] Tryz.func142 yJh
def yTa (c:Cmd) (h:r6encC.cnd c):yJx c:=by
 obtain⟨hl,hr⟩:c.label=[]/\c.right=0:=h;have he:c.enc=lob c.kind::(le c.id 8++c.tail):=by rw[Cmd.enc,y5d (by simp[hr])]
 unfold yJx zCd;refine⟨c,rF8 ⟨rfl,⟨hl,hr⟩,λ_ _=>⟨⟨[],c.kind⟩,rfl,rfl,by simp[WN.ok],λ_ _=>⟨rfl,⟨[lob c.kind],c.id⟩,rfl,rfl,by simp[WN.ok],λ_ _=> ?_⟩⟩⟩⟩;dsimp only;refine Cv.cnd.mk (λe=> ?_) (λe=>Cv.cnd.mk (λe3=> ?_) (λe3=>Cv.cnd.mk (λe4=> ?_) (λe4=> ?_)))
 ·have e:c.kind=1:=by simpa using e
  have ht:c.tail=lob c.inst::lob c.side::lob c.time::(le c.price 8++(le c.qty 8++(le c.least 8++zJv c.label))):=by rw[Cmd.tail,y5f e]
  refine⟨⟨[lob c.kind]++le c.id 8,c.inst⟩,rfl,rfl,by simp[WN.ok,qG],λ_ _=>⟨rfl,rfl,⟨_,c.side⟩,rfl,rfl,by simp[WN.ok,qG],λ_ _=>⟨rfl,⟨_,c.time⟩,rfl,rfl,by simp[WN.ok,qG],λ_ _=>⟨⟨_,c.price⟩,rfl,rfl,by simp[WN.ok,qG],λ_ _=>⟨rfl,rfl,⟨_,c.qty⟩,rfl,rfl,by simp[WN.ok,qG],λ_ _=>⟨rfl,⟨_,c.least⟩,rfl,rfl,by simp[WN.ok,qG],λ_ _=>⟨⟨_,c.label⟩,rfl,rfl,⟨by simp[qG],by show c.label.length<=255;rw[hl];decide⟩,λ_ _=>⟨(),?_,rfl,trivial⟩⟩⟩⟩⟩⟩⟩⟩;dsimp only;rw[he,ht];simp
 ·have e3:c.kind=3:=by simpa using e3
  have ht:c.tail=le c.qty 8:=by rw[Cmd.tail,y5d (by omega),y5f e3]
  refine⟨⟨[lob c.kind]++le c.id 8,c.qty⟩,rfl,rfl,by simp[WN.ok,qG],λ_ _=>⟨(),?_,rfl,trivial⟩⟩;dsimp only;rw[he,ht];simp
 ·have e4:c.kind=4:=by simpa using e4
  have ht:c.tail=le c.price 8++le c.qty 8:=by rw[Cmd.tail,y5d (by omega),y5d (by omega),y5f e4]
  refine⟨⟨[lob c.kind]++le c.id 8,c.price⟩,rfl,rfl,by simp[WN.ok,qG],λ_ _=>⟨rfl,⟨_,c.qty⟩,rfl,rfl,by simp[WN.ok,qG],λ_ _=>⟨(),?_,rfl,trivial⟩⟩⟩;dsimp only;rw[he,ht];simp
 ·have e:¬c.kind=1:=by simpa using e
  have e3:¬c.kind=3:=by simpa using e3
  have e4:¬c.kind=4:=by simpa using e4
  have ht:c.tail=[]:=by rw[Cmd.tail,y5d e,y5d e3,y5d e4]
  refine⟨(),?_,rfl,trivial⟩;rw[he,ht];simp
def z0c:r6encC.ok Tryz.prog 95:=okw mixed (gokc z2l (gokc z0x (gokc yGc (gokc yHv gok0)))) 0 (λ_=>[]) (λ_=>[]) [] Tryz.func95 yTa
def yQw {k id:Int} {r:RB} (h:r.ok):(qD k id r).2.ok/\(qD k id r).1.label.length<=255:=by
 rw[qD];split
 ·have h6:=gG (gG (gG (m4 (m4 (m4 h)))));refine⟨yLo h6,?_⟩;show(RB.text (r.byte.2.byte.2.byte.2.long.2.long.2.long.2)).1.length<=255;generalize r.byte.2.byte.2.byte.2.long.2.long.2.long.2=q;have:=zZp q;have:(q.text.1).length<=q.byte.1.toNat:=zLe _;omega
 split
 ·exact⟨gG h,y6l _⟩
 split
 ·exact⟨gG (gG h),y6l _⟩
 ·exact⟨h,y6l _⟩
def yZq (b:List UInt8) (h:cdecC.cnd b):yQt b:=by
 have h:b.length<=1099511627776:=h;obtain⟨r0,hr⟩:∃r0,r0=RB.mk b ap:=⟨_,rfl⟩
 have hr0:r0.ok:=by rw[hr];exact h
 have hk2:=m4 hr0;have hk3:=gG hk2;have hdec:xO b=if r0.byte.1<1\/4<r0.byte.1 then(zZf,31)else if(qD r0.byte.1 r0.byte.2.long.1 r0.byte.2.long.2).2.endOf≠0 then(zZf,12)else if(qD r0.byte.1 r0.byte.2.long.1 r0.byte.2.long.2).1.right≠0 then(zZf,(qD r0.byte.1 r0.byte.2.long.1 r0.byte.2.long.2).1.right)else((qD r0.byte.1 r0.byte.2.long.1 r0.byte.2.long.2).1,0):=by
  rw[hr];rfl
 unfold yQt zMs zAb zGq zHt zHc zGo kP dI;generalize xO b=X at hdec ⊢;refine⟨b,rfl,h,λ_ _=>⟨r0,by rw[hr],hr0,λ_ _=>⟨aq,λx=>x=decide (r0.byte.1<1\/4<r0.byte.1),zI (λe=>⟨aq,rfl,(y5u (.inl e)).symm,k0q⟩) (λe=>⟨_,rfl,decide_eq_decide.2 ⟨.inr,λx=>x.resolve_left e⟩,k0q⟩),?_⟩⟩⟩;rintro _ rfl;refine zI (λe=> ?_) (λe=> ?_)
 ·rw[hdec,y5f e];exact⟨(),rF7 (rF3 trivial)⟩
 rw[y5d e]at hdec;generalize hk:r0.byte.1=k at hdec;refine⟨r0.byte.2,rfl,hk2,λ_ _=>⟨(⟨r0.byte.1,r0.byte.2.long.1,0,0,0,0,0,0,[]⟩,r0.byte.2.long.2),rF6 (rF3 ⟨rfl,λx=>x=qD r0.byte.1 r0.byte.2.long.1 r0.byte.2.long.2,?_,?_⟩)⟩⟩
 ·generalize r0.byte.2.long.2=r2 at*;generalize r0.byte.2.long.1=id at*;rw[hk];refine Cv.cnd.mk (λe=> ?_) (λe1=>Cv.cnd.mk (λe=> ?_) (λe3=>Cv.cnd.mk (λe=> ?_) (λe4=> ?_)))
  ·have e:k=1:=by simpa using e
   have h1:=m4 hk3;have h2:=m4 h1;have h3:=m4 h2;have h4:=gG h3;have h5:=gG h4;have h6:=gG h5;exact⟨r2,rfl,hk3,λ_ _=>⟨_,rfl,h1,λ_ _=>⟨_,rfl,h2,λ_ _=>⟨_,rfl,h3,λ_ _=>⟨_,rfl,h4,λ_ _=>⟨_,rfl,h5,λ_ _=>⟨_,rfl,h6,λ_ _=>⟨qD k id r2,by rw[qD,y5f e];rfl,by rw[qD,y5f e],by rw[qD,y5f e],by rw[qD,y5f e];rfl,by rw[qD,y5f e];rfl,by rw[qD,y5f e];rfl,by rw[qD,y5f e];rfl,by rw[qD,y5f e];rfl,by rw[qD,y5f e];rfl,by rw[qD,y5f e];rfl,rfl,k0q⟩⟩⟩⟩⟩⟩⟩⟩
  ·have e1:¬k=1:=by simpa using e1
   have e:k=3:=by simpa using e
   have hd:qD k id r2=(⟨k,id,0,0,0,r2.long.1,0,0,[]⟩,r2.long.2):=by rw[qD,y5d e1,y5f e]
   exact⟨r2,rfl,hk3,λ_ _=>⟨(⟨k,id,0,0,0,r2.long.1,0,0,[]⟩,r2.long.2),rF6 (rF3 ⟨rfl,hd.symm,k0q⟩)⟩⟩
  ·have e1:¬k=1:=by simpa using e1
   have e3:¬k=3:=by simpa using e3
   have e:k=4:=by simpa using e
   have hd:qD k id r2=(⟨k,id,0,0,r2.long.1,r2.long.2.long.1,0,0,[]⟩,r2.long.2.long.2):=by rw[qD,y5d e1,y5d e3,y5f e]
   exact⟨r2,rfl,hk3,λ_ _=>⟨_,rfl,gG hk3,λ_ _=>⟨(⟨k,id,0,0,r2.long.1,r2.long.2.long.1,0,0,[]⟩,r2.long.2.long.2),rF6 (rF3 ⟨rfl,hd.symm,k0q⟩)⟩⟩⟩
  ·have e1:¬k=1:=by simpa using e1
   have e3:¬k=3:=by simpa using e3
   have e4:¬k=4:=by simpa using e4
   have hd:qD k id r2=(⟨k,id,0,0,0,0,0,0,[]⟩,r2):=by rw[qD,y5d e1,y5d e3,y5d e4]
   exact⟨(⟨k,id,0,0,0,0,0,0,[]⟩,r2),rF6 (rF3 ⟨rfl,hd.symm,k0q⟩)⟩
 ·rintro x hx;obtain⟨o1,o2⟩:=yQw (k:=r0.byte.1) (id:=r0.byte.2.long.1) hk3;rw[<- hx]at o1 o2;rw[<- hk,<- hx]at hdec;obtain⟨c,q⟩:=x;refine⟨q,rfl,o1,λ_ _=>Cv.cnd.mk (λe=> ?_) (λe=>⟨c,rF8 ⟨rfl,y7z o2 Z8,λ_ _=>Cv.cnd.mk (λe2=> ?_) (λe2=> ?_)⟩⟩)⟩
  ·have e:q.endOf≠0:=by simpa[RB.endOf]using e
   rw[hdec,y5f e];exact⟨(),rF7 (rF3 trivial)⟩
  ·have e:¬q.endOf≠0:=by simpa[RB.endOf]using e
   have e2:c.right≠0:=by simpa using e2
   rw[hdec,y5d e,y5f e2];exact⟨(),rF7 (rF3 trivial)⟩
  ·have e:¬q.endOf≠0:=by simpa[RB.endOf]using e
   have e2:¬c.right≠0:=by simpa using e2
   rw[hdec,y5d e,y5d e2];exact⟨(),rF7 (rF3 trivial)⟩
def yKy:cdecC.ok Tryz.prog 147:=okw mixed (gokc z9c (gokc zZr (gokc yJd (gokc yHj (gokc yLg (gokc zYk gok0)))))) 0 (λ_=>y1c) (λ_=>[]) [] Tryz.func147 yZq
structure SoI where
 s:MSt
 p:Prd
 B:List (List zH)
 inst:Int
 sd:Bool
@[reducible] def SoI.ok (i:SoI):Prop:=i.s.Rep i.p i.B/\i.B.length<=1000
def atB (B:List (List zH)) (inst:Int):List zH:=if inst<0 then[]else B.getD inst.toNat []
def sladC:Con:=con1 SoI (λi=>[.nm 0 0,zA i.inst,zA (zC i.sd)]) (λi=>[zD i.s]) (λi=>i.ok) (λ_=> .own 1) (λi=>[zD i.s,.own 41 3 ((h9 (atB i.B i.inst) (zC i.sd)).map lvE)])
def aA (a:SoI):=(h9 (atB a.B a.inst) (zC a.sd))
def zPv (a:SoI):Prop:=∃(b:Unit),dh (sb a.s.p.code)/\dh a.s.p.tick/\dh a.s.p.low/\dh a.s.p.high/\dh a.s.p.wide/\dh a.s.p.rule/\dh a.s.p.top/\dh a.s.p.least/\dh a.s.p.part/\dh (ae 241 Book 6 zP a.s.books av)/\dh (yP a.s.wh)/\dh (aa 1 (iE a.s.p.months))/\dh (aa 1 (iE a.s.p.settle))/\ao lvE (aA a)=[]/\True
def yRy (i:SoI):Prop:=
 cnd (decide (i.inst>=0)) (cnd (!decide (i.inst<(↑i.s.books.length:Int))) (zPv i) ((0<=i.inst/\i.inst<(↑i.s.books.length:Int))/\i.inst.toNat<i.s.books.length/\∃(a:Book),i.s.books[i.inst.toNat]?=au a/\∃(b:BkT),zC b.s=zC i.sd/\z8 b.b=z8 a/\b.b.Rep b.L/\∀(c:Unit),True->∃(d:Book),z8 b.b=z8 d/\dh i.inst.toNat/\i.inst.toNat<i.s.books.length/\∃(e:Unit),dh (sb i.s.p.code)/\dh i.s.p.tick/\dh i.s.p.low/\dh i.s.p.high/\dh i.s.p.wide/\dh i.s.p.rule/\dh i.s.p.top/\dh i.s.p.least/\dh i.s.p.part/\ae 241 Book 6 zP i.s.books av=ae 241 Book 6 zP (i.s.books.set i.inst.toNat d) av/\dh (yP i.s.wh)/\dh (aa 1 (iE i.s.p.months))/\dh (aa 1 (iE i.s.p.settle))/\ao lvE (aA i)=ao lvE (h9 b.L (zC b.s))/\True)) (zPv i)
def yLm {B:List (List zH)} {inst:Int} {L:List zH} (h0:0<=inst) (hL:B[inst.toNat]? =au L):atB B inst=L:=by
 rw[atB,y5d (by omega),zT hL]
def yOd {B:List (List zH)} {inst:Int} (h:inst<0\/(B.length:Int)<=inst):atB B inst=[]:=by
 rw[atB];split
 ·rfl
 ·rw[y5m,y6j (by omega)];rfl
def y1n (i:SoI) (h:sladC.cnd i):yRy i:=by
 obtain⟨hR,hB⟩:i.s.Rep i.p i.B/\i.B.length<=1000:=h;have hbl:=hR.bl;have out (hx:i.inst<0\/(i.B.length:Int)<=i.inst):ao lvE (h9 (atB i.B i.inst) (zC i.sd))=[]:=by
  rw[yOd hx];rfl
 unfold yRy zPv aA;refine zI (λc=>Cv.cnd.mk (λd=> ?_) (λd=> ?_)) (λc=> ?_)
 ·have d:¬i.inst<(i.s.books.length:Int):=by simpa using d
  rw[out (.inr (by omega))];exact⟨(),k0q⟩
 ·have d:i.inst<(i.s.books.length:Int):=by simpa using d
  obtain⟨b,hb⟩:=yE (l:=i.s.books) (i:=i.inst.toNat) oM;obtain⟨L,hL⟩:=yE (l:=i.B) (i:=i.inst.toNat) oM;refine⟨⟨c,d⟩,oM,b,hb,⟨b,L,i.sd⟩,rfl,rfl,hR.bk _ b L hb hL,λ_ _=>⟨b,rfl,rfl,oM,?_⟩⟩;rw[uU hb,yLm c hL];exact⟨(),k0q⟩
 ·rw[out (.inl (by omega))];exact⟨(),k0q⟩
def yLw:sladC.ok Tryz.prog 107:=okw mixed (gokc yUi gok0) 1 (λ_=>[]) (λ_=>[]) [0] Tryz.func107 y1n
def z0r (s:Int) (F:List zH):Prop:=F.Pairwise λo o'=>btr s o'.price o.price=ap
def lC (L:List zH) (s:Int):List zH:=L.filter λo=>decide (o.side=s)
structure BWf (p:Prd) (B:List (List zH)):Prop where
 ok:BOk p B
 od:yOf B
 ub:((whL 0 B).map (·.1)).Nodup
 srt:∀(k:Nat) (L:List zH),B[k]? =au L->∀s,s=1\/s=2->z0r s (lC L s)
def zYm {s:Int} {b:Book} {Q:List (List Nat)}:∀{R:List xN},(R.Pairwise λr r'=>btr s r.price r'.price=aq)->z0r s (R.flatMap (b.rOrds Q s))
 |[],_=>List.Pairwise.nil
 |r::R,h=>by
  rw[y8x]at h;rw[y6y,z0r,List.pairwise_append];refine⟨List.pairwise_of_forall_mem_list λo ho o' ho'=> ?_,zYm h.2,λo ho o' ho'=> ?_⟩
  ·rw[(qF ho).2,(qF ho').2];exact zAr _ _
  ·obtain⟨r',hr',ho'⟩:=y7x.1 ho';rw[(qF ho).2,(qF ho').2];exact zXj (h.1 r' hr')
def Book.Rep.srt {b:Book} {L:List zH} (h:b.Rep L) {s:Int} (hs:s=1\/s=2):z0r s (lC L s):=by
 obtain⟨Q,c,ht,rfl⟩:=h;rw[lC,zRt hs];exact zYm (c.srt s hs)
def MSt.Rep.wf {s:MSt} {p:Prd} {B:List (List zH)} (h:s.Rep p B) (hb:BOk p B):BWf p B:=by
 refine⟨hb,h.ords,h.ids,λk L hL=> ?_⟩;obtain⟨b,hb⟩:=yE (l:=s.books) (i:=k) (by rw[h.bl];exact(y5h.1 hL).1);exactλs hs=>(h.bk k b L hb hL).srt hs
def yJr {L:List zH} (h:∀o∈L,zPu o) (hn:(L.map (·.id)).Nodup) (id q:Int):∀o∈(x5 L id q).1,zPu o:=by
 intro o ho;rw[x5]at ho;split at ho
 ·exact h o ho
 split at ho
 ·exact h o ho
 rename_i hb;obtain⟨o',ho',e⟩:=xAk.1 ho;have h0:=h o' ho';split at e
 ·rename_i e1;have hg:=rF hn ho';rw[e1]at hg;rw[hg]at hb;split at e
  ·cases e
  ·rename_i e2;cases e;have:=h0.q;exact⟨h0.s,Z9⟩
 ·cases e;exact h0
def yIm (L:List zH) (id q:Int):(x5 L id q).1.length<=L.length:=by
 rw[x5];split
 ·exact y5z _
 split
 ·exact y5z _
 exact List.length_filterMap_le _ _
def yEt {L:List zH} {s:Int} (h:z0r s (lC L s)) (id q:Int):z0r s (lC (x5 L id q).1 s):=by
 rw[x5];split
 ·exact h
 split
 ·exact h
 have e:lC (uZ L id q) s=uZ (lC L s) id q:=by
  rw[lC,lC,uZ,uZ,List.filter_filterMap,List.filterMap_filter];refine mN λo _=> ?_
  by_cases e1:o.id=id
  ·rw[y5f e1];by_cases e2:o.qty=q
   ·rw[y5f e2];simp
   ·rw[y5d e2];by_cases e3:o.side=s<;>simp[Option.filter,e3]
  ·rw[y5d e1];by_cases e3:o.side=s<;>simp[Option.filter,e3]
 rw[e,uZ];refine List.Pairwise.filterMap _ (λa a' haa b hb b' hb'=> ?_) h;have g:∀{a b:zH},(if a.id=id then(if a.qty=q then av else au {a with qty:=a.qty-q})else au a)=au b->b.price=a.price:=by
  intro a b e;split at e
  ·split at e
   ·cases e
   ·cases e;rfl
  ·cases e;rfl
 rw[g hb,g hb'];exact haa
def yKt {B:List (List zH)} (h:((whL 0 B).map (·.1)).Nodup) {k:Nat} {L L':List zH} (hL:B[k]? =au L) (hs:(L'.map (·.id)).Sublist (L.map (·.id))):((whL 0 (B.set k L')).map (·.1)).Nodup:=by
 have hk:=(y5h.1 hL).1;obtain⟨rest,hr⟩:=zKu (B:=B) 0 k hk;have h0:=hr L;rw[uU hL]at h0;have h1:=(h0.map (·.1)).nodup_iff.1 h
 refine((hr L').map (·.1)).nodup_iff.2 ?_
 rw[y5n,y7s]at h1 ⊢;exact h1.sublist (List.Sublist.append hs (List.Sublist.refl _))
def BWf.take {p:Prd} {B:List (List zH)} (h:BWf p B) (id q:Int):BWf p (kJ B id q).1:=by
 refine⟨h.ok.take id q,?_,?_,?_⟩
 all_goals
  rw[kJ];cases hi:mG B id with
  |none=>first|exact h.od|exact h.ub|exact h.srt
  |some k=>
   obtain⟨L,hL,hh⟩:=gK hi;have ho:=h.od k L hL;dsimp only;rw[zT hL]
   first
   |(intro j M hM
     rcases bL hM with⟨rfl,rfl⟩|⟨_,hM⟩
     ·refine⟨yJr ho.1 ho.2.1 id q,?_,y7z (yIm L id q) ho.2.2⟩;rcases zOs ho.2.1 id q with⟨e,_⟩|⟨e,_⟩
      ·rw[e];exact ho.2.1
      ·rw[e];exact ho.2.1.sublist (List.Sublist.map _ xAx)
     ·exact h.od j M hM)
   |(refine yKt h.ub hL ?_
     rcases zOs ho.2.1 id q with⟨e,_⟩|⟨e,_⟩
     ·rw[e];exact List.Sublist.refl _
     ·rw[e];exact List.Sublist.map _ xAx)
   |(intro j M hM s hs
     rcases bL hM with⟨rfl,rfl⟩|⟨_,hM⟩
     ·exact yEt (h.srt _ L hL s hs) id q
     ·exact h.srt j M hM s hs)
def BWf.takes {p:Prd}:∀{fs:List cP} {B:List (List zH)},BWf p B->BWf p (kM B fs)
 |[],B,h=>h
 |f::fs,B,h=>BWf.takes (fs:=fs) (h.take f.id f.qty)
def zRh {p:Prd} {B:List (List zH)} (h:BWf p B) {inst:Int} {sd:Bool} {price q:Int} {t:jY} {B':List (List zH)} (e:mR p B inst sd price q=au (t,B')):BWf p B'/\B'.length=B.length:=by
 rw[mR]at e;dsimp only at e;split at e
 ·split at e
  ·cases e;exact⟨h.takes.takes,by rw[uO,uO]⟩
  ·cases e;exact⟨h.takes,by rw[uO]⟩
 ·cases e
def nS {p:Prd} {inst:Int} {sd:Bool} {price:Int}:∀(m:Nat) (q:Int) (B:List (List zH)),q.toNat<=m->BWf p B->BWf p (wK p B inst sd price q).B/\(wK p B inst sd price q).B.length=B.length/\(0<=q->0<=(wK p B inst sd price q).left/\(wK p B inst sd price q).left<=q)
 |m,q,B,hm,h=>by
  by_cases hq:q<=0
  ·rw[lI (.inl hq)];exact⟨h,rfl,λx=>⟨x,y8r _⟩⟩
  cases hs:mR p B inst sd price q with
  |none=>
   rw[lI (.inr hs)];exact⟨h,rfl,λx=>⟨x,y8r _⟩⟩
  |some x=>
   obtain⟨t,C⟩:=x;obtain⟨k1,k2⟩:=zRh h hs;have hq2:=zOl oM hs;cases m with
   |zero=>omega
   |succ m=>
   obtain⟨i1,i2,i3⟩:=nS (p:=p) (inst:=inst) (sd:=sd) (price:=price) m (q-t.qty) C oM k1;rw[zMz (by omega) hs];exact⟨i1,i2.trans k2,λ_=>⟨(i3 oM).1,by dsimp only;have:=(i3 oM).2;omega⟩⟩
@[reducible] def RunI.ok (i:RunI):Prop:=i.s.Rep i.p i.B/\BOk i.p i.B/\(0<=i.inst/\i.inst<i.B.length)/\1<=i.q/\i.q<=1000000
def scouldC:Con:=con1 RunI (λi=>[.nm 0 0,zA i.inst,zA (zC i.sd),zA i.price,zA i.q]) (λi=>[zD i.s]) (λi=>i.ok) (λi=>zA (i.q-i.r.left)) (λi=>[zD i.s])
def mQ (p:Prd) (B:List (List zH)) (inst:Int) (sd:Bool) (price q:Int):Bool:=
 decide ((wK p B inst sd price q).left≠0) && (kL ⟨p,(wK p B inst sd price q).B.map kB,inst⟩ (zC (!sd))).any λx=>c8 sd price x.price
def stuckC:Con:=con1 RunI (λi=>[.nm 0 0,zA i.inst,zA (zC i.sd),zA i.price,zA i.q]) (λi=>[zD i.s]) (λi=>i.ok) (λi=>yX (mQ i.p i.B i.inst i.sd i.price i.q)) (λi=>[zD i.s])
def zWi (B:List (List zH)):Nat:=(whL 0 B).length
def countC16:Con:=con1 SoI (λi=>[.nm 0 0]) (λi=>[zD i.s]) (λi=>i.ok) (λi=>zA (zWi i.B)) (λi=>[zD i.s])
def fQ (p:Prd) (inst price:Int):Int×Int×Int:=
 if(p.legs inst).2.2=ap then(0,0,20)else if p.price inst price≠0 then(0,0,p.price inst price)else
 let far:=p.settle.getD (p.legs inst).2.1.toNat 0
 let a:=if p.high<far+price then(p.high,p.high-price)else(far+price,far)
 if a.1<p.low then(p.low,p.low-price,0)else(a.1,a.2,0)
structure LpI where
 p:Prd
 inst:Int
 price:Int
def lpricesC:Con:=con1 LpI (λi=>[prdV i.p,zA i.inst,zA i.price]) (λ_=>[]) (λi=>i.p.check=0/\i.p.small/\yU i.price) (λi=> .tup [zA (fQ i.p i.inst i.price).1,zA (fQ i.p i.inst i.price).2.1,zA (fQ i.p i.inst i.price).2.2]) (λ_=>[])
def ijj (t u:Nat):SAnn:={ι:=Int×Int,slots:=λn=>[(t,zA n.1),(u,zA n.2)],rows:=λ_=>[]}
def lpJ:List (Nat×SAnn):=[(50,ijj 15 14),(58,ijj 15 14)]
def yYa:List SAnn:=[{ι:=Nat,slots:=λj=>[(40,zA j)],rows:=λ_=>[]}]
def ySx:List (Nat×SAnn):=[(8,{ι:=Unit,slots:=λ_=>[],rows:=λ_=>[],opn:=[11]})]
def gV (a:MSt):Prop:=a.books.length<=1000000/\∀(b:Book),b∈a.books->(b.a.slots.length<=1000000/\b.a.queues.length<=1000000)/\b.buys.length<=1000000/\b.sells.length<=1000000/\b.spare.length<=1000000
def qP (a:RunI):Prop:=a.s.Rep a.p a.B/\BOk a.p a.B/\(0<=a.inst/\a.inst<(↑a.B.length:Int))/\1<=a.q/\a.q<=1000000
def zCa (a:RunI):Prop:=∃(b:MSt),sb b.p.code=sb a.s.p.code/\b.p.tick=a.s.p.tick/\b.p.low=a.s.p.low/\b.p.high=a.s.p.high/\b.p.wide=a.s.p.wide/\b.p.rule=a.s.p.rule/\b.p.top=a.s.p.top/\b.p.least=a.s.p.least/\b.p.part=a.s.p.part/\ae 241 Book 6 zP b.books av=ae 241 Book 6 zP a.s.books av/\yP b.wh=yP a.s.wh/\aa 1 (iE b.p.months)=aa 1 (iE a.s.p.months)/\aa 1 (iE b.p.settle)=aa 1 (iE a.s.p.settle)/\(gV b)/\∀(c:Unit),True->∃(d:RunI),d.inst=a.inst/\zC d.sd=zC a.sd/\d.price=a.price/\d.q=a.q/\zD d.s=zD b/\(qP d)/\∀(e:MSt),e.Rep d.p d.r.B->∃(f:Unit),a.q-a.r.left=aj.wrap (a.q-d.r.left)/\zD a.s=zD b/\True
def wP (a:RunI):Prop:=∃(b:Unit),a.q-a.r.left=0/\dh (sb a.s.p.code)/\dh a.s.p.tick/\dh a.s.p.low/\dh a.s.p.high/\dh a.s.p.wide/\dh a.s.p.rule/\dh a.s.p.top/\dh a.s.p.least/\dh a.s.p.part/\dh (ae 241 Book 6 zP a.s.books av)/\dh (yP a.s.wh)/\dh (aa 1 (iE a.s.p.months))/\dh (aa 1 (iE a.s.p.settle))/\True
def z7f (i:RunI):Prop:=
 cnd (decide (i.inst>=0)) (cnd (decide (i.inst<(↑i.s.books.length:Int))) (cnd (zC i.sd==1) (cnd (decide (i.q>=1)) (cnd (!decide (i.q<=1000000)) (wP i) (zCa i)) (wP i)) (cnd (zC i.sd==2) (cnd (decide (i.q>=1)) (cnd (!decide (i.q<=1000000)) (wP i) (zCa i)) (wP i)) (wP i))) (wP i)) (wP i)
def zXa (i:SoI):Prop:=
 ∃(a:Unit),(↑(zWi i.B):Int)=(↑(yP i.s.wh).length:Int)/\dh (sb i.s.p.code)/\dh i.s.p.tick/\dh i.s.p.low/\dh i.s.p.high/\dh i.s.p.wide/\dh i.s.p.rule/\dh i.s.p.top/\dh i.s.p.least/\dh i.s.p.part/\dh (ae 241 Book 6 zP i.s.books av)/\dh (yP i.s.wh)/\dh (aa 1 (iE i.s.p.months))/\dh (aa 1 (iE i.s.p.settle))/\True
def cR (a:Int×Int->Prop) (b:Int×Int) (c:LpI):Prop:=a b/\dh (ab [V.d (D.v (aw (sb c.p.code))),V.own 0,V.d (dI c.p.tick),V.d (dI c.p.low),V.d (dI c.p.high),V.d (dI c.p.wide),V.d (dI c.p.rule),V.d (dI c.p.top),V.d (dI c.p.least),V.d (dI c.p.part),V.own 1] 25)/\dh (aa 1 (iE c.p.settle))/\dh (aa 1 (iE c.p.months))
def y6 (a:LpI):=(fQ a.p a.inst a.price)
def zYh (i:LpI):Prop:=
 ∃(a:Prd),sb a.code=sb i.p.code/\iE a.months=iE i.p.months/\a.tick=i.p.tick/\a.low=i.p.low/\a.high=i.p.high/\a.wide=i.p.wide/\a.rule=i.p.rule/\a.top=i.p.top/\a.least=i.p.least/\a.part=i.p.part/\iE a.settle=iE i.p.settle/\(yB a)/\∀(b:Unit),True->cnd (a.check !=0) (∃(c:Unit),(y6 i).fst=0/\(y6 i).snd.fst=0/\(y6 i).snd.snd=1/\True) (∃(c:cQ),sb c.p.code=sb i.p.code/\iE c.p.months=iE i.p.months/\c.p.tick=i.p.tick/\c.p.low=i.p.low/\c.p.high=i.p.high/\c.p.wide=i.p.wide/\c.p.rule=i.p.rule/\c.p.top=i.p.top/\c.p.least=i.p.least/\c.p.part=i.p.part/\iE c.p.settle=iE i.p.settle/\c.n=i.inst/\(jH c)/\∀(d:Unit),True->cnd (!(c.p.legs c.n).snd.snd) (∃(e:Unit),(y6 i).fst=0/\(y6 i).snd.fst=0/\(y6 i).snd.snd=20/\True) (∃(e:tQ),sb e.p.code=sb i.p.code/\iE e.p.months=iE i.p.months/\e.p.tick=i.p.tick/\e.p.low=i.p.low/\e.p.high=i.p.high/\e.p.wide=i.p.wide/\e.p.rule=i.p.rule/\e.p.top=i.p.top/\e.p.least=i.p.least/\e.p.part=i.p.part/\iE e.p.settle=iE i.p.settle/\e.a=i.inst/\e.b=i.price/\(x9 e)/\∀(f:Unit),True->cnd (e.p.price e.a e.b !=0) (∃(g:Unit),(y6 i).fst=0/\(y6 i).snd.fst=0/\(y6 i).snd.snd=e.p.price e.a e.b/\True) ((0<=(c.p.legs c.n).snd.fst/\(c.p.legs c.n).snd.fst<(↑(iE i.p.settle).length:Int))/\∃(g:Int),zE (iE i.p.settle) (c.p.legs c.n).snd.fst.toNat 0 1=au [dI g]/\∃(h:Int×Int),∃(j:Int×Int->Prop),cnd (decide (aj.wrap (g+i.price)>i.p.high)) (∃(k:Int×Int),k.fst=i.p.high/\k.snd=aj.wrap (i.p.high-i.price)/\cR j k i) (∃(k:Int×Int),k.fst=aj.wrap (g+i.price)/\k.snd=g/\cR j k i)/\∀(k:Int×Int),j k->∃(l:Int×Int),∃(m:Int×Int->Prop),cnd (decide (k.fst<i.p.low)) (∃(n:Int×Int),n.fst=i.p.low/\n.snd=aj.wrap (i.p.low-i.price)/\cR m n i) (∃(n:Int×Int),n.fst=k.fst/\n.snd=k.snd/\cR m n i)/\∀(n:Int×Int),m n->∃(p:Unit),(y6 i).fst=n.fst/\(y6 i).snd.fst=n.snd/\(y6 i).snd.snd=0/\True)))
def zDm (a:MSt) (b:MSt):Prop:=sb a.p.code=sb b.p.code/\True/\a.p.tick=b.p.tick/\a.p.low=b.p.low/\a.p.high=b.p.high/\a.p.wide=b.p.wide/\a.p.rule=b.p.rule/\a.p.top=b.p.top/\a.p.least=b.p.least/\a.p.part=b.p.part/\True/\True
def yFg (i:RunI):Prop:=
 ∃(a:MSt),zD a=zD i.s/\(gV a)/\∀(b:Unit),True->∃(c:RunI),c.inst=i.inst/\zC c.sd=zC i.sd/\c.price=i.price/\c.q=i.q/\zD c.s=zD a/\(qP c)/\∀(d:MSt),d.Rep c.p c.r.B->cnd (c.r.left==0) (∃(e:Unit),mQ i.p i.B i.inst i.sd i.price i.q=ap/\zD i.s=zD a/\True) (∃(e:MSt),sb e.p.code=sb d.p.code/\e.p.tick=d.p.tick/\e.p.low=d.p.low/\e.p.high=d.p.high/\e.p.wide=d.p.wide/\e.p.rule=d.p.rule/\e.p.top=d.p.top/\e.p.least=d.p.least/\e.p.part=d.p.part/\ae 241 Book 6 zP e.books av=ae 241 Book 6 zP d.books av/\yP e.wh=yP d.wh/\aa 1 (iE e.p.months)=aa 1 (iE d.p.months)/\aa 1 (iE e.p.settle)=aa 1 (iE d.p.settle)/\(dV e)/\∀(f:Unit),True->(zDm e d)/\∃(g:Bool),zC g=zC i.sd/\True/\∀(h:Unit),True->(zDm e d)/\∃(j:lR),sb j.i.p.code=sb d.p.code/\iE j.i.p.months=iE e.p.months/\j.i.p.tick=d.p.tick/\j.i.p.low=d.p.low/\j.i.p.high=d.p.high/\j.i.p.wide=d.p.wide/\j.i.p.rule=d.p.rule/\j.i.p.top=d.p.top/\j.i.p.least=d.p.least/\j.i.p.part=d.p.part/\iE j.i.p.settle=iE e.p.settle/\ao z5 j.i.tops=ao z5 e.tops/\j.i.inst=i.inst/\zC j.s=zC !g/\(kI j)/\∀(k:Unit),True->∃(l:Nat),(↑l:Int)=0/\∃(m:Nat->Prop),∃(n:Nat->Nat),m l/\∀(p:Nat),m p->cnd (decide ((↑p:Int)<(fC j))) ((0<=(↑p:Int)/\(↑p:Int)<(fC j))/\∃(q:Int),∃(r:Int),∃(s:Int),∃(t:Int),∃(u:Int),∃(v:Int),zE (jJ j) (↑p:Int).toNat 0 6=au [dI q,dI r,dI s,dI t,dI u,dI v]/\∃(w:GoI),zC w.s=zC i.sd/\w.p=i.price/\w.x=q/\True/\∀(x:Unit),True->cnd (c8 w.s w.p w.x) (∃(y:Unit),mQ i.p i.B i.inst i.sd i.price i.q=aq/\zD i.s=zD a/\True) (∃(y:Nat),(↑y:Int)=aj.wrap ((↑p:Int)+1)/\m y/\n y<n p/\dh (ag 259 6 (jJ j))/\dh (ab [V.d (fJ e),V.own 5,V.d (dI e.p.tick),V.d (dI e.p.low),V.d (dI e.p.high),V.d (dI e.p.wide),V.d (dI e.p.rule),V.d (dI e.p.top),V.d (dI e.p.least),V.d (dI e.p.part),V.own 6,V.own 3,V.mp 4] (240:ba))/\dh (ae 241 Book 6 zP e.books av)/\dh (af (yP e.wh))/\dh (aa 1 (iE e.p.months))/\dh (aa 1 (iE e.p.settle))/\dh (aa 6 (ao z5 e.tops))/\dh (aa 1 (iE d.p.months))/\dh (aa 1 (iE d.p.settle))/\dh (ag 321 4 (ao wF c.r.steps))/\zD a=zD a)) (∃(q:Unit),mQ i.p i.B i.inst i.sd i.price i.q=ap/\zD i.s=zD a/\True))
def MSt.Rep.small {s:MSt} {p:Prd} {B:List (List zH)} (h:s.Rep p B) (hb:BOk p B):s.small:=by
 have:=xR p;refine⟨by rw[h.bl,hb.bl];omega,λb hm=> ?_⟩;obtain⟨k,hk⟩:=y7v.1 hm;have hlt:=(y5h.1 hk).1;rw[h.bl]at hlt;obtain⟨L,hL⟩:=yE hlt;obtain⟨Q,c,_⟩:=h.bk k b L hk hL;exact c.small
def yNu (i:RunI) (h:scouldC.cnd i):z7f i:=by
 have h':i.ok:=h;obtain⟨hR,hB,⟨h0,h1⟩,hq1,hq2⟩:=h';have hbl:=hR.bl;have hl:=(nS (inst:=i.inst) (sd:=i.sd) (price:=i.price) _ i.q i.B (y5z _) (hR.wf hB)).2.2 oM;have er:i.r=wK i.p i.B i.inst i.sd i.price i.q:=rfl;unfold z7f zCa qP gV wP;refine(λhT=>zI (λc=>zI (λc2=>Cv.cnd.mk (λ_=>zI (λ_=>Cv.cnd.mk (λe=>absurd hq2 (by simpa using e)) (λ_=>hT)) (λe=>absurd hq1 e)) (λe1=>Cv.cnd.mk (λ_=>zI (λ_=>Cv.cnd.mk (λe=>absurd hq2 (by simpa using e)) (λ_=>hT)) (λe=>absurd hq1 e)) (λe2=>by
  rcases zFo i.sd with e|e
  ·rw[e]at e1;cases e1
  ·rw[e]at e2;cases e2))) (λc2=>absurd oM c2)) (λc=>absurd h0 c)) ?_
 refine⟨i.s,rF8 (rF4 ⟨rfl,hR.small hB,λ_ _=>⟨i,rF4 ⟨rfl,h,λo ho=>⟨(),?_,rfl,trivial⟩⟩⟩⟩)⟩;rw[w64 (by rw[er];omega)]
def yBj:scouldC.ok Tryz.prog 167:=okw mixed (gokc zEr (gokc z2x gok0)) 2 (λ_=>[]) (λ_=>[]) [0] Tryz.func167 yNu
def yEe (i:SoI) (h:countC16.cnd i):zXa i:=by
 obtain⟨hR,hB⟩:i.s.Rep i.p i.B/\i.B.length<=1000:=h;unfold zXa;have e:(yP i.s.wh).length=zWi i.B:=by rw[yP,y5e,hR.wh.length_eq,zWi]
 exact⟨(),by rw[e],k0q⟩
def z4s:countC16.ok Tryz.prog 166:=okw mixed gok0 0 (λ_=>[]) (λ_=>[]) [0] Tryz.func166 yEe
def zOm {p:Prd} {i n:Int} (h:p.price i n=0):0<=i/\i<p.count:=by
 rw[Prd.price]at h;split at h
 ·cases h
 split at h
 ·cases h
 omega
def yIg (i:LpI) (h:lpricesC.cnd i):zYh i:=by
 obtain⟨hc,hp,hpr⟩:i.p.check=0/\i.p.small/\yU i.price:=h;unfold zYh cR y6 yB jH x9 dI;refine⟨i.p,rF7 (rF3 ⟨rfl,hp,λ_ _=>Cv.cnd.mk (λe=>by rw[hc]at e;cases e) (λ_=> ?_)⟩)⟩;refine⟨⟨i.p,i.inst⟩,rF8 (rF3 ⟨rfl,hp,λ_ _=>Cv.cnd.mk (λe=> ?_) (λe=> ?_)⟩)⟩
 ·have e:(i.p.legs i.inst).2.2=ap:=by simpa using e
  have h0:fQ i.p i.inst i.price=(0,0,20):=by rw[fQ,y5f e]
  rw[h0];exact⟨(),rF3 trivial⟩
 have e:(i.p.legs i.inst).2.2=aq:=by simpa using e
 refine⟨⟨i.p,i.inst,i.price⟩,rF8 (rF4 ⟨rfl,hp,λ_ _=>Cv.cnd.mk (λe2=> ?_) (λe2=> ?_)⟩)⟩
 ·have e2:¬i.p.price i.inst i.price=0:=by simpa using e2
  have h0:fQ i.p i.inst i.price=(0,0,i.p.price i.inst i.price):=by rw[fQ,y5d (by rw[e];decide),y5f e2]
  rw[h0];exact⟨(),rF3 trivial⟩
 have e2:i.p.price i.inst i.price=0:=by simpa using e2
 have hin:=zOm e2;have hbd:=eZ hc e2;have ok:=kF hc;have b1:=ok.b1;have b2:=ok.b2;have b3:=ok.b3;have s1:=ok.s1;have s2:=ok.s2;have s3:=ok.s3;obtain⟨k,hk⟩:∃k:Nat,i.inst=k:=⟨i.inst.toNat,oM⟩
 have hl:=gT hc (k:=k) oM;rw[<- hk]at hl;rcases hl with⟨_,_,_,l3,l4⟩|⟨x,_⟩
 rotate_left
 ·rw[e]at x;cases x
 have hsl:(iE i.p.settle).length=i.p.settle.length:=y3 _;obtain⟨n,hn⟩:=yE (l:=i.p.settle) (i:=(i.p.legs i.inst).2.1.toNat) oM;have hm:=y5o hn;have m1:=z6y hm;have m2:=z5r hm;have hg:i.p.settle.getD (i.p.legs i.inst).2.1.toNat 0=n:=zT hn;have h0:fQ i.p i.inst i.price=(if(if i.p.high<n+i.price then(i.p.high,i.p.high-i.price)else(n+i.price,n)).1<i.p.low then(i.p.low,i.p.low-i.price,0)else((if i.p.high<n+i.price then(i.p.high,i.p.high-i.price)else(n+i.price,n)).1,(if i.p.high<n+i.price then(i.p.high,i.p.high-i.price)else(n+i.price,n)).2,0)):=by
  rw[fQ,y5d (by rw[e];decide),y5d (by rw[e2];decide)];dsimp only;rw[hg]
 dsimp only;refine⟨⟨l3,oM⟩,n,elI hn,(0,0),λa=>a=if i.p.high<n+i.price then(i.p.high,i.p.high-i.price)else(n+i.price,n),zI (λc=>⟨(i.p.high,i.p.high-i.price),rfl,(w64 oM).symm,?_,k0q⟩) (λc=>⟨(n+i.price,n),(w64 oM).symm,rfl,?_,k0q⟩),?_⟩
 ·rw[w64 (by omega)]at c;rw[y5f c]
 ·rw[w64 (by omega)]at c;rw[y5d c]
 rintro _ rfl;generalize (if i.p.high<n+i.price then(i.p.high,i.p.high-i.price)else(n+i.price,n))=a at h0 ⊢;refine⟨(0,0),λb=>b=if a.1<i.p.low then(i.p.low,i.p.low-i.price)else a,zI (λc=>⟨(i.p.low,i.p.low-i.price),rfl,(w64 oM).symm,by rw[y5f c],k0q⟩) (λc=>⟨a,rfl,rfl,by rw[y5d c],k0q⟩),?_⟩;rintro _ rfl;rw[h0];by_cases c:a.1<i.p.low
 ·rw[y5f c,y5f c];exact⟨(),rF3 trivial⟩
 ·rw[y5d c,y5d c];exact⟨(),rF3 trivial⟩
def z1x:lpricesC.ok Tryz.prog 264:=okw mixed (gokc lG (gokc zAq (gokc lE gok0))) 0 (λ_=>lpJ) (λ_=>[]) [] Tryz.func264 yIg
def yNo {l:List Quote} {k:Nat} {q:Quote} (h:l[k]? =au q):zE (l.map zJ) k 0 6=au [D.v (.int .i64 q.price),D.v (.int .i64 q.qty),D.v (.int .i64 q.a.inst),D.v (.int .i64 q.a.side),D.v (.int .i64 q.b.inst),D.v (.int .i64 q.b.side)]:=elA h (by simp[zJ]) rfl
def yTp (i:RunI) (h:stuckC.cnd i):yFg i:=by
 have h':i.ok:=h;obtain⟨hR,hB,⟨h0,h1⟩,hq1,hq2⟩:=h';have hwf:=hR.wf hB;obtain⟨k1,k2,k3⟩:=nS (inst:=i.inst) (sd:=i.sd) (price:=i.price) _ i.q i.B (y5z _) hwf;have hcl:=xR i.p;unfold yFg fJ zDm qP gV fC jJ kI gY dV dI;refine⟨i.s,rfl,hR.small hB,λ_ _=>⟨i,rF4 ⟨rfl,h,λo ho=> ?_⟩⟩⟩;have er:i.r=wK i.p i.B i.inst i.sd i.price i.q:=rfl;have es:mQ i.p i.B i.inst i.sd i.price i.q=(decide ((wK i.p i.B i.inst i.sd i.price i.q).left≠0) && (kL ⟨i.p,(wK i.p i.B i.inst i.sd i.price i.q).B.map kB,i.inst⟩ (zC (!i.sd))).any λx=>c8 i.sd i.price x.price):=rfl;rw[er]at ho ⊢;rw[es];generalize wK i.p i.B i.inst i.sd i.price i.q=R at*;obtain⟨ts,lf,RB⟩:=R;dsimp only at*;refine Cv.cnd.mk (λe=>⟨(),?_,rfl,trivial⟩) (λe=> ?_)
 ·have e:lf=0:=by simpa using e
  rw[e];rfl
 have e:lf≠0:=by simpa using e
 rw[y5u e,y8a];have ep:=ho.ep;have hB':=k1.ok;have hbl:=hB'.bl;have hcnt:o.cntOk:=ho.cnt oM;have hps:o.p.small:=by rw[ep];exact hB'.ps
 have hto:vK (RB.map kB):=hB'.tops;have hle:=zEv ⟨o.p,RB.map kB,i.inst⟩ (zC (!i.sd));refine⟨o,rF8 (rF4 ⟨rfl,hcnt,λ_ _=>⟨⟨rfl,trivial,rF7 ⟨rfl,trivial,trivial⟩⟩,i.sd,rfl,trivial,λ_ _=>⟨⟨rfl,trivial,rF7 ⟨rfl,trivial,trivial⟩⟩,⟨⟨o.p,RB.map kB,i.inst⟩,!i.sd⟩,rF7 (rF3 ⟨rfl,by rw[ho.tops],rfl,rfl,⟨hps,hto⟩,λ_ _=> ?_⟩)⟩⟩⟩)⟩;dsimp only;rw[<- ep];generalize kL ⟨o.p,RB.map kB,i.inst⟩ (zC (!i.sd))=Q at*;have e4:(Q.map zJ).length=Q.length:=y5e ..;refine⟨0,rfl,λj=>j<=Q.length/\(Q.take j).any (λx=>c8 i.sd i.price x.price)=ap,λj=>Q.length-j,⟨y6l _,rfl⟩,?_⟩;rintro j ⟨j1,j2⟩;refine zI (λc=> ?_) (λc=>⟨(),?_,rfl,trivial⟩)
 ·obtain⟨q,hq⟩:=yE (l:=Q) (i:=j) oM;refine⟨⟨oM,oM⟩,_,_,_,_,_,_,yNo hq,⟨i.sd,i.price,q.price⟩,rfl,rfl,rfl,trivial,λ_ _=>Cv.cnd.mk (λg=>⟨(),?_,rfl,trivial⟩) (λg=>⟨j+1,wjn oM,⟨oM,?_⟩,Z9,k0q⟩)⟩
  ·rw[List.any_eq_true];exact⟨q,y5o hq,g⟩
  ·rw[y6m,hq,List.any_append,j2];show(ap||([q].any λx=>c8 i.sd i.price x.price))=ap;simp only[List.any_cons,List.any_nil,Bool.or_false,xAz];exact g
 ·have:j=Q.length:=by omega
  rw[this,y5p (y5z _)]at j2;exact j2
def zZa:stuckC.ok Tryz.prog 168:=okw mixed (gokc zEr (gokc z2x (gokc zXm (gokc yEn (gokc zQy (gokc z0e gok0)))))) 0 (λ_=>ySx) (λ_=>yYa) [] Tryz.func168 yTp
def nI (c:Cmd) (why:Int):List Rep:=[⟨2,c.id,0,0,0,0,0,why⟩]
def ofF (x:jY) (k:Int):Int:=match x.fills.find? λf=>decide (f.inst=k)with
 |some f=>f.price
 |none=>x.price
def wV (p:Prd) (inst:Int) (x:jY):Int×Int:=if x.implied=ap then((fQ p inst x.price).1,(fQ p inst x.price).2.1)else(ofF x (p.legs inst).1,ofF x (p.legs inst).2.1)
def zEn (p:Prd) (r:Rep) (near far:Int):List Rep:=[{r with inst:=(p.legs r.inst).1,price:=near},{r with inst:=(p.legs r.inst).2.1,side:=3-r.side,price:=far}]
def nE (p:Prd) (x:jY) (r:Rep):List Rep:=r::if(p.legs r.inst).2.2=aq then zEn p r (wV p r.inst x).1 (wV p r.inst x).2 else[]
def zGc (f:cP):Rep:=⟨3,f.id,f.inst,f.side,f.price,f.qty,f.left,0⟩
def nC (p:Prd) (c:Cmd) (x:jY) (left:Int):List Rep:=x.fills.flatMap (λf=>nE p x (zGc f))++nE p x ⟨3,c.id,c.inst,c.side,x.price,x.qty,left,0⟩
def aG (p:Prd) (c:Cmd):List jY->Int->List Rep
 |[],_=>[]
 |x::l,left=>nC p c x (left-x.qty)++aG p c l (left-x.qty)
structure MkX where
 B:List (List zH)
 U:List Int
 R:List Rep
def zQd (U:List Int) (id:Int):List Int:=if id∈U then U else U++[id]
def cY (p:Prd) (B:List (List zH)) (U:List Int) (c:Cmd):MkX:=match wK p B c.inst (decide (c.side=2)) c.price c.qty with
 |⟨ts,left,B'⟩=>⟨if left≠0/\c.time=1 then(z1k p B' c.inst c.id c.side c.price left).1 else B',zQd U c.id,
  (⟨1,c.id,c.inst,c.side,c.price,c.qty,c.qty,0⟩::aG p c ts c.qty)++if left≠0/\c.time≠1 then[⟨4,c.id,c.inst,c.side,c.price,left,0,0⟩]else[]⟩
def Cmd.lst (c:Cmd):Int:=if c.time=3 then c.qty else c.least
def nJ (p:Prd) (B:List (List zH)) (U:List Int) (c:Cmd):MkX:=
 if p.price c.inst c.price≠0 then⟨B,U,nI c (p.price c.inst c.price)⟩
 else if c.id∈U then⟨B,U,nI c 25⟩
 else if 250<=zWi B then⟨B,U,nI c 13⟩
 else if 0<c.lst/\c.qty-(wK p B c.inst (decide (c.side=2)) c.price c.qty).left<c.lst then⟨B,U,nI c 28⟩
 else if c.time=1/\mQ p B c.inst (decide (c.side=2)) c.price c.qty=aq then⟨B,U,nI c 23⟩
 else cY p B U c
def uQ (B:List (List zH)) (U:List Int) (id inst:Int) (o:zH):MkX:=⟨(kJ B id o.qty).1,U,[⟨4,id,inst,o.side,o.price,o.qty,0,0⟩]⟩
def bR (B:List (List zH)) (U:List Int) (id q inst:Int) (o:zH):MkX:=⟨(kJ B id q).1,U,[⟨5,id,inst,o.side,o.price,q,o.qty-q,0⟩]⟩
def fP (p:Prd) (B:List (List zH)) (U:List Int) (c:Cmd) (inst:Int) (o:zH):MkX:=
 if p.price inst c.price≠0 then⟨B,U,nI c (p.price inst c.price)⟩
 else if c.price=o.price/\c.qty<=o.qty then bR B U c.id (o.qty-c.qty) inst o
 else if mQ p (kJ B c.id o.qty).1 inst (decide (o.side=2)) c.price c.qty=aq then⟨B,U,nI c 23⟩
 else
  let x:=uQ B U c.id inst o
  let y:=cY p x.B U ⟨1,c.id,inst,o.side,c.price,c.qty,0,1,[]⟩
  ⟨y.B,y.U,x.R++y.R⟩
def doF (p:Prd) (B:List (List zH)) (U:List Int) (c:Cmd):MkX:=
 if c.right≠0 then⟨B,U,nI c c.right⟩
 else if c.kind=1 then nJ p B U c
 else if(zZ B c.id).2.2=ap then⟨B,U,nI c 26⟩
 else if c.kind=4 then fP p B U c (zZ B c.id).1 (zZ B c.id).2.1
 else if c.kind=2\/(zZ B c.id).2.1.qty<=c.qty then uQ B U c.id (zZ B c.id).1 (zZ B c.id).2.1
 else bR B U c.id c.qty (zZ B c.id).1 (zZ B c.id).2.1
structure Mkt.Rep (m:Mkt) (p:Prd) (B:List (List zH)) (U:List Int):Prop where
 ep:m.p=p
 s:m.s.Rep p B
 u:m.used=U
@[reducible] def zBl (m:Mkt):List AObj:=[yN m 0,yN m 1,yN m 2,yN m 3,yN m 4]
@[reducible] def yRm (x:jY):V:= .agg [zA x.price,zA x.qty,yX x.implied,roV 6 (x.fills.map yV)]
@[reducible] def tRp:Nat:=85
@[reducible] def z4o (l:List Rep):AObj:= .own tRp 8 (l.map xV)
structure RjI where
 c:Cmd
 why:Int
def rejC:Con:=con1 RjI (λi=>[zGe i.c,zA i.why]) (λ_=>[]) (λ_=>True) (λ_=> .own 0) (λi=>[z4o (nI i.c i.why)])
structure MsI where
 m:Mkt
 r:Rep
 near:Int
 far:Int
@[reducible] def Mkt.fine (m:Mkt):Prop:=m.p.check=0/\m.p.small
def mspreadC:Con:=con1 MsI (λi=>[.nm 0 0,y3y i.r,zA i.near,zA i.far]) (λi=>zBl i.m) (λi=>i.m.fine/\(i.r.side=1\/i.r.side=2)) (λ_=> .own 5) (λi=>zBl i.m++[z4o (zEn i.m.p i.r i.near i.far)])
structure MiN where
 m:Mkt
 inst:Int
def misC:Con:=con1 MiN (λi=>[.nm 0 0,zA i.inst]) (λi=>zBl i.m) (λi=>i.m.fine) (λi=>yX (i.m.p.legs i.inst).2.2) (λi=>zBl i.m)
structure OfI where
 x:jY
 k:Int
@[reducible] def zXl (x:jY) (n:Nat):List AObj:=[.cells [zA x.price,zA x.qty,yX x.implied,.own n] 321,.fro 6 (x.fills.map yV)]
def ofC:Con:=con1 OfI (λi=>[zA i.k,.nm 0 0]) (λi=>zXl i.x 1) (λi=>i.x.fills.length<=1000000) (λi=>zA (ofF i.x i.k)) (λi=>zXl i.x 1)
def ofA:List SAnn:=[{ι:=Nat,slots:=λj=>[(9,zA j)],rows:=λ_=>[]}]
structure MpI where
 m:Mkt
 inst:Int
 x:jY
def mpricesC:Con:=con1 MpI (λi=>[.nm 0 0,zA i.inst,yRm i.x]) (λi=>zBl i.m) (λi=>i.m.fine/\yU i.x.price/\i.x.fills.length<=1000000) (λi=> .tup [zA (wV i.m.p i.inst i.x).1,zA (wV i.m.p i.inst i.x).2]) (λi=>zBl i.m)
structure StI' where
 m:Mkt
 c:Cmd
 x:jY
 left:Int
def StI'.out (i:StI') (j:Nat):List Rep:=(i.x.fills.take j).flatMap λf=>nE i.m.p i.x (zGc f)
def mstepC:Con:=con1 StI' (λi=>[.nm 0 0,zGe i.c,yRm i.x,zA i.left]) (λi=>zBl i.m) (λi=>i.m.fine/\yU i.x.price/\i.x.fills.length<=1000000/\(i.c.side=1\/i.c.side=2)/\∀f∈i.x.fills,f.side=1\/f.side=2) (λ_=> .own 5) (λi=>zBl i.m++[z4o (nC i.m.p i.c i.x i.left)])
def yTs (i:StI'):List SAnn:=[{ι:=Nat,slots:=λj=>[(9,.nm 0 0),(17,zA j)],rows:=λj=>[.cells [.own 1] 106,z4o (i.out j)]}]
def y4u (i:RjI):Prop:=
 ∃(o:Unit),[xV (Rep.mk 2 i.c.id 0 0 0 0 0 i.why)]=[[D.v (.int .i64 2),D.v (.int .i64 i.c.id),D.v (.int .i64 0),D.v (.int .i64 0),D.v (.int .i64 0),D.v (.int .i64 0),D.v (.int .i64 0),D.v (.int .i64 i.why)]]/\True
def uH (a:MsI):Prop:=a.r.kind=a.r.kind/\dh a.r.id/\dh a.r.inst/\dh a.r.side/\dh a.r.price/\dh a.r.qty/\dh a.r.left/\dh a.r.why/\True
def fY (a:MsI):=(Rep.mk a.r.kind a.r.id (a.m.p.legs a.r.inst).snd.fst (3-a.r.side) a.far a.r.qty a.r.left a.r.why)
def f7 (a:MsI):=(Rep.mk a.r.kind a.r.id (a.m.p.legs a.r.inst).fst a.r.side a.near a.r.qty a.r.left a.r.why)
def eY (a:MsI) (b:cQ):Prop:=(uH a)/\(uH a)/\(uH a)/\(uH a)/\(uH a)/\dh a.r.side/\∃(c:Unit),dh (sb a.m.p.code)/\dh a.m.p.tick/\dh a.m.p.low/\dh a.m.p.high/\dh a.m.p.wide/\dh a.m.p.rule/\dh a.m.p.top/\dh a.m.p.least/\dh a.m.p.part/\zD a.m.s=yN a.m 1/\dh (zU a.m.used)/\aa 1 (iE a.m.p.months)=yN a.m 3/\aa 1 (iE a.m.p.settle)=yN a.m 4/\[xV (f7 a),xV (fY a)]=[[dI a.r.kind,dI a.r.id,dI ((b.p.legs b.n).fst),dI a.r.side,dI a.near,dI a.r.qty,dI a.r.left,dI a.r.why],[dI a.r.kind,dI a.r.id,dI (vJ b),dI (aj.wrap (3-a.r.side)),dI a.far,dI a.r.qty,dI a.r.left,dI a.r.why]]/\True
def zYl (i:MsI):Prop:=
 ∃(a:cQ),sb a.p.code=sb i.m.p.code/\iE a.p.months=iE i.m.p.months/\a.p.tick=i.m.p.tick/\a.p.low=i.m.p.low/\a.p.high=i.m.p.high/\a.p.wide=i.m.p.wide/\a.p.rule=i.m.p.rule/\a.p.top=i.m.p.top/\a.p.least=i.m.p.least/\a.p.part=i.m.p.part/\iE a.p.settle=iE i.m.p.settle/\a.n=i.r.inst/\(jH a)/\∀(b:Unit),True->(eY i a)/\eY i a
def y3q (i:MiN):Prop:=
 ∃(i_1:cQ),sb i_1.p.code=sb i.m.p.code/\iE i_1.p.months=iE i.m.p.months/\i_1.p.tick=i.m.p.tick/\i_1.p.low=i.m.p.low/\i_1.p.high=i.m.p.high/\i_1.p.wide=i.m.p.wide/\i_1.p.rule=i.m.p.rule/\i_1.p.top=i.m.p.top/\i_1.p.least=i.m.p.least/\i_1.p.part=i.m.p.part/\iE i_1.p.settle=iE i.m.p.settle/\i_1.n=i.inst/\(i_1.p.code.length<=1099511627776/\i_1.p.months.length<=1099511627776/\i_1.p.settle.length<=1099511627776)/\∀(o:Unit),True->∃(o:Unit),(i.m.p.legs i.inst).snd.snd=(i_1.p.legs i_1.n).snd.snd/\dh (sb i.m.p.code)/\dh i.m.p.tick/\dh i.m.p.low/\dh i.m.p.high/\dh i.m.p.wide/\dh i.m.p.rule/\dh i.m.p.top/\dh i.m.p.least/\dh i.m.p.part/\zD i.m.s=yN i.m 1/\dh (zU i.m.used)/\aa 1 (iE i.m.p.months)=yN i.m 3/\aa 1 (iE i.m.p.settle)=yN i.m 4/\True
def zVm (a:OfI):Prop:=a.x.price=a.x.price/\dh a.x.qty/\dh a.x.implied/\dh (aa 6 (ao yV a.x.fills))/\True
def Vof (i:OfI):Prop:=
 ∃(a:Nat),(↑a:Int)=0/\∃(b:Nat->Prop),∃(c:Nat->Nat),b a/\∀(d:Nat),b d->cnd (decide ((↑d:Int)<(↑(ao yV i.x.fills).length:Int))) ((0<=(↑d:Int)/\(↑d:Int)<(↑(ao yV i.x.fills).length:Int))/\∃(e:Int),∃(f:Int),∃(g:Int),∃(h:Int),∃(j:Int),∃(k:Int),zE (ao yV i.x.fills) (↑d:Int).toNat 0 6=au [dI e,dI f,dI g,dI h,dI j,dI k]/\cnd (f==i.k) (∃(l:Unit),ofF i.x i.k=h/\zVm i) (∃(l:Nat),(↑l:Int)=aj.wrap ((↑d:Int)+1)/\b l/\c l<c d/\dh (ab [zA i.x.price,zA i.x.qty,yX i.x.implied,V.own 1] (321:ba))/\dh (aa 6 (ao yV i.x.fills)))) (∃(e:Unit),ofF i.x i.k=i.x.price/\zVm i)
def tE (a:MpI):Prop:=sb a.m.p.code=sb a.m.p.code/\dh a.m.p.tick/\dh a.m.p.low/\dh a.m.p.high/\dh a.m.p.wide/\dh a.m.p.rule/\dh a.m.p.top/\dh a.m.p.least/\dh a.m.p.part/\zD a.m.s=yN a.m 1/\dh (zU a.m.used)/\aa 1 (iE a.m.p.months)=yN a.m 3/\aa 1 (iE a.m.p.settle)=yN a.m 4/\True
def qK (a:MpI):=(wV a.m.p a.inst a.x)
def zYz (i:MpI):Prop:=
 cnd (!i.x.implied) (∃(a:LpI),sb a.p.code=sb i.m.p.code/\iE a.p.months=iE i.m.p.months/\a.p.tick=i.m.p.tick/\a.p.low=i.m.p.low/\a.p.high=i.m.p.high/\a.p.wide=i.m.p.wide/\a.p.rule=i.m.p.rule/\a.p.top=i.m.p.top/\a.p.least=i.m.p.least/\a.p.part=i.m.p.part/\iE a.p.settle=iE i.m.p.settle/\a.inst=i.inst/\a.price=i.x.price/\(a.p.check=0/\(a.p.code.length<=1099511627776/\a.p.months.length<=1099511627776/\a.p.settle.length<=1099511627776)/\(-9223372036854775808)<=a.price/\a.price<=9223372036854775807)/\∀(b:Unit),True->∃(c:Unit),(qK i).fst=(y6 a).fst/\(qK i).snd=(y6 a).snd.fst/\tE i) (∃(a:cQ),sb a.p.code=sb i.m.p.code/\iE a.p.months=iE i.m.p.months/\a.p.tick=i.m.p.tick/\a.p.low=i.m.p.low/\a.p.high=i.m.p.high/\a.p.wide=i.m.p.wide/\a.p.rule=i.m.p.rule/\a.p.top=i.m.p.top/\a.p.least=i.m.p.least/\a.p.part=i.m.p.part/\iE a.p.settle=iE i.m.p.settle/\a.n=i.inst/\(jH a)/\∀(b:Unit),True->∃(c:OfI),c.k=(a.p.legs a.n).fst/\c.x.price=i.x.price/\c.x.qty=i.x.qty/\c.x.implied=i.x.implied/\aa 6 (ao yV c.x.fills)=aa 6 (ao yV i.x.fills)/\c.x.fills.length<=1000000/\∀(d:Unit),True->∃(e:OfI),e.k=(a.p.legs a.n).snd.fst/\e.x.price=c.x.price/\e.x.qty=c.x.qty/\e.x.implied=c.x.implied/\aa 6 (ao yV e.x.fills)=aa 6 (ao yV c.x.fills)/\e.x.fills.length<=1000000/\∀(f:Unit),True->∃(g:Unit),(qK i).fst=ofF c.x c.k/\(qK i).snd=ofF e.x e.k/\tE i)
def zDl (a:MpI):Prop:=(a.m.p.check=0/\a.m.p.code.length<=1099511627776/\a.m.p.months.length<=1099511627776/\a.m.p.settle.length<=1099511627776)/\((-9223372036854775808)<=a.x.price/\a.x.price<=9223372036854775807)/\a.x.fills.length<=1000000
def zCe (a:MsI):Prop:=(a.m.p.check=0/\a.m.p.code.length<=1099511627776/\a.m.p.months.length<=1099511627776/\a.m.p.settle.length<=1099511627776)/\(a.r.side=1\/a.r.side=2)
def zCo (a:MiN):Prop:=a.m.p.check=0/\a.m.p.code.length<=1099511627776/\a.m.p.months.length<=1099511627776/\a.m.p.settle.length<=1099511627776
def aZ (a:StI'):=(D.v (aw (sb a.c.label)))
def yKc (i:StI'):Prop:=
 ∃(a:Nat),(↑a:Int)=0/\ao xV (i.out a)=[]/\∃(b:Nat->Prop),∃(c:Nat->Nat),b a/\∀(d:Nat),b d->cnd (decide ((↑d:Int)<(↑(ao yV i.x.fills).length:Int))) ((0<=(↑d:Int)/\(↑d:Int)<(↑(ao yV i.x.fills).length:Int))/\∃(e:Int),∃(f:Int),∃(g:Int),∃(h:Int),∃(j:Int),∃(k:Int),zE (ao yV i.x.fills) (↑d:Int).toNat 0 6=au [dI e,dI f,dI g,dI h,dI j,dI k]/\((ao xV (i.out d)).length+1)*(64:Nat)<=(140737488355328:Nat)/\∃(l:MiN),l.inst=f/\sb l.m.p.code=sb i.m.p.code/\l.m.p.tick=i.m.p.tick/\l.m.p.low=i.m.p.low/\l.m.p.high=i.m.p.high/\l.m.p.wide=i.m.p.wide/\l.m.p.rule=i.m.p.rule/\l.m.p.top=i.m.p.top/\l.m.p.least=i.m.p.least/\l.m.p.part=i.m.p.part/\zD l.m.s=yN i.m 1/\zU l.m.used=zU i.m.used/\aa 1 (iE l.m.p.months)=yN i.m 3/\aa 1 (iE l.m.p.settle)=yN i.m 4/\(zCo l)/\∀(m:Unit),True->cnd (l.m.p.legs l.inst).snd.snd (∃(n:MpI),n.inst=f/\n.x.price=i.x.price/\n.x.qty=i.x.qty/\n.x.implied=i.x.implied/\ao yV n.x.fills=ao yV i.x.fills/\sb n.m.p.code=sb l.m.p.code/\n.m.p.tick=l.m.p.tick/\n.m.p.low=l.m.p.low/\n.m.p.high=l.m.p.high/\n.m.p.wide=l.m.p.wide/\n.m.p.rule=l.m.p.rule/\n.m.p.top=l.m.p.top/\n.m.p.least=l.m.p.least/\n.m.p.part=l.m.p.part/\zD n.m.s=zD l.m.s/\zU n.m.used=zU l.m.used/\aa 1 (iE n.m.p.months)=aa 1 (iE l.m.p.months)/\aa 1 (iE n.m.p.settle)=aa 1 (iE l.m.p.settle)/\(zDl n)/\∀(p:Unit),True->∃(q:MsI),q.r.kind=3/\q.r.id=e/\q.r.inst=f/\q.r.side=g/\q.r.price=h/\q.r.qty=j/\q.r.left=k/\q.r.why=0/\q.near=(qK n).fst/\q.far=(qK n).snd/\sb q.m.p.code=sb n.m.p.code/\q.m.p.tick=n.m.p.tick/\q.m.p.low=n.m.p.low/\q.m.p.high=n.m.p.high/\q.m.p.wide=n.m.p.wide/\q.m.p.rule=n.m.p.rule/\q.m.p.top=n.m.p.top/\q.m.p.least=n.m.p.least/\q.m.p.part=n.m.p.part/\zD q.m.s=zD n.m.s/\zU q.m.used=zU n.m.used/\aa 1 (iE q.m.p.months)=aa 1 (iE n.m.p.months)/\aa 1 (iE q.m.p.settle)=aa 1 (iE n.m.p.settle)/\(zCe q)/\∀(r:Unit),True->True/\((ao xV (i.out d)++[[dI 3,dI e,dI f,dI g,dI h,dI j,dI k,dI 0]]).length+2)*(64:Nat)<=(140737488355328:Nat)/\∃(s:Nat),(↑s:Int)=aj.wrap ((↑d:Int)+1)/\ao xV (i.out s)=ao xV (i.out d)++[[dI 3,dI e,dI f,dI g,dI h,dI j,dI k,dI 0]]++[xV (f7 q),xV (fY q)]/\b s/\c s<c d/\dh (ab [V.d (dI i.x.price),V.d (dI i.x.qty),V.d (D.v (.bool i.x.implied)),V.own 7] 321)/\dh (aa 6 (ao yV i.x.fills))/\dh (ab [V.d (dI i.c.kind),V.d (dI i.c.id),V.d (dI i.c.inst),V.d (dI i.c.side),V.d (dI i.c.price),V.d (dI i.c.qty),V.d (dI i.c.least),V.d (dI i.c.time),V.d (aZ i)] 80)/\dh (ab [V.nm 0 0] 100)/\ab [V.d (D.v (aw (sb q.m.p.code))),V.own 3,V.d (dI q.m.p.tick),V.d (dI q.m.p.low),V.d (dI q.m.p.high),V.d (dI q.m.p.wide),V.d (dI q.m.p.rule),V.d (dI q.m.p.top),V.d (dI q.m.p.least),V.d (dI q.m.p.part),V.own 4,V.nm 1 0,V.mp 2] (179:ba)=yN i.m 0/\zD q.m.s=yN i.m 1/\af (zU q.m.used)=yN i.m 2/\aa 1 (iE q.m.p.months)=yN i.m 3/\aa 1 (iE q.m.p.settle)=yN i.m 4) (∃(n:Nat),(↑n:Int)=aj.wrap ((↑d:Int)+1)/\ao xV (i.out n)=ao xV (i.out d)++[[dI 3,dI e,dI f,dI g,dI h,dI j,dI k,dI 0]]/\b n/\c n<c d/\dh (ab [V.d (dI i.x.price),V.d (dI i.x.qty),V.d (D.v (.bool i.x.implied)),V.own 7] 321)/\dh (aa 6 (ao yV i.x.fills))/\dh (ab [V.d (dI i.c.kind),V.d (dI i.c.id),V.d (dI i.c.inst),V.d (dI i.c.side),V.d (dI i.c.price),V.d (dI i.c.qty),V.d (dI i.c.least),V.d (dI i.c.time),V.d (aZ i)] 80)/\dh (ab [V.nm 0 0] 100)/\ab [V.d (D.v (aw (sb l.m.p.code))),V.own 3,V.d (dI l.m.p.tick),V.d (dI l.m.p.low),V.d (dI l.m.p.high),V.d (dI l.m.p.wide),V.d (dI l.m.p.rule),V.d (dI l.m.p.top),V.d (dI l.m.p.least),V.d (dI l.m.p.part),V.own 4,V.nm 1 0,V.mp 2] (179:ba)=yN i.m 0/\zD l.m.s=yN i.m 1/\af (zU l.m.used)=yN i.m 2/\aa 1 (iE l.m.p.months)=yN i.m 3/\aa 1 (iE l.m.p.settle)=yN i.m 4)) (((ao xV (i.out d)).length+1)*(64:Nat)<=(140737488355328:Nat)/\∃(e:MiN),e.inst=i.c.inst/\sb e.m.p.code=sb i.m.p.code/\e.m.p.tick=i.m.p.tick/\e.m.p.low=i.m.p.low/\e.m.p.high=i.m.p.high/\e.m.p.wide=i.m.p.wide/\e.m.p.rule=i.m.p.rule/\e.m.p.top=i.m.p.top/\e.m.p.least=i.m.p.least/\e.m.p.part=i.m.p.part/\zD e.m.s=yN i.m 1/\zU e.m.used=zU i.m.used/\aa 1 (iE e.m.p.months)=yN i.m 3/\aa 1 (iE e.m.p.settle)=yN i.m 4/\(zCo e)/\∀(f:Unit),True->cnd (e.m.p.legs e.inst).snd.snd (∃(g:MpI),g.inst=i.c.inst/\g.x.price=i.x.price/\g.x.qty=i.x.qty/\g.x.implied=i.x.implied/\ao yV g.x.fills=ao yV i.x.fills/\sb g.m.p.code=sb e.m.p.code/\g.m.p.tick=e.m.p.tick/\g.m.p.low=e.m.p.low/\g.m.p.high=e.m.p.high/\g.m.p.wide=e.m.p.wide/\g.m.p.rule=e.m.p.rule/\g.m.p.top=e.m.p.top/\g.m.p.least=e.m.p.least/\g.m.p.part=e.m.p.part/\zD g.m.s=zD e.m.s/\zU g.m.used=zU e.m.used/\aa 1 (iE g.m.p.months)=aa 1 (iE e.m.p.months)/\aa 1 (iE g.m.p.settle)=aa 1 (iE e.m.p.settle)/\(zDl g)/\∀(h:Unit),True->∃(j:MsI),j.r.kind=3/\j.r.id=i.c.id/\j.r.inst=i.c.inst/\j.r.side=i.c.side/\j.r.price=i.x.price/\j.r.qty=i.x.qty/\j.r.left=i.left/\j.r.why=0/\j.near=(qK g).fst/\j.far=(qK g).snd/\sb j.m.p.code=sb g.m.p.code/\j.m.p.tick=g.m.p.tick/\j.m.p.low=g.m.p.low/\j.m.p.high=g.m.p.high/\j.m.p.wide=g.m.p.wide/\j.m.p.rule=g.m.p.rule/\j.m.p.top=g.m.p.top/\j.m.p.least=g.m.p.least/\j.m.p.part=g.m.p.part/\zD j.m.s=zD g.m.s/\zU j.m.used=zU g.m.used/\aa 1 (iE j.m.p.months)=aa 1 (iE g.m.p.months)/\aa 1 (iE j.m.p.settle)=aa 1 (iE g.m.p.settle)/\(zCe j)/\∀(k:Unit),True->True/\((ao xV (i.out d)++[[dI 3,dI i.c.id,dI i.c.inst,dI i.c.side,dI i.x.price,dI i.x.qty,dI i.left,dI 0]]).length+2)*(64:Nat)<=(140737488355328:Nat)/\∃(l:Unit),sb i.m.p.code=sb j.m.p.code/\i.m.p.tick=j.m.p.tick/\i.m.p.low=j.m.p.low/\i.m.p.high=j.m.p.high/\i.m.p.wide=j.m.p.wide/\i.m.p.rule=j.m.p.rule/\i.m.p.top=j.m.p.top/\i.m.p.least=j.m.p.least/\i.m.p.part=j.m.p.part/\zD i.m.s=zD j.m.s/\zU i.m.used=zU j.m.used/\aa 1 (iE i.m.p.months)=aa 1 (iE j.m.p.months)/\aa 1 (iE i.m.p.settle)=aa 1 (iE j.m.p.settle)/\ao xV (nC i.m.p i.c i.x i.left)=ao xV (i.out d)++[[dI 3,dI i.c.id,dI i.c.inst,dI i.c.side,dI i.x.price,dI i.x.qty,dI i.left,dI 0]]++[xV (f7 j),xV (fY j)]/\True) (∃(g:Unit),sb i.m.p.code=sb e.m.p.code/\i.m.p.tick=e.m.p.tick/\i.m.p.low=e.m.p.low/\i.m.p.high=e.m.p.high/\i.m.p.wide=e.m.p.wide/\i.m.p.rule=e.m.p.rule/\i.m.p.top=e.m.p.top/\i.m.p.least=e.m.p.least/\i.m.p.part=e.m.p.part/\zD i.m.s=zD e.m.s/\zU i.m.used=zU e.m.used/\aa 1 (iE i.m.p.months)=aa 1 (iE e.m.p.months)/\aa 1 (iE i.m.p.settle)=aa 1 (iE e.m.p.settle)/\ao xV (nC i.m.p i.c i.x i.left)=ao xV (i.out d)++[[dI 3,dI i.c.id,dI i.c.inst,dI i.c.side,dI i.x.price,dI i.x.qty,dI i.left,dI 0]]/\True))
def z4r:rejC.ok Tryz.prog 112:=okw (V:=y4u) mixed gok0 0 (λ_=>[]) (λ_=>[]) [] Tryz.func112 λ(i:RjI) _=>⟨(),rfl,trivial⟩
def yFj (i:MsI) (h:mspreadC.cnd i):zYl i:=by
 obtain⟨⟨hc,hp⟩,hs⟩:i.m.fine/\(i.r.side=1\/i.r.side=2):=h;have hw:aj.wrap (3-i.r.side)=3-i.r.side:=w64 oM;unfold zYl eY f7 fY uH vJ jH dI;rw[hw];refine⟨⟨i.m.p,i.r.inst⟩,rF8 (rF3 ⟨rfl,hp,λ_ _=> ?_⟩)⟩;exact kp
def z2c:mspreadC.ok Tryz.prog 239:=okw mixed (gokc zAq gok0) 0 (λ_=>[]) (λ_=>[]) [] Tryz.func239 yFj
def yVl:misC.ok Tryz.prog 237:=okw (V:=y3q) mixed (gokc zAq gok0) 0 (λ_=>[]) (λ_=>[]) [] Tryz.func237 λ(i:MiN) h=>by
 obtain⟨hc,hp⟩:i.m.fine:=h;exact⟨⟨i.m.p,i.inst⟩,rF8 (rF3 ⟨rfl,hp,λ_ _=>kp⟩)⟩
def y2j {l:List cP} {k:Nat} {f:cP} (h:l[k]? =au f):zE (l.map yV) k 0 6=au [D.v (.int .i64 f.id),D.v (.int .i64 f.inst),D.v (.int .i64 f.side),D.v (.int .i64 f.price),D.v (.int .i64 f.qty),D.v (.int .i64 f.left)]:=elA h (by simp[yV]) rfl
def vof (i:OfI) (h:ofC.cnd i):Vof i:=by
 have hl:i.x.fills.length<=1000000:=h;have e4:(i.x.fills.map yV).length=i.x.fills.length:=y5e ..;unfold Vof zVm dI;refine⟨0,rfl,λj=>j<=i.x.fills.length/\(i.x.fills.take j).find? (λf=>decide (f.inst=i.k))=av,λj=>i.x.fills.length-j,⟨y6l _,rfl⟩,?_⟩;rintro j ⟨j1,j2⟩;refine zI (λc=> ?_) (λc=> ?_)
 ·obtain⟨f,hf⟩:=yE (l:=i.x.fills) (i:=j) oM;refine⟨⟨oM,oM⟩,_,_,_,_,_,_,y2j hf,Cv.cnd.mk (λg=>⟨(),?_,k0q⟩) (λg=>⟨j+1,wjn oM,⟨oM,?_⟩,Z9,k0q⟩)⟩
  ·have g:f.inst=i.k:=by simpa using g
   have e:i.x.fills.find? (λf=>decide (f.inst=i.k))=au f:=by
    rw[<- y7k j i.x.fills,List.find?_append,j2,y7l (by omega),(y5h.1 hf).2,List.find?_cons_of_pos (by simpa using g)];rfl
   rw[ofF,e]
  ·have g:¬f.inst=i.k:=by simpa using g
   rw[y6m,hf,List.find?_append,j2];simp[g]
 ·have:j=i.x.fills.length:=by omega
  rw[this,y5p (y5z _)]at j2;exact⟨(),by rw[ofF,j2],k0q⟩
def yYj:ofC.ok Tryz.prog 265:=okw mixed gok0 0 (λ_=>[]) (λ_=>ofA) [] Tryz.func265 vof
def yHf (i:MpI) (h:mpricesC.cnd i):zYz i:=by
 obtain⟨⟨hc,hp⟩,hpr,hl⟩:i.m.fine/\yU i.x.price/\i.x.fills.length<=1000000:=h;unfold zYz qK tE y6 jH;refine Cv.cnd.mk (λe=> ?_) (λe=> ?_)
 ·have e:i.x.implied=ap:=by simpa using e
  have h0:wV i.m.p i.inst i.x=((fQ i.m.p i.inst i.x.price).1,(fQ i.m.p i.inst i.x.price).2.1):=by rw[wV,y5f e]
  rw[h0];exact⟨⟨i.m.p,i.inst,i.x.price⟩,rF8 (rF4 ⟨rfl,⟨hc,hp,hpr⟩,λ_ _=>kp⟩)⟩
 ·have e:¬i.x.implied=ap:=by simpa using e
  have h0:wV i.m.p i.inst i.x=(ofF i.x (i.m.p.legs i.inst).1,ofF i.x (i.m.p.legs i.inst).2.1):=by rw[wV,y5d e]
  rw[h0];exact⟨⟨i.m.p,i.inst⟩,rF8 (rF3 ⟨rfl,hp,λ_ _=>⟨⟨i.x,(i.m.p.legs i.inst).1⟩,rF4 ⟨rfl,hl,λ_ _=>⟨⟨i.x,(i.m.p.legs i.inst).2.1⟩,rF4 ⟨rfl,hl,λ_ _=>kp⟩⟩⟩⟩⟩)⟩
def z3y:mpricesC.ok Tryz.prog 238:=okw mixed (gokc zAq (gokc z1x (gokc yYj gok0))) 0 (λ_=>[]) (λ_=>[]) [] Tryz.func238 yHf
def zNe (p:Prd) (x:jY) (r:Rep):(nE p x r).length<=3:=by
 rw[nE,y5i];split
 ·rw[zEn];simp
 ·simp
def z7d {p:Prd} {x:jY} {r:Rep} (h:(p.legs r.inst).2.2=ap):nE p x r=[r]:=by
 rw[nE,y5d (by rw[h];decide)]
def z0b {p:Prd} {x:jY} {r:Rep} (h:(p.legs r.inst).2.2=aq):nE p x r=r::zEn p r (wV p r.inst x).1 (wV p r.inst x).2:=by
 rw[nE,y5f h]
def StI'.out_len (i:StI'):∀j,(i.out j).length<=3*j
 |0=>y5z _
 |j+1=>by
  have ih:=StI'.out_len i j;rw[StI'.out]at ih ⊢;rw[y6m,y7b,y5c];cases e:i.x.fills[j]? with
  |none=>simp only[Option.toList_none,xAi,y6x];omega
  |some f=>
   have:=zNe i.m.p i.x (zGc f);simp only[y8g,y6y,xAi,y6a];omega
def StI'.out_succ (i:StI') {j:Nat} {f:cP} (h:i.x.fills[j]? =au f):i.out (j+1)=i.out j++nE i.m.p i.x (zGc f):=by
 rw[StI'.out,StI'.out,y6m,y7b,h];simp
def yUq (i:StI') (h:mstepC.cnd i):yKc i:=by
 obtain⟨hf,hpr,hl,hcs,hfs⟩:i.m.fine/\yU i.x.price/\i.x.fills.length<=1000000/\(i.c.side=1\/i.c.side=2)/\∀f∈i.x.fills,f.side=1\/f.side=2:=h;have e4:(i.x.fills.map yV).length=i.x.fills.length:=y5e ..;unfold yKc aZ zCo zCe zDl f7 fY qK dI;refine⟨0,rfl,rfl,λj=>j<=i.x.fills.length,λj=>i.x.fills.length-j,y6l _,?_⟩;intro j hj;have ho:=i.out_len j;have e5:((i.out j).map xV).length=(i.out j).length:=y5e ..;refine zI (λc=> ?_) (λc=> ?_)
 ·obtain⟨f,hfj⟩:=yE (l:=i.x.fills) (i:=j) oM;have hos:=i.out_succ hfj;have hfj2:=hfs f (y5o hfj);refine⟨⟨oM,oM⟩,_,_,_,_,_,_,y2j hfj,oM,⟨i.m,f.inst⟩,rfl,rfl,rfl,rfl,rfl,rfl,rfl,rfl,rfl,rfl,rfl,rfl,rfl,rfl,hf,λ_ _=>Cv.cnd.mk (λe=> ?_) (λe=> ?_)⟩
  ·have e:(i.m.p.legs (zGc f).inst).2.2=aq:=e;rw[z0b e]at hos;refine⟨⟨i.m,f.inst,i.x⟩,rF8 (rF6 (rF3 ⟨rfl,⟨hf,hpr,hl⟩,λ_ _=>⟨⟨i.m,zGc f,(wV i.m.p f.inst i.x).1,(wV i.m.p f.inst i.x).2⟩,rF8 (rF8 (rF6 ⟨rfl,⟨hf,hfj2⟩,λ_ _=>⟨trivial,by rw[y5c,e5];simp only[y5i,y6x];omega,j+1,wjn oM,?_,oM,Z9,k0q⟩⟩))⟩⟩))⟩;rw[hos,y5n,y5k];rfl
  ·have e:(i.m.p.legs (zGc f).inst).2.2=ap:=e;rw[z7d e]at hos;refine⟨j+1,wjn oM,?_,oM,Z9,k0q⟩;rw[hos,y5n];rfl
 ·have hj:j=i.x.fills.length:=by omega
  have ho2:i.x.fills.flatMap (λf=>nE i.m.p i.x (zGc f))=i.out j:=by rw[StI'.out,hj,y5p (y5z _)]
  have hR:nC i.m.p i.c i.x i.left=i.out j++nE i.m.p i.x ⟨3,i.c.id,i.c.inst,i.c.side,i.x.price,i.x.qty,i.left,0⟩:=by rw[nC,ho2]
  refine⟨oM,⟨i.m,i.c.inst⟩,rF8 (rF5 ⟨rfl,hf,λ_ _=>Cv.cnd.mk (λe=> ?_) (λe=> ?_)⟩)⟩
  ·have e:(i.m.p.legs (⟨3,i.c.id,i.c.inst,i.c.side,i.x.price,i.x.qty,i.left,0⟩:Rep).inst).2.2=aq:=e;rw[z0b e]at hR;refine⟨⟨i.m,i.c.inst,i.x⟩,rF8 (rF6 (rF3 ⟨rfl,⟨hf,hpr,hl⟩,λ_ _=>⟨⟨i.m,⟨3,i.c.id,i.c.inst,i.c.side,i.x.price,i.x.qty,i.left,0⟩,(wV i.m.p i.c.inst i.x).1,(wV i.m.p i.c.inst i.x).2⟩,rF8 (rF8 (rF6 ⟨rfl,⟨hf,hcs⟩,λ_ _=>⟨trivial,by rw[y5c,e5];simp only[y5i,y6x];omega,?_⟩⟩))⟩⟩))⟩;rw[hR,y5n,y5k];exact kp
  ·have e:(i.m.p.legs (⟨3,i.c.id,i.c.inst,i.c.side,i.x.price,i.x.qty,i.left,0⟩:Rep).inst).2.2=ap:=e;rw[z7d e]at hR;rw[hR,y5n];exact kp
def yDh:mstepC.ok Tryz.prog 208:=okw mixed (gokc yVl (gokc z3y (gokc z2c gok0))) 1 (λ_=>[]) (λi=>yTs i) [] Tryz.func208 yUq
structure EnI where
 m:Mkt
 p:Prd
 B:List (List zH)
 U:List Int
 c:Cmd
 X:MkX
@[reducible] def EnI.std (i:EnI):Prop:=i.m.Rep i.p i.B i.U/\BOk i.p i.B
@[reducible] def EnI.good (i:EnI):Prop:=(0<=i.c.inst/\i.c.inst<i.B.length)/\(1<=i.c.qty/\i.c.qty<=1000000)/\(i.c.side=1\/i.c.side=2)
@[reducible] def z1c (X:MkX) (p:Prd):Alt:={o:=Mkt,res:=λ_=> .own 5,post:=λo=>zBl o++[z4o X.R],rel:=λo=>o.Rep p X.B X.U}
def enterC:Con where
 ι:=EnI
 pat:=λi=>[.nm 0 0,zGe i.c]
 pre:=λi=>zBl i.m
 cnd:=λi=>i.std/\i.good/\i.p.price i.c.inst i.c.price=0/\i.X=cY i.p i.B i.U i.c
 alts:=λi=>[z1c i.X i.p]
structure EnJ where
 left:Int
 k:Nat
 out:List Rep
def yUc (i:EnI):List SAnn:=[{ι:=EnJ,slots:=λj=>[(5,.own 0),(8,zA j.left),(51,zA j.k)],rows:=λj=>[z4o j.out]}]
def orderC:Con where
 ι:=EnI
 pat:=λi=>[.nm 0 0,zGe i.c]
 pre:=λi=>zBl i.m
 cnd:=λi=>i.std/\i.c.right=0/\i.c.kind=1/\i.X=nJ i.p i.B i.U i.c
 alts:=λi=>[z1c i.X i.p]
def yWg:List (Nat×SAnn):=[(22,ij 6),(44,bj 47),(52,bj 69)]
structure CaI where
 m:Mkt
 p:Prd
 B:List (List zH)
 U:List Int
 id:Int
 q:Int
 inst:Int
 o:zH
 X:MkX
@[reducible] def CaI.std (i:CaI):Prop:=i.m.Rep i.p i.B i.U/\BOk i.p i.B
def cancelC:Con where
 ι:=CaI
 pat:=λi=>[.nm 0 0,zA i.id,zA i.inst,yCm i.o]
 pre:=λi=>zBl i.m
 cnd:=λi=>i.std/\i.X=uQ i.B i.U i.id i.inst i.o
 alts:=λi=>[z1c i.X i.p]
def reduceC:Con where
 ι:=CaI
 pat:=λi=>[.nm 0 0,zA i.id,zA i.q,zA i.inst,yCm i.o]
 pre:=λi=>zBl i.m
 cnd:=λi=>i.std/\yU (i.o.qty-i.q)/\i.X=bR i.B i.U i.id i.q i.inst i.o
 alts:=λi=>[z1c i.X i.p]
structure z9l where
 m:Mkt
 p:Prd
 B:List (List zH)
 U:List Int
 c:Cmd
 inst:Int
 o:zH
 X:MkX
def replaceC:Con where
 ι:=z9l
 pat:=λi=>[.nm 0 0,zGe i.c,zA i.inst,yCm i.o]
 pre:=λi=>zBl i.m
 cnd:=λi=>i.m.Rep i.p i.B i.U/\BOk i.p i.B/\zZ i.B i.c.id=(i.inst,i.o,aq)/\(1<=i.c.qty/\i.c.qty<=1000000)/\i.X=fP i.p i.B i.U i.c i.inst i.o
 alts:=λi=>[z1c i.X i.p]
def doC:Con where
 ι:=EnI
 pat:=λi=>[.nm 0 0,zGe i.c]
 pre:=λi=>[kR i.m]
 cnd:=λi=>i.std/\i.c.label.length<=140737488355328/\yU i.c.qty/\i.X=doF i.p i.B i.U i.c
 alts:=λi=>[{o:=Mkt,res:=λ_=> .own 1,post:=λo=>[kR o,z4o i.X.R],rel:=λo=>o.Rep i.p i.X.B i.X.U}]
end Sx
