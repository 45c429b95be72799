/- Texts of ours. No condition. -/
import Derived.Maps.RangeRun
import Derived.Shelf.Spec.SlicesGrow
import Derived.Test.YtgmmlhddihaocaaGreatF12
set_option linter.all false
open Sx.fj renaming kg->ab,cells->ac,ra->ae,map->af,own->ag,jz->aj
open Go.IntKind renaming i64->ak,u8->am,wrap->ao,signed->ap
open List renaming map->aq,length->ar,replicate->au,map_singleton->av,drop_take->aw,drop_left->ax,drop->ay
open Go.Value renaming int->az,string->ba
open Go renaming MapEntry->bc,Value->be,TypeId->bg,grownCap->bo,size_zeroCells->bu,World->bv
open Option renaming some->bz,none->cd
open Go.Builtin renaming zeroCells->ce,append_->cf
open Bool renaming true->cg,false->cm
open BitVec renaming ofInt->cn
open List.Perm renaming swap->co,cons->cp
open Int renaming toNat->cq
namespace Sx
set_option maxRecDepth 100000
open Go Cv Go.Proofs
def KL:Go.Shelf.Ren:=⟨λx=>if x=4 then 113 else x,λx=>if x=22 then 43 else if x=25 then 5 else x,λx=>x⟩
def xDk:Lays8.n4 Tryz.prog KL where
 mixed:=mixed
 f4:=⟨Tryz.f113.name,by decide+kernel,by kernel_rfl⟩
 t0:=by kernel_rfl
 a0:=λ_=>by kernel_rfl
 z0:=λ_=>by kernel_rfl
 v0:=λ_=>by kernel_rfl
 t3:=by kernel_rfl
 a3:=λ_=>by kernel_rfl
 z3:=λ_=>by kernel_rfl
 v3:=λ_=>by kernel_rfl
 t4:=by kernel_rfl
 a4:=λ_=>by kernel_rfl
 z4:=λ_=>by kernel_rfl
 v4:=λ_=>by kernel_rfl
 t9:=by kernel_rfl
 a9:=λ_=>by kernel_rfl
 z9:=λ_=>by kernel_rfl
 v9:=λ_=>by kernel_rfl
 t20:=by kernel_rfl
 a20:=λ_=>by kernel_rfl
 z20:=λ_=>by kernel_rfl
 v20:=λ_=>by kernel_rfl
 t22:=by kernel_rfl
 a22:=λ_=>by kernel_rfl
 z22:=λ_=>by kernel_rfl
 v22:=λ_=>by kernel_rfl
def xBs:vS Tryz.prog 43=bz (5,1,1,#[.int .u8 0]):=by kernel_rfl
def yYd:BW.ok Tryz.prog 113:=by
 intro(n:Nat) hc k L E w ys R hv;obtain⟨c1,c2⟩:1<=n/\n<=1099511627776:=hc;simp only[BW,fi,gw,VR,DR]at hv;obtain⟨_,_,rfl,⟨rfl,_⟩,_,_,rfl,⟨rfl,_⟩,rfl⟩:=hv;obtain⟨inf,zv,q1,q2,q3,q4,q5,q6⟩:=jF xBs;have wy:=Any8.slices_Grow_grow xDk inf zv q2 q5 oM cd 0 0 n [] w (lh _) oM (by rw[q4];omega) oM (by simp) (λ_=>rfl) (λa h=>by cases h);rw[show KL.t 25=5 from rfl]at wy;refine nT (by kernel_rfl) (wy.mono ?_);rintro en w' ⟨rfl,rfl⟩;have hG:=grownCap_ge w (0+n) 0 5;have H:=((R.hp.drew).new (.cells (([]:List be).toArray++ce zv.cells (0+n-0)++ce zv.cells (bo w (0+n) 0 5-(0+n))) 5))
 have ha:(([]:List be).toArray++ce zv.cells (0+n-0)++ce zv.cells (bo w (0+n) 0 5-(0+n)))=([]++((ce zv.cells (0+n-0)).toList++(ce zv.cells (bo w (0+n) 0 5-(0+n))).toList)).toArray:=by
  apply Array.ext';simp
 have hz:zv.cells.size=1:=by rw[q6];rfl
 have hl:([]++((ce zv.cells (0+n-0)).toList++(ce zv.cells (bo w (0+n) 0 5-(0+n))).toList)).length=bo w (0+n) 0 5*1:=by
  rw[xi,iv,JP,JP,bu,bu,hz];omega
 rw[ha]at H ⊢;have H3:=H.AE (n:=0) (sz:=1) (by simp) hl (mi _);obtain⟨E',r1,r2,r3⟩:=aH (rows:=[]) (ez:=[]) (nx:=0) R.nx (by simp[iy]) (λx hx=>by cases hx) H3;exact⟨_,rfl,_,uc.2 rfl,(),trivial,E',r1,r3,⟨r2.nx,r2.hp⟩⟩
def yAa {ls:List (List UInt8)} {k:Nat} {l:List UInt8} (h:ls[k]? =bz l):zD (ls.map kf) k 0 1=bz [D.ro 1 (bE l)]:=ju h (by simp[kf]) rfl
def lP {α:Type} {ls:List (List α)} {k:Nat} {l:List α} (h:ls[k]? =bz l):(ls.take (k+1)).flatten=(ls.take k).flatten++l:=by
 rw[qx,h,Cb,N6];simp
def yCm {α:Type} (ls:List (List α)) (k:Nat):(ls.take k).flatten.length<=ls.flatten.length:=by
 conv=>rhs;rw[<- Bb k ls,N6,iv]
 omega
def xEl (ls:List (List UInt8)) (h:ye.dp ls):Xe ls:=by
 obtain⟨h1,h2,h3⟩:1<=ls.flatten.length/\ls.flatten.length<=1099511627776/\ls.length<=1000:=h;unfold Xe fa dx kI QP mF;rw[gy];refine⟨0,rfl,rfl,λk=>k<=ls.length,λk=>ls.length-k,mi _,λk hk=>zH (λgn=> ?_) (λgn=> ?_)⟩
 ·obtain⟨l,hl⟩:=z6 (l:=ls) (i:=k) oM;have hk:k<=ls.length:=hk;have e1:=yCm ls (k+1);rw[lP hl,iv]at e1;refine⟨⟨oM,oM⟩,bE l,yAa hl,zH (λc=> ?_) (λ_=>⟨k+1,?_,qy oM,Z9,Z9,trivial⟩)⟩
  ·rw[yV,iq (by omega)]at c;omega
  ·rw[lP hl,iv,yV,iq (by omega)];simp
 ·obtain rfl:k=ls.length:=by have hk:k<=ls.length:=hk;omega
  rw[zr];refine⟨ls.flatten.length,trivial,rfl,⟨h1,h2⟩,λ_ _=>⟨0,rfl,rfl,λk=>k<=ls.length,λk=>ls.length-k,mi _,λk hk=>zH (λgn=> ?_) (λgn=> ?_)⟩⟩
  ·obtain⟨l,hl⟩:=z6 (l:=ls) (i:=k) oM;have hk:k<=ls.length:=hk;have e1:=yCm ls (k+1);rw[lP hl,iv]at e1;refine⟨⟨oM,oM⟩,bE l,yAa hl,by rw[yV,yV];omega,k+1,qy oM,by rw[lP hl,Us],Z9,Z9,trivial⟩
  ·obtain rfl:k=ls.length:=by have hk:k<=ls.length:=hk;omega
   rw[zr];exact⟨(),rfl,trivial⟩
def yCf:ye.ok Tryz.prog 50:=y5u (dw yYd fg) xEl
def yEv:Ug.ok Tryz.prog 26:=gu (V:=xBf) mixed fg 0 (λ_=>[]) (λ_=>[]) [] Tryz.func26 λ(_:Unit) _=>⟨(),rfl,rfl,trivial⟩
def yWw:Uk.ok Tryz.prog 112:=gu (V:=y2z) mixed fg 0 (λ_=>[]) (λ_=>[]) [0] Tryz.func112 λ(i:Kc) h=>by
 have h:i.d.b.length+i.l.length<=1048576:=h;unfold y2z dx;rw[yV,yV];refine zH (λc=> ?_) (λ_=>⟨oM,(),rfl,rfl,Us _ _,trivial⟩);rw[iq (by omega)]at c;omega
def yZe:Uj.ok Tryz.prog 80:=gu (V:=xDb) mixed (dw zSb fg) 0 (λ_=>[]) (λ_=>[]) [0] Tryz.func80 λ(d:Dk) h=>by
 obtain⟨h1,h2⟩:d.ok:=h;exact⟨_,rfl,by rw[yV];omega,λ_ _=>⟨(),iJ trivial⟩⟩
def yAi:sx.ok Tryz.prog 70:=yJm fg λi h=>λb hb=>
 Cv.dp.mk (λe=>⟨(),hb e,trivial⟩) (λ_=>⟨by rw[nh,Nat.mul_one];exact h,(),rfl,trivial⟩)
def yVw:Ud.ok Tryz.prog 81:=gu (V:=y2d) mixed (dw yAi fg) 0 (λ_=>[]) (λ_=>[]) [0] Tryz.func81 λ(i:Kc) h=>by
 have h:i.l.length<=1048576:=h;unfold y2d fa dx;refine zH (λc=> ?_) (λ_=>⟨_,rfl,by rw[yV];omega,λ_ _=>⟨(),rfl,by rw[yV],rfl,trivial⟩⟩);rw[yV]at c;omega
def xBy:∀n:Fin 256,iR (ak.wrap (cn ak.bits (if ak.signed=cg then(-1:Int)else ak.max) ^^^ cn ak.bits (n.val:Int)).toNat)=UInt8.ofNat (255-n.val):=by decide+kernel
def xGd:∀n:Fin 256,am.wrap (cn am.bits (if am.signed=cg then(-1:Int)else am.max) ^^^ cn am.bits (n.val:Int)).toNat=255-(n.val:Int):=by decide+kernel
def bI (l:List UInt8):(jC l).length=l.length+6:=by
 simp only[jC,iC,iv,y7]
def y8k (l:List UInt8) (h:GF.dp l):yNl l:=by
 have h:l.length<=255:=h;have hn:=xBy ⟨l.length,oM⟩;dsimp only at hn;unfold yNl fa dx;rw[yV];revert hn;generalize ak.wrap (cn ak.bits (if ak.signed=cg then(-1:Int)else ak.max) ^^^ cn ak.bits (l.length:Int)).toNat=X;intro hn;refine zH (λc=>by omega) (λ_=>⟨(),trivial,λ_ _=>⟨⟨[],l.length⟩,rfl,rfl,by simp[WN.ok],λ_ _=>⟨⟨_,_⟩,rfl,rfl,by simp[WN.ok],λ_ _=>⟨?_,l,rfl,oM,λ_ _=>⟨⟨_,dH l⟩,rfl,Us _ _,⟨?_,pS l⟩,λ_ _=>⟨_,rfl,?_,λ_ _=>⟨(),rfl,?_,trivial⟩⟩⟩⟩⟩⟩⟩)
 ·rw[yV];simp;omega
 ·dsimp only;simp;omega
 ·dsimp only;simp[y7];omega
 ·dsimp only;rw[hn,jC];simp
def yTc:GF.ok Tryz.prog 73:=gu mixed (dw Pd (dw Pq (dw Uo (dw yBn (dw Ph fg))))) 0 (λ_=>xAg) (λ_=>[]) [] Tryz.func73 y8k
def yNr {c:Int} (h:0<=c/\c<4294967296):yU (le c 4)=c:=by
 simp only[le,yU,P4];omega
def zWz {l:List UInt8} (h:l.length<=255) (r:List UInt8):Cu (jC l++r)=(l,6+l.length,0):=by
 have h0:((jC l++r).getD 0 0).toNat=l.length:=by
  have:=EL (n:=(l.length:Int)) oM;show(iR (l.length:Int)).toNat=l.length;omega
 have h1:((jC l++r).getD 1 0).toNat=255-l.length:=by
  show(UInt8.ofNat (255-l.length)).toNat=_;exact UInt8.toNat_ofNat_of_lt' (by
                                     have:255-l.length<256:=by omega
                                     simpa using this)
 have h2:(jC l++r).drop 2=l++(le (dH l) 4++r):=by
  show(l++le (dH l) 4)++r=_;rw[iY]
 have h3:(jC l++r).drop (2+l.length)=le (dH l) 4++r:=by
  rw[<- Db,h2,ax]
 unfold Cu;rw[h0,h1,h2,h3,Lz,List.take_left' (y7 4 _),yNr (pS l)];rw[eg (by rw[iv,bI];omega),eg (by omega),eg (by rw[iv,bI];omega),eg (by simp)]
def xGr (i:F0) (h:SD.dp i):xDw i:=by
 obtain⟨h1,h2⟩:i.k<=i.b.length/\i.b.length<=1099511627776:=h;have ex:i.x=Cu (i.b.drop i.k):=rfl;have OA:(i.b.drop i.k).length<=1099511627776:=by rw[o8];omega
 have bad:∀e:Int,e≠0->i.x.2.2=e->∀{A:Prop},A\/∃o:Unit,True/\(0:Int)=0/\i.x.2.2=e/\(i.x.2.2=0->False):=λe he hx=> .inr ⟨(),trivial,rfl,hx,λh=>he (hx▸h)⟩
 unfold xDw fa dx Py Vr YQ cH aG mX;rw[om,<- eF,yV i.b];generalize i.b.drop i.k=l at*;rw[yV l];refine zH (λc=>by omega) (λ_=>⟨⟨oM,oM⟩,zH (λc=>bad 10 Z8 (by rw[ex,Cu,fc (by omega)])) (λc=> ?_)⟩);obtain⟨a,ha⟩:∃a,l[0]? =bz a:=⟨_,u' oM⟩
 obtain⟨b,hb⟩:∃b,l[1]? =bz b:=⟨_,u' oM⟩
 have ea:l.getD 0 0=a:=by rw[oc,ha];rfl
 have eb:l.getD 1 0=b:=by rw[oc,hb];rfl
 have la:=a.toNat_lt;have hn:=xGd ⟨a.toNat,la⟩;dsimp only at hn;refine⟨⟨oM,oM⟩,b.toNat,dB hb,⟨oM,oM⟩,a.toNat,dB ha,?_⟩;rw[hn];have wa:ak.wrap (a.toNat:Int)=a.toNat:=iq oM;have w2:ak.wrap ((2:Int)+a.toNat)=2+a.toNat:=iq oM;have w3:ak.wrap ((2:Int)+a.toNat+4)=2+a.toNat+4:=iq oM;have w4:ak.wrap ((i.k:Int)+(2+a.toNat))=i.k+(2+a.toNat):=iq oM;have w5:ak.wrap ((i.k:Int)+(2+a.toNat)+4)=i.k+(2+a.toNat)+4:=iq oM;have t1:((2:Int)+a.toNat).toNat=2+a.toNat:=by omega
 have t2:((2:Int)+a.toNat+4).toNat=2+a.toNat+4:=by omega
 refine Cv.dp.mk (λc2=>bad 14 Z8 ?_) (λc2=>⟨⟨oM,oM⟩,a.toNat,dB ha,?_⟩)
 ·have c2:¬((b.toNat:Int)=255-a.toNat):=by simpa using c2
  rw[ex,Cu,eg (by omega),ea,eb,fc (by omega)]
 have c2:(b.toNat:Int)=255-a.toNat:=by simpa using c2
 rw[wa,w2,w3,w4,w5,t1,t2,show cq 2=2 from rfl];refine zH (λc3=>bad 10 Z8 ?_) (λc3=> ?_)
 ·rw[ex,Cu,eg (by omega),ea,eb,eg (by omega),fc (by omega)]
 have l1:((l.take (2+a.toNat+4)).drop (2+a.toNat)).length=4:=by rw[o8,ng];omega
 have g1:(l.take (2+a.toNat+4)).drop (2+a.toNat)=(l.drop (2+a.toNat)).take 4:=by rw[aw];congr 1;omega
 have g2:(l.take (2+a.toNat)).drop 2=(l.drop 2).take a.toNat:=by rw[aw];congr 1;omega
 have g3:RN.iN ⟨(l.take (2+a.toNat+4)).drop (2+a.toNat),cm,4⟩=(l.drop (2+a.toNat)).take 4:=by
  rw[RN.iN,eg (by simp only[RN.bad,l1];decide)];dsimp only;rw[mo (by omega),g1]
 have l2:((l.drop 2).take a.toNat).length=a.toNat:=by rw[ng,o8];omega
 refine⟨⟨oM,oM,oM⟩,(l.take (2+a.toNat+4)).drop (2+a.toNat),by rw[eF,lQ],oM,λ_ _=>⟨⟨oM,oM,oM⟩,⟨_,cm,4⟩,rfl,rfl,⟨Z9,Z9⟩,λ_ _=>⟨(l.take (2+a.toNat)).drop 2,by rw[eF,lQ],by rw[g2];omega,λ_ _=> ?_⟩⟩⟩;rw[g2,g3];have hr:=uX ((l.drop (2+a.toNat)).take 4);have hl4:((l.drop (2+a.toNat)).take 4).length=4:=by rw[<- g1];exact l1
 rw[hl4]at hr;rw[xEj (by omega)];refine Cv.dp.mk (λc4=>bad 14 Z8 ?_) (λc4=> ?_)
 ·rw[ex,Cu,eg (by omega),ea,eb,eg (by omega),eg (by omega),fc (by simpa using c4)]
 have ex2:i.x=((l.drop 2).take a.toNat,6+a.toNat,0):=by
  rw[ex,Cu,eg (by omega),ea,eb,eg (by omega),eg (by omega),eg (by simpa using c4)]
 rw[ex2,<- lQ,<- eF,g2,yV,l2];exact⟨⟨oM,oM,oM⟩,oM,.inl ⟨(),Z9,rfl,rfl,rfl⟩⟩
def y4x:SD.ok Tryz.prog 131:=gu mixed (dw Yp (dw yAb (dw Uo fg))) 0 (λ_=>[]) (λ_=>[]) [] Tryz.func131 xGr
def yXb (A B:List (List UInt8)):oP (A++B)=oP A++oP B:=by rw[oP,yu];rfl
def YF (l:List UInt8) (L:List (List UInt8)):oP (l::L)=jC l++oP L:=rfl
def yQq {L:List (List UInt8)} {k:Nat} {l:List UInt8} (h:L[k]? =bz l):oP (L.take (k+1))=oP (L.take k)++jC l:=r9 h
def zXe (L:List (List UInt8)) (k:Nat):oP L=oP (L.take k)++oP (L.drop k):=by rw[<- yXb,Bb]
def yHq (L:List (List UInt8)):L.length<=(oP L).length:=by
 induction L with
 |nil=>exact lh _
 |cons l L ih=>rw[YF,iv,bI,iC];omega
def xEs (i:Eg) (h:Km.dp i):y2i i:=by
 obtain⟨h1,h2,h3⟩:i.ok:=h;have hn:=yHq i.L;have tv:∀k,(oP i.L).length=(oP (i.L.take k)).length+(oP (i.L.drop k)).length:=λk=>by
  have:=congrArg ar (zXe i.L k);rwa [iv]at this
 unfold y2i dx zLs dx dK;rw[yV,iv];refine⟨0,rfl,rfl,λk=>k<=i.L.length,λk=>i.L.length-k,mi _,λk hk=>zH (λgn=> ?_) (λgn=> ?_)⟩
 ·have hk:k<=i.L.length:=hk;have hs:=tv k;have hx:(F0.mk (oP i.L++i.t) (oP (i.L.take k)).length).x=Cu (oP (i.L.drop k)++i.t):=by
   show Cu ((oP i.L++i.t).drop _)=_;rw[zXe i.L k,iY,ax]
  refine⟨⟨oP i.L++i.t,(oP (i.L.take k)).length⟩,rfl,rfl,⟨by dsimp only;rw[iv];omega,by dsimp only;rw[iv];omega⟩,λ_ e0=> ?_,λ_ e1=> ?_⟩
  ·rw[hx]at e0 ⊢;rcases vh k i.L.length with oU|oU
   ·obtain⟨l,hl⟩:=z6 oU;have hd:i.L.drop k=l::i.L.drop (k+1):=by
     rw[CD oU];congr 1;rw[u' oU]at hl;exact Option.some.inj hl
    have F9:=h1 l (ku hl);rw[hd,YF,iY,zWz F9];refine⟨by rw[gy,ng];omega,k+1,?_,?_,Z9,Z9,trivial⟩
    ·rw[yQq hl,iv,bI];dsimp only;omega
    ·rw[qx,hl];simp[kf]
   ·rw[Ik oU]at e0;rw[show oP ([]:List (List UInt8))++i.t=i.t from rfl,h2]at e0;cases e0
  ·rw[hx]at e1 ⊢;rcases vh k i.L.length with oU|oU
   ·obtain⟨l,hl⟩:=z6 oU;have hd:i.L.drop k=l::i.L.drop (k+1):=by
     rw[CD oU];congr 1;rw[u' oU]at hl;exact Option.some.inj hl
    have F9:=h1 l (ku hl);rw[hd,YF,iY,zWz F9]at e1;exact absurd rfl e1
   ·obtain rfl:k=i.L.length:=by omega
    rw[List.drop_length,show oP ([]:List (List UInt8))++i.t=i.t from rfl,h2,zr];exact Cv.dp.mk (λe=>by cases e) (λ_=>Cv.dp.mk (λ_=>⟨(),iJ trivial⟩) (λe=>by cases e))
 ·have hk:k<=i.L.length:=hk;have hs:=tv k;have h5:=yHq (i.L.drop k);rw[o8]at h5;obtain rfl:k=i.L.length:=by omega
  rw[zr];exact⟨(),iJ trivial⟩
def yVe:Km.ok Tryz.prog 152:=gu mixed (dw y4x fg) 0 (λ_=>[]) (λi=>xFb i) [] Tryz.func152 xEs
def y4q:aax.ok Tryz.prog 100:=gu (V:=xAp) mixed (dw yZe (dw yVe (dw yVw fg))) 0 (λ_=>[]) (λ_=>[]) [] Tryz.func100 λ(i:Cp) h=>by
 obtain⟨hs,hd⟩:(Eg.mk i.L i.t).ok/\i.d.ok:=h;have e0:(bE i.d.b).length=(oP i.L).length+i.t.length:=by rw[yV,Cp.d,iv]
 have h3:=hs.2.2;dsimp only at h3;unfold xAp fa dx;refine⟨i.d,rfl,hd,λ_ _=>⟨⟨i.L,i.t⟩,rfl,hs,λ_ _=>zH (λc=> ?_) (λc=> ?_)⟩⟩
 ·have ht:i.t≠[]:=λe=>by rw[e0,e]at c;simp at c
  refine⟨⟨oM,by rw[e0];dsimp only;omega⟩,⟨i.d,oP i.L⟩,?_,rfl,Z9,λ_ _=>⟨(),rfl,?_,by rw[gy],rfl,trivial⟩⟩
  ·dsimp only;rw[om,<- lQ,Cp.d,Lz]
  ·rw[Cp.d',eg ht]
 ·have ht:i.t=[]:=List.length_eq_zero_iff.1 (by rw[e0]at c;dsimp only at c;omega);refine⟨(),rfl,?_,by rw[gy],rfl,trivial⟩;rw[Cp.d',fc ht]
def yVp:TM.ok Tryz.prog 49:=gu (V:=xEa) mixed (dw yTc (dw yWw fg)) 0 (λ_=>[]) (λ_=>[]) [] Tryz.func49 λ(i:Yi) h=>by
 obtain⟨h1,h2,h3,h4⟩:i.l.length<=255/\i.d.b.length+i.l.length+6<=1048576/\0<=i.n/\i.n<=1048576:=h;exact⟨i.l,rfl,h1,λ_ _=>⟨⟨i.d,jC i.l⟩,rfl,rfl,by dsimp only;rw[bI];omega,λ_ _=>⟨(),rfl,by rw[iq (by omega)],rfl,trivial⟩⟩⟩
def cD (W:List (Int×Int)) (id:Int):Int×Bool:=match W.find? λx=>decide (x.1=id)with
 |some x=>(x.2,cg)
 |none=>(0,cm)
def Jz:List (Int×Int)->Int->Int->List (Int×Int)
 |[],id,s=>[(id,s)]
 |x::W,id,s=>if id=x.1 then(x.1,s)::W else x::Jz W id s
def ySu (x:Int×Int) (W:List (Int×Int)) (id:Int):cD (x::W) id=if id=x.1 then(x.2,cg)else cD W id:=by
 rw[cD,LA];by_cases c:id=x.1
 ·rw[fc c,jk c.symm]
 ·rw[eg c,jt (λe=>c e.symm)];rfl
structure SA where
 B:List (List zK)
 U:List Int
 W:List (Int×Int)
 O:List (Int×fv)
def NK (B:List (List zK)) (U:List Int) (W:List (Int×Int)) (s id pd:Int):SA:=⟨B,U,W,[(s,⟨2,id,0,0,0,0,0,pd⟩)]⟩
def Fo (s:Int):List (Int×Int)->List fv->List (Int×Int)×List (Int×fv)
 |W,[]=>(W,[])
 |W,r::R=>
  let W1:=if r.kind=1 then Jz W r.id s else W
  ((Fo s W1 R).1,(if r.kind=2 then s else(cD W1 r.id).1,r)::(Fo s W1 R).2)
def Jm (B:List (List zK)) (W:List (Int×Int)) (s:Int):Nat:=(sc 0 B).countP λx=>decide ((cD W x.1).1=s)
def PW (p:ff) (B:List (List zK)) (U:List Int) (W:List (Int×Int)) (s:Int) (c:ie):SA:=
 if c.kind=1/\64<=Jm B W s then NK B U W s c.id 30
 else if c.kind≠1/\((cD W c.id).2=cm\/(cD W c.id).1≠s)then NK B U W s c.id 26
 else⟨(Bg p B U c).B,(Bg p B U c).U,(Fo s W (Bg p B U c).R).1,(Fo s W (Bg p B U c).R).2⟩
def Fp (p:ff) (B:List (List zK)) (U:List Int) (W:List (Int×Int)) (s:Int) (b:List UInt8):SA:=
 if s<0\/8<=s then NK B U W s 0 1 else if(xR b).2≠0 then NK B U W s 0 (xR b).2 else PW p B U W s (xR b).1
def yEg (p:ff) (x:wS) {r:fv} (hr:r.kind=3):∀y∈pQ p x r,y.kind=3:=by
 intro y hy;rw[pQ,jq]at hy;rcases hy with rfl|hy
 ·exact hr
 ·split at hy
  ·rw[Po]at hy;simp only[jq,Fz,or_false]at hy;rcases hy with rfl|rfl<;>exact hr
  ·cases hy
def z5m (p:ff) (c:ie):∀(l:List wS) (q:Int),∀y∈nE p c l q,y.kind=3
 |[],_,y,hy=>by cases hy
 |x::l,q,y,hy=>by
  rw[nE,oK]at hy;rcases hy with hy|hy
  ·rw[pN,oK]at hy;rcases hy with hy|hy
   ·obtain⟨f,_,hy⟩:=A8.1 hy;exact yEg p x rfl y hy
   ·exact yEg p x rfl y hy
  ·exact z5m p c l _ y hy
def z4p (p:ff) (B:List (List zK)) (U:List Int) (c:ie):(∀r∈(aP p B U c).R,r.kind=1->r.id=c.id)/\∃r l,(aP p B U c).R=r::l/\r.kind=1/\r.id=c.id:=by
 rw[VN];dsimp only;refine⟨λr hr hk=> ?_,_,_,rfl,rfl,rfl⟩;rw[ui,jq,oK]at hr;rcases hr with rfl|hr|hr
 ·rfl
 ·have:=z5m _ _ _ _ r hr;omega
 ·split at hr
  ·rw[uc]at hr;subst hr;rfl
  ·cases hr
def yGl:∀{l m:List Nat},l.Nodup->(∀x∈l,x∈m)->l.length<=m.length
 |[],m,_,_=>mi _
 |a::l,m,h,hs=>by
  rw[yk]at h;have ha:=hs a iS;have:=yGl (l:=l) (m:=m.erase a) h.2 λx hx=>(List.mem_erase_of_ne (λe=>h.1 (by rw[<- e];exact hx))).2 (hs x (jc _ hx))
  rw[List.length_erase_of_mem ha]at this;have:=List.length_pos_of_mem ha;rw[iC];omega
structure Handed (fu:List bc) (seen:Array Nat) (dn:List bc):Prop where
 sn:seen.toList=dn.map (·.born)
 nd:(dn.map (·.born)).Nodup
 sub:∀e∈dn,e∈fu
def Handed.push {fu:List bc} {seen:Array Nat} {dn:List bc} (h:Handed fu seen dn) {e:bc} (he:e∈(leftOf fu.toArray seen).toList):Handed fu (seen.push e.born) (dn++[e]):=by
 simp only[leftOf,Array.toList_filter,wb,De]at he;obtain⟨h1,h2⟩:=he;have h3:e.born∉dn.map (·.born):=by
  rw[<- h.sn];intro hm;have:seen.contains e.born=cg:=by
   rw[Array.contains_iff_mem];exact Array.mem_toList_iff.1 hm
  rw[this]at h2;cases h2
 refine⟨by rw[Array.toList_push,h.sn,jl];rfl,?_,λx hx=> ?_⟩
 ·rw[jl,av,Ap];exact⟨h.nd,by simp,λx hx y hy e=>by rw[uc]at hy;subst hy;subst e;exact h3 hx⟩
 ·rcases oK.1 hx with hx|hx
  ·exact h.sub x hx
  ·rw[uc]at hx;subst hx;exact h1
def Handed.len {fu:List bc} {seen:Array Nat} {dn:List bc} (h:Handed fu seen dn):dn.length<=fu.length:=by
 have:=yGl (m:=fu.map (·.born)) h.nd λx hx=>by
  obtain⟨e,he,rfl⟩:=oe.1 hx;exact rz (f:=(·.born)) (h.sub e he)
 simpa using this
def Handed.all {fu:List bc} {seen:Array Nat} {dn:List bc} (h:Handed fu seen dn) (hn:(fu.map (·.born)).Nodup) (h0:(leftOf fu.toArray seen).size=0):dn.Perm fu:=by
 have inj:∀{l:List bc},(l.map (·.born)).Nodup->∀x∈l,∀y∈l,x.born=y.born->x=y:=by
  intro l hl
  induction l with
  |nil=>intro x hx;cases hx
  |cons a l ih=>
   rw[jj,yk]at hl;intro x hx y hy e;rcases jq.1 hx with e1|h1<;>rcases jq.1 hy with e2|h2
   ·rw[e1,e2]
   ·refine absurd ?_ hl.1;rw[<- e1,e];exact rz (f:=(·.born)) h2
   ·refine absurd ?_ hl.1;rw[<- e2,<- e];exact rz (f:=(·.born)) h1
   ·exact ih hl.2 x h1 y h2 e
 have nd:∀{l:List bc},(l.map (·.born)).Nodup->l.Nodup:=λhl=>List.Pairwise.imp (λjr e=>jr (by rw[e])) (List.pairwise_map.1 hl)
 refine(List.perm_ext_iff_of_nodup (nd h.nd) (nd hn)).2 λe=>⟨h.sub e,λhe=> ?_⟩
 have:seen.contains e.born=cg:=by
  cases hc:seen.contains e.born with
  |true=>rfl
  |false=>
   have hm:e∈(leftOf fu.toArray seen).toList:=by
    simp only[leftOf,Array.toList_filter,wb];exact⟨he,by rw[hc];rfl⟩
   have:(leftOf fu.toArray seen).toList=[]:=xu (by simpa using h0);rw[this]at hm;cases hm
 rw[Array.contains_iff_mem]at this;have:=Array.mem_toList_iff.2 this;rw[h.sn]at this;obtain⟨x,hx,e2⟩:=oe.1 this;rw[<- inj hn x (h.sub x hx) e he e2];exact hx
def yAf (k:Ko) (LL:List HP) (fu:List bc) (e:Ending) (w':bv):Prop:=∃(a:Option Addr) (n c:Nat) (xs:List be) (dn:List bc),e=.returned (.slice a n c)/\xs=dn.map (·.key)/\n=dn.length/\dn.Perm fu/\Hp k w' (oq 2 1 a n c xs::LL)
def yRf (k:Ko) (LL:List HP) (fu:List bc) (r bm ck:Nat) (v:be) (w1:bv):Prop:=∃(a:Option Addr) (n c:Nat) (xs:List be) (seen:Array Nat) (c0:Nat) (dn:List bc),v=.slice a n c/\xs=dn.map (·.key)/\n=dn.length/\ck<=c0/\Handed fu seen dn/\Hp k w1 (oq 2 1 a n c xs::pt r (.mapIter (bz bm) ck seen c0)::LL)
def yPn (fu:List bc) (v:be) (_:bv):Nat:=match v with| .slice _ n _=>fu.length-n|_=>0
def yLb {b bm ck:Nat} {fu:List bc} {w:bv} {k:Ko} {LL:List HP} {l:List be} {T:bg}
 (H:Hp k w LL) (ta:∀w',Hp k w' LL->w'.heap[b]? =bz (.cells l.toArray T)/\w'.heap[bm]? =bz (.map fu.toArray ck)) (hl:l[12]? =bz (.map (bz bm)))
 (hck:∀e∈fu,e.born<ck) (hn:(fu.map (·.born)).Nodup) (hk:∀e∈fu,∃n,e.key= .int .i64 n) (pf:fu.length<=1000000):
 Calls Tryz.prog 193 #[.pointer (bz ⟨b,0,cd⟩)] w (yAf k LL fu):=by
 refine uw (c:=Tryz.f193.body.getD .skip) (args:=[.pointer (bz ⟨b,0,cd⟩)]) mixed Tryz.func193 (by kernel_rfl) [{ι:=be,Su:=λv=>[(3,v)],fix:=[9]}] (by kernel_rfl) (by kernel_rfl) (by kernel_rfl) ?_;obtain⟨h1,h2⟩:=ta w H;have hu:Tryz.prog.underlying 100=bz (.map 2 3):=by kernel_rfl
 refine⟨bz bm,?_,bz ⟨w.heap.size,0,cd⟩,w.alloc (.mapIter (bz bm) ck #[] ck),?_,?_⟩
 ·show pT Tryz.prog 100 ⟨b,12,cd⟩ w (.map (bz bm));exact vQ (by kernel_rfl) h1 hl
 ·show(Instr.range 100 (.map (bz bm))).run Tryz.prog w=_;exact run_range_map w _ _ _ bm _ ck hu h2
 refine⟨yRf k LL fu w.heap.size bm ck,yPn fu,⟨.slice cd 0 0,rfl,cd,0,0,[],#[],ck,[],rfl,rfl,rfl,lh _,⟨rfl,NV,λe he=>by cases he⟩,(H.new _).nil _ _⟩,?_⟩;rintro j v w1 ⟨a,n,c,xs,seen,c0,dn,rfl,wg,RS,OD,hh,H1⟩;have hr:=H1.drop.get;obtain⟨-,g2⟩:=ta w1 H1.drop.drop;rcases run_next_at (P:=Tryz.prog) w1 0 w.heap.size bm ck c0 seen fu.toArray ck hr g2 (λx hx=>hck x (by simpa using hx)) OD with⟨e1,e2⟩|⟨e,he,w2,hw2,jh⟩
 ·refine .inl ⟨w1,e2,?_⟩;show yAf k LL fu (.returned (.slice a n c)) w1;exact⟨a,n,c,xs,dn,rfl,wg,RS,hh.all hn e1,(H1.swap).drop⟩
 ·have tw:e∈fu:=by
   have:=he;simp only[leftOf,Array.toList_filter,wb]at this;exact this.1
  obtain⟨m,hm⟩:=hk e tw;have hp:=hh.push he;have H2:Hp k (World.iT w2 w.heap.size (.mapIter (bz bm) ck (seen.push e.born) ck)) (oq 2 1 a n c xs::pt w.heap.size (.mapIter (bz bm) ck (seen.push e.born) ck)::LL):=by
   have H1':Hp k w2 (oq 2 1 a n c xs::pt w.heap.size (.mapIter (bz bm) ck seen c0)::LL):=by
    rcases hw2 with rfl|rfl
    ·exact H1
    ·exact H1.drew
   exact((H1'.swap).yx _).swap
  have qj:Go.ChangeMaps.setBlock w2 w.heap.size (.mapIter (bz bm) ck (seen.push e.born) ck)=World.iT w2 w.heap.size (.mapIter (bz bm) ck (seen.push e.born) ck):=rfl;rw[qj]at jh;generalize XH:World.iT w2 w.heap.size (.mapIter (bz bm) ck (seen.push e.born) ck)=w3 at H2 jh;obtain⟨-,g3⟩:=ta w3 H2.drop.drop;have Ez:=run_entry_at (P:=Tryz.prog) w3 w.heap.size bm ck seen fu.toArray ck e H2.drop.get g3 (by simpa using tw) (by simpa using hn);refine .inr ⟨e.key,e.val,w3,jh,.tuple #[e.key,e.val],Ez,?_⟩;rw[hm];have hlen:=hp.len;rw[iv,Ba]at hlen;refine Eq.mp (α:=Le w3 (.cells #[.int .i64 m] 2) λbb w4=>∃(a':Option Addr) (n' c':Nat),∃w5,g7 Tryz.prog (cf #[23,23] 23 #[.slice a n c,.slice (bz ⟨bb,0,cd⟩) 1 1]) w4 (.slice a' n' c') w5/\∃i',.slice a' n' c'=i'/\yRf k LL fu w.heap.size bm ck i' w5/\yPn fu i' w5<yPn fu (.slice a n c) w1) (by kernel_rfl) ?_;rintro bb w4 hb hw4;subst hb hw4;have H3:=(H2.new (.cells [az .i64 m].toArray 2)).lit (sz:=1) (n:=1) rfl;obtain⟨a',c',w5,J4,H5⟩:=(H3.swap).append (P:=Tryz.prog) (t1:=23) (t2:=23) (rt:=23) (e:=2) (sz:=1) (oC:=8) (z:= #[.int .i64 0]) (by kernel_rfl) (by kernel_rfl) (x:= .slice (bz ⟨w3.heap.size,0,cd⟩) 1 1) (m:=1) (ys:=[.int .i64 m]) (.inl ⟨_,_,rfl,H3.IK⟩) (by simp[Value.oh]) rfl Z8 oM;refine⟨a',n+1,c',w5,J4,.slice a' (n+1) c',rfl,⟨a',n+1,c',_,_,ck,dn++[e],rfl,?_,?_,lh _,hp,(H5.swap).drop⟩,?_⟩
  ·rw[wg,jl,av,hm]
  ·rw[iv,RS];rfl
  ·show fu.length-(n+1)<fu.length-n;omega
def yCu {F:PH}:∀{l:List (Int×Int)} {fu:List bc},MR F (yY l) fu->fu.map (·.key)=l.map (λp=>az .i64 p.1)
 |[],fu,h=>by
  have h:fu=[]:=h;subst h;rfl
 |p::l,fu,h=>by
  obtain⟨m,ms,rfl,h1,-,h3⟩:=h;rw[jj,jj,yCu (l:=l) h3,h1]
def Xc:be->Int
 | .int _ n=>n
 |_=>0
def yJx {xs:List be} {m:List Int} (h:xs.Perm (m.map λn=>az .i64 n)):∃l:List Int,xs=l.map (λn=>az .i64 n)/\l.Perm m:=by
 refine⟨xs.map Xc,?_,?_⟩
 ·rw[vy];have:∀x∈xs,((λn=>az .i64 n)∘Xc) x=x:=by
   intro x hx;obtain⟨n,_,rfl⟩:=oe.1 (h.mem_iff.1 hx);rfl
  rw[uz this,List.map_id']
 ·have:=h.map Xc;rw[vy]at this;have e:(Xc∘λn=>az .i64 n)=id:=rfl;rw[e,List.map_id]at this;exact this
def yEb (F:PH):∀l:List Int,iy F (iE l).flatten (l.map λn=>az .i64 n)
 |[]=>by simp[iE,iy]
 |n::l=>by
  have ih:=yEb F l;have e:(iE (n::l)).flatten= .v (.int .i64 n)::(iE l).flatten:=rfl;rw[e,iy];exact⟨.int .i64 n,_,rfl,by simp[DR,Value.oh],ih⟩
def yf:fy where
 ι:=gv
 pat:=λ_=>[.nm 0 0]
 pre:=λs=>[zF s]
 dp:=λs=>s.wh.length<=1000000
 alts:=λs=>[{o:=List Int,res:=λ_=> .own 1,post:=λl=>[zF s,.own 2 1 (iE l)],rel:=λl=>l.Perm (s.wh.map (·.1))}]
@[reducible] def EI (s:gv):St:=UJ [0] ⟨gV 0 (yf.pre s),(yf.pre s).length⟩
def yUt (s:gv) (l:List Int) (hl:l.Perm (s.wh.map (·.1))):WO 1 (.own 5) ((EI s).new (.own 2 1 (iE l))) (yf.alts s):=by
 refine Eq.mp (α:=∃(o:List Int),sb s.p.code=sb s.p.code/\s.p.tick=s.p.tick/\s.p.low=s.p.low/\s.p.high=s.p.high/\s.p.wide=s.p.wide/\s.p.gi=s.p.gi/\s.p.top=s.p.top/\s.p.least=s.p.least/\s.p.part=s.p.part/\aj 211 dq 6 zS s.ei cd=aj 211 dq 6 zS s.ei cd/\yY s.wh=yY s.wh/\ab 1 (iE s.p.dt)=ab 1 (iE s.p.dt)/\ab 1 (iE s.p.settle)=ab 1 (iE s.p.settle)/\iE o=iE l/\o.Perm (s.wh.map (·.1))) (by kernel_rfl) ?_
 exact⟨l,iw (ni hl)⟩
def yNy:yf.ok Tryz.prog 193:=by
 intro s hc k L E w ys R hv;have hc:s.wh.length<=1000000:=hc;have EW:=R.nx;obtain⟨E1,hle,R1⟩:=zFh [0] R;have R1:Rel k L E1 (EI s) w:=R1;have OD:(EI s).get 0=bz (.cells [sV s.p.code,.own 3,zB s.p.tick,zB s.p.low,zB s.p.high,zB s.p.wide,zB s.p.gi,zB s.p.top,zB s.p.least,zB s.p.part,.own 4,.own 1,.mp 2] 210):=rfl;have Ch:((EI s).del 0).get 2=bz (.map (yY s.wh)):=rfl;have Ra:=(R1.take OD).take Ch;have H0:Hp k w (gz E1 (2,.map (yY s.wh))::gz E1 (0,.cells [sV s.p.code,.own 3,zB s.p.tick,zB s.p.low,zB s.p.high,zB s.p.wide,zB s.p.gi,zB s.p.top,zB s.p.least,zB s.p.part,.own 4,.own 1,.mp 2] 210)::((((EI s).del 0).del 2).rows.map (gz E1)++fz E1.F::L)):=
  Ra.out.perm (.cons _ (((co _ _ _).append_left _).trans mh))
 generalize BS:(((EI s).del 0).del 2).rows.map (gz E1)++fz E1.F::L=rest at H0;obtain⟨hk,hs,hh⟩:=H0;cases hh with
 |cons ha iU HK hr=>
 cases hr with
 |cons ha0 TR aaQ HF=>
 rcases ha with⟨e,_⟩|⟨Aw,t2,r2⟩
 ·cases e
 rcases ha0 with⟨e,_⟩|⟨hd0,t0,r0⟩
 ·cases e
 simp only[fp]at r2 r0;obtain⟨bm,fu,ck,q1,q2,q3,rfl⟩:=r2;obtain⟨b,l,p1,p2,rfl⟩:=r0;have H:Hp k w (pt bm (.map fu.toArray ck)::pt b (.cells l.toArray 210)::rest):=⟨hk,_,.cons rfl iU HK (.cons rfl TR aaQ HF)⟩
 have aaI:l[12]? =bz (.map (bz bm)):=by
  simp only[gw,VR]at p2;obtain⟨_,_,rfl,-,_,_,rfl,-,_,_,rfl,-,_,_,rfl,-,_,_,rfl,-,_,_,rfl,-,_,_,rfl,-,_,_,rfl,-,_,_,rfl,-,_,_,rfl,-,_,_,rfl,-,_,_,rfl,-,y,_,rfl,⟨bb,sub,g1,rfl⟩,rfl⟩:=p2;rw[t2]at g1;cases g1;cases q1;rfl
 have HD:ys=[.pointer (bz ⟨b,0,cd⟩)]:=by
  simp only[yf,gw,VR]at hv;obtain⟨y,_,rfl,⟨b',oo,sub,g1,rfl⟩,rfl⟩:=hv;rw[hle.get g1]at t0;cases t0;cases p1;rfl
 subst HD;have F':=yCu q2;have hlen:fu.length=s.wh.length:=by simpa using congrArg ar F'
 have wy:=yLb H (λw' H'=>⟨(H'.swap).get,H'.get⟩) aaI q3.2 q3.1 (λe he=>by
  have:e.key∈fu.map (·.key):=rz (f:=(·.key)) he
  rw[F']at this;obtain⟨p,_,hp⟩:=oe.1 this;exact⟨p.1,hp.symm⟩) oM
 have hdo:=nT (P:=Tryz.prog) (f:=193) (args:= #[.pointer (bz ⟨b,0,cd⟩)]) (w:=w) (K:=λv w'=>yAf k (pt bm (.map fu.toArray ck)::pt b (.cells l.toArray 210)::rest) fu (.returned v) w') (by kernel_rfl) (wy.mono λe w' h=>by
  have h2:=h;obtain⟨a,n,c,xs,dn,rfl,-⟩:=h2;exact⟨_,rfl,h⟩)
 refine hdo.mono ?_;rintro v w' ⟨a,n,c,xs,dn,JV,rfl,rfl,TW,H2⟩;cases JV;obtain⟨li,e1,e2⟩:=yJx (xs:=dn.map (·.key)) (m:=s.wh.map (·.1)) (by
  have:=TW.map (·.key)
  rw[F']at this;rwa [vy])
 have Tp:dn.length=li.length:=by simpa using congrArg ar e1
 rw[e1,Tp]at H2;rw[Tp];have H3:Hp k w' (oq 2 1 a li.length c (li.map λn=>az .i64 n)::((EI s).rows.map (gz E1)++fz E1.F::L)):=by
  have h1:Hp k w' (gz E1 (2,.map (yY s.wh))::gz E1 (0,.cells [sV s.p.code,.own 3,zB s.p.tick,zB s.p.low,zB s.p.high,zB s.p.wide,zB s.p.gi,zB s.p.top,zB s.p.least,zB s.p.part,.own 4,.own 1,.mp 2] 210)::oq 2 1 a li.length c (li.map λn=>az .i64 n)::rest):=by
   have g0:Hp k w' (pt bm (.map fu.toArray ck)::pt b (.cells l.toArray 210)::oq 2 1 a li.length c (li.map λn=>az .i64 n)::rest):=
    H2.perm ((co _ _ _).trans (.cons _ (.swap _ _ _)))
   have g1:=g0.imp (B:=gz E1 (2,.map (yY s.wh))) λx hx=> .inr ⟨Aw,t2,by simp only[fp];exact⟨bm,fu,ck,q1,q2,q3,hx⟩⟩
   have g2:=(g1.swap).imp (B:=gz E1 (0,.cells [sV s.p.code,.own 3,zB s.p.tick,zB s.p.low,zB s.p.high,zB s.p.wide,zB s.p.gi,zB s.p.top,zB s.p.least,zB s.p.part,.own 4,.own 1,.mp 2] 210)) λx hx=> .inr ⟨hd0,t0,by simp only[fp];exact⟨b,l,p1,p2,hx⟩⟩
   exact g2.swap
  subst BS;refine h1.perm ?_;have p0:=((uC OD).1.map (gz E1))
  have p2:=((uC Ch).1.map (gz E1))
  have p3:=(p0.trans (p2.cons _)).append_right (fz E1.F::L);refine List.Perm.trans ?_ (p3.symm.cons _);exact(co _ _ _).trans ((cp _ (.swap _ _ _)).trans (.swap _ _ _))
 have tx:E1.le ⟨E1.F,E1.ga++[((.slice a li.length c,[]):Hd)]⟩:=Ev.le.app _;have j':(E1.ga++[((.slice a li.length c,[]):Hd)])[(EI s).nx]? =bz (.slice a li.length c,[]):=by rw[<- R1.nx];simp
 have R2:Rel k L ⟨E1.F,E1.ga++[((.slice a li.length c,[]):Hd)]⟩ ((EI s).new (.own 2 1 (iE li))) w':=by
  refine⟨by simp[St.new,R1.nx],?_⟩;have g1:Hp k w' ((EI s).rows.map (gz E1)++(oq 2 1 a li.length c (li.map λn=>az .i64 n)::fz E1.F::L)):=H3.perm (mh (l₁:=(EI s).rows.map (gz E1))).symm;have g2:=vG (λr x=>gz.mono tx r) g1;have g3:Hp k w' (oq 2 1 a li.length c (li.map λn=>az .i64 n)::((EI s).rows.map (gz ⟨E1.F,E1.ga++[((.slice a li.length c,[]):Hd)]⟩)++fz E1.F::L)):=g2.perm mh;exact g3.imp λx hx=> .inr ⟨_,j',by
   simp only[fp];exact⟨a,c,_,by rw[y8],yEb _ li,λel oV=>by obtain⟨n,_,rfl⟩:=oe.1 oV;rfl,by rw[y8];exact hx⟩⟩
 obtain⟨al,ha,AM⟩:=Vl (yUt s li e2);obtain⟨o,o1,E3,o2,o3,o4⟩:=Yu AM EW (hle.trans tx) R2 (y:= .slice a li.length c) (by simp only[VR];exact⟨_,j',_,_,_,rfl⟩);exact⟨al,ha,o,o1,E3,o2,o3,o4⟩
structure Ei where
 m:iD
 p:ff
 B:List (List zK)
 U:List Int
@[reducible] def Ei.ok (i:Ei):Prop:=i.m.fv i.p i.B i.U/\jb i.p i.B
def TK:fy where
 ι:=Ei
 pat:=λ_=>[.nm 0 0]
 pre:=λi=>[kG i.m]
 dp:=λi=>i.ok
 alts:=λi=>[{o:=List Int,res:=λ_=> .own 1,post:=λl=>[kG i.m,.own 2 1 (iE l)],rel:=λl=>l.Perm ((sc 0 i.B).map (·.1))}]
def Af:fy:=Ut 2
def MU:fy:=fi Ei (λ_=>[.nm 0 0]) (λi=>[kG i.m]) (λi=>i.ok) (λ_=> .nm 1 0) (λi=>[kG i.m,kG i.m])
structure Gt where
 m:iD
 W:List (Int×Int)
def xO (W:List (Int×Int)):List (be×List D):=W.map λx=>(.int .i64 x.1,[.v (.int .i64 x.2)])
def GtU (g:Gt):Nat->fj
 |0=> .cells [.nm 1 0,.mp 2] 134
 |1=>kG g.m
 |2=> .map (xO g.W)
 |_=> .gone
def lp (g:Gt):fj:= .ra Gt 3 GtU g
def jW (o:Int×fv):List D:= .v (.int .i64 o.1)::x9 o.2
@[reducible] def Rb:Nat:=51
@[reducible] def Lt (O:List (Int×fv)):fj:= .own Rb 9 (O.map jW)
def TI:fy where
 ι:=ff
 pat:=λp=>[nk p]
 pre:=λ_=>[]
 dp:=λp=>p.small
 alts:=λp=>[{o:=Unit,res:=λ_=> .iZ [.nm 0 0,zB 0],post:=λ_=>[lp ⟨⟨p,nU p,[]⟩,[]⟩],rel:=λ_=>p.check=0},{o:=Unit,res:=λ_=> .iZ [.d (.v (.pointer cd)),zB p.check],post:=λ_=>[],rel:=λ_=>p.check≠0}]
structure Md where
 s:Int
 id:Int
 pd:Int
def Ua:fy:=fi Md (λi=>[zB i.s,zB i.id,zB i.pd]) (λ_=>[]) (λ_=>True) (λ_=> .own 0) (λi=>[Lt [(i.s,⟨2,i.id,0,0,0,0,0,i.pd⟩)]])
structure vf where
 s:Int
 b:List UInt8
def zU (s:Int) (b:List UInt8):ie×Int:=if s<0\/8<=s then(HV,1)else xR b
def MX:fy:=fi vf (λi=>[zB i.s,ot 1 (bE i.b)]) (λ_=>[]) (λi=>i.b.length<=1099511627776) (λi=> .iZ [C8 (zU i.s i.b).1,zB (zU i.s i.b).2]) (λ_=>[])
structure Cq where
 g:Gt
 p:ff
 B:List (List zK)
 U:List Int
 s:Int
@[reducible] def Cq.ok (i:Cq):Prop:=i.g.m.fv i.p i.B i.U/\jb i.p i.B
def MY:fy:=fi Cq (λi=>[.nm 0 0,zB i.s]) (λi=>[lp i.g]) (λi=>i.ok) (λi=>zB (Jm i.B i.g.W i.s)) (λi=>[lp i.g])
def Yj (g:Gt):List fj:=[.cells [.nm 1 0,.mp 2] 134,kG g.m,.map (xO g.W)]
def Ja:fy:=fi Cq (λi=>[.nm 0 0,zB i.s]) (λi=>Yj i.g) (λi=>i.ok) (λi=>zB (Jm i.B i.g.W i.s)) (λi=>Yj i.g)
def y5g:List gm:=[{ι:=Int×Nat,du:=λj=>[(5,zB j.1),(14,zB j.2)],rows:=λ_=>[]}]
def KM:fy:=fi Cq (λ_=>[.nm 0 0]) (λi=>[lp i.g]) (λi=>i.ok) (λ_=> .nm 1 0) (λi=>[lp i.g,kG i.g.m])
structure DC where
 g:Gt
 p:ff
 B:List (List zK)
 U:List Int
 s:Int
 b:List UInt8
 X:SA
def Tf:fy where
 ι:=DC
 pat:=λi=>[.nm 0 0,zB i.s,ot 1 (bE i.b)]
 pre:=λi=>[lp i.g]
 dp:=λi=>(i.g.m.fv i.p i.B i.U/\jb i.p i.B)/\i.b.length<=1099511627776/\i.X=Fp i.p i.B i.U i.g.W i.s i.b
 alts:=λi=>[{o:=iD,res:=λ_=> .own 1,post:=λo=>[lp ⟨o,i.X.W⟩,Lt i.X.O],rel:=λo=>o.fv i.p i.X.B i.X.U}]
structure Bk where
 o:iD
 W:List (Int×Int)
 O:List (Int×fv)
 k:Nat
def Bk.rows (j:Bk):List fj:=[.cells [.nm 1 0,.mp 2] 134,kG j.o,.map (xO j.W),Lt j.O]
def xHx:List gm:=[{ι:=Bk,du:=λj=>[(0,.nm 0 0),(11,.own 3),(74,zB j.k)],rows:=Bk.rows}]
def xGq:List (Nat×gm):=[(20,bj 36),(28,bj 50),(66,ij 14)]
def yQo (es:List (be×List D)):Prop:=
 ∃(a:List (be×List D)),a=es/\True/\fa (dx (es=a/\es=a/\True))
def xAc (es:List (be×List D)):yQo es=walk Tryz.prog ([(174,vY 135)]) 0 ([]) ([]) [] Tryz.f125 (Tryz.f125.body.getD .skip) (Af.pat es) (Af.pre es) (Af.alts es):=by kernel_rfl
def y9s (hG:zd Tryz.prog ([(174,vY 135)])) (h:∀(es:List (be×List D)),Af.dp es->yQo es):Af.ok Tryz.prog 125:=qY mixed ([(174,vY 135)]) hG 0 (λ(es:List (be×List D))=>[]) (λ(es:List (be×List D))=>[]) [] Tryz.func125 (by kernel_rfl) (by kernel_rfl) (by kernel_rfl) (λ_=>by kernel_rfl) (λ(es:List (be×List D)) hc=>Eq.mp (xAc es) (h es hc))
def xEk (i:Ei):Prop:=
 ∃(gx:gv),zF gx=zF i.m.s/\gx.wh.length<=1000000/\∀(o:List Int),o.Perm (aq (λ(x:Int×Int) ↦ x.fst) gx.wh)->∃(Bw:List Int),dl (sb i.m.p.code)/\dl i.m.p.tick/\dl i.m.p.low/\dl i.m.p.high/\dl i.m.p.wide/\dl i.m.p.gi/\dl i.m.p.top/\dl i.m.p.least/\dl i.m.p.part/\zF i.m.s=zF gx/\dl (zX i.m.used)/\dl (ab 1 (iE i.m.p.dt))/\dl (ab 1 (iE i.m.p.settle))/\iE Bw=iE o/\Bw.Perm (aq (λ(x:Int×Int) ↦ x.fst) (sc 0 i.B))
def y9y (i:Ei):Prop:=
 ∃(gx:gv),zF gx=zF i.m.s/\(gx.ei.length<=1000000/\∀(b:dq),b∈gx.ei->(b.a.du.length<=1000000/\b.a.dy.length<=1000000)/\b.fm.length<=1000000/\b.ej.length<=1000000/\b.spare.length<=1000000)/\∀(o:Unit),True->True/\(dl (sb i.m.p.code)/\True/\dl i.m.p.tick/\dl i.m.p.low/\dl i.m.p.high/\dl i.m.p.wide/\dl i.m.p.gi/\dl i.m.p.top/\dl i.m.p.least/\dl i.m.p.part/\True/\True)/\∃(ma:List (be×List D)),ma=zX i.m.used/\True/\∀(o:Unit),True->(dl (sb i.m.p.code)/\True/\dl i.m.p.tick/\dl i.m.p.low/\dl i.m.p.high/\dl i.m.p.wide/\dl i.m.p.gi/\dl i.m.p.top/\dl i.m.p.least/\dl i.m.p.part/\True/\True)/\∃(o:Unit),dl (sb i.m.p.code)/\dl i.m.p.tick/\dl i.m.p.low/\dl i.m.p.high/\dl i.m.p.wide/\dl i.m.p.gi/\dl i.m.p.top/\dl i.m.p.least/\dl i.m.p.part/\zF i.m.s=zF gx/\zX i.m.used=ma/\dl (ab 1 (iE i.m.p.dt))/\dl (ab 1 (iE i.m.p.settle))/\dl (sb i.m.p.code)/\dl i.m.p.tick/\dl i.m.p.low/\dl i.m.p.high/\dl i.m.p.wide/\dl i.m.p.gi/\dl i.m.p.top/\dl i.m.p.least/\dl i.m.p.part/\zF i.m.s=zF gx/\zX i.m.used=ma/\dl (ab 1 (iE i.m.p.dt))/\dl (ab 1 (iE i.m.p.settle))/\True
def xEp (p:ff):Prop:=
 ∃(i:ff),sb i.code=sb p.code/\iE i.dt=iE p.dt/\i.tick=p.tick/\i.low=p.low/\i.high=p.high/\i.wide=p.wide/\i.gi=p.gi/\i.top=p.top/\i.least=p.least/\i.part=p.part/\iE i.settle=iE p.settle/\(i.code.length<=1099511627776/\i.dt.length<=1099511627776/\i.settle.length<=1099511627776)/\(∀(o:Unit),i.check=0->(∃(o:Unit),dl ((0:Int))/\ae iD 5 yO (iD.mk p (nU p) [])=ae iD 5 yO (iD.mk i (nU i) [])/\xO []=[]/\p.check=0)\/(∃(o:Unit),False))/\∀(o:Unit),i.check≠0->dp (i.check !=0) ((∃(o:Unit),False)\/(∃(o:Unit),True/\p.check=i.check/\(p.check=0->False))) ((∃(o:Unit),dl ((0:Int))/\False)\/(∃(o:Unit),False))
def xFg (i:Md):Prop:=
 ∃(o:Unit),[jW (i.s,fv.mk 2 i.id 0 0 0 0 0 i.pd)]=[[D.v (.int .i64 i.s),D.v (.int .i64 2),D.v (.int .i64 i.id),D.v (.int .i64 0),D.v (.int .i64 0),D.v (.int .i64 0),D.v (.int .i64 0),D.v (.int .i64 0),D.v (.int .i64 i.pd)]]/\True
def y7a (i:vf):Prop:=
 dp (decide (i.s<0)) (∃(o:Unit),(zU i.s i.b).fst.kind=0/\(zU i.s i.b).fst.id=0/\(zU i.s i.b).fst.inst=0/\(zU i.s i.b).fst.side=0/\(zU i.s i.b).fst.dm=0/\(zU i.s i.b).fst.dr=0/\(zU i.s i.b).fst.least=0/\(zU i.s i.b).fst.time=0/\sb (zU i.s i.b).fst.label=ByteArray.mk #[]/\(zU i.s i.b).snd=1/\True) (dp (decide (i.s>=8)) (∃(o:Unit),(zU i.s i.b).fst.kind=0/\(zU i.s i.b).fst.id=0/\(zU i.s i.b).fst.inst=0/\(zU i.s i.b).fst.side=0/\(zU i.s i.b).fst.dm=0/\(zU i.s i.b).fst.dr=0/\(zU i.s i.b).fst.least=0/\(zU i.s i.b).fst.time=0/\sb (zU i.s i.b).fst.label=ByteArray.mk #[]/\(zU i.s i.b).snd=1/\True) (∃(gx:List UInt8),bE gx=bE i.b/\gx.length<=1099511627776/\∀(o:Unit),True->∃(o:Unit),(zU i.s i.b).fst.kind=(xR gx).fst.kind/\(zU i.s i.b).fst.id=(xR gx).fst.id/\(zU i.s i.b).fst.inst=(xR gx).fst.inst/\(zU i.s i.b).fst.side=(xR gx).fst.side/\(zU i.s i.b).fst.dm=(xR gx).fst.dm/\(zU i.s i.b).fst.dr=(xR gx).fst.dr/\(zU i.s i.b).fst.least=(xR gx).fst.least/\(zU i.s i.b).fst.time=(xR gx).fst.time/\sb (zU i.s i.b).fst.label=sb (xR gx).fst.label/\(zU i.s i.b).snd=(xR gx).snd/\True))
def zFk (a:Int×Nat) (b:Int×Nat) (c:Int×Nat->Prop) (d:Int×Nat->Nat) (e:Ei) (f:List Int) (g:Cq):Prop:=(↑a.snd:Int)=ak.wrap ((↑b.snd:Int)+1)/\c a/\d a<d b/\dl (kG e.m)/\dl (ag 2 1 (iE f))/\dl (ac [V.nm 1 0,V.mp 2] (134:bg))/\dl (af (xO g.g.W))
def yPc (i:Cq):Prop:=
 ∃(a:Ei),kG a.m=kG i.g.m/\(a.m.fv a.p a.B a.U/\jb a.p a.B)/\∀(b:List Int),b.Perm (aq (λ(x:Int×Int) ↦ x.fst) (sc 0 a.B))->∃(c:Int×Nat),c.fst=0/\(↑c.snd:Int)=0/\∃(d:Int×Nat->Prop),∃(e:Int×Nat->Nat),d c/\∀(f:Int×Nat),d f->dp (decide ((↑f.snd:Int)<(↑(iE b).length:Int))) ((0<=(↑f.snd:Int)/\(↑f.snd:Int)<(↑(iE b).length:Int))/\∃(g:Int),zD (iE b) (↑f.snd:Int).toNat 0 1=bz [dI g]/\(∀(h:be×List D),h∈xO i.g.W->lr (az ak g) h.fst=cg)/\∃(h:Bool),∃(j:Int),(jH (az ak g) (xO i.g.W)=bz [dI j]/\h=cg\/jH (az ak g) (xO i.g.W)=cd/\[dI j]=[dI 0]/\h=cm)/\dp (j==i.s) (∃(k:Int×Nat),k.fst=ak.wrap (f.fst+1)/\zFk k f d e a b i) (∃(k:Int×Nat),k.fst=f.fst/\zFk k f d e a b i)) (dx ((↑(Jm i.B i.g.W i.s):Int)=f.fst/\kG i.g.m=kG a.m/\dl (xO i.g.W)/\True))
def yXf (i:Cq):Prop:=
 ∃(gx:Ei),ae iD 5 yO gx.m=kG i.g.m/\(gx.m.fv gx.p gx.B gx.U/\jb gx.p gx.B)/\∀(o:List Int),o.Perm (aq (λ(x:Int×Int) ↦ x.fst) (sc 0 gx.B))->∃(i0:Int×Nat),i0.fst=0/\(↑i0.snd:Int)=0/\∃(I:Int×Nat->Prop),∃(μ:Int×Nat->Nat),I i0/\∀(ma:Int×Nat),I ma->dp (decide ((↑ma.snd:Int)<(↑(iE o).length:Int))) ((0<=(↑ma.snd:Int)/\(↑ma.snd:Int)<(↑(iE o).length:Int))/\∃(n:Int),zD (iE o) (↑ma.snd:Int).toNat 0 1=bz [D.v (.int .i64 n)]/\(∀(p:be×List D),p∈xO i.g.W->lr (az ak n) p.fst=cg)/\∃(b:Bool),∃(Io:Int),(jH (az ak n) (xO i.g.W)=bz [D.v (.int .i64 Io)]/\b=cg\/jH (az ak n) (xO i.g.W)=cd/\[D.v (.int .i64 Io)]=[D.v (.int .i64 0)]/\b=cm)/\dp (Io==i.s) (∃(i':Int×Nat),i'.fst=ak.wrap (ma.fst+1)/\(↑i'.snd:Int)=ak.wrap ((↑ma.snd:Int)+1)/\I i'/\μ i'<μ ma/\dl (ae iD 5 yO gx.m)/\dl (ag 2 1 (iE o))/\dl (ac [V.nm 1 0,V.mp 2] (134:bg))/\dl (af (xO i.g.W))) (∃(i':Int×Nat),i'.fst=ma.fst/\(↑i'.snd:Int)=ak.wrap ((↑ma.snd:Int)+1)/\I i'/\μ i'<μ ma/\dl (ae iD 5 yO gx.m)/\dl (ag 2 1 (iE o))/\dl (ac [V.nm 1 0,V.mp 2] (134:bg))/\dl (af (xO i.g.W)))) (∃(o:Unit),(↑(Jm i.B i.g.W i.s):Int)=ma.fst/\ae iD 5 yO i.g.m=ae iD 5 yO gx.m/\dl (xO i.g.W)/\True)
def xFj (i:Cq):Prop:=
 ∃(gx:Ei),ae iD 5 yO gx.m=ae iD 5 yO i.g.m/\(gx.m.fv gx.p gx.B gx.U/\jb gx.p gx.B)/\∀(o:Unit),True->∃(o:Unit),ae iD 5 yO i.g.m=ae iD 5 yO gx.m/\dl (xO i.g.W)/\ae iD 5 yO i.g.m=ae iD 5 yO gx.m/\True
def Wj (a:Int) (b:DC) (c:Bk):=(u7 (az ak a) [dI b.s] (xO c.W))
def nB (a:vf):=(D.v (ba (sb (zU a.s a.b).fst.label)))
def nF (a:vf):=(dI ((zU a.s a.b).fst.dm))
def m7 (a:vf):=(dI ((zU a.s a.b).fst.least))
def pD (a:vf):=(dI ((zU a.s a.b).fst.time))
def nO (a:vf):=(dI ((zU a.s a.b).fst.side))
def nK (a:vf):=(dI ((zU a.s a.b).fst.kind))
def mZ (a:vf):=(dI ((zU a.s a.b).fst.inst))
def nJ (a:vf):=(dI ((zU a.s a.b).fst.dr))
def nR (a:vf):=(dI ((zU a.s a.b).fst.id))
def z1h (a:qo) (b:vf):Prop:=ag tRp 8 (aq x9 a.X.R)=ag tRp 8 (aq x9 a.X.R)/\dl (ac [V.d (nK b),V.d (nR b),V.d (mZ b),V.d (nO b),V.d (nF b),V.d (nJ b),V.d (m7 b),V.d (pD b),V.d (nB b)] 46)
def Yt (a:Bk) (b:qo) (c:vf):Prop:=ag Rb 9 (aq jW a.O)=ag Rb 9 (aq jW a.O)/\z1h b c
def Yw (a:Int->Prop) (b:Int) (c:Int) (d:Int) (e:Int) (f:Int) (g:Int) (h:Int) (j:Int) (k:Int) (l:Bk) (m:DC) (n:qo) (p:vf):Prop:=a b/\dl (ac [V.d (dI c),V.d (dI d),V.d (dI e),V.d (dI f),V.d (dI g),V.d (dI h),V.d (dI j),V.d (dI k)] 49)/\dl (ac [V.nm 1 0,V.mp 2] (134:bg))/\dl (kG l.o)/\dl (af (Wj d m l))/\Yt l n p
def z0w (a:Int->Prop) (b:Int) (c:Int) (d:Int) (e:Int) (f:Int) (g:Int) (h:Int) (j:Int) (k:Int) (l:Bk) (m:qo) (n:vf):Prop:=a b/\dl (ac [V.d (dI c),V.d (dI d),V.d (dI e),V.d (dI f),V.d (dI g),V.d (dI h),V.d (dI j),V.d (dI k)] 49)/\dl (ac [V.nm 1 0,V.mp 2] (134:bg))/\dl (kG l.o)/\dl (af (xO l.W))/\Yt l m n
def z1e (a:Bk) (b:Bk) (c:Int) (d:Int) (e:Int) (f:Int) (g:Int) (h:Int) (j:Int) (k:Int) (l:Int) (m:Bk->Prop) (n:Bk->Nat) (p:qo) (q:vf):Prop:=aq jW a.O=aq jW b.O++[[dI c,dI d,dI e,dI f,dI g,dI h,dI j,dI k,dI l]]/\m a/\n a<n b/\z1h p q
@[reducible] def Q5 (a:Bool->Prop)(b:Bool)(c:vf)(R:Prop):Prop:=a b/\ac [V.d (nK c),V.d (nR c),V.d (mZ c),V.d (nO c),V.d (nF c),V.d (nJ c),V.d (m7 c),V.d (pD c),V.d (nB c)] 46=ac [V.d (nK c),V.d (nR c),V.d (mZ c),V.d (nO c),V.d (nF c),V.d (nJ c),V.d (m7 c),V.d (pD c),V.d (nB c)] 46/\ac [V.nm 1 0,V.mp 2] (134:bg)=ac [V.nm 1 0,V.mp 2] (134:bg)/\R
def UN (a:Bool->Prop) (b:Bool) (c:vf) (d:DC):Prop:=Q5 a b c (dl (kG d.g.m)/\dl (af (xO d.g.W)))
def z1a (a:Bool->Prop) (b:vf) (c:DC):Prop:=∃(d:Bool),d=cm/\UN a d b c
def Vt (a:DC) (b:Md):Prop:=True/\fa (∃(d:iD),kG d=kG a.g.m/\xO a.X.W=xO a.g.W/\aq jW a.X.O=[jW (b.s,fv.mk 2 b.id 0 0 0 0 0 b.pd)]/\d.fv a.p a.X.B a.X.U)
def Vf (a:vf):=(az ak (zU a.s a.b).fst.id)
def xBm (i:DC):Prop:=
 ∃(a:vf),a.s=i.s/\bE a.b=bE i.b/\a.b.length<=1099511627776/\fa (dp ((zU a.s a.b).snd !=0) (∃(c:Md),c.s=i.s/\c.id=0/\c.pd=(zU a.s a.b).snd/\Vt i c) ((∀(c:be×List D),c∈xO i.g.W->lr (Vf a) c.fst=cg)/\∃(c:Bool),∃(d:Int),(jH (Vf a) (xO i.g.W)=bz [dI d]/\c=cg\/jH (Vf a) (xO i.g.W)=cd/\[dI d]=[dI 0]/\c=cm)/\∃(e:Bool),∃(f:Bool->Prop),dp ((zU a.s a.b).fst.kind==1) (∃(g:Cq),g.s=i.s/\kG g.g.m=kG i.g.m/\xO g.g.W=xO i.g.W/\(g.g.m.fv g.p g.B g.U/\jb g.p g.B)/\fa (∃(j:Bool),j=decide ((↑(Jm g.B g.g.W g.s):Int)>=64)/\Q5 f j a (kG g.g.m=kG i.g.m/\af (xO g.g.W)=af (xO i.g.W)))) (z1a f a i)/\∀(g:Bool),f g->dp g (∃(h:Md),h.s=i.s/\h.id=(zU a.s a.b).fst.id/\h.pd=30/\Vt i h) (∃(h:Bool),∃(j:Bool->Prop),dp ((zU a.s a.b).fst.kind !=1) (dp (!c) (∃(k:Bool),k=cg/\UN j k a i) (∃(k:Bool),k=(d !=i.s)/\UN j k a i)) (z1a j a i)/\∀(k:Bool),j k->dp k (∃(l:Md),l.s=i.s/\l.id=(zU a.s a.b).fst.id/\l.pd=26/\Vt i l) (∃(l:qo),l.c.kind=(zU a.s a.b).fst.kind/\l.c.id=(zU a.s a.b).fst.id/\l.c.inst=(zU a.s a.b).fst.inst/\l.c.side=(zU a.s a.b).fst.side/\l.c.dm=(zU a.s a.b).fst.dm/\l.c.dr=(zU a.s a.b).fst.dr/\l.c.least=(zU a.s a.b).fst.least/\l.c.time=(zU a.s a.b).fst.time/\sb l.c.label=sb (zU a.s a.b).fst.label/\kG l.m=kG i.g.m/\((l.m.fv l.p l.B l.U/\jb l.p l.B)/\l.c.label.length<=140737488355328/\((-9223372036854775808)<=l.c.dr/\l.c.dr<=9223372036854775807)/\l.X=Bg l.p l.B l.U l.c)/\∀(m:iD),m.fv l.p l.X.B l.X.U->∃(n:Bk),(↑n.k:Int)=0/\kG n.o=kG m/\xO n.W=xO i.g.W/\aq jW n.O=[]/\∃(p:Bk->Prop),∃(q:Bk->Nat),p n/\∀(r:Bk),p r->dp (decide ((↑r.k:Int)<(↑(aq x9 l.X.R).length:Int))) ((0<=(↑r.k:Int)/\(↑r.k:Int)<(↑(aq x9 l.X.R).length:Int))/\∃(s:Int),∃(t:Int),∃(u:Int),∃(v:Int),∃(w:Int),∃(x:Int),∃(y:Int),∃(z:Int),zD (aq x9 l.X.R) (↑r.k:Int).toNat 0 8=bz [dI s,dI t,dI u,dI v,dI w,dI x,dI y,dI z]/\dp (s==1) ((∀(ow:be×List D),ow∈xO r.W->lr (az ak t) ow.fst=cg)/\(∀(ow:be×List D),ow∈u7 (az ak t) [dI i.s] (xO r.W)->lr (az ak t) ow.fst=cg)/\∃(ow:Bool),∃(og:Int),(jH (az ak t) (Wj t i r)=bz [dI og]/\ow=cg\/jH (az ak t) (Wj t i r)=cd/\[dI og]=[dI 0]/\ow=cm)/\∃(iW:Int),∃(qh:Int->Prop),dp (s==2) (∃(jg:Int),jg=i.s/\Yw qh jg s t u v w x y z r i l a) (∃(jg:Int),jg=og/\Yw qh jg s t u v w x y z r i l a)/\∀(jg:Int),qh jg->((aq jW r.O).length+1)*(72:Nat)<=(140737488355328:Nat)/\∃(mq:Bk),(↑mq.k:Int)=ak.wrap ((↑r.k:Int)+1)/\kG mq.o=kG r.o/\xO mq.W=u7 (az ak t) [dI i.s] (xO r.W)/\z1e mq r jg s t u v w x y z p q l a) ((∀(ow:be×List D),ow∈xO r.W->lr (az ak t) ow.fst=cg)/\∃(ow:Bool),∃(og:Int),(jH (az ak t) (xO r.W)=bz [dI og]/\ow=cg\/jH (az ak t) (xO r.W)=cd/\[dI og]=[dI 0]/\ow=cm)/\∃(iW:Int),∃(qh:Int->Prop),dp (s==2) (∃(jg:Int),jg=i.s/\z0w qh jg s t u v w x y z r l a) (∃(jg:Int),jg=og/\z0w qh jg s t u v w x y z r l a)/\∀(jg:Int),qh jg->((aq jW r.O).length+1)*(72:Nat)<=(140737488355328:Nat)/\∃(mq:Bk),(↑mq.k:Int)=ak.wrap ((↑r.k:Int)+1)/\kG mq.o=kG r.o/\xO mq.W=xO r.W/\z1e mq r jg s t u v w x y z p q l a)) (∃(s:iD),kG s=kG r.o/\xO i.X.W=xO r.W/\aq jW i.X.O=aq jW r.O/\s.fv i.p i.X.B i.X.U)))))
def yYj:Af.ok Tryz.prog 125:=y9s (dw (VF _) fg) λes _=>by
 unfold yQo fa dx;refine⟨es,?_⟩;exact kp
def y3p {s:gv} {p:ff} {B:List (List zK)} (h:s.fv p B):s.wh.length=HZ B:=by rw[HZ];exact h.wh.length_eq
def z8f:∀{B:List (List zK)} (n:Nat),(∀L∈B,L.length<=250)->(sc n B).length<=250*B.length
 |[],_,_=>lh _
 |L::B,n,h=>by
  have:=z8f (B:=B) (n+1) λx hx=>h x (jc _ hx)
  have:=h L iS;rw[sc,iv,gy,iC];omega
def yYo:TK.ok Tryz.prog 157:=gu (V:=xEk) mixed (dw yNy fg) 0 (λ_=>[]) (λ_=>[]) [0] Tryz.func157 λ(i:Ei) h=>by
 obtain⟨⟨ep,hR,eu⟩,hB⟩:i.m.fv i.p i.B i.U/\jb i.p i.B:=h;have hl:i.m.s.wh.length<=1000000:=by
  have By:=hR.wf hB;have h1:=z8f (B:=i.B) 0 λL hL=>by
   obtain⟨k,hk⟩:=Bt.1 hL;exact(By.od k L hk).2.2
  have:=hB.bl;have:=xF i.p;rw[y3p hR,HZ];omega
 exact⟨i.m.s,rfl,hl,λo ho=>⟨o,iw (iJ ⟨rfl,gg,rfl,ho.trans (hR.wh.map _)⟩)⟩⟩
def z4m:MU.ok Tryz.prog 64:=gu (V:=y9y) mixed (dw Pz (dw yYj fg)) 0 (λ_=>[]) (λ_=>[]) [0] Tryz.func64 λ(i:Ei) h=>by
 obtain⟨⟨ep,hR,eu⟩,hB⟩:i.m.fv i.p i.B i.U/\jb i.p i.B:=h;have hs:=hR.small hB;exact⟨i.m.s,rfl,hs,λ_ _=>⟨trivial,gg,zX i.m.used,rfl,trivial,λ_ _=>⟨gg,(),gg⟩⟩⟩
def yUy:TI.ok Tryz.prog 69:=gu (V:=xEp) mixed (dw yWm fg) 0 (λ_=>[]) (λ_=>[]) [] Tryz.func69 λ(p:ff) h=>by
 refine⟨p,oF (iJ ⟨rfl,h,λ_ c=> .inl ⟨(),iJ c⟩,λ_ c=>Cv.dp.mk (λe=> .inr ⟨(),trivial,rfl,c⟩) (λe=>absurd (by simpa using e) c)⟩)⟩
def yWl:Ua.ok Tryz.prog 109:=gu (V:=xFg) mixed fg 0 (λ_=>[]) (λ_=>[]) [] Tryz.func109 λ(i:Md) h=>⟨(),rfl,trivial⟩
def z6f:MX.ok Tryz.prog 108:=gu (V:=y7a) mixed (dw yVa fg) 0 (λ_=>[]) (λ_=>[]) [] Tryz.func108 λ(i:vf) h=>by
 have h:i.b.length<=1099511627776:=h;have Td:i.s<0\/8<=i.s->zU i.s i.b=(HV,1):=λe=>fc e
 refine zH (λe=> ?_) (λe=>zH (λe2=> ?_) (λe2=> ?_))
 ·rw[Td (.inl e)];exact⟨(),oF (iJ trivial)⟩
 ·rw[Td (.inr e2)];exact⟨(),oF (iJ trivial)⟩
 ·have hg:zU i.s i.b=xR i.b:=eg oM;rw[hg];exact⟨i.b,rfl,h,λ_ _=>⟨(),oF (iJ trivial)⟩⟩
def PA (id:Int) (W:List (Int×Int)):∀p∈xO W,lr (az ak id) p.1=cg:=by
 intro p hp;obtain⟨k,_,rfl⟩:=oe.1 hp;rfl
def z6a (id s:Int):∀W:List (Int×Int),u7 (az ak id) [D.v (.int .i64 s)] (xO W)=xO (Jz W id s)
 |[]=>rfl
 |x::W=>by
  have ih:=z6a id s W;have e:mB (az ak id) (az ak x.1)=decide (id=x.1):=by simp[mB,xa]
  show(bif mB (az ak id) (az ak x.1)then(az ak x.1,[D.v (.int .i64 s)])::xO W else(az ak x.1,[D.v (.int .i64 x.2)])::u7 (az ak id) [D.v (.int .i64 s)] (xO W))=_;rw[e,ih,Jz];by_cases c:id=x.1
  ·rw[jk c,cond_true,fc c];rfl
  ·rw[jt c,cond_false,eg c];rfl
def Pg (id:Int):∀W:List (Int×Int),jH (az ak id) (xO W)=bz [D.v (.int .i64 (cD W id).1)]/\(cD W id).2=cg\/jH (az ak id) (xO W)=cd/\[D.v (.int .i64 (cD W id).1)]=[D.v (.int .i64 0)]/\(cD W id).2=cm
 |[]=> .inr ⟨rfl,rfl,rfl⟩
 |x::W=>by
  have ih:=Pg id W;have e:mB (az ak id) (az ak x.1)=decide (id=x.1):=by simp[mB,xa]
  have e2:jH (az ak id) (xO (x::W))=bif mB (az ak id) (az ak x.1)then bz [D.v (.int .i64 x.2)]else jH (az ak id) (xO W):=rfl
  rw[e2,e,ySu];by_cases c:id=x.1
  ·rw[jk c,cond_true,fc c];exact .inl ⟨rfl,rfl⟩
  ·rw[jt c,cond_false,eg c];exact ih
def Jb:KM.ok Tryz.prog 16:=gu (V:=xFj) mixed (dw z4m fg) 0 (λ_=>[]) (λ_=>[]) [0] Tryz.func16 λ(i:Cq) h=>⟨⟨i.g.m,i.p,i.B,i.U⟩,rfl,h,λ_ _=>⟨(),iJ trivial⟩⟩
def y6j {l:List Int} {k:Nat} {n:Int} {f:Int->Bool} (h:l[k]? =bz n):(l.take (k+1)).countP f=(l.take k).countP f+if f n then 1 else 0:=by
 rw[qx,h,List.countP_append];simp[List.countP_cons]
def yPy (W:List (Int×Int)) (B:List (List zK)) (s:Int) (l:List Int) (h:l.Perm ((sc 0 B).map (·.1))):(Jm B W s:Int)=l.countP λx=>decide ((cD W x).1=s):=by
 rw[h.countP_eq,List.countP_map];rfl
def yIh {l:List Int} {W:List (Int×Int)} {s:Int} (hl:l.length<=1000000):∀{k:Nat} {n:Int},l[k]? =bz n->ak.wrap (((l.take k).countP λx=>decide ((cD W x).1=s):Nat)+1:Int)=((l.take k).countP λx=>decide ((cD W x).1=s):Nat)+1:=by
 intro k n h;have:=List.countP_le_length (p:=λx=>decide ((cD W x).1=s)) (l:=l.take k);rw[ng]at this;exact iq oM
def yZq {p:ff} {B:List (List zK)} (h:uh p B) {l:List Int} (hl:l.Perm ((sc 0 B).map (·.1))):l.length<=1000000:=by
 have h1:=z8f (B:=B) 0 λL hL=>by
  obtain⟨k,hk⟩:=Bt.1 hL;exact(h.od k L hk).2.2
 have:=h.ok.bl;have:=xF p;have:=hl.length_eq;rw[gy]at this;omega
def y4z (i:Cq) (h:MY.dp i):yPc i:=by
 obtain⟨⟨m,W⟩,p,B,U,s⟩:=i;have h:m.fv p B U/\jb p B:=h;unfold yPc dx zFk dI;dsimp only;refine⟨⟨m,p,B,U⟩,rfl,h,λl hl=> ?_⟩;have hle:=yZq (h.1.s.wf h.2) hl;refine⟨(0,0),rfl,rfl,λj=>j.2<=l.length/\j.1=((l.take j.2).countP λx=>decide ((cD W x).1=s):Nat),λj=>l.length-j.2,⟨mi _,rfl⟩,?_⟩;rintro⟨n,k⟩ ⟨j1,j2⟩;dsimp only at j1 j2 ⊢;subst j2;refine zH (λe=> ?_) (λe=> ?_)
 ·rw[y8]at e;obtain⟨x,hx⟩:=z6 (l:=l) (i:=k) oM;have hc:=y6j (f:=λx=>decide ((cD W x).1=s)) hx;refine⟨⟨oM,by rw[y8];exact e⟩,x,ju hx (by simp) rfl,PA _ _,_,_,Pg x W,Cv.dp.mk (λe2=>⟨(_,k+1),(yIh hle hx).symm,qy oM,⟨Z9,?_⟩,Z9,gg⟩) (λe2=>⟨(_,k+1),rfl,qy oM,⟨Z9,?_⟩,Z9,gg⟩)⟩
  ·have e2:(cD W x).1=s:=by simpa using e2
   dsimp only;rw[hc,jk e2];rfl
  ·have e2:¬(cD W x).1=s:=by simpa using e2
   dsimp only;rw[hc,jt e2];rfl
 ·rw[y8]at e;have hk:l.take k=l:=mo oM;rw[hk];exact⟨(),yPy W B s l hl,rfl,rfl,trivial⟩
def yHx:Ja.ok Tryz.prog 110:=gu (V:=yXf) mixed (dw yYo fg) 0 (λ_=>[]) (λ_=>y5g) [] Tryz.func110 λ(i:Cq) h=>y4z i h
def yJo {b:List UInt8} (h:(xR b).2=0):(xR b).1.right=0:=by
 rw[xR]at h ⊢;dsimp only at h ⊢;split at h
 ·cases h
 ·rename_i h1;rw[eg h1];split at h
  ·cases h
  ·rename_i h2;rw[eg h2];split at h
   ·rename_i h3;exact absurd h h3
   ·rename_i h3;rw[eg h3];simpa using h3
def Zl (n:Int):gr (ak.wrap n):=by
 rw[ao];simp only[IntKind.bits,ap];simp;omega
def W0:gr 0:=⟨Z8,Z8⟩
def y4d (k id:Int) (r:RB):gr (qH k id r).1.dr:=by
 rw[qH];split
 ·exact Zl _
 split
 ·exact Zl _
 split
 ·exact Zl _
 ·exact W0
def yYm (b:List UInt8):gr (xR b).1.dr:=by
 rw[xR];dsimp only;split
 ·exact W0
 split
 ·exact W0
 split
 ·exact W0
 ·exact y4d _ _ _
def yXq {p:ff} {B:List (List zK)} (h:uh p B) (U:List Int) (c:ie):(Bg p B U c).R.length<=1503000003:=by
 have Ax:=h.ok.bl;have Iu:∀w,(rD c w).length<=1503000003:=λw=>by simp[rD]
 rw[Bg];split
 ·exact Iu _
 rename_i hr;have hr:c.right=0:=by simpa using hr
 split
 ·rename_i hk;obtain⟨_,hq,_⟩:=zYk hr hk;rw[rG];split
  ·exact Iu _
  rename_i hp;have hp:p.dm c.inst c.dm=0:=by simpa using hp
  have wk:=Zd hp;split
  ·exact Iu _
  split
  ·exact Iu _
  split
  ·exact Iu _
  split
  ·exact Iu _
  have:=zGo h U (c:=c) oM hq;omega
 rename_i hk;split
 ·exact Iu _
 rename_i hf;have hf:(yA B c.id).2.2=cg:=by simpa using hf
 have hf:yA B c.id=((yA B c.id).1,(yA B c.id).2.1,cg):=by rw[<- hf]
 obtain⟨wk,_⟩:=z1m h hf;split
 ·rename_i h4;have hq:=Z0 hr hk oM;rw[cF];split
  ·exact Iu _
  split
  ·simp[mC]
  split
  ·exact Iu _
  have:=zGo (h.take c.id (yA B c.id).2.1.dr) U (c:=⟨1,c.id,(yA B c.id).1,(yA B c.id).2.1.side,c.dm,c.dr,0,1,[]⟩) (by dsimp only;rw[sP];exact wk) hq;dsimp only;rw[iv];have e1:(gK B U c.id (yA B c.id).1 (yA B c.id).2.1).R.length=1:=rfl;have e2:(gK B U c.id (yA B c.id).1 (yA B c.id).2.1).B=(jG B c.id (yA B c.id).2.1.dr).1:=rfl;rw[e1,e2];omega
 split
 ·simp[gK]
 ·simp[mC]
def y0a {b:List UInt8} (h:b.length<=1099511627776):(xR b).1.label.length<=255:=by
 have h0:(RB.mk b cm).ok:=h;rw[xR];dsimp only;split
 ·exact mi _
 split
 ·exact mi _
 split
 ·exact mi _
 ·exact(y1f (kQ (uL h0))).2
def zWt (p:ff) (B:List (List zK)) (U:List Int) (W:List (Int×Int)) (s:Int) (b:List UInt8):Fp p B U W s b=if(zU s b).2≠0 then NK B U W s 0 (zU s b).2 else PW p B U W s (zU s b).1:=by
 rw[Fp,zU];by_cases c:s<0\/8<=s
 ·rw[fc c,fc c];rfl
 ·rw[eg c,eg c]
def y5b {s:Int} {b:List UInt8} (hb:b.length<=1099511627776) (h:(zU s b).2=0):(zU s b).1.right=0/\gr (zU s b).1.dr/\(zU s b).1.label.length<=255:=by
 rw[zU]at h ⊢;split at h
 ·cases h
 ·rename_i c;rw[eg c];exact⟨yJo h,yYm b,y0a hb⟩
def wjN {j:Nat} (h:(j:Int)<=9223372036854775806):((j+1:Nat):Int)=ak.wrap ((j:Int)+1):=by rw[iq (by omega)];rfl
def xFw (i:DC) (h:Tf.dp i):xBm i:=by
 obtain⟨⟨m,W⟩,p,B,U,s,b,X⟩:=i;obtain⟨L3,hb,hX⟩:(m.fv p B U/\jb p B)/\b.length<=1099511627776/\X=Fp p B U W s b:=h;rw[zWt]at hX;have hc:= @y5b s b hb;unfold xBm Q5 fa z1a UN Q5 z1e z0w Yw Yt z1h nR nJ mZ nK nO pD m7 nF Vf nB Wj Vt fa dI;dsimp only;generalize Ov:zU s b=y at hX hc;obtain⟨c,pd⟩:=y;dsimp only at hX hc;refine⟨⟨s,b⟩,rfl,rfl,hb,λ_ _=> ?_⟩;dsimp only;rw[Ov];dsimp only;refine Cv.dp.mk (λe=> ?_) (λe=>⟨PA _ _,_,_,Pg c.id W,cg,λx=>x=decide (c.kind=1/\64<=Jm B W s),Cv.dp.mk (λe1=>⟨⟨⟨m,W⟩,p,B,U,s⟩,rfl,rfl,rfl,L3,λ_ _=>⟨_,rfl,?_,gg⟩⟩) (λe1=>⟨cm,rfl,?_,gg⟩),?_⟩)
 ·have e:pd≠0:=by simpa using e
  rw[fc e]at hX;subst hX;exact⟨⟨s,0,pd⟩,rfl,rfl,rfl,trivial,λ_ _=>⟨m,iJ L3.1⟩⟩
 ·have e1:c.kind=1:=by simpa using e1
  dsimp only;rw[decide_eq_decide];exact⟨λx=>⟨e1,oM⟩,λx=>by have:=x.2;omega⟩
 ·have e1:¬c.kind=1:=by simpa using e1
  exact(jt λx=>e1 x.1).symm
 have e:pd=0:=by simpa using e
 obtain⟨hr,hq,aaH⟩:=hc e;rw[eg (by rw[e];decide),PW]at hX;rintro _ rfl;refine zH (λe1=> ?_) (λe1=> ?_)
 ·rw[fc e1]at hX;subst hX;exact⟨⟨s,c.id,30⟩,rfl,rfl,rfl,trivial,λ_ _=>⟨m,iJ L3.1⟩⟩
 rw[eg e1]at hX;refine⟨cg,λx=>x=decide (c.kind≠1/\((cD W c.id).2=cm\/(cD W c.id).1≠s)),Cv.dp.mk (λe2=>Cv.dp.mk (λe3=>⟨cg,rfl,?_,gg⟩) (λe3=>⟨_,rfl,?_,gg⟩)) (λe2=>⟨cm,rfl,?_,gg⟩),?_⟩
 ·have e2:¬c.kind=1:=by simpa using e2
  exact(jk ⟨e2,.inl (by simpa using e3)⟩).symm
 ·have e2:¬c.kind=1:=by simpa using e2
  have e3:(cD W c.id).2=cg:=by simpa using e3
  show((cD W c.id).1 !=s)=decide (c.kind≠1/\((cD W c.id).2=cm\/(cD W c.id).1≠s));rw[Dc,tq,bne_iff_ne];exact⟨λx=>⟨e2,.inr x⟩,λx=>x.2.resolve_left (by rw[e3];decide)⟩
 ·have e2:c.kind=1:=by simpa using e2
  exact(jt λx=>x.1 e2).symm
 rintro _ rfl;refine zH (λe2=> ?_) (λe2=> ?_)
 ·rw[fc e2]at hX;subst hX;exact⟨⟨s,c.id,26⟩,rfl,rfl,rfl,trivial,λ_ _=>⟨m,iJ L3.1⟩⟩
 rw[eg e2]at hX;have hlen:=yXq (L3.1.s.wf L3.2) U c;refine⟨⟨m,p,B,U,c,Bg p B U c⟩,ni (iJ ⟨rfl,⟨L3,vz aaH Z8,hq,rfl⟩,λo ho=> ?_⟩)⟩;dsimp only at ho ⊢;generalize Bg p B U c=Y at hX ho hlen ⊢;obtain⟨YB,YU,R⟩:=Y;dsimp only at hX ho hlen ⊢;subst hX;have e4:(R.map x9).length=R.length:=gy ..;refine⟨⟨o,W,[],0⟩,iJ ⟨rfl,λj=>j.o=o/\j.k<=R.length/\j.O.length=j.k/\(Fo s W R).1=(Fo s j.W (R.drop j.k)).1/\(Fo s W R).2=j.O++(Fo s j.W (R.drop j.k)).2,λj=>R.length-j.k,⟨rfl,mi _,rfl,rfl,rfl⟩,?_⟩⟩;rintro⟨o',W',O,k⟩ ⟨j1,j2,j3,j4,j5⟩;dsimp only at j1 j2 j3 j4 j5 ⊢;subst j1;have e5:(O.map jW).length=O.length:=gy ..;refine zH (λe6=> ?_) (λe6=> ?_)
 ·obtain⟨r,ou⟩:=z6 (l:=R) (i:=k) oM;have hd:R.drop k=r::R.drop (k+1):=by rw[CD (by omega),(jf.1 ou).2]
  rw[hd,Fo]at j4 j5;dsimp only at j4 j5;refine⟨⟨oM,e6⟩,r.kind,r.id,r.inst,r.side,r.dm,r.dr,r.left,r.pd,ju ou (by simp[x9]) rfl,Cv.dp.mk (λe7=>⟨PA _ _,?_⟩) (λe7=>⟨PA _ _,_,_,Pg r.id W',?_⟩)⟩
  ·have e7:r.kind=1:=by simpa using e7
   rw[z6a];rw[fc e7]at j4 j5;refine⟨PA _ _,_,_,Pg r.id (Jz W' r.id s),0,λx=>x=if r.kind=2 then s else(cD (Jz W' r.id s) r.id).1,Cv.dp.mk (λe8=>⟨_,rfl,(fc (by simpa using e8)).symm,gg⟩) (λe8=>⟨_,rfl,(eg (by simpa using e8)).symm,gg⟩),?_⟩;rintro _ rfl;exact⟨oM,⟨o',Jz W' r.id s,O++[(if r.kind=2 then s else(cD (Jz W' r.id s) r.id).1,r)],k+1⟩,wjN oM,rfl,rfl,by rw[jl];rfl,⟨rfl,Z9,by rw[iv];dsimp only;rw[j3];rfl,j4,by rw[j5];simp⟩,Z9,gg⟩
  ·have e7:¬r.kind=1:=by simpa using e7
   rw[eg e7]at j4 j5;refine⟨0,λx=>x=if r.kind=2 then s else(cD W' r.id).1,Cv.dp.mk (λe8=>⟨_,rfl,(fc (by simpa using e8)).symm,gg⟩) (λe8=>⟨_,rfl,(eg (by simpa using e8)).symm,gg⟩),?_⟩;rintro _ rfl;exact⟨oM,⟨o',W',O++[(if r.kind=2 then s else(cD W' r.id).1,r)],k+1⟩,wjN oM,rfl,rfl,by rw[jl];rfl,⟨rfl,Z9,by rw[iv];dsimp only;rw[j3];rfl,j4,by rw[j5];simp⟩,Z9,gg⟩
 ·have hk:R.drop k=[]:=List.drop_of_length_le oM;rw[hk,Fo]at j4 j5;dsimp only at j4 j5;rw[oJ]at j5;rw[j4,j5];exact⟨o',iJ ho⟩
def yMn:Tf.ok Tryz.prog 48:=gu mixed (dw z6f (dw yWl (dw yHx (dw xCd fg)))) 0 (λ_=>xGq) (λ_=>xHx) [0] Tryz.func48 xFw
@[reducible] def xHv (v:Vw):fj:= .own 180 10 (v.map zA)
@[reducible] def dQ (v:Vw):fj:= .kg 10 (v.map zA)
def Gz:fy:=fi Fe (λi=>[nk i.p,.nm 0 0]) (λi=>[zF i.s]) (λi=>i.s.fv i.p i.B/\jb i.p i.B) (λ_=> .agg [.own 1]) (λi=>[zF i.s,xHv (yD i.p i.B)])
def Ub:fy:=fi vf (λi=>[.nm 0 0,zB i.s,ot 1 (bE i.b)]) (λ_=>[.gone]) (λi=>i.b.length<=1099511627776) (λi=>zB (zU i.s i.b).2) (λ_=>[.gone])
def MZ:fy:=fi Gt (λ_=>[.nm 0 0]) (λg=>Yj g) (λ_=>True) (λ_=> .nm 1 0) (λg=>Yj g)
def MQ:fy:=fi iD (λ_=>[.nm 0 0]) (λm=>B8 m) (λ_=>True) (λ_=> .nm 1 0) (λm=>B8 m)
structure En where
 p:ff
 v:Vw
 q:Int
 R:List (List UInt8)
@[reducible] def KZ:Nat:=106
def L7 (e:En) (r l:Nat):fj:= .cells [sV e.p.code,.own 5,zB e.p.tick,zB e.p.low,zB e.p.high,zB e.p.wide,zB e.p.gi,zB e.p.top,zB e.p.least,zB e.p.part,.own 6,.nm 1 0,.nm 2 0,.own l,zB e.q,.own r] KZ
structure Es where
 B:List (List zK)
 U:List Int
 W:List (Int×Int)
 q:Int
 R:List (List UInt8)
def Es.en (x:Es) (p:ff):En:=⟨p,yD p x.B,x.q,x.R⟩
def A5 (s:Int) (b:List UInt8):List UInt8:=iR s::b
def Es.X (x:Es) (p:ff) (s:Int) (b:List UInt8):SA:=Fp p x.B x.U x.W s b
def Es.M (x:Es) (p:ff) (s:Int) (b:List UInt8):List VM:=xQ 0 (yD p x.B) (yD p (x.X p s b).B)
def Es.ed (x:Es) (p:ff) (s:Int) (b:List UInt8):Es:=⟨(x.X p s b).B,(x.X p s b).U,(x.X p s b).W,x.q+(x.M p s b).length,x.R++[A5 s b]⟩
structure xz where
 o:iD
 x:Es
 p:ff
 s:Int
 b:List UInt8
def xz.g (i:xz):Gt:=⟨i.o,i.x.W⟩
@[reducible] def xz.ok (i:xz):Prop:=(i.o.fv i.p i.x.B i.x.U/\jb i.p i.x.B)/\i.b.length<=1048576/\(0<=i.s/\i.s<8)/\(0<=i.x.q/\i.x.q<=1000000000000000000)/\i.x.R.length<=1000000
def xz.Y (i:xz):Es:=i.x.ed i.p i.s i.b
def xz.N (i:xz):List gh:=jY i.x.q (i.x.M i.p i.s i.b)
def xz.O (i:xz):List (Int×fv):=(i.x.X i.p i.s i.b).O
def xz.rows (i:xz):List fj:=[L7 (i.x.en i.p) 4 7,.gone,lp i.g,.gone,Hz i.x.R,.kg 1 (iE i.p.dt),.kg 1 (iE i.p.settle),dQ (yD i.p i.x.B)]
def edC:fy where
 ι:=xz
 pat:=λi=>[.nm 0 0,zB i.s,ot 1 (bE i.b)]
 pre:=λi=>i.rows
 dp:=λi=>i.ok
 alts:=λi=>[{o:=iD,res:=λ_=> .agg [.own 10,.own 11],post:=λo=>[L7 (i.Y.en i.p) 8 9,.gone,lp ⟨o,i.Y.W⟩,.gone,.gone,.kg 1 (iE i.p.dt),.kg 1 (iE i.p.settle),.gone,Hz i.Y.R,dQ (yD i.p i.Y.B),Lt i.O,rP i.N],rel:=λo=>o.fv i.p i.Y.B i.Y.U}]
def yOz (i:Fe):Prop:=
 ∃(a:ff),Qb a i.p ((zW a)/\fa (dp (a.check !=0) (dx (dl (zF i.s)/\aq zA (yD i.p i.B)=[]/\True)) (∃(c:gv),zF c=zF i.s/\(gN c)/\fa (∃(e:ff),Qb e i.p ((zW e)/\fa (∃(g:Nat),(↑g:Int)=0/\aq zA (gH g i)=[]/\aq yB (aq qA i.B)=aq yB c.fh/\∃(h:Nat->Prop),∃(j:Nat->Nat),h g/\∀(k:Nat),h k->dp (decide ((↑k:Int)<(↑e.count:Int))) (Vh k c i h j) (dx (zF i.s=zF c/\aq zA (yD i.p i.B)=aq zA (gH k i)/\True))))))))
def xAr (i:vf):Prop:=
 ∃(gx:vf),gx.s=i.s/\bE gx.b=bE i.b/\gx.b.length<=1099511627776/\∀(o:Unit),True->∃(o:Unit),(zU i.s i.b).snd=(zU gx.s gx.b).snd/\True
def y6c (g:Gt):Prop:=
 ∃(o:Unit),ae iD 5 yO g.m=kG g.m/\dl (xO g.W)/\True
def y6f (m:iD):Prop:=
 ∃(o:Unit),dl (sb m.p.code)/\dl m.p.tick/\dl m.p.low/\dl m.p.high/\dl m.p.wide/\dl m.p.gi/\dl m.p.top/\dl m.p.least/\dl m.p.part/\zF m.s=yO m 1/\dl (zX m.used)/\ab 1 (iE m.p.dt)=yO m 3/\ab 1 (iE m.p.settle)=yO m 4/\True
def Nz (a:xz):Prop:=Ql a.p (True)
def NB (a:xz):=(aq zA (yD a.p (a.x.X a.p a.s a.b).B))
def yAo (a:xz) (b:iD) (c:Gt) (d:List (List UInt8)) (e:DC):Prop:=∃(f:Fe),Qb f.p a.p (zF f.s=zF b.s/\(f.s.fv f.p f.B/\jb f.p f.B)/\fa (∃(h:Kb),aq zA h.v=aq zA (yD a.p a.x.B)/\aq zA h.w=aq zA (yD f.p f.B)/\h.seq=a.x.q/\(ar h.v=ar h.w/\((-4000000000000000000)<=h.seq/\h.seq<=4000000000000000000)/\h.v.pw<=100000000/\h.w.pw<=100000000/\ar h.v<=1000000)/\fa (∃(k:iD),Qc a.p (a.x.q+(↑(a.x.M a.p a.s a.b).length:Int)=ak.wrap (a.x.q+(↑(aq zO (jY h.seq (xQ 0 h.v h.w))).length:Int))/\Qa k.p b.p (zF k.s=zF f.s/\QF k b (xO (a.x.X a.p a.s a.b).W=xO c.W/\wv a.p (aq kf (a.x.R++[A5 a.s a.b])=aq kf a.x.R++[[D.ro 1 (bE d.flatten)]]/\ab 10 (NB a)=ab 10 (aq zA (yD f.p f.B))/\aq jW a.O=aq jW e.X.O/\aq zO a.N=aq zO (jY h.seq (xQ 0 h.v h.w))/\k.fv a.p (a.x.X a.p a.s a.b).B (a.x.X a.p a.s a.b).U)))))))
def yBj (a:xz) (b:iD) (c:Gt) (d:List (List UInt8)) (e:DC):Prop:=(Nz a)/\yAo a b c d e
def z9j (a:xz) (b:Gt) (c:List (List UInt8)) (d:DC):Prop:=(Nz a)/\∃(e:iD),Qa e.p b.m.p (zF e.s=zF b.m.s/\QF e b.m (True/\fa (yBj a e b c d)))
def U1 (a:DC):Prop:=(a.g.m.fv a.p a.B a.U/\jb a.p a.B)/\a.b.length<=1099511627776/\a.X=Fp a.p a.B a.U a.g.W a.s a.b
def Ved (i:xz):Prop:=
 True/\True/\∃(a:List (List UInt8)),aq kf a=[[D.ro 1 [[D.v (.int .u8 (am.wrap i.s))]]],[D.ro 1 (bE i.b)]]/\(1<=a.flatten.length/\a.flatten.length<=1099511627776/\a.length<=1000)/\fa (True/\True/\((aq kf i.x.R).length+1)*(24:Nat)<=(140737488355328:Nat)/\∃(c:DC),c.s=i.s/\bE c.b=bE i.b/\lp c.g=lp i.g/\(U1 c)/\∀(d:iD),d.fv c.p c.X.B c.X.U->(∃(e:Gt),kG e.m=kG d/\xO e.W=xO c.X.W/\True/\fa ((Nz i)/\(∃(g:iD),Qa g.p e.m.p (zF g.s=zF e.m.s/\QF g e.m (True/\fa ((Nz i)/\(yAo i g e a c)/\yBj i g e a c))))/\z9j i e a c))/\True/\(Nz i)/\∃(e:Gt),kG e.m=kG d/\xO e.W=xO c.X.W/\True/\fa (z9j i e a c))
def yHa {n lo hi:Int} (h:lo<=hi):lo<=zG n lo hi/\zG n lo hi<=hi:=by
 have h1:=NY n (show hi-lo+1≠0 by omega);have h2:=Re n (show 0<hi-lo+1 by omega);rw[zG];constructor<;>omega
open Classical in
def zWv (v:Vw):Fk v v=cg:=by
 unfold Fk;exact jk rfl
open Classical in
def xFh {p:ff} {v w:Vw} (hv:AA p v) (hw:AA p w):v.length=w.length/\Vw.pw v<=100000000/\Vw.pw w<=100000000/\v.length<=1000000:=by
 have h1:=Wv hv;have h2:=Wv hw;have h3:=hv.r.2;have h4:=hw.r.2;exact⟨by rw[hv.len,hw.len],oM,oM,oM⟩
def y7h (i:Fe) (h:Gz.dp i):yOz i:=by
 obtain⟨hR,hB⟩:i.s.fv i.p i.B/\jb i.p i.B:=h;have wm:=xF i.p;have Ax:=hB.bl;have BN:i.s.nt:=hR.E9 oM;have si:vU (i.B.map qA):=hB.fh;have OA:=V0 i.p i.B;unfold yOz Qb fa dx gN Vh Qb fa hU cS kJ o7 gO dO gH ob qN zW o7 dI;refine⟨i.p,oF (iJ ⟨rfl,hB.ps,λ_ _=>Cv.dp.mk (λc=>absurd hB.pc (by simpa using c)) (λ_=>⟨i.s,rfl,BN,λ_ _=>⟨i.p,oF (iJ ⟨rfl,hB.ps,λ_ _=>⟨0,rfl,rfl,by rw[hR.fh],λj=>j<=i.p.count,λj=>i.p.count-j,mi _,λj hj=>zH (λgn=> ?_) (λgn=> ?_)⟩⟩)⟩⟩)⟩)⟩
 ·have gn:j<i.p.count:=by omega
  have ta:FY i.B (j:Int)=i.B.getD j []:=by rw[FY,eg (by omega),om]
  have hq:∀s,(xN ⟨i.p,i.B.map qA,j⟩ s).length<=1000000:=λs=>vz (zAr _ _) Z8
  refine⟨⟨Z8,Z8⟩,1,rfl,⟨i.s,i.p,i.B,j,cm⟩,rfl,rfl,rfl,⟨hR,Z9⟩,λ_ _=>⟨⟨⟨i.p,i.B.map qA,j⟩,cm⟩,iw (tg ⟨rfl,⟨hB.ps,si⟩,λ_ _=>⟨⟨xN ⟨i.p,i.B.map qA,j⟩ 1,1⟩,rfl,rfl,⟨.inl rfl,hq 1⟩,λ_ _=>⟨⟨Z8,Z8⟩,2,rfl,⟨i.s,i.p,i.B,j,cg⟩,rfl,rfl,rfl,⟨hR,Z9⟩,λ_ _=>⟨⟨⟨i.p,i.B.map qA,j⟩,cg⟩,iw (tg ⟨rfl,⟨hB.ps,si⟩,λ_ _=>⟨⟨xN ⟨i.p,i.B.map qA,j⟩ 2,2⟩,rfl,rfl,⟨.inr rfl,hq 2⟩,λ_ _=>⟨?_,j+1,qy oM,?_,rfl,Z9,Z9,rfl,gg⟩⟩⟩)⟩⟩⟩⟩)⟩⟩
  ·rw[gy,ng];omega
  ·rw[qx,zYs i.p i.B gn,Cb,jl,jj,B9];dsimp only;rw[ta];rfl
 ·have hj:j<=i.p.count:=hj;rw[mo (by omega)];exact⟨(),gg⟩
def z5t:Gz.ok Tryz.prog 37:=gu mixed (dw mV (dw yHd (dw fW (dw yDb (dw ZF (dw yCr fg)))))) 1 (λ_=>[]) (λi=>y0q i) [] Tryz.func37 y7h
def yGm:Ub.ok Tryz.prog 47:=gu (V:=xAr) mixed (dw z6f fg) 0 (λ_=>[]) (λ_=>[]) [] Tryz.func47 λ(i:vf) h=>⟨i,rfl,rfl,h,λ_ _=>⟨(),rfl,trivial⟩⟩
def zXp:MZ.ok Tryz.prog 101:=gu (V:=y6c) mixed fg 0 (λ_=>[]) (λ_=>[]) [] Tryz.func101 λ(g:Gt) _=>⟨(),rfl,rfl,trivial⟩
def z6r:MQ.ok Tryz.prog 102:=gu (V:=y6f) mixed fg 0 (λ_=>[]) (λ_=>[]) [] Tryz.func102 λ(m:iD) _=>⟨(),gg⟩
def z2v {p:ff} {B:List (List zK)} (h:uh p B) (U:List Int) (W:List (Int×Int)) (s:Int) (b:List UInt8):jb p (Fp p B U W s b).B:=by
 rw[Fp];split
 ·exact h.ok
 split
 ·exact h.ok
 rw[PW];split
 ·exact h.ok
 split
 ·exact h.ok
 ·exact y9l h U _
def xFm {p:ff} {v w:Vw} (hv:AA p v) (hw:AA p w):(xQ 0 v w).length<=202000000:=by
 obtain⟨h1,h2,h3,h4⟩:=xFh hv hw;have:=W9 v w v.length (lh _) oM;rw[mo (lh _),mo (by omega)]at this;omega
def ved (i:xz) (h:edC.dp i):Ved i:=by
 obtain⟨o0,x,p,s,b⟩:=i;obtain⟨⟨hM,hB⟩,hb,⟨ue,yp⟩,⟨vl,uf⟩,hR⟩:(o0.fv p x.B x.U/\jb p x.B)/\b.length<=1048576/\(0<=s/\s<8)/\(0<=x.q/\x.q<=1000000000000000000)/\x.R.length<=1000000:=h;have By:=hM.s.wf hB;have vd:jb p (x.X p s b).B:=z2v By _ _ _ _;have RW:((iR s).toNat:Int)=am.wrap s:=(UT s).symm;unfold Ved QF Qa fa U1 z9j QF Qa fa yBj yAo QF Qa Qb wv Qc fa NB Nz Ql;dsimp only;refine⟨trivial,trivial,[[iR s],b],?_,⟨by simp,by simp;omega,by simp⟩,λ_ _=>⟨trivial,trivial,by rw[gy];omega,⟨⟨o0,x.W⟩,p,x.B,x.U,s,b,x.X p s b⟩,rfl,rfl,rfl,⟨⟨hM,hB⟩,Z9,rfl⟩,λo ho=> ?_⟩⟩
 ·show[kf [iR s],kf b]=_;rw[kf,kf,<- RW];rfl
 have hv:=Nq By;have hw:=Nq (ho.s.wf vd);obtain⟨g1,g2,g3,g4⟩:=xFh hv hw;have hl:=xFm hv hw;have er:aq kf (x.R++[A5 s b])=aq kf x.R++[[D.ro 1 (bE [[iR s],b].flatten)]]:=by
  rw[jl];simp[kf,A5]
 have eq1:x.q+((x.M p s b).length:Int)=ak.wrap (x.q+(aq zO (jY x.q (x.M p s b))).length):=by
  have:(x.M p s b).length<=202000000:=hl;rw[gy,sJ,iq (by omega)]
 refine⟨⟨⟨o,(x.X p s b).W⟩,rfl,rfl,trivial,λ_ _=>⟨gg,⟨o,iw (mn ⟨rfl,trivial,λ_ _=>⟨gg,?_,gg,?_⟩⟩)⟩,gg,o,rfl,rfl,rfl,rfl,rfl,rfl,rfl,rfl,rfl,rfl,rfl,rfl,rfl,trivial,λ_ _=>⟨gg,?_⟩⟩⟩,trivial,gg,⟨o,(x.X p s b).W⟩,rfl,rfl,trivial,λ_ _=>⟨gg,o,iw (mn ⟨rfl,trivial,λ_ _=>⟨gg,?_⟩⟩)⟩⟩
 all_goals exact⟨⟨o.s,p,(x.X p s b).B⟩,iw (iJ ⟨rfl,⟨ho.s,vd⟩,λ_ _=>⟨⟨yD p x.B,yD p (x.X p s b).B,x.q⟩,rfl,rfl,rfl,⟨g1,⟨Z9,Z9⟩,g2,g3,g4⟩,λ_ _=>⟨o,iw ⟨rfl,eq1,iw (oF ⟨rfl,er,iJ ho⟩)⟩⟩⟩⟩)⟩
def y3d:edC.ok Tryz.prog 51:=gu mixed (dw yCf (dw yMn (dw zXp (dw z6r (dw z5t (dw yOx fg)))))) 0 (λ_=>[]) (λ_=>[]) [] Tryz.func51 ved
def Tj:fy:=fi Vw (λv=>[zw v]) (λ_=>[]) (λv=>v.length<=1000000/\xX v) (λv=>zw v) (λ_=>[])
def xGf (v:Vw):List gm:=[
 {ι:=Nat,du:=λj=>[(1,.nm 0 0),(12,zB j)],rows:=λ_=>[.cells [.own 1] 89,.own vO 10 (v.map zA)]},
 {ι:=Unit,du:=λ_=>[],rows:=λ_=>[],un:=3}]
structure Vs where
 v:Vw
 q:Int
 H:List gh
def Ru (n q:Int) (k v h:Nat):fj:= .cells [zB n,.own (k+v),zB q,.own (k+h)] 164
def Hx (n:Int) (s:Vs):List fj:=[Ru n s.q 0 1 2,dQ s.v,rP s.H]
def y8r (n:Int) (s:Vs):List fj:=[Ru n s.q 0 3 4,.gone,.gone,dQ s.v,rP s.H]
def Xu (k:Nat) (n:Int) (s:Vs):List fj:=[Ru n s.q k 1 2,dQ s.v,rP s.H]
def Aq (n:Nat):Vw:=au n (⟨[],Ce,cm⟩,⟨[],Ce,cm⟩)
def Ke:fy:=fi ff (λp=>[nk p]) (λ_=>[]) (λp=>p.check=0/\p.small) (λ_=> .iZ [.nm 0 0,zB 0]) (λp=>Hx p.count ⟨Aq p.count,0,[]⟩)
structure ld where
 n:Nat
 s:Vs
 m:gh
 b:List UInt8
 e:Nat
@[reducible] def ld.ok (i:ld):Prop:=((i.s.v.length=i.n/\i.n<=1000)/\A6 i.e i.s.v/\i.e+i.s.H.length<=1000000)/\∀m∈i.s.H,m.iL i.n=0
def aaa:fy:=fi ld (λi=>[.nm 0 0,Ic i.m]) (λi=>Hx i.n i.s) (λi=>i.ok/\i.m.iL i.n=0) (λ_=>pL) (λi=>[Ru i.n i.m.seq 0 3 2,.gone,rP i.s.H,dQ (sm i.s.v i.m)])
def D5:Vw->Int->List gh->Vs
 |v,q,[]=>⟨v,q,[]⟩
 |v,q,m::H=>if ak.wrap (m.seq-1)<=q then(if ak.wrap (m.seq-1)=q then D5 (sm v m) m.seq H else D5 v q H)else⟨v,q,m::H⟩
def Ah:fy:=fi (List (List D)) (λl=>[ot 7 l]) (λ_=>[]) (λl=>l.length<=1000000) (λ_=> .own 0) (λl=>[.own wY 7 l])
def ld.F (i:ld):Vs:=D5 i.s.v i.s.q i.s.H
def Kf:fy:=fi ld (λ_=>[.nm 0 0]) (λi=>Hx i.n i.s) (λi=>i.ok) (λ_=>pL) (λi=>y8r i.n i.F)
def xCa (i:ld):List gm:=[{ι:=Vs,du:=λ_=>[(0,.nm 0 0)],rows:=λs=>Hx i.n s}]
def Jj (H:List gh):Prop:=H.Pairwise λa b=>a.seq<b.seq
def aS (H:List gh) (n:Int):Nat:=(H.takeWhile λl=>decide (l.seq<n)).length
def Ft (H:List gh) (n:Int):Bool:=H.any λl=>decide (l.seq=n)
structure Kd where
 H:List gh
 n:Int
def Tt:fy:=fi Kd (λi=>[.own 0,zB i.n,.fn 88 [] []]) (λi=>[rP i.H]) (λi=>Jj i.H/\i.H.length<=1000000) (λi=> .iZ [zB (aS i.H i.n),yL (Ft i.H i.n)]) (λi=>[rP i.H])
structure FZ where
 a:Nat
 b:Nat
def xHf:List gm:=[{ι:=FZ,du:=λj=>[(9,zB j.a),(10,zB j.b)],rows:=λ_=>[]}]
def TO:fy:=NS wY 7 56
def Rv (n:Int) (s:Vs) (m:gh):Vs×Int:=
 if m.seq<1\/m.iL n≠0 then(s,12)else if m.seq<=s.q\/Ft s.H m.seq=cg then(s,33)else
 if m.seq-1=s.q then(D5 (sm s.v m) m.seq s.H,0)else if 4096<=s.H.length then(s,13)else(⟨s.v,s.q,s.H.take (aS s.H m.seq)++m::s.H.drop (aS s.H m.seq)⟩,32)
def Oa (n:Int) (s:Vs) (b:List UInt8):Vs×Int:=if(xL b).2≠0 then(s,(xL b).2)else Rv n s (xL b).1
def ld.T (i:ld):Vs:=(Oa i.n i.s i.b).1
def ld.W (i:ld):Int:=(Oa i.n i.s i.b).2
def CZ:fy:=fi ld (λi=>[.nm 0 0,ot 1 (bE i.b)]) (λi=>Hx i.n i.s) (λi=>i.ok/\Jj i.s.H/\i.b.length<=1000000/\i.e+i.s.H.length<=900000) (λi=>zB i.W) (λi=>y8r i.n i.T)
noncomputable def Hy (n:Int) (s:Vs) (b:List UInt8):Vs×Int:=
 if lU b≠0 then(s,lU b)else if((bG b).length:Int)≠n\/pI b<0 then(s,12)else if pI b<s.q then(s,33)else(D5 (bG b) (pI b) s.H,0)
noncomputable def ld.S (i:ld):Vs:=(Hy i.n i.s i.b).1
noncomputable def ld.Z (i:ld):Int:=(Hy i.n i.s i.b).2
noncomputable def Gf:fy:=fi ld (λi=>[.nm 0 0,ot 1 (bE i.b)]) (λi=>Hx i.n i.s) (λi=>i.ok/\A6 i.e (bG i.b)/\i.b.length<=1099511627776) (λi=>zB i.Z) (λi=>y8r i.n i.S)
def Ge:fy:=fi ld (λ_=>[.nm 0 0]) (λi=>Hx i.n i.s) (λi=>i.ok) (λi=>zw i.s.v) (λi=>Hx i.n i.s)
structure vt where
 o:iD
 x:Es
 p:ff
 d:Dk
 s:Int
 b:List UInt8
def JD (p:ff) (x:Es) (o:iD) (d:Dk):List fj:=[L7 (x.en p) 4 7,LO 3 x.R.length,lp ⟨o,x.W⟩,lq d,Hz x.R,.kg 1 (iE p.dt),.kg 1 (iE p.settle),dQ (yD p x.B)]
@[reducible] def vt.ok (i:vt):Prop:=(i.o.fv i.p i.x.B i.x.U/\jb i.p i.x.B)/\i.b.length<=254/\(-1<=i.s/\i.s<8)/\(0<=i.x.q/\i.x.q<=1000000000000000000)/\i.x.R.length<=1000000/\i.d.b.length+i.b.length+7<=1048576
def vt.Y (i:vt):Es:=i.x.ed i.p i.s i.b
def vt.N (i:vt):List gh:=jY i.x.q (i.x.M i.p i.s i.b)
def vt.O (i:vt):List (Int×fv):=(i.x.X i.p i.s i.b).O
def vt.D (i:vt):Dk:=⟨i.d.b++jC (A5 i.s i.b),i.d.safe⟩
def Mw:fy where
 ι:=vt
 pat:=λi=>[.nm 0 0,zB i.s,ot 1 (bE i.b)]
 pre:=λi=>JD i.p i.x i.o i.d
 dp:=λi=>i.ok
 alts:=λi=>[
  {o:=iD,res:=λ_=> .agg [.own 8,Lx],post:=λo=>JD i.p i.x o i.d++[Lt [(i.s,⟨2,0,0,0,0,0,0,(zU i.s i.b).2⟩)]],rel:=λo=>(zU i.s i.b).2≠0/\o.fv i.p i.x.B i.x.U},
  {o:=iD,res:=λ_=> .agg [.own 10,.own 11],post:=λo=>[L7 (i.Y.en i.p) 8 9,LO 3 i.Y.R.length,lp ⟨o,i.Y.W⟩,lq i.D,.gone,.kg 1 (iE i.p.dt),.kg 1 (iE i.p.settle),.gone,Hz i.Y.R,dQ (yD i.p i.Y.B),Lt i.O,rP i.N],rel:=λo=>(zU i.s i.b).2=0/\o.fv i.p i.Y.B i.Y.U}]
def ve (p:ff):Es:=⟨au p.count [],[],[],0,[]⟩
def y3c (p:ff) (x:Es) (r:List UInt8):Es:=x.ed p (r.headD 0).toNat r.tail
def vJ (p:ff) (L:List (List UInt8)):Es:=L.foldl (y3c p) (ve p)
def y0n (r:List UInt8):Prop:=r≠[]/\(zU (r.headD 0).toNat r.tail).2=0
structure Bm where
 p:ff
 s:Nat
 L:List (List UInt8)
 t:List UInt8
def Bm.j (i:Bm):Cp:=⟨i.s,i.L,i.t⟩
@[reducible] def Bm.ok (i:Bm):Prop:=(i.p.check=0/\i.p.small)/\((Eg.mk i.L i.t).ok/\i.j.d.ok)/\(∀r∈i.L,y0n r)/\i.L.length<=100000
def enK (e:En):fj:= .cells [sV e.p.code,.own 5,zB e.p.tick,zB e.p.low,zB e.p.high,zB e.p.wide,zB e.p.gi,zB e.p.top,zB e.p.least,zB e.p.part,.own 6,.nm 2 0,.nm 3 0,.own 7,zB e.q,.own 4] KZ
def Tn:fy where
 ι:=Bm
 pat:=λi=>[nk i.p,.nm 0 0]
 pre:=λi=>[lq i.j.d]
 dp:=λi=>i.ok
 alts:=λi=>[{o:=iD,res:=λ_=> .iZ [.nm 1 0,zB 0],post:=λo=>[lq i.j.d',enK ((vJ i.p i.L).en i.p),LO 0 i.L.length,lp ⟨o,(vJ i.p i.L).W⟩,Hz (vJ i.p i.L).R,.kg 1 (iE i.p.dt),.kg 1 (iE i.p.settle),dQ (yD i.p (vJ i.p i.L).B)],rel:=λo=>o.fv i.p (vJ i.p i.L).B (vJ i.p i.L).U}]
structure OS where
 o:iD
 x:Es
 k:Nat
def xGy (i:Bm):List gm:=[{ι:=OS,du:=λj=>[(6,.nm 2 0),(10,.nm 0 0),(48,.own 8),(50,zB j.k)],rows:=λj=>[L7 (j.x.en i.p) 4 7,LO 3 i.L.length,lp ⟨j.o,j.x.W⟩,lq i.j.d',Hz j.x.R,.kg 1 (iE i.p.dt),.kg 1 (iE i.p.settle),dQ (yD i.p j.x.B),Hz i.L]}]
noncomputable def Tl:fy:=fi En (λ_=>[.nm 0 0]) (λe=>[L7 e 4 7,.gone,.gone,.gone,.gone,.gone,.gone,dQ e.v]) (λe=>xX e.v) (λe=>ot 1 (bE (xW e.v e.q))) (λe=>[L7 e 4 7,.gone,.gone,.gone,.gone,.gone,.gone,dQ e.v])
def U2 (a:xz):Prop:=(a.o.fv a.p a.x.B a.x.U/\jb a.p a.x.B)/\a.b.length<=1048576/\(0<=a.s/\a.s<8)/\(0<=a.x.q/\a.x.q<=1000000000000000000)/\a.x.R.length<=1000000
def dV (a:vt):=(aq zA (yD a.p (a.x.X a.p a.s a.b).B))
def fB (a:vt):=(a.x.R++[A5 a.s a.b])
def cE (a:vt):=(↑(fB a).length:Int)
def dS (a:vt):=(↑(a.x.M a.p a.s a.b).length:Int)
def v7 (a:vt):=(aq zA (yD a.p a.x.B))
def cK (a:iD) (b:vt):=(Gt.mk a (b.x.X b.p b.s b.b).W)
@[reducible] def QU (a b:Es)(c d:ff)(R:Prop):Prop:=aq kf a.R=aq kf b.R/\ab 1 (iE c.dt)=ab 1 (iE d.dt)/\ab 1 (iE c.settle)=ab 1 (iE d.settle)/\R
def xBw (i:vt):Prop:=
 ∃(a:vf),a.s=i.s/\bE a.b=bE i.b/\a.b.length<=1099511627776/\fa (dp ((zU a.s a.b).snd !=0) (∃(c:DC),c.s=i.s/\bE c.b=bE i.b/\lp c.g=lp (Gt.mk i.o i.x.W)/\(U1 c)/\∀(d:iD),d.fv c.p c.X.B c.X.U->(∃(e:iD),True/\Qc i.p (dl i.x.q/\dl ((↑i.x.R.length:Int))/\lp (Gt.mk e i.x.W)=lp (Gt.mk d c.X.W)/\dl (lq i.d)/\dl (aq kf i.x.R)/\wv i.p (ab 10 (v7 i)=dQ (yD i.p i.x.B)/\[jW (i.s,fv.mk 2 0 0 0 0 0 0 (zU i.s i.b).snd)]=aq jW c.X.O/\(zU i.s i.b).snd≠0/\e.fv i.p i.x.B i.x.U)))\/(∃(e:iD),Qc i.p (i.x.q+(dS i)=i.x.q/\(cE i)=(↑i.x.R.length:Int)/\lp (cK e i)=lp (Gt.mk d c.X.W)/\lq i.D=lq i.d/\wv i.p (aq kf (fB i)=aq kf i.x.R/\ab 10 (dV i)=dQ (yD i.p i.x.B)/\aq jW i.O=aq jW c.X.O/\aq zO i.N=[]/\(zU i.s i.b).snd=0/\e.fv i.p (i.x.X i.p i.s i.b).B (i.x.X i.p i.s i.b).U)))) (True/\True/\∃(c:List (List UInt8)),aq kf c=[[D.ro 1 [[D.v (.int .u8 (am.wrap i.s))]]],[D.ro 1 (bE i.b)]]/\(1<=c.flatten.length/\c.flatten.length<=1099511627776/\c.length<=1000)/\fa (True/\∃(e:Yi),bE e.l=bE c.flatten/\e.n=(↑i.x.R.length:Int)/\lq e.d=lq i.d/\(e.l.length<=255/\e.d.b.length+e.l.length+(6:Nat)<=(1048576:Nat)/\0<=e.n/\e.n<=1048576)/\fa (∃(g:xz),g.s=i.s/\bE g.b=bE i.b/\Qa g.p i.p (g.x.q=i.x.q/\lp g.g=lp (Gt.mk i.o i.x.W)/\QU g.x i.x g.p i.p (ab 10 (aq zA (yD g.p g.x.B))=dQ (yD i.p i.x.B)/\(U2 g)/\∀(h:iD),h.fv g.p (g.x.X g.p g.s g.b).B (g.x.X g.p g.s g.b).U->(∃(j:iD),False)\/(∃(j:iD),Qa i.p g.p (i.x.q+(dS i)=g.x.q+(↑(g.x.M g.p g.s g.b).length:Int)/\(cE i)=e.n+1/\lp (cK j i)=lp (Gt.mk h (g.x.X g.p g.s g.b).W)/\lq i.D=lq (Dk.mk (e.d.b++jC e.l) e.d.safe)/\BD i.p g.p (aq kf (fB i)=aq kf (g.x.R++[A5 g.s g.b])/\ab 10 (dV i)=ab 10 (NB g)/\aq jW i.O=aq jW g.O/\aq zO i.N=aq zO g.N/\(zU i.s i.b).snd=0/\j.fv i.p (i.x.X i.p i.s i.b).B (i.x.X i.p i.s i.b).U)))))))))
def sX (a:Bm):Prop:=Ql a.p (True)
def Zq (a:Cp):Prop:=((∀(b:List UInt8),b∈a.L->b.length<=255)/\(Cu a.t).snd.snd=10/\(oP a.L).length+a.t.length<=1048576)/\a.s<=(oP a.L++a.t).length/\(oP a.L++a.t).length<=1048576
def aF (a:Bm):=(aq zA (yD a.p (vJ a.p a.L).B))
def xFf (i:Bm):Prop:=
 ∃(a:ff),Qb a i.p ((zW a)/\(∀(b:Unit),a.check=0->∃(c:Cp),lq c.d=lq i.j.d/\(Zq c)/\fa (∃(e:List Int),iE e=iE i.p.dt/\e.length<=1000000/\fa (True/\∃(g:List Int),iE g=iE i.p.settle/\g.length<=1000000/\fa (∃(j:Gt),kG j.m=kG (iD.mk a (nU a) [])/\xO j.W=xO []/\True/\fa ((sX i)/\(sX i)/\∃(l:iD),Qa l.p j.m.p (zF l.s=zF j.m.s/\QF l j.m (True/\fa ((sX i)/\(sX i)/\∃(n:Fe),sb n.p.code=sb i.p.code/\iE n.p.dt=iE e/\Qs n.p i.p (iE n.p.settle=iE g/\zF n.s=zF l.s/\(n.s.fv n.p n.B/\jb n.p n.B)/\fa ((sX i)/\∃(q:OS),(↑q.k:Int)=0/\Qc i.p (q.x.q=0/\(↑i.L.length:Int)=(↑c.L.length:Int)/\Qa q.o.p l.p (zF q.o.s=zF n.s/\QF q.o l (xO q.x.W=xO j.W/\lq i.j.d'=lq c.d'/\aq kf q.x.R=[]/\ab 1 (iE i.p.dt)=ab 1 (iE e)/\ab 1 (iE i.p.settle)=ab 1 (iE g)/\aq zA (yD i.p q.x.B)=aq zA (yD n.p n.B)/\aq kf i.L=aq kf c.L/\∃(r:OS->Prop),∃(s:OS->Nat),r q/\∀(t:OS),r t->dp (decide ((↑t.k:Int)<(↑(aq kf c.L).length:Int))) ((0<=(↑t.k:Int)/\(↑t.k:Int)<(↑(aq kf i.L).length:Int))/\∃(u:List (List D)),zD (aq kf i.L) (↑t.k:Int).toNat 0 1=bz [D.ro 1 u]/\dp ((↑u.length:Int)==0) (∃(v:iD),False) (((0:Int)<=(0:Int)/\0<(↑u.length:Int))/\∃(v:Int),zD u (cq 0) 0 1=bz [D.v (.int .u8 v)]/\((0:Int)<=(1:Int)/\1<=(↑u.length:Int))/\∃(w:vf),w.s=ak.wrap v/\bE w.b=ay (cq 1) u/\w.b.length<=1099511627776/\fa (dp ((zU w.s w.b).snd !=0) (∃(y:iD),False) (((0:Int)<=(0:Int)/\0<(↑u.length:Int))/\∃(y:Int),zD u (cq 0) 0 1=bz [D.v (.int .u8 y)]/\((0:Int)<=(1:Int)/\1<=(↑u.length:Int))/\∃(z:xz),z.s=ak.wrap y/\bE z.b=ay (cq 1) u/\Qa z.p i.p (z.x.q=t.x.q/\lp z.g=lp (Gt.mk t.o t.x.W)/\QU z.x t.x z.p i.p (ab 10 (aq zA (yD z.p z.x.B))=ab 10 (aq zA (yD i.p t.x.B))/\(U2 z)/\∀(ow:iD),ow.fv z.p (z.x.X z.p z.s z.b).B (z.x.X z.p z.s z.b).U->∃(og:OS),(↑og.k:Int)=ak.wrap ((↑t.k:Int)+1)/\Qa i.p z.p (og.x.q=z.x.q+(↑(z.x.M z.p z.s z.b).length:Int)/\dl ((↑i.L.length:Int))/\lp (Gt.mk og.o og.x.W)=lp (Gt.mk ow (z.x.X z.p z.s z.b).W)/\dl (lq i.j.d')/\aq kf og.x.R=aq kf (z.x.R++[A5 z.s z.b])/\BD i.p z.p (ab 10 (aq zA (yD i.p og.x.B))=ab 10 (NB z)/\dl (aq kf i.L)/\r og/\s og<s t/\wv l.p (wv j.m.p (dl (ab 1 (iE g))/\dl (ab 1 (iE e))/\dl (ac [V.d (D.v (ba (sb i.p.code))),V.own 7,V.d (dI i.p.tick),V.d (dI i.p.low),V.d (dI i.p.high),V.d (dI i.p.wide),V.d (dI i.p.gi),V.d (dI i.p.top),V.d (dI i.p.least),V.d (dI i.p.part),V.own 8] 25)/\dl (ab 1 (iE i.p.settle))/\dl (ab 1 (iE i.p.dt)))))))))))) (∃(u:iD),dl ((0:Int))/\dl (lq i.j.d')/\Qc i.p ((vJ i.p i.L).q=t.x.q/\dl ((↑i.L.length:Int))/\lp (Gt.mk u (vJ i.p i.L).W)=lp (Gt.mk t.o t.x.W)/\aq kf (vJ i.p i.L).R=aq kf t.x.R/\wv i.p (ab 10 (aF i)=ab 10 (aq zA (yD i.p t.x.B))/\u.fv i.p (vJ i.p i.L).B (vJ i.p i.L).U))))))))))))))))/\∀(b:Unit),a.check≠0->dp (a.check !=0) (∃(c:iD),False) (∃(c:Cp),lq c.d=lq i.j.d/\(Zq c)/\fa (∃(e:List Int),iE e=iE i.p.dt/\e.length<=1000000/\fa (True/\∃(g:List Int),iE g=iE i.p.settle/\g.length<=1000000/\fa (∃(j:Gt),False)))))
def xHd (e:En):Prop:=
 ∃(i:Hj),aq zA i.v=aq zA e.v/\i.seq=e.q/\(ar i.v<=1099511627776/\∀(b:Sd×Sd),b∈i.v->b.fst.levels.length<=1099511627776/\b.snd.levels.length<=1099511627776)/\∀(o:Unit),True->∃(o:Unit),bE (xW e.v e.q)=bE (xW i.v i.seq)/\dl (sb e.p.code)/\dl e.p.tick/\dl e.p.low/\dl e.p.high/\dl e.p.wide/\dl e.p.gi/\dl e.p.top/\dl e.p.least/\dl e.p.part/\e.q=e.q/\ab 10 (aq zA e.v)=dQ e.v/\True
def yPi {s:Int} {b:List UInt8} (h:(zU s b).2=0):0<=s/\s<8:=by
 rw[zU]at h;split at h
 ·cases h
 ·omega
def xGs (i:vt) (h:Mw.dp i):xBw i:=by
 obtain⟨o0,x,p,d,s,b⟩:=i;obtain⟨⟨hM,hB⟩,hb,⟨ue,yp⟩,⟨vl,uf⟩,hR,hd⟩:(o0.fv p x.B x.U/\jb p x.B)/\b.length<=254/\(-1<=s/\s<8)/\(0<=x.q/\x.q<=1000000000000000000)/\x.R.length<=1000000/\d.b.length+b.length+7<=1048576:=h;have RW:((iR s).toNat:Int)=am.wrap s:=(UT s).symm;unfold xBw QU Qa wv BD Qc fa NB U1 cK v7 dS cE fB dV U2;dsimp only;refine⟨⟨s,b⟩,rfl,rfl,Z9,λ_ _=>Cv.dp.mk (λe=> ?_) (λe=> ?_)⟩
 ·have e:(zU s b).2≠0:=by simpa using e
  exact⟨⟨⟨o0,x.W⟩,p,x.B,x.U,s,b,NK x.B x.U x.W s 0 (zU s b).2⟩,rfl,rfl,rfl,⟨⟨hM,hB⟩,Z9,by dsimp only;rw[zWt,fc e]⟩,λo ho=> .inl ⟨o,trivial,iw (ni (iJ ⟨rfl,e,ho⟩))⟩⟩
 ·have e:(zU s b).2=0:=by simpa using e
  have hs:=yPi e;refine⟨trivial,trivial,[[iR s],b],?_,⟨by simp,by simp;omega,by simp⟩,λ_ _=>⟨trivial,⟨d,x.R.length,A5 s b⟩,by simp[A5],rfl,rfl,⟨by simp[A5];omega,by simp[A5];omega,Z9,Z9⟩,λ_ _=>⟨⟨o0,x,p,s,b⟩,iw (iw ⟨rfl,⟨⟨hM,hB⟩,Z9,hs,⟨vl,uf⟩,hR⟩,λo ho=> .inr ⟨o,ni (iJ ⟨rfl,by simp,oF ⟨rfl,e,ho⟩⟩)⟩⟩)⟩⟩⟩;show[kf [iR s],kf b]=_;rw[kf,kf,<- RW];rfl
def GK:Mw.ok Tryz.prog 10:=gu mixed (dw yGm (dw yMn (dw yCf (dw yVp (dw y3d fg))))) 0 (λ_=>[]) (λ_=>[]) [] Tryz.func10 xGs
def xAy {p:ff} {L:List (List UInt8)} {k:Nat} {r:List UInt8} (h:L[k]? =bz r):vJ p (L.take (k+1))=y3c p (vJ p (L.take k)) r:=by
 rw[qx,h,Cb,vJ,JK];rfl
def yEk {p:ff} {x:Es} {o:iD} (hM:o.fv p x.B x.U) (hB:jb p x.B) (s:Int) (b:List UInt8) {o2:iD} (ho:o2.fv p (x.X p s b).B (x.X p s b).U):
 jb p (x.ed p s b).B/\x.q<=(x.ed p s b).q/\(x.ed p s b).q<=x.q+202000000/\(x.ed p s b).R.length=x.R.length+1:=by
 have By:=hM.s.wf hB;have vd:jb p (x.X p s b).B:=z2v By _ _ _ _;have:(x.M p s b).length<=202000000:=xFm (Nq By) (Nq (ho.s.wf vd));refine⟨vd,?_,?_,?_⟩
 ·show x.q<=x.q+((x.M p s b).length:Int);omega
 ·show x.q+((x.M p s b).length:Int)<=_;omega
 ·show(x.R++[A5 s b]).length=_;rw[iv];rfl
def xHm (i:Bm) (h:Tn.dp i):xFf i:=by
 obtain⟨p,s,L,t⟩:=i;obtain⟨⟨hc,qf⟩,⟨hs,hd⟩,hr,hl⟩:(p.check=0/\p.small)/\((Eg.mk L t).ok/\(Cp.mk s L t).d.ok)/\(∀r∈L,y0n r)/\L.length<=100000:=h;have X2:jb p (au p.count []):=jb.new hc qf;have hM0:=yVf p;have m6:=(jE hc).m6;have sl:=(jE hc).s1;have uk:(L.map kf).length=L.length:=gy _;unfold xFf QF QU Qa Qb wv BD Qc fa Qs aF Zq sX Ql NB U2 zW o7 dI;dsimp only;refine⟨p,oF (iJ ⟨rfl,qf,λ_ _=>⟨⟨s,L,t⟩,rfl,⟨hs,hd⟩,λ_ _=>⟨p.dt,rfl,oM,λ_ _=>⟨trivial,p.settle,rfl,oM,λ_ _=>⟨⟨Rz p,[]⟩,rfl,rfl,trivial,λ_ _=>⟨gg,gg,Rz p,iw (mn ⟨rfl,trivial,λ_ _=>⟨gg,gg,⟨(Rz p).s,p,au p.count []⟩,iw (iJ ⟨rfl,⟨hM0.s,X2⟩,λ_ _=>⟨gg,⟨Rz p,ve p,0⟩,iw (iw (iw (oF ⟨rfl,λj=>(j.k<=L.length/\j.x=vJ p (L.take j.k))/\(j.o.fv p j.x.B j.x.U/\jb p j.x.B)/\(0<=j.x.q/\j.x.q<=202000000*(j.k:Int))/\j.x.R.length=j.k,λj=>L.length-j.k,⟨⟨mi _,rfl⟩,⟨hM0,X2⟩,⟨xq _,xq _⟩,rfl⟩,?_⟩)))⟩⟩)⟩⟩)⟩⟩⟩⟩⟩,λ_ jr=>absurd hc jr⟩)⟩;rintro⟨o,x,k⟩ ⟨⟨hk,hx⟩,⟨hM,hB⟩,⟨vl,uf⟩,hR⟩;dsimp only at hk hx hM hB vl uf hR ⊢;refine zH (λgn=> ?_) (λgn=> ?_)
 ·obtain⟨r,hrk⟩:=z6 (l:=L) (i:=k) oM;have It:=ku hrk;obtain⟨jr,Ov⟩:=hr r It;have TU:=hs.1 r It;obtain⟨c,b,rfl⟩:∃c b,r=c::b:=by
   cases r with
   |nil=>exact absurd rfl jr
   |cons c b=>exact⟨c,b,rfl⟩
  have Ov:(zU (c.toNat:Int) b).2=0:=Ov;have hc8:=yPi Ov;have wc:ak.wrap (c.toNat:Int)=c.toNat:=iq oM;rw[iC]at TU;refine⟨⟨oM,oM⟩,bE (c::b),yAa hrk,Cv.dp.mk (λe=>by have e:=Hr.1 e;rw[yV,iC]at e;omega) (λ_=>⟨⟨Z8,by rw[yV,iC];omega⟩,c.toNat,dB rfl,⟨Z8,by rw[yV,iC];omega⟩,⟨c.toNat,b⟩,wc.symm,rfl,Z9,λ_ _=>Cv.dp.mk (λe=>by simp[Ov]at e) (λ_=>⟨⟨Z8,by rw[yV,iC];omega⟩,c.toNat,dB rfl,⟨Z8,by rw[yV,iC];omega⟩,⟨o,x,p,c.toNat,b⟩,wc.symm,iw (oF ⟨rfl,⟨⟨hM,hB⟩,Z9,hc8,⟨vl,Z9⟩,Z9⟩,λo2 ho=> ?_⟩)⟩)⟩)⟩;obtain⟨t1,t2,t3,t4⟩:=yEk hM hB (c.toNat:Int) b ho;exact⟨⟨o2,x.ed p c.toNat b,k+1⟩,qy oM,iw (ni (iJ ⟨rfl,⟨⟨Z9,by dsimp only;rw[xAy hrk,<- hx];rfl⟩,⟨ho,t1⟩,⟨Z9,Z9⟩,Z9⟩,Z9,gg⟩))⟩
 ·obtain rfl:k=L.length:=by omega
  rw[zr]at hx;subst hx;exact⟨o,by repeat'(first|exact rfl|exact hM|apply And.intro)⟩
def yMa:Tn.ok Tryz.prog 42:=gu mixed (dw yUy (dw y4q (dw yHy (dw z4s (dw zXp (dw z6r (dw z5t (dw yGm (dw y3d fg))))))))) 0 (λ_=>[]) (λi=>xGy i) [] Tryz.func42 xHm
def M4:Tl.ok Tryz.prog 27:=gu (V:=xHd) mixed (dw y8c fg) 0 (λ_=>[]) (λ_=>[]) [] Tryz.func27 λ(e:En) h=>⟨⟨e.v,e.q⟩,rfl,rfl,h,λ_ _=>⟨(),gg⟩⟩
@[reducible] def yQu:Nat:=40
structure rp where
 x:Es
 o:iD
 d:Dk
 O:List (Int×fv)
 N:List gh
def xGt (p:ff) (j:rp):List fj:=JD p j.x j.o j.d++[.cells [.own 9,.own 10] yQu,Lt j.O,rP j.N]
def doJ (p:ff) (e a:Nat):gm:={ι:=rp,oZ:=λ_=>[(e,.nm 0 0)],lu:=λj=>JD p j.x j.o j.d,du:=λj=>[(e,.nm 0 0),(a,.nm 8 0)],rows:=xGt p}
def xHa (p:ff):List fj:=[.cells [sV p.code,.own 9,zB p.tick,zB p.low,zB p.high,zB p.wide,zB p.gi,zB p.top,zB p.least,zB p.part,.own 10] 25,.kg 1 (iE p.dt),.kg 1 (iE p.settle)]
def yZo {t:zc} (h:0<=t.i/\t.i<=1000000):1<=(xE t).id/\(xE t).id<=1099511627776:=by
 have:0<=zG t.c.id 0 30/\zG t.c.id 0 30<=30:=by rw[zG];omega
 rw[xE];split
 ·dsimp only;omega
 ·simp only[y9];omega
def yNu {x:ff} {c:ie} {k:Nat} (hk:k<=1000000):(xE ⟨ib x,c,k⟩).right=0:=by
 have:=yCa x c k (xE ⟨ib x,c,k⟩).id (yZo Z9);exact this
def yFo {c:ie} (h:c.right=0) (hl:c.label=[]):c.enc.length<=100:=by
 have e:c.enc=iR c.kind::(le c.id 8++c.tail):=by rw[ie.enc,eg (by simp[h])]
 have ht:c.tail.length<=60:=by
  rw[ie.tail];split
  ·simp only[iC,iv,y7,Fs,hl,ng,rn];omega
  split
  ·rw[y7];omega
  split
  ·rw[iv,y7,y7];omega
  ·exact mi _
 rw[e,iC,iv,y7];omega
def yNx (p:ff) (B:List (List zK)) (U:List Int) (c:ie):∃r l,(Bg p B U c).R=r::l/\(r.kind=2->(Bg p B U c).B=B):=by
 rw[Bg];split
 ·exact⟨_,_,rfl,λ_=>rfl⟩
 split
 ·rw[rG]
  iterate 5 (split;·exact⟨_,_,rfl,λ_=>rfl⟩)
  obtain⟨r,l,h1,h2,_⟩:=(z4p p B U c).2;exact⟨r,l,h1,λe=>by omega⟩
 split
 ·exact⟨_,_,rfl,λ_=>rfl⟩
 split
 ·rw[cF];split
  ·exact⟨_,_,rfl,λ_=>rfl⟩
  split
  ·rw[mC];exact⟨_,_,rfl,λe=>by simp at e⟩
  split
  ·exact⟨_,_,rfl,λ_=>rfl⟩
  rw[gK];exact⟨_,_,rfl,λe=>by simp at e⟩
 split
 ·rw[gK];exact⟨_,_,rfl,λe=>by simp at e⟩
 ·rw[mC];exact⟨_,_,rfl,λe=>by simp at e⟩
def z8x (p:ff) (B:List (List zK)) (U:List Int) (W:List (Int×Int)) (s:Int) (b:List UInt8):∃o l,(Fp p B U W s b).O=o::l/\(o.2.kind=2->(Fp p B U W s b).B=B):=by
 rw[Fp];split
 ·exact⟨_,_,rfl,λ_=>rfl⟩
 split
 ·exact⟨_,_,rfl,λ_=>rfl⟩
 rw[PW];split
 ·exact⟨_,_,rfl,λ_=>rfl⟩
 split
 ·exact⟨_,_,rfl,λ_=>rfl⟩
 obtain⟨r,l,h1,h2⟩:=yNx p B U (xR b).1;dsimp only;rw[h1];dsimp only[Fo];refine⟨_,_,rfl,λe=>h2 ?_⟩;exact e
def yUi (x:Es) (p:ff) (s:Int) (b:List UInt8):∃o l,(x.X p s b).O=o::l/\(o.2.kind=2->x.M p s b=[]):=by
 obtain⟨o,l,h1,h2⟩:=z8x p x.B x.U x.W s b;refine⟨o,l,h1,λe=> ?_⟩;rw[Es.M,Es.X,h2 e];exact yHp 0 _
structure CY (p:ff) (x:Es) (d:Dk) (j:rp):Prop where
 r:j.o.fv p j.x.B j.x.U
 ok:jb p j.x.B
 q1:x.q<=j.x.q
 q2:j.x.q<=x.q+202000000
 n:j.x.R.length<=x.R.length+1
 d:j.d.b.length<=d.b.length+107
 m:∃M:List VM,j.N=jY x.q M/\j.x.q=x.q+(M.length:Int)
 t:∃o l,j.O=o::l/\(o.2.kind=2->j.N=[])
def CY.bad {p:ff} {x:Es} {d:Dk} {o:iD} (h1:o.fv p x.B x.U) (h2:jb p x.B) (s w:Int):CY p x d ⟨x,o,d,[(s,⟨2,0,0,0,0,0,0,w⟩)],[]⟩:=
 ⟨h1,h2,xq _,Z9,Z9,Z9,⟨[],rfl,by simp⟩,⟨_,_,rfl,λ_=>rfl⟩⟩
def CY.vw {p:ff} {x:Es} {d:Dk} {o o2:iD} (h1:o.fv p x.B x.U) (h2:jb p x.B) {s:Int} {b:List UInt8} (hb:b.length<=100) (h3:o2.fv p (x.X p s b).B (x.X p s b).U):
 CY p x d ⟨x.ed p s b,o2,⟨d.b++jC (A5 s b),d.safe⟩,(x.X p s b).O,jY x.q (x.M p s b)⟩:=by
 obtain⟨t1,t2,t3,t4⟩:=yEk h1 h2 s b h3;refine⟨h3,t1,t2,t3,Z9,?_,⟨_,rfl,rfl⟩,?_⟩
 ·dsimp only;rw[iv,bI,A5,iC];omega
 ·obtain⟨o,l,e1,e2⟩:=yUi x p s b;exact⟨o,l,e1,λe=>by rw[e2 e];rfl⟩
def Ag:fy:=Ut 2
structure IF where
 g:Gt
 p:ff
 B:List (List zK)
 U:List Int
def Tg:fy:=fi IF (λ_=>[.nm 0 0]) (λi=>[lp i.g]) (λi=>i.g.m.fv i.p i.B i.U/\jb i.p i.B) (λ_=> .nm 1 0) (λi=>[lp i.g,lp i.g])
def y0s (es:List (be×List D)):Prop:=
 ∃(i:List (be×List D)),i=es/\True/\∀(o:Unit),True->∃(o:Unit),es=i/\es=i/\True
def y9h (es:List (be×List D)):y0s es=walk Tryz.prog ([(174,vY 100)]) 0 ([]) ([]) [] Tryz.f124 (Tryz.f124.body.getD .skip) (Ag.pat es) (Ag.pre es) (Ag.alts es):=by kernel_rfl
def y8h (hG:zd Tryz.prog ([(174,vY 100)])) (h:∀(es:List (be×List D)),Ag.dp es->y0s es):Ag.ok Tryz.prog 124:=qY mixed ([(174,vY 100)]) hG 0 (λ(es:List (be×List D))=>[]) (λ(es:List (be×List D))=>[]) [] Tryz.func124 (by kernel_rfl) (by kernel_rfl) (by kernel_rfl) (λ_=>by kernel_rfl) (λ(es:List (be×List D)) hc=>Eq.mp (y9h es) (h es hc))
def xHu (i:IF):Prop:=
 ∃(gx:Ei),ae iD 5 yO gx.m=ae iD 5 yO i.g.m/\(gx.m.fv gx.p gx.B gx.U/\jb gx.p gx.B)/\∀(o:Unit),True->True/\∃(ma:List (be×List D)),ma=xO i.g.W/\True/\∀(o:Unit),True->∃(o:Unit),ae iD 5 yO i.g.m=ae iD 5 yO gx.m/\xO i.g.W=ma/\ae iD 5 yO i.g.m=ae iD 5 yO gx.m/\xO i.g.W=ma/\True
def y0b:Ag.ok Tryz.prog 124:=y8h (dw (VF _) fg) λes _=>⟨es,rfl,trivial,λ_ _=>⟨(),rfl,rfl,trivial⟩⟩
def M0:Tg.ok Tryz.prog 63:=gu (V:=xHu) mixed (dw z4m (dw y0b fg)) 0 (λ_=>[]) (λ_=>[]) [0] Tryz.func63 λ(i:IF) h=>⟨⟨i.g.m,i.p,i.B,i.U⟩,rfl,h,λ_ _=>⟨trivial,xO i.g.W,rfl,trivial,λ_ _=>⟨(),mn trivial⟩⟩⟩
def Xh {M:List gh} {k:Nat} {m:gh} (h:M[k]? =bz m):zD (M.map zO) k 0 7=bz [D.v (.int .i64 m.seq),.v (.int .i64 m.inst),.v (.int .i64 m.side),.v (.int .i64 m.dm),.v (.int .i64 m.dr),.v (.int .i64 m.count),.v (.bool m.fx)]:=ju h (by simp[zO]) rfl
structure BH (p:ff) (x:Es) (d:Dk) (s:Int) (b:List UInt8) (j:rp):Prop where
 a:CY p x d j
 c:((zU s b).2≠0/\j.x=x/\j.d=d/\j.O=[(s,⟨2,0,0,0,0,0,0,(zU s b).2⟩)]/\j.N=[])\/((zU s b).2=0/\j.x=x.ed p s b/\j.d=⟨d.b++jC (A5 s b),d.safe⟩/\j.O=(x.X p s b).O/\j.N=jY x.q (x.M p s b))
def BH.bad {p:ff} {x:Es} {d:Dk} {o:iD} (h1:o.fv p x.B x.U) (h2:jb p x.B) {s:Int} {b:List UInt8} (h:(zU s b).2≠0):BH p x d s b ⟨x,o,d,[(s,⟨2,0,0,0,0,0,0,(zU s b).2⟩)],[]⟩:=⟨CY.bad h1 h2 s _,.inl ⟨h,iJ rfl⟩⟩
def BH.vw {p:ff} {x:Es} {d:Dk} {o o2:iD} (h1:o.fv p x.B x.U) (h2:jb p x.B) {s:Int} {b:List UInt8} (hb:b.length<=100) (h:(zU s b).2=0) (h3:o2.fv p (x.X p s b).B (x.X p s b).U):
 BH p x d s b ⟨x.ed p s b,o2,⟨d.b++jC (A5 s b),d.safe⟩,(x.X p s b).O,jY x.q (x.M p s b)⟩:=⟨CY.vw h1 h2 hb h3,.inr ⟨h,iJ rfl⟩⟩
def MA:fy:=fi Sv (λi=>[.nm 0 0,sV i.s]) (λi=>[Wr i.l]) (λi=>i.l.length+300<=1099511627776/\i.s.length<=255) (λ_=>pL) (λi=>[Wr (i.l++Fs i.s)])
def Kq:fy:=fi ie (λc=>[C8 c]) (λ_=>[]) (λc=>c.label=[]/\c.right=0) (λc=> .iZ [ot 1 (bE c.enc),zB 0]) (λ_=>[])
structure X4 where
 l:List Int
 k:Nat
def Ct (l:List Int) (k:Nat):Int:=match l[k]? with
 |some s=>zG s 0 3
 |none=>0
def SE:fy:=fi X4 (λi=>[ot 1 (iE i.l),zB i.k]) (λ_=>[]) (λi=>(∀s∈i.l,gr s)/\i.k<=1000000) (λi=>zB (Ct i.l i.k)) (λ_=>[])
def SG:fy:=fi zc (λt=>[nk t.p,C8 t.c,zB t.i]) (λ_=>[]) (λt=>(∃x,t.p=ib x)/\t.c.raw/\0<=t.i/\t.i<=1000000) (λt=>ot 1 (bE (xE t).enc)) (λ_=>[])
def Ti:fy where
 ι:=ff
 pat:=λp=>[nk p]
 pre:=λ_=>[]
 dp:=λp=>p.check=0/\p.small
 alts:=λp=>[{o:=iD,res:=λ_=> .iZ [.nm 0 0,.nm 3 0,yL cg],post:=λo=>JD p (ve p) o ⟨[],0⟩,rel:=λo=>o.fv p (ve p).B (ve p).U}]
def awC:fy:=fi ff (λ_=>[]) (λ_=>[]) (λp=>p=cQ 2) (λ_=>yL cg) (λ_=>[])
def y9t:List (Nat×gm):=[(4,{ι:=Unit,du:=λ_=>[],rows:=λ_=>[],Dl:=[0]})]
def awJ (p:ff):List (Nat×gm):=[(20,doJ p 2 4),(24,doJ p 2 5),(28,doJ p 2 6)]
end Sx
