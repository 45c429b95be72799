/- Texts of ours. No condition. -/
import Derived.Maps.RangeRun
import Derived.Shelf.Spec.SlicesGrow
import Derived.Test.YtfmobncdogfbmaaGreatR12
set_option linter.all false
open Sx.fq renaming kr->aa,cells->ab,rk->ac,map->ae,own->af,km->ag
open Go.IntKind renaming i64->aj,u8->ak,wrap->am,signed->ao
open List renaming map->ap,length->aq,replicate->ar,map_singleton->au,drop_take->av,drop->aw
open Go.Value renaming int->ax,string->ay
open Go renaming MapEntry->az,Value->ba,TypeId->bc,grownCap->be,size_zeroCells->bg,World->bo
open Option renaming some->bu,none->bv
open Go.Builtin renaming zeroCells->bz,append_->cd
open Bool renaming true->ce,false->cf
open BitVec renaming ofInt->cg
open List.Perm renaming swap->cm,cons->co
open Int renaming toNat->cp
open True renaming intro->Y_
open Cv.dp renaming mk->W_
namespace Sx
set_option maxRecDepth 100000
open Go Cv Go.Proofs
open Tryz renaming prog->Z_
open Tryz hiding prog
def Ld:Go.Shelf.Ren:=⟨λx=>if x=4 then 134 else x,λx=>if x=22 then 44 else if x=25 then 5 else x,λx=>x⟩
def xEl:Lays8.n4 Z_ Ld where
 mixed:=mixed
 f4:=⟨Tryz.f134.name,by decide+kernel,by kernel_rfl⟩
 t0:=by kernel_rfl
 a0:=λ_=>by kernel_rfl
 z0:=λ_=>by kernel_rfl
 v0:=λ_=>by kernel_rfl
 t3:=by kernel_rfl
 a3:=λ_=>by kernel_rfl
 z3:=λ_=>by kernel_rfl
 v3:=λ_=>by kernel_rfl
 t4:=by kernel_rfl
 a4:=λ_=>by kernel_rfl
 z4:=λ_=>by kernel_rfl
 v4:=λ_=>by kernel_rfl
 t9:=by kernel_rfl
 a9:=λ_=>by kernel_rfl
 z9:=λ_=>by kernel_rfl
 v9:=λ_=>by kernel_rfl
 t20:=by kernel_rfl
 a20:=λ_=>by kernel_rfl
 z20:=λ_=>by kernel_rfl
 v20:=λ_=>by kernel_rfl
 t22:=by kernel_rfl
 a22:=λ_=>by kernel_rfl
 z22:=λ_=>by kernel_rfl
 v22:=λ_=>by kernel_rfl
def xEi:vY Z_ 44=bu (5,1,1,#[.int .u8 0]):=by kernel_rfl
def y1q:B6.ok Z_ 134:=by
 intro(n:Nat) hc k L E w ys R hv;obtain⟨c1,c2⟩:1<=n/\n<=1099511627776:=hc;simp only[B6,fp,ic,VR,DR]at hv;obtain⟨_,_,rfl,⟨rfl,_⟩,_,_,rfl,⟨rfl,_⟩,rfl⟩:=hv;obtain⟨inf,zv,q1,q2,q3,q4,q5,q6⟩:=jI xEi;have xk:=Any8.slices_Grow_grow xEl inf zv q2 q5 oM bv 0 0 n [] w (jx _) oM (by rw[q4];omega) oM (by simp) (λ_=>rfl) (λa h=>by cases h);rw[show Ld.t 25=5 from rfl]at xk;refine mZ (by kernel_rfl) (xk.mono ?_);rintro en w' ⟨rfl,rfl⟩;have hG:=grownCap_ge w (0+n) 0 5;have H:=((R.hp.drew).new (.cells (([]:List ba).toArray++bz zv.cells (0+n-0)++bz zv.cells (be w (0+n) 0 5-(0+n))) 5))
 have ha:(([]:List ba).toArray++bz zv.cells (0+n-0)++bz zv.cells (be w (0+n) 0 5-(0+n)))=([]++((bz zv.cells (0+n-0)).toList++(bz zv.cells (be w (0+n) 0 5-(0+n))).toList)).toArray:=by
  apply Array.ext';simp
 have hz:zv.cells.size=1:=by rw[q6];rfl
 have hl:([]++((bz zv.cells (0+n-0)).toList++(bz zv.cells (be w (0+n) 0 5-(0+n))).toList)).length=be w (0+n) 0 5*1:=by
  rw[wy,ix,Kf,Kf,bg,bg,hz];omega
 rw[ha]at H ⊢;have H3:=H.AP (n:=0) (sz:=1) (by simp) hl (ml _);obtain⟨E',r1,r2,r3⟩:=aJ (rows:=[]) (fa:=[]) (nx:=0) R.nx (by simp[iC]) (λx hx=>by cases hx) H3;exact⟨_,rfl,_,tq.2 rfl,(),Y_,E',r1,r3,⟨r2.nx,r2.hp⟩⟩
def z9d {ls:Q_ UInt8} {k:Nat} {l:i4} (h:ls[k]? =bu l):zC (ls.map kj) k 0 1=bu [D.ro 1 (bE l)]:=jz h (by simp[kj]) rfl
def WO {α:Type} {ls:Q_ α} {k:Nat} {l:List α} (h:ls[k]? =bu l):(ls.take (k+1)).flatten=(ls.take k).flatten++l:=by
 rw[qf,h,AD,OF];simp
def yEi {α:Type} (ls:Q_ α) (k:Nat):(ls.take k).flatten.length<=ls.flatten.length:=by
 conv=>rhs;rw[<- Bi k ls,OF,ix]
 omega
def xEo (ls:Q_ UInt8) (h:yo.dp ls):XD ls:=by
 obtain⟨h1,h2,h3⟩:1<=ls.flatten.length/\ls.flatten.length<=1099511627776/\ls.length<=1000:=h;unfold XD ff dx kL QM mV;rw[ib];refine⟨0,rfl,rfl,λk=>k<=ls.length,λk=>ls.length-k,ml _,λk hk=>zH (λgr=> ?_) (λgr=> ?_)⟩
 ·obtain⟨l,hl⟩:=zZ (l:=ls) (i:=k) oM;have hk:k<=ls.length:=hk;have e1:=yEi ls (k+1);rw[WO hl,ix]at e1;refine⟨⟨oM,oM⟩,bE l,z9d hl,zH (λc=> ?_) (λ_=>⟨k+1,?_,pf oM,Z9,Z9,Y_⟩)⟩
  ·rw[yV,iw X_]at c;omega
  ·rw[WO hl,ix,yV,iw X_];simp
 ·obtain rfl:k=ls.length:=by have hk:k<=ls.length:=hk;omega
  rw[zf];refine⟨ls.flatten.length,Y_,rfl,⟨h1,h2⟩,λ_ _=>⟨0,rfl,rfl,λk=>k<=ls.length,λk=>ls.length-k,ml _,λk hk=>zH (λgr=> ?_) (λgr=> ?_)⟩⟩
  ·obtain⟨l,hl⟩:=zZ (l:=ls) (i:=k) oM;have hk:k<=ls.length:=hk;have e1:=yEi ls (k+1);rw[WO hl,ix]at e1;refine⟨⟨oM,oM⟩,bE l,z9d hl,by rw[yV,yV];omega,k+1,pf oM,by rw[WO hl,W3],Z9,Z9,Y_⟩
  ·obtain rfl:k=ls.length:=by have hk:k<=ls.length:=hk;omega
   rw[zf];exact⟨(),rfl,Y_⟩
def yIw:yo.ok Z_ 58:=xCb (dw y1q fk) xEo
def yFt:UH.ok Z_ 51:=gy (V:=xFu) mixed fk 0 i6 i6 [] func51 λ(_:Unit) _=>⟨(),rfl,rfl,Y_⟩
def yYa:UL.ok Z_ 133:=gy (V:=y2w) mixed fk 0 i6 i6 [0] func133 λ(i:KE) h=>by
 have h:i.d.b.length+i.l.length<=1048576:=h;unfold y2w dx;rw[yV,yV];refine zH (λc=> ?_) (λ_=>⟨oM,(),rfl,rfl,W3 _ _,Y_⟩);rw[iw X_]at c;omega
def yXw:UK.ok Z_ 197:=gy (V:=xHl) mixed (dw zRo fk) 0 i6 i6 [0] func197 λ(d:Dk) h=>by
 obtain⟨h1,h2⟩:d.ok:=h;exact⟨_,rfl,by rw[yV];omega,λ_ _=>⟨(),iP Y_⟩⟩
def yDa:te.ok Z_ 138:=yLu fk λi h=>λb hb=>
 W_ (λe=>⟨(),hb e,Y_⟩) (λ_=>⟨by rw[nt,Nat.mul_one];exact h,(),rfl,Y_⟩)
def y0i:UE.ok Z_ 199:=gy (V:=y5d) mixed (dw yDa fk) 0 i6 i6 [0] func199 λ(i:KE) h=>by
 have h:i.l.length<=1048576:=h;unfold y5d ff dx;refine zH (λc=> ?_) (λ_=>⟨_,rfl,by rw[yV];omega,λ_ _=>⟨(),rfl,by rw[yV],rfl,Y_⟩⟩);rw[yV]at c;omega
def xDo:∀n:Fin 256,iZ (aj.wrap (cg aj.bits (if aj.signed=ce then(-1:Int)else aj.max) ^^^ cg aj.bits (n.val:Int)).toNat)=UInt8.ofNat (255-n.val):=by decide+kernel
def xIo:∀n:Fin 256,ak.wrap (cg ak.bits (if ak.signed=ce then(-1:Int)else ak.max) ^^^ cg ak.bits (n.val:Int)).toNat=255-(n.val:Int):=by decide+kernel
def bV (l:i4):(jC l).length=l.length+6:=by
 simp only[jC,iG,ix,xA]
def xAy (l:i4) (h:GS.dp l):yTw l:=by
 have h:l.length<=255:=h;have hn:=xDo ⟨l.length,oM⟩;dsimp only at hn;unfold yTw ff dx;rw[yV];revert hn;generalize aj.wrap (cg aj.bits (if aj.signed=ce then(-1:Int)else aj.max) ^^^ cg aj.bits (l.length:Int)).toNat=X;intro hn;refine zH (λc=>X_) (λ_=>⟨(),Y_,λ_ _=>⟨⟨[],l.length⟩,rfl,rfl,by simp[WN.ok],λ_ _=>⟨⟨_,_⟩,rfl,rfl,by simp[WN.ok],λ_ _=>⟨?_,l,rfl,oM,λ_ _=>⟨⟨_,dH l⟩,rfl,W3 _ _,⟨?_,rD l⟩,λ_ _=>⟨_,rfl,?_,λ_ _=>⟨(),rfl,?_,Y_⟩⟩⟩⟩⟩⟩⟩)
 ·rw[yV];simp;omega
 ·dsimp only;simp;omega
 ·dsimp only;simp[xA];omega
 ·dsimp only;rw[hn,jC];simp
def yQw:GS.ok Z_ 132:=gy mixed (dw PZ (dw PR (dw W0 (dw yBa (dw PS fk))))) 0 (λ_=>xCc) i6 [] func132 xAy
def yTz {c:Int} (h:0<=c/\c<4294967296):yW (le c 4)=c:=by
 simp only[le,yW,RF];omega
def zZk {l:i4} (h:l.length<=255) (r:i4):CE (jC l++r)=(l,6+l.length,0):=by
 have h0:((jC l++r).getD 0 0).toNat=l.length:=by
  have:=EV (n:=(l.length:Int)) oM;show(iZ (l.length:Int)).toNat=l.length;omega
 have h1:((jC l++r).getD 1 0).toNat=255-l.length:=by
  show(UInt8.ofNat (255-l.length)).toNat=_;exact UInt8.toNat_ofNat_of_lt' (by
                                     have:255-l.length<256:=X_
                                     simpa using this)
 have h2:(jC l++r).drop 2=l++(le (dH l) 4++r):=by
  show(l++le (dH l) 4)++r=_;rw[jd]
 have h3:(jC l++r).drop (2+l.length)=le (dH l) 4++r:=by
  rw[<- Ds,h2,Ow]
 unfold CE;rw[h0,h1,h2,h3,J8,List.take_left' (xA 4 _),yTz (rD l)];rw[eg (by rw[ix,bV];omega),eg X_,eg (by rw[ix,bV];omega),eg (by simp)]
def xKu (i:Ga) (h:S5.dp i):xEc i:=by
 obtain⟨h1,h2⟩:i.k<=i.b.length/\i.b.length<=1099511627776:=h;have ex:i.x=CE (i.b.drop i.k):=rfl;have O7:(i.b.drop i.k).length<=1099511627776:=by rw[pj];omega
 have bad:∀e:Int,e≠0->i.x.2.2=e->∀{A:Prop},A\/∃o:Unit,True/\(0:Int)=0/\i.x.2.2=e/\(i.x.2.2=0->False):=λe he hx=> .inr ⟨(),Y_,rfl,hx,λh=>he (hx▸h)⟩
 unfold xEc ff dx Rh VA ZA cJ aN nV;rw[ov,<- lK,yV i.b];generalize i.b.drop i.k=l at*;rw[yV l];refine zH (λc=>X_) (λ_=>⟨⟨oM,oM⟩,zH (λc=>bad 10 Z8 (by rw[ex,CE,fh X_])) (λc=> ?_)⟩);obtain⟨a,ha⟩:∃a,l[0]? =bu a:=⟨_,vl oM⟩
 obtain⟨b,hb⟩:∃b,l[1]? =bu b:=⟨_,vl oM⟩
 have ea:l.getD 0 0=a:=by rw[mz,ha];rfl
 have eb:l.getD 1 0=b:=by rw[mz,hb];rfl
 have la:=a.toNat_lt;have hn:=xIo ⟨a.toNat,la⟩;dsimp only at hn;refine⟨⟨oM,oM⟩,b.toNat,dD hb,⟨oM,oM⟩,a.toNat,dD ha,?_⟩;rw[hn];have wa:aj.wrap (a.toNat:Int)=a.toNat:=iw oM;have w2:aj.wrap ((2:Int)+a.toNat)=2+a.toNat:=iw oM;have w3:aj.wrap ((2:Int)+a.toNat+4)=2+a.toNat+4:=iw oM;have w4:aj.wrap ((i.k:Int)+(2+a.toNat))=i.k+(2+a.toNat):=iw oM;have w5:aj.wrap ((i.k:Int)+(2+a.toNat)+4)=i.k+(2+a.toNat)+4:=iw oM;have t1:((2:Int)+a.toNat).toNat=2+a.toNat:=X_
 have t2:((2:Int)+a.toNat+4).toNat=2+a.toNat+4:=X_
 refine W_ (λc2=>bad 14 Z8 ?_) (λc2=>⟨⟨oM,oM⟩,a.toNat,dD ha,?_⟩)
 ·have c2:¬((b.toNat:Int)=255-a.toNat):=i9 c2
  rw[ex,CE,eg X_,ea,eb,fh X_]
 have c2:(b.toNat:Int)=255-a.toNat:=i9 c2
 rw[wa,w2,w3,w4,w5,t1,t2,show cp 2=2 from rfl];refine zH (λc3=>bad 10 Z8 ?_) (λc3=> ?_)
 ·rw[ex,CE,eg X_,ea,eb,eg X_,fh X_]
 have l1:((l.take (2+a.toNat+4)).drop (2+a.toNat)).length=4:=by rw[pj,nr];omega
 have g1:(l.take (2+a.toNat+4)).drop (2+a.toNat)=(l.drop (2+a.toNat)).take 4:=by rw[av];congr 1;omega
 have g2:(l.take (2+a.toNat)).drop 2=(l.drop 2).take a.toNat:=by rw[av];congr 1;omega
 have g3:RN.iT ⟨(l.take (2+a.toNat+4)).drop (2+a.toNat),cf,4⟩=(l.drop (2+a.toNat)).take 4:=by
  rw[RN.iT,eg (by simp only[RN.bad,l1];decide)];dsimp only;rw[ng X_,g1]
 have l2:((l.drop 2).take a.toNat).length=a.toNat:=by rw[nr,pj];omega
 refine⟨⟨oM,oM,oM⟩,(l.take (2+a.toNat+4)).drop (2+a.toNat),by rw[lK,eV],oM,λ_ _=>⟨⟨oM,oM,oM⟩,⟨_,cf,4⟩,rfl,rfl,⟨Z9,Z9⟩,λ_ _=>⟨(l.take (2+a.toNat)).drop 2,by rw[lK,eV],by rw[g2];omega,λ_ _=> ?_⟩⟩⟩;rw[g2,g3];have hr:=hJ ((l.drop (2+a.toNat)).take 4);have hl4:((l.drop (2+a.toNat)).take 4).length=4:=by rw[<- g1];exact l1
 rw[hl4]at hr;rw[xGh X_];refine W_ (λc4=>bad 14 Z8 ?_) (λc4=> ?_)
 ·rw[ex,CE,eg X_,ea,eb,eg X_,eg X_,fh (i9 c4)]
 have ex2:i.x=((l.drop 2).take a.toNat,6+a.toNat,0):=by
  rw[ex,CE,eg X_,ea,eb,eg X_,eg X_,eg (i9 c4)]
 rw[ex2,<- eV,<- lK,g2,yV,l2];exact⟨⟨oM,oM,oM⟩,oM,.inl ⟨(),Z9,rfl,rfl,rfl⟩⟩
def y8m:S5.ok Z_ 246:=gy mixed (dw z0b (dw yBq (dw W0 fk))) 0 i6 i6 [] func246 xKu
def yWl (A B:Q_ UInt8):oV (A++B)=oV A++oV B:=by rw[oV,zh];rfl
def Y9 (l:i4) (L:Q_ UInt8):oV (l::L)=jC l++oV L:=rfl
def yQa {L:Q_ UInt8} {k:Nat} {l:i4} (h:L[k]? =bu l):oV (L.take (k+1))=oV (L.take k)++jC l:=tL h
def zWx (L:Q_ UInt8) (k:Nat):oV L=oV (L.take k)++oV (L.drop k):=by rw[<- yWl,Bi]
def yIt (L:Q_ UInt8):L.length<=(oV L).length:=by
 induction L with
 |nil=>exact jx _
 |cons l L ih=>rw[Y9,ix,bV,iG];omega
def xFi (i:Er) (h:KO.dp i):y3l i:=by
 obtain⟨h1,h2,h3⟩:i.ok:=h;have hn:=yIt i.L;have ue:∀k,(oV i.L).length=(oV (i.L.take k)).length+(oV (i.L.drop k)).length:=λk=>by
  have:=congrArg aq (zWx i.L k);rwa [ix]at this
 unfold y3l dx zNb dx dG y7;rw[yV,ix];refine⟨0,rfl,rfl,λk=>k<=i.L.length,λk=>i.L.length-k,ml _,λk hk=>zH (λgr=> ?_) (λgr=> ?_)⟩
 ·have hk:k<=i.L.length:=hk;have hs:=ue k;have hx:(Ga.mk (oV i.L++i.t) (oV (i.L.take k)).length).x=CE (oV (i.L.drop k)++i.t):=by
   show CE ((oV i.L++i.t).drop _)=_;rw[zWx i.L k,jd,Ow]
  refine⟨⟨oV i.L++i.t,(oV (i.L.take k)).length⟩,rfl,rfl,⟨by dsimp only;rw[ix];omega,by dsimp only;rw[ix];omega⟩,λ_ e0=> ?_,λ_ e1=> ?_⟩
  ·rw[hx]at e0 ⊢;rcases vh k i.L.length with o5|o5
   ·obtain⟨l,hl⟩:=zZ o5;have hd:i.L.drop k=l::i.L.drop (k+1):=by
     rw[CN o5];congr 1;rw[vl o5]at hl;exact Option.some.inj hl
    have Gm:=h1 l (kx hl);rw[hd,Y9,jd,zZk Gm];refine⟨by rw[ib,nr];omega,k+1,?_,?_,Z9,Z9,Y_⟩
    ·rw[yQa hl,ix,bV];dsimp only;omega
    ·rw[qf,hl];simp[kj]
   ·rw[IK o5]at e0;rw[show oV ([]:Q_ UInt8)++i.t=i.t from rfl,h2]at e0;cases e0
  ·rw[hx]at e1 ⊢;rcases vh k i.L.length with o5|o5
   ·obtain⟨l,hl⟩:=zZ o5;have hd:i.L.drop k=l::i.L.drop (k+1):=by
     rw[CN o5];congr 1;rw[vl o5]at hl;exact Option.some.inj hl
    have Gm:=h1 l (kx hl);rw[hd,Y9,jd,zZk Gm]at e1;exact absurd rfl e1
   ·obtain rfl:k=i.L.length:=X_
    rw[List.drop_length,show oV ([]:Q_ UInt8)++i.t=i.t from rfl,h2,zf];exact W_ (λe=>by cases e) (λ_=>W_ (λ_=>⟨(),iP Y_⟩) (λe=>by cases e))
 ·have hk:k<=i.L.length:=hk;have hs:=ue k;have h5:=yIt (i.L.drop k);rw[pj]at h5;obtain rfl:k=i.L.length:=X_
  rw[zf];exact⟨(),iP Y_⟩
def yYx:KO.ok Z_ 198:=gy mixed (dw y8m fk) 0 i6 (λi=>xEh i) [] func198 xFi
def y7e:aax.ok Z_ 119:=gy (V:=xDk) mixed (dw yXw (dw yYx (dw y0i fk))) 0 i6 i6 [] func119 λ(i:Cx) h=>by
 obtain⟨hs,hd⟩:(Er.mk i.L i.t).ok/\i.d.ok:=h;have e0:(bE i.d.b).length=(oV i.L).length+i.t.length:=by rw[yV,Cx.d,ix]
 have h3:=hs.2.2;dsimp only at h3;unfold xDk ff dx;refine⟨i.d,rfl,hd,λ_ _=>⟨⟨i.L,i.t⟩,rfl,hs,λ_ _=>zH (λc=> ?_) (λc=> ?_)⟩⟩
 ·have ht:i.t≠[]:=λe=>by rw[e0,e]at c;simp at c
  refine⟨⟨oM,by rw[e0];dsimp only;omega⟩,⟨i.d,oV i.L⟩,?_,rfl,Z9,λ_ _=>⟨(),rfl,?_,by rw[ib],rfl,Y_⟩⟩
  ·dsimp only;rw[ov,<- eV,Cx.d,J8]
  ·rw[Cx.d',eg ht]
 ·have ht:i.t=[]:=List.length_eq_zero_iff.1 (by rw[e0]at c;dsimp only at c;omega);refine⟨(),rfl,?_,by rw[ib],rfl,Y_⟩;rw[Cx.d',fh ht]
def yXz:Uf.ok Z_ 57:=gy (V:=xGq) mixed (dw yQw (dw yYa fk)) 0 i6 i6 [] func57 λ(i:YM) h=>by
 obtain⟨h1,h2,h3,h4⟩:i.l.length<=255/\i.d.b.length+i.l.length+6<=1048576/\0<=i.n/\i.n<=1048576:=h;exact⟨i.l,rfl,h1,λ_ _=>⟨⟨i.d,jC i.l⟩,rfl,rfl,by dsimp only;rw[bV];omega,λ_ _=>⟨(),rfl,by rw[iw X_],rfl,Y_⟩⟩⟩
def cC (W:List (Int×Int)) (id:Int):Int×Bool:=match W.find? λx=>decide (x.1=id)with
 |some x=>(x.2,ce)
 |none=>(0,cf)
def JV:List (Int×Int)->Int->Int->List (Int×Int)
 |[],id,s=>[(id,s)]
 |x::W,id,s=>if id=x.1 then(x.1,s)::W else x::JV W id s
def yQq (x:Int×Int) (W:List (Int×Int)) (id:Int):cC (x::W) id=if id=x.1 then(x.2,ce)else cC W id:=by
 rw[cC,L9];by_cases c:id=x.1
 ·rw[fh c,jt c.symm]
 ·rw[eg c,ju (λe=>c e.symm)];rfl
structure S1 where
 B:Q_ zK
 U:List Int
 W:List (Int×Int)
 O:List (Int×ga)
def Og (B:Q_ zK) (U:List Int) (W:List (Int×Int)) (s id pk:Int):S1:=⟨B,U,W,[(s,⟨2,id,0,0,0,0,0,pk⟩)]⟩
def FH (s:Int):List (Int×Int)->List ga->List (Int×Int)×List (Int×ga)
 |W,[]=>(W,[])
 |W,r::R=>
  let W1:=if r.kind=1 then JV W r.id s else W
  ((FH s W1 R).1,(if r.kind=2 then s else(cC W1 r.id).1,r)::(FH s W1 R).2)
def JJ (B:Q_ zK) (W:List (Int×Int)) (s:Int):Nat:=(sw 0 B).countP λx=>decide ((cC W x.1).1=s)
def Ls (p:fj) (B:Q_ zK) (U:List Int) (W:List (Int×Int)) (s:Int) (c:ir):S1:=
 if c.kind=1/\64<=JJ B W s then Og B U W s c.id 30
 else if c.kind≠1/\((cC W c.id).2=cf\/(cC W c.id).1≠s)then Og B U W s c.id 26
 else⟨(Ak p B U c).B,(Ak p B U c).U,(FH s W (Ak p B U c).R).1,(FH s W (Ak p B U c).R).2⟩
def tQ (p:fj) (B:Q_ zK) (U:List Int) (W:List (Int×Int)) (s:Int) (b:i4):S1:=
 if s<0\/8<=s then Og B U W s 0 1 else if(xU b).2≠0 then Og B U W s 0 (xU b).2 else Ls p B U W s (xU b).1
def yHp (p:fj) (x:wY) {r:ga} (hr:r.kind=3):∀y∈rN p x r,y.kind=3:=by
 intro y hy;rw[rN,j']at hy;rcases hy with rfl|hy
 ·exact hr
 ·split at hy
  ·rw[P0]at hy;simp only[j',FM,or_false]at hy;rcases hy with rfl|rfl<;>exact hr
  ·cases hy
def z4q (p:fj) (c:ir):∀(l:List wY) (q:Int),∀y∈pN p c l q,y.kind=3
 |[],_,y,hy=>by cases hy
 |x::l,q,y,hy=>by
  rw[pN,oH]at hy;rcases hy with hy|hy
  ·rw[rM,oH]at hy;rcases hy with hy|hy
   ·obtain⟨f,_,hy⟩:=Bf.1 hy;exact yHp p x rfl y hy
   ·exact yHp p x rfl y hy
  ·exact z4q p c l _ y hy
def z7y (p:fj) (B:Q_ zK) (U:List Int) (c:ir):(∀r∈(b8 p B U c).R,r.kind=1->r.id=c.id)/\∃r l,(b8 p B U c).R=r::l/\r.kind=1/\r.id=c.id:=by
 rw[tR];dsimp only;refine⟨λr hr hk=> ?_,_,_,rfl,rfl,rfl⟩;rw[uu,j',oH]at hr;rcases hr with rfl|hr|hr
 ·rfl
 ·have:=z4q _ _ _ _ r hr;omega
 ·split at hr
  ·rw[tq]at hr;subst hr;rfl
  ·cases hr
def yFb:∀{l m:List Nat},l.Nodup->(∀x∈l,x∈m)->l.length<=m.length
 |[],m,_,_=>ml _
 |a::l,m,h,hs=>by
  rw[yz]at h;have ha:=hs a iY;have:=yFb (l:=l) (m:=m.erase a) h.2 λx hx=>(List.mem_erase_of_ne (λe=>h.1 (by rw[<- e];exact hx))).2 (hs x (jj _ hx))
  rw[List.length_erase_of_mem ha]at this;have:=List.length_pos_of_mem ha;rw[iG];omega
structure Handed (fy:List az) (seen:Array Nat) (dn:List az):Prop where
 sn:seen.toList=dn.map (·.born)
 nd:(dn.map (·.born)).Nodup
 sub:∀e∈dn,e∈fy
def Handed.push {fy:List az} {seen:Array Nat} {dn:List az} (h:Handed fy seen dn) {e:az} (he:e∈(leftOf fy.toArray seen).toList):Handed fy (seen.push e.born) (dn++[e]):=by
 simp only[leftOf,Array.toList_filter,vi,Dv]at he;obtain⟨h1,h2⟩:=he;have h3:e.born∉dn.map (·.born):=by
  rw[<- h.sn];intro hm;have:seen.contains e.born=ce:=by
   rw[Array.contains_iff_mem];exact Array.mem_toList_iff.1 hm
  rw[this]at h2;cases h2
 refine⟨by rw[Array.toList_push,h.sn,jh];rfl,?_,λx hx=> ?_⟩
 ·rw[jh,au,AB];exact⟨h.nd,by simp,λx hx y hy e=>by rw[tq]at hy;subst hy;subst e;exact h3 hx⟩
 ·rcases oH.1 hx with hx|hx
  ·exact h.sub x hx
  ·rw[tq]at hx;subst hx;exact h1
def Handed.len {fy:List az} {seen:Array Nat} {dn:List az} (h:Handed fy seen dn):dn.length<=fy.length:=by
 have:=yFb (m:=fy.map (·.born)) h.nd λx hx=>by
  obtain⟨e,he,rfl⟩:=nn.1 hx;exact sv (f:=(·.born)) (h.sub e he)
 simpa using this
def Handed.all {fy:List az} {seen:Array Nat} {dn:List az} (h:Handed fy seen dn) (hn:(fy.map (·.born)).Nodup) (h0:(leftOf fy.toArray seen).size=0):dn.Perm fy:=by
 have inj:∀{l:List az},(l.map (·.born)).Nodup->∀x∈l,∀y∈l,x.born=y.born->x=y:=by
  intro l hl
  induction l with
  |nil=>intro x hx;cases hx
  |cons a l ih=>
   rw[jg,yz]at hl;intro x hx y hy e;rcases j'.1 hx with e1|h1<;>rcases j'.1 hy with e2|h2
   ·rw[e1,e2]
   ·refine absurd ?_ hl.1;rw[<- e1,e];exact sv (f:=(·.born)) h2
   ·refine absurd ?_ hl.1;rw[<- e2,<- e];exact sv (f:=(·.born)) h1
   ·exact ih hl.2 x h1 y h2 e
 have nd:∀{l:List az},(l.map (·.born)).Nodup->l.Nodup:=λhl=>List.Pairwise.imp (λjy e=>jy (by rw[e])) (List.pairwise_map.1 hl)
 refine(List.perm_ext_iff_of_nodup (nd h.nd) (nd hn)).2 λe=>⟨h.sub e,λhe=> ?_⟩
 have:seen.contains e.born=ce:=by
  cases hc:seen.contains e.born with
  |true=>rfl
  |false=>
   have hm:e∈(leftOf fy.toArray seen).toList:=by
    simp only[leftOf,Array.toList_filter,vi];exact⟨he,by rw[hc];rfl⟩
   have:(leftOf fy.toArray seen).toList=[]:=ye (i9 h0);rw[this]at hm;cases hm
 rw[Array.contains_iff_mem]at this;have:=Array.mem_toList_iff.2 this;rw[h.sn]at this;obtain⟨x,hx,e2⟩:=nn.1 this;rw[<- inj hn x (h.sub x hx) e he e2];exact hx
def yBo (k:Ko) (LL:List HP) (fy:List az) (e:Ending) (w':bo):Prop:=∃(a:Option Addr) (n c:Nat) (xs:List ba) (dn:List az),e=.returned (.slice a n c)/\xs=dn.map (·.key)/\n=dn.length/\dn.Perm fy/\Hp k w' (ow 2 1 a n c xs::LL)
def yOo (k:Ko) (LL:List HP) (fy:List az) (r bm ck:Nat) (v:ba) (w1:bo):Prop:=∃(a:Option Addr) (n c:Nat) (xs:List ba) (seen:Array Nat) (c0:Nat) (dn:List az),v=.slice a n c/\xs=dn.map (·.key)/\n=dn.length/\ck<=c0/\Handed fy seen dn/\Hp k w1 (ow 2 1 a n c xs::pt r (.mapIter (bu bm) ck seen c0)::LL)
def yTe (fy:List az) (v:ba) (_:bo):Nat:=match v with| .slice _ n _=>fy.length-n|_=>0
def yMt {b bm ck:Nat} {fy:List az} {w:bo} {k:Ko} {LL:List HP} {l:List ba} {T:bc}
 (H:Hp k w LL) (tf:∀w',Hp k w' LL->w'.heap[b]? =bu (.cells l.toArray T)/\w'.heap[bm]? =bu (.map fy.toArray ck)) (hl:l[12]? =bu (.map (bu bm)))
 (hck:∀e∈fy,e.born<ck) (hn:(fy.map (·.born)).Nodup) (hk:∀e∈fy,∃n,e.key= .int .i64 n) (pn:fy.length<=1000000):
 Calls Z_ 249 #[.pointer (bu ⟨b,0,bv⟩)] w (yBo k LL fy):=by
 refine vg (c:=Tryz.f249.body.getD .skip) (args:=[.pointer (bu ⟨b,0,bv⟩)]) mixed func249 (by kernel_rfl) [{ι:=ba,SW:=λv=>[(3,v)],fix:=[9]}] (by kernel_rfl) (by kernel_rfl) (by kernel_rfl) ?_;obtain⟨h1,h2⟩:=tf w H;have hu:Z_.underlying 150=bu (.map 2 3):=by kernel_rfl
 refine⟨bu bm,?_,bu ⟨w.heap.size,0,bv⟩,w.alloc (.mapIter (bu bm) ck #[] ck),?_,?_⟩
 ·show pX Z_ 150 ⟨b,12,bv⟩ w (.map (bu bm));exact uA (by kernel_rfl) h1 hl
 ·show(Instr.range 150 (.map (bu bm))).run Z_ w=_;exact run_range_map w _ _ _ bm _ ck hu h2
 refine⟨yOo k LL fy w.heap.size bm ck,yTe fy,⟨.slice bv 0 0,rfl,bv,0,0,[],#[],ck,[],rfl,rfl,rfl,jx _,⟨rfl,Ou,λe he=>by cases he⟩,(H.new _).nil _ _⟩,?_⟩;rintro j v w1 ⟨a,n,c,xs,seen,c0,dn,rfl,xa,Sr,Pa,hh,H1⟩;have hr:=H1.drop.get;obtain⟨-,g2⟩:=tf w1 H1.drop.drop;rcases run_next_at (P:=Z_) w1 0 w.heap.size bm ck c0 seen fy.toArray ck hr g2 (λx hx=>hck x (i9 hx)) Pa with⟨e1,e2⟩|⟨e,he,w2,hw2,jq⟩
 ·refine .inl ⟨w1,e2,?_⟩;show yBo k LL fy (.returned (.slice a n c)) w1;exact⟨a,n,c,xs,dn,rfl,xa,Sr,hh.all hn e1,(H1.swap).drop⟩
 ·have ug:e∈fy:=by
   have:=he;simp only[leftOf,Array.toList_filter,vi]at this;exact this.1
  obtain⟨m,hm⟩:=hk e ug;have hp:=hh.push he;have H2:Hp k (World.ja w2 w.heap.size (.mapIter (bu bm) ck (seen.push e.born) ck)) (ow 2 1 a n c xs::pt w.heap.size (.mapIter (bu bm) ck (seen.push e.born) ck)::LL):=by
   have H1':Hp k w2 (ow 2 1 a n c xs::pt w.heap.size (.mapIter (bu bm) ck seen c0)::LL):=by
    rcases hw2 with rfl|rfl
    ·exact H1
    ·exact H1.drew
   exact((H1'.swap).zj _).swap
  have qu:Go.ChangeMaps.setBlock w2 w.heap.size (.mapIter (bu bm) ck (seen.push e.born) ck)=World.ja w2 w.heap.size (.mapIter (bu bm) ck (seen.push e.born) ck):=rfl;rw[qu]at jq;generalize Yc:World.ja w2 w.heap.size (.mapIter (bu bm) ck (seen.push e.born) ck)=w3 at H2 jq;obtain⟨-,g3⟩:=tf w3 H2.drop.drop;have EH:=run_entry_at (P:=Z_) w3 w.heap.size bm ck seen fy.toArray ck e H2.drop.get g3 (i9 ug) (i9 hn);refine .inr ⟨e.key,e.val,w3,jq,.tuple #[e.key,e.val],EH,?_⟩;rw[hm];have hlen:=hp.len;rw[ix,Bh]at hlen;refine Eq.mp (α:=LZ w3 (.cells #[.int .i64 m] 2) λbb w4=>∃(a':Option Addr) (n' c':Nat),∃w5,fH Z_ (cd #[23,23] 23 #[.slice a n c,.slice (bu ⟨bb,0,bv⟩) 1 1]) w4 (.slice a' n' c') w5/\∃i',.slice a' n' c'=i'/\yOo k LL fy w.heap.size bm ck i' w5/\yTe fy i' w5<yTe fy (.slice a n c) w1) (by kernel_rfl) ?_;rintro bb w4 hb hw4;subst hb hw4;have H3:=(H2.new (.cells [ax .i64 m].toArray 2)).lit (sz:=1) (n:=1) rfl;obtain⟨a',c',w5,Kv,H5⟩:=(H3.swap).append (P:=Z_) (t1:=23) (t2:=23) (rt:=23) (e:=2) (sz:=1) (oF:=8) (z:= #[.int .i64 0]) (by kernel_rfl) (by kernel_rfl) (x:= .slice (bu ⟨w3.heap.size,0,bv⟩) 1 1) (m:=1) (ys:=[.int .i64 m]) (.inl ⟨_,_,rfl,H3.Jb⟩) (by simp[Value.ou]) rfl Z8 oM;refine⟨a',n+1,c',w5,Kv,.slice a' (n+1) c',rfl,⟨a',n+1,c',_,_,ck,dn++[e],rfl,?_,?_,jx _,hp,(H5.swap).drop⟩,?_⟩
  ·rw[xa,jh,au,hm]
  ·rw[ix,Sr];rfl
  ·show fy.length-(n+1)<fy.length-n;omega
def yGw {F:PH}:∀{l:List (Int×Int)} {fy:List az},MR F (yT l) fy->fy.map (·.key)=l.map (λp=>ax .i64 p.1)
 |[],fy,h=>by
  have h:fy=[]:=h;subst h;rfl
 |p::l,fy,h=>by
  obtain⟨m,ms,rfl,h1,-,h3⟩:=h;rw[jg,jg,yGw (l:=l) h3,h1]
def XA:ba->Int
 | .int _ n=>n
 |_=>0
def yMn {xs:List ba} {m:List Int} (h:xs.Perm (m.map λn=>ax .i64 n)):∃l:List Int,xs=l.map (λn=>ax .i64 n)/\l.Perm m:=by
 refine⟨xs.map XA,?_,?_⟩
 ·rw[wx];have:∀x∈xs,((λn=>ax .i64 n)∘XA) x=x:=by
   intro x hx;obtain⟨n,_,rfl⟩:=nn.1 (h.mem_iff.1 hx);rfl
  rw[uk this,List.map_id']
 ·have:=h.map XA;rw[wx]at this;have e:(XA∘λn=>ax .i64 n)=id:=rfl;rw[e,List.map_id]at this;exact this
def yFd (F:PH):∀l:List Int,iC F (iE l).flatten (l.map λn=>ax .i64 n)
 |[]=>by simp[iE,iC]
 |n::l=>by
  have ih:=yFd F l;have e:(iE (n::l)).flatten= .v (.int .i64 n)::(iE l).flatten:=rfl;rw[e,iC];exact⟨.int .i64 n,_,rfl,by simp[DR,Value.ou],ih⟩
def yp:gh where
 ι:=gz
 pat:=λ_=>[.nm 0 0]
 pre:=λs=>[zE s]
 dp:=λs=>s.wh.length<=1000000
 alts:=λs=>[{o:=List Int,res:=λ_=> .own 1,post:=λl=>[zE s,.own 2 1 (iE l)],rel:=λl=>l.Perm (s.wh.map (·.1))}]
@[reducible] def EP (s:gz):St:=Vf [0] ⟨g9 0 (yp.pre s),(yp.pre s).length⟩
def y1v (s:gz) (l:List Int) (hl:l.Perm (s.wh.map (·.1))):Xo 1 (.own 5) ((EP s).new (.own 2 1 (iE l))) (yp.alts s):=by
 refine Eq.mp (α:=∃(o:List Int),sb s.p.code=sb s.p.code/\s.p.tick=s.p.tick/\s.p.low=s.p.low/\s.p.high=s.p.high/\s.p.wide=s.p.wide/\s.p.gn=s.p.gn/\s.p.top=s.p.top/\s.p.least=s.p.least/\s.p.part=s.p.part/\ag 160 dq 6 zR s.ez bv=ag 160 dq 6 zR s.ez bv/\yT s.wh=yT s.wh/\aa 1 (iE s.p.dt)=aa 1 (iE s.p.dt)/\aa 1 (iE s.p.settle)=aa 1 (iE s.p.settle)/\iE o=iE l/\o.Perm (s.wh.map (·.1))) (by kernel_rfl) ?_
 exact⟨l,iB (nu hl)⟩
def yPs:yp.ok Z_ 249:=by
 intro s hc k L E w ys R hv;have hc:s.wh.length<=1000000:=hc;have Fe:=R.nx;obtain⟨E1,hle,R1⟩:=zHu [0] R;have R1:Rel k L E1 (EP s) w:=R1;have Pa:(EP s).get 0=bu (.cells [sV s.p.code,.own 3,zB s.p.tick,zB s.p.low,zB s.p.high,zB s.p.wide,zB s.p.gn,zB s.p.top,zB s.p.least,zB s.p.part,.own 4,.own 1,.mp 2] 159):=rfl;have Cp:((EP s).del 0).get 2=bu (.map (yT s.wh)):=rfl;have Ra:=(R1.take Pa).take Cp;have H0:Hp k w (ie E1 (2,.map (yT s.wh))::ie E1 (0,.cells [sV s.p.code,.own 3,zB s.p.tick,zB s.p.low,zB s.p.high,zB s.p.wide,zB s.p.gn,zB s.p.top,zB s.p.least,zB s.p.part,.own 4,.own 1,.mp 2] 159)::((((EP s).del 0).del 2).rows.map (ie E1)++fz E1.F::L)):=
  Ra.out.perm (.cons _ (((cm _ _ _).append_left _).trans mu))
 generalize B1:(((EP s).del 0).del 2).rows.map (ie E1)++fz E1.F::L=rest at H0;obtain⟨hk,hs,hh⟩:=H0;cases hh with
 |cons ha jb Ic hr=>
 cases hr with
 |cons ha0 Uk aaQ HY=>
 rcases ha with⟨e,_⟩|⟨AJ,t2,r2⟩
 ·cases e
 rcases ha0 with⟨e,_⟩|⟨hd0,t0,r0⟩
 ·cases e
 simp only[fw]at r2 r0;obtain⟨bm,fy,ck,q1,q2,q3,rfl⟩:=r2;obtain⟨b,l,p1,p2,rfl⟩:=r0;have H:Hp k w (pt bm (.map fy.toArray ck)::pt b (.cells l.toArray 159)::rest):=⟨hk,_,.cons rfl jb Ic (.cons rfl Uk aaQ HY)⟩
 have aaI:l[12]? =bu (.map (bu bm)):=by
  simp only[ic,VR]at p2;obtain⟨_,_,rfl,-,_,_,rfl,-,_,_,rfl,-,_,_,rfl,-,_,_,rfl,-,_,_,rfl,-,_,_,rfl,-,_,_,rfl,-,_,_,rfl,-,_,_,rfl,-,_,_,rfl,-,_,_,rfl,-,y,_,rfl,⟨bb,sub,g1,rfl⟩,rfl⟩:=p2;rw[t2]at g1;cases g1;cases q1;rfl
 have HV:ys=[.pointer (bu ⟨b,0,bv⟩)]:=by
  simp only[yp,ic,VR]at hv;obtain⟨y,_,rfl,⟨b',oo,sub,g1,rfl⟩,rfl⟩:=hv;rw[hle.get g1]at t0;cases t0;cases p1;rfl
 subst HV;have Gn:=yGw q2;have hlen:fy.length=s.wh.length:=by simpa using congrArg aq Gn
 have xk:=yMt H (λw' H'=>⟨(H'.swap).get,H'.get⟩) aaI q3.2 q3.1 (λe he=>by
  have:e.key∈fy.map (·.key):=sv (f:=(·.key)) he
  rw[Gn]at this;obtain⟨p,_,hp⟩:=nn.1 this;exact⟨p.1,hp.symm⟩) oM
 have hdo:=mZ (P:=Z_) (f:=249) (args:= #[.pointer (bu ⟨b,0,bv⟩)]) (w:=w) (K:=λv w'=>yBo k (pt bm (.map fy.toArray ck)::pt b (.cells l.toArray 159)::rest) fy (.returned v) w') (by kernel_rfl) (xk.mono λe w' h=>by
  have h2:=h;obtain⟨a,n,c,xs,dn,rfl,-⟩:=h2;exact⟨_,rfl,h⟩)
 refine hdo.mono ?_;rintro v w' ⟨a,n,c,xs,dn,Kk,rfl,rfl,Up,H2⟩;cases Kk;obtain⟨li,e1,e2⟩:=yMn (xs:=dn.map (·.key)) (m:=s.wh.map (·.1)) (by
  have:=Up.map (·.key)
  rw[Gn]at this;rwa [wx])
 have TS:dn.length=li.length:=by simpa using congrArg aq e1
 rw[e1,TS]at H2;rw[TS];have H3:Hp k w' (ow 2 1 a li.length c (li.map λn=>ax .i64 n)::((EP s).rows.map (ie E1)++fz E1.F::L)):=by
  have h1:Hp k w' (ie E1 (2,.map (yT s.wh))::ie E1 (0,.cells [sV s.p.code,.own 3,zB s.p.tick,zB s.p.low,zB s.p.high,zB s.p.wide,zB s.p.gn,zB s.p.top,zB s.p.least,zB s.p.part,.own 4,.own 1,.mp 2] 159)::ow 2 1 a li.length c (li.map λn=>ax .i64 n)::rest):=by
   have g0:Hp k w' (pt bm (.map fy.toArray ck)::pt b (.cells l.toArray 159)::ow 2 1 a li.length c (li.map λn=>ax .i64 n)::rest):=
    H2.perm ((cm _ _ _).trans (.cons _ (.swap _ _ _)))
   have g1:=g0.imp (B:=ie E1 (2,.map (yT s.wh))) λx hx=> .inr ⟨AJ,t2,by simp only[fw];exact⟨bm,fy,ck,q1,q2,q3,hx⟩⟩
   have g2:=(g1.swap).imp (B:=ie E1 (0,.cells [sV s.p.code,.own 3,zB s.p.tick,zB s.p.low,zB s.p.high,zB s.p.wide,zB s.p.gn,zB s.p.top,zB s.p.least,zB s.p.part,.own 4,.own 1,.mp 2] 159)) λx hx=> .inr ⟨hd0,t0,by simp only[fw];exact⟨b,l,p1,p2,hx⟩⟩
   exact g2.swap
  subst B1;refine h1.perm ?_;have p0:=((uH Pa).1.map (ie E1))
  have p2:=((uH Cp).1.map (ie E1))
  have p3:=(p0.trans (p2.cons _)).append_right (fz E1.F::L);refine List.Perm.trans ?_ (p3.symm.cons _);exact(cm _ _ _).trans ((co _ (.swap _ _ _)).trans (.swap _ _ _))
 have uh:E1.le ⟨E1.F,E1.gl++[((.slice a li.length c,[]):Hd)]⟩:=Ev.le.app _;have kq:(E1.gl++[((.slice a li.length c,[]):Hd)])[(EP s).nx]? =bu (.slice a li.length c,[]):=by rw[<- R1.nx];simp
 have R2:Rel k L ⟨E1.F,E1.gl++[((.slice a li.length c,[]):Hd)]⟩ ((EP s).new (.own 2 1 (iE li))) w':=by
  refine⟨by simp[St.new,R1.nx],?_⟩;have g1:Hp k w' ((EP s).rows.map (ie E1)++(ow 2 1 a li.length c (li.map λn=>ax .i64 n)::fz E1.F::L)):=H3.perm (mu (l₁:=(EP s).rows.map (ie E1))).symm;have g2:=vD (λr x=>ie.mono uh r) g1;have g3:Hp k w' (ow 2 1 a li.length c (li.map λn=>ax .i64 n)::((EP s).rows.map (ie ⟨E1.F,E1.gl++[((.slice a li.length c,[]):Hd)]⟩)++fz E1.F::L)):=g2.perm mu;exact g3.imp λx hx=> .inr ⟨_,kq,by
   simp only[fw];exact⟨a,c,_,by rw[y9],yFd _ li,λel oT=>by obtain⟨n,_,rfl⟩:=nn.1 oT;rfl,by rw[y9];exact hx⟩⟩
 obtain⟨al,ha,Gd⟩:=Vq (y1v s li e2);obtain⟨o,o1,E3,o2,o3,o4⟩:=z0u Gd Fe (hle.trans uh) R2 (y:= .slice a li.length c) (by simp only[VR];exact⟨_,kq,_,_,_,rfl⟩);exact⟨al,ha,o,o1,E3,o2,o3,o4⟩
structure Eu where
 m:iJ
 p:fj
 B:Q_ zK
 U:List Int
@[reducible] def Eu.ok (i:Eu):Prop:=i.m.ga i.p i.B i.U/\jf i.p i.B
def Ud:gh where
 ι:=Eu
 pat:=λ_=>[.nm 0 0]
 pre:=λi=>[qX i.m]
 dp:=λi=>i.ok
 alts:=λi=>[{o:=List Int,res:=λ_=> .own 1,post:=λl=>[qX i.m,.own 2 1 (iE l)],rel:=λl=>l.Perm ((sw 0 i.B).map (·.1))}]
def As:gh:=W5 2
def Np:gh:=fp Eu (λ_=>[.nm 0 0]) (λi=>[qX i.m]) (λi=>i.ok) (λ_=> .nm 1 0) (λi=>[qX i.m,qX i.m])
structure Gt where
 m:iJ
 W:List (Int×Int)
def xS (W:List (Int×Int)):List (ba×List D):=W.map λx=>(.int .i64 x.1,[.v (.int .i64 x.2)])
def GtU (g:Gt):Nat->fq
 |0=> .cells [.nm 1 0,.mp 2] 152
 |1=>qX g.m
 |2=> .map (xS g.W)
 |_=> .gone
def ma (g:Gt):fq:= .rk Gt 3 GtU g
def jY (o:Int×ga):List D:= .v (.int .i64 o.1)::x9 o.2
@[reducible] def Rj:Nat:=115
@[reducible] def L4 (O:List (Int×ga)):fq:= .own Rj 9 (O.map jY)
def Ub:gh where
 ι:=fj
 pat:=λp=>[nv p]
 pre:=λ_=>[]
 dp:=λp=>p.small
 alts:=λp=>[{o:=Unit,res:=λ_=> .je [.nm 0 0,zB 0],post:=λ_=>[ma ⟨⟨p,nN p,[]⟩,[]⟩],rel:=λ_=>p.check=0},{o:=Unit,res:=λ_=> .je [.d (.v (.pointer bv)),zB p.check],post:=λ_=>[],rel:=λ_=>p.check≠0}]
structure MI where
 s:Int
 id:Int
 pk:Int
def UB:gh:=fp MI (λi=>[zB i.s,zB i.id,zB i.pk]) i6 (λ_=>True) (λ_=> .own 0) (λi=>[L4 [(i.s,⟨2,i.id,0,0,0,0,0,i.pk⟩)]])
structure vp where
 s:Int
 b:i4
def zT (s:Int) (b:i4):ir×Int:=if s<0\/8<=s then(Iu,1)else xU b
def Ns:gh:=fp vp (λi=>[zB i.s,ox 1 (bE i.b)]) i6 (λi=>i.b.length<=1099511627776) (λi=> .je [Dp (zT i.s i.b).1,zB (zT i.s i.b).2]) i6
structure Cy where
 g:Gt
 p:fj
 B:Q_ zK
 U:List Int
 s:Int
@[reducible] def Cy.ok (i:Cy):Prop:=i.g.m.ga i.p i.B i.U/\jf i.p i.B
def Nt:gh:=fp Cy (λi=>[.nm 0 0,zB i.s]) (λi=>[ma i.g]) (λi=>i.ok) (λi=>zB (JJ i.B i.g.W i.s)) (λi=>[ma i.g])
def YN (g:Gt):List fq:=[.cells [.nm 1 0,.mp 2] 152,qX g.m,.map (xS g.W)]
def Jz:gh:=fp Cy (λi=>[.nm 0 0,zB i.s]) (λi=>YN i.g) (λi=>i.ok) (λi=>zB (JJ i.B i.g.W i.s)) (λi=>YN i.g)
def y9g:List gu:=[{ι:=Int×Nat,du:=λj=>[(5,zB j.1),(14,zB j.2)],rows:=λ_=>[]}]
def Le:gh:=fp Cy (λ_=>[.nm 0 0]) (λi=>[ma i.g]) (λi=>i.ok) (λ_=> .nm 1 0) (λi=>[ma i.g,qX i.g.m])
structure DN where
 g:Gt
 p:fj
 B:Q_ zK
 U:List Int
 s:Int
 b:i4
 X:S1
def TI:gh where
 ι:=DN
 pat:=λi=>[.nm 0 0,zB i.s,ox 1 (bE i.b)]
 pre:=λi=>[ma i.g]
 dp:=λi=>(i.g.m.ga i.p i.B i.U/\jf i.p i.B)/\i.b.length<=1099511627776/\i.X=tQ i.p i.B i.U i.g.W i.s i.b
 alts:=λi=>[{o:=iJ,res:=λ_=> .own 1,post:=λo=>[ma ⟨o,i.X.W⟩,L4 i.X.O],rel:=λo=>o.ga i.p i.X.B i.X.U}]
structure Br where
 o:iJ
 W:List (Int×Int)
 O:List (Int×ga)
 k:Nat
def Br.rows (j:Br):List fq:=[.cells [.nm 1 0,.mp 2] 152,qX j.o,.map (xS j.W),L4 j.O]
def xKq:List gu:=[{ι:=Br,du:=λj=>[(0,.nm 0 0),(11,.own 3),(74,zB j.k)],rows:=Br.rows}]
def xIx:List (Nat×gu):=[(20,bj 36),(28,bj 50),(66,ij 14)]
def yRk (es:List (ba×List D)):Prop:=
 ∃(a:List (ba×List D)),a=es/\True/\ff (dx (es=a/\es=a/\True))
def y8s (es:List (ba×List D)):yRk es=walk Z_ ([(223,vZ 153)]) 0 ([]) ([]) [] Tryz.f162 (Tryz.f162.body.getD .skip) (As.pat es) (As.pre es) (As.alts es):=by kernel_rfl
def y9c (hG:zq Z_ ([(223,vZ 153)])) (h:∀(es:List (ba×List D)),As.dp es->yRk es):As.ok Z_ 162:=qY mixed ([(223,vZ 153)]) hG 0 (λ(es:List (ba×List D))=>[]) (λ(es:List (ba×List D))=>[]) [] func162 (by kernel_rfl) (by kernel_rfl) (by kernel_rfl) (λ_=>by kernel_rfl) (λ(es:List (ba×List D)) hc=>Eq.mp (y8s es) (h es hc))
def xEu (i:Eu):Prop:=
 ∃(ia:gz),zE ia=zE i.m.s/\ia.wh.length<=1000000/\∀(o:List Int),o.Perm (ap (λ(x:Int×Int) ↦ x.fst) ia.wh)->∃(BE:List Int),dk (sb i.m.p.code)/\dk i.m.p.tick/\dk i.m.p.low/\dk i.m.p.high/\dk i.m.p.wide/\dk i.m.p.gn/\dk i.m.p.top/\dk i.m.p.least/\dk i.m.p.part/\zE i.m.s=zE ia/\dk (zY i.m.used)/\dk (aa 1 (iE i.m.p.dt))/\dk (aa 1 (iE i.m.p.settle))/\iE BE=iE o/\BE.Perm (ap (λ(x:Int×Int) ↦ x.fst) (sw 0 i.B))
def y6q (i:Eu):Prop:=
 ∃(ia:gz),zE ia=zE i.m.s/\(ia.ez.length<=1000000/\∀(b:dq),b∈ia.ez->(b.a.du.length<=1000000/\b.a.dy.length<=1000000)/\b.fv.length<=1000000/\b.fc.length<=1000000/\b.spare.length<=1000000)/\∀(o:Unit),True->True/\(dk (sb i.m.p.code)/\True/\dk i.m.p.tick/\dk i.m.p.low/\dk i.m.p.high/\dk i.m.p.wide/\dk i.m.p.gn/\dk i.m.p.top/\dk i.m.p.least/\dk i.m.p.part/\True/\True)/\∃(mh:List (ba×List D)),mh=zY i.m.used/\True/\∀(o:Unit),True->(dk (sb i.m.p.code)/\True/\dk i.m.p.tick/\dk i.m.p.low/\dk i.m.p.high/\dk i.m.p.wide/\dk i.m.p.gn/\dk i.m.p.top/\dk i.m.p.least/\dk i.m.p.part/\True/\True)/\∃(o:Unit),dk (sb i.m.p.code)/\dk i.m.p.tick/\dk i.m.p.low/\dk i.m.p.high/\dk i.m.p.wide/\dk i.m.p.gn/\dk i.m.p.top/\dk i.m.p.least/\dk i.m.p.part/\zE i.m.s=zE ia/\zY i.m.used=mh/\dk (aa 1 (iE i.m.p.dt))/\dk (aa 1 (iE i.m.p.settle))/\dk (sb i.m.p.code)/\dk i.m.p.tick/\dk i.m.p.low/\dk i.m.p.high/\dk i.m.p.wide/\dk i.m.p.gn/\dk i.m.p.top/\dk i.m.p.least/\dk i.m.p.part/\zE i.m.s=zE ia/\zY i.m.used=mh/\dk (aa 1 (iE i.m.p.dt))/\dk (aa 1 (iE i.m.p.settle))/\True
def xFm (p:fj):Prop:=
 ∃(i:fj),sb i.code=sb p.code/\iE i.dt=iE p.dt/\i.tick=p.tick/\i.low=p.low/\i.high=p.high/\i.wide=p.wide/\i.gn=p.gn/\i.top=p.top/\i.least=p.least/\i.part=p.part/\iE i.settle=iE p.settle/\(i.code.length<=1099511627776/\i.dt.length<=1099511627776/\i.settle.length<=1099511627776)/\(∀(o:Unit),i.check=0->(∃(o:Unit),dk ((0:Int))/\ac iJ 5 yO (iJ.mk p (nN p) [])=ac iJ 5 yO (iJ.mk i (nN i) [])/\xS []=[]/\p.check=0)\/(∃(o:Unit),False))/\∀(o:Unit),i.check≠0->dp (i.check !=0) ((∃(o:Unit),False)\/(∃(o:Unit),True/\p.check=i.check/\(p.check=0->False))) ((∃(o:Unit),dk ((0:Int))/\False)\/(∃(o:Unit),False))
def xGj (i:MI):Prop:=
 ∃(o:Unit),[jY (i.s,ga.mk 2 i.id 0 0 0 0 0 i.pk)]=[[D.v (.int .i64 i.s),D.v (.int .i64 2),D.v (.int .i64 i.id),D.v (.int .i64 0),D.v (.int .i64 0),D.v (.int .i64 0),D.v (.int .i64 0),D.v (.int .i64 0),D.v (.int .i64 i.pk)]]/\True
def y9p (i:vp):Prop:=
 dp (decide (i.s<0)) (∃(o:Unit),(zT i.s i.b).fst.kind=0/\(zT i.s i.b).fst.id=0/\(zT i.s i.b).fst.inst=0/\(zT i.s i.b).fst.side=0/\(zT i.s i.b).fst.dm=0/\(zT i.s i.b).fst.dr=0/\(zT i.s i.b).fst.least=0/\(zT i.s i.b).fst.time=0/\sb (zT i.s i.b).fst.label=ByteArray.mk #[]/\(zT i.s i.b).snd=1/\True) (dp (decide (i.s>=8)) (∃(o:Unit),(zT i.s i.b).fst.kind=0/\(zT i.s i.b).fst.id=0/\(zT i.s i.b).fst.inst=0/\(zT i.s i.b).fst.side=0/\(zT i.s i.b).fst.dm=0/\(zT i.s i.b).fst.dr=0/\(zT i.s i.b).fst.least=0/\(zT i.s i.b).fst.time=0/\sb (zT i.s i.b).fst.label=ByteArray.mk #[]/\(zT i.s i.b).snd=1/\True) (∃(ia:i4),bE ia=bE i.b/\ia.length<=1099511627776/\∀(o:Unit),True->∃(o:Unit),(zT i.s i.b).fst.kind=(xU ia).fst.kind/\(zT i.s i.b).fst.id=(xU ia).fst.id/\(zT i.s i.b).fst.inst=(xU ia).fst.inst/\(zT i.s i.b).fst.side=(xU ia).fst.side/\(zT i.s i.b).fst.dm=(xU ia).fst.dm/\(zT i.s i.b).fst.dr=(xU ia).fst.dr/\(zT i.s i.b).fst.least=(xU ia).fst.least/\(zT i.s i.b).fst.time=(xU ia).fst.time/\sb (zT i.s i.b).fst.label=sb (xU ia).fst.label/\(zT i.s i.b).snd=(xU ia).snd/\True))
def zHn (a:Int×Nat) (b:Int×Nat) (c:Int×Nat->Prop) (d:Int×Nat->Nat) (e:Eu) (f:List Int) (g:Cy):Prop:=(a.snd:Int)=aj.wrap ((b.snd:Int)+1)/\c a/\d a<d b/\dk (qX e.m)/\dk (af 2 1 (iE f))/\dk (ab [V.nm 1 0,V.mp 2] (152:bc))/\dk (ae (xS g.g.W))
def yOq (i:Cy):Prop:=
 ∃(a:Eu),qX a.m=qX i.g.m/\(a.m.ga a.p a.B a.U/\jf a.p a.B)/\∀(b:List Int),b.Perm (ap (λ(x:Int×Int) ↦ x.fst) (sw 0 a.B))->∃(c:Int×Nat),c.fst=0/\(c.snd:Int)=0/\∃(d:Int×Nat->Prop),∃(e:Int×Nat->Nat),d c/\∀(f:Int×Nat),d f->dp (decide ((f.snd:Int)<((iE b).length:Int))) ((0<=(f.snd:Int)/\(f.snd:Int)<((iE b).length:Int))/\∃(g:Int),zC (iE b) (f.snd:Int).toNat 0 1=bu [dI g]/\(∀(h:ba×List D),h∈xS i.g.W->me (ax aj g) h.fst=ce)/\∃(h:Bool),∃(j:Int),(jL (ax aj g) (xS i.g.W)=bu [dI j]/\h=ce\/jL (ax aj g) (xS i.g.W)=bv/\[dI j]=[dI 0]/\h=cf)/\dp (j==i.s) (∃(k:Int×Nat),k.fst=aj.wrap (f.fst+1)/\zHn k f d e a b i) (∃(k:Int×Nat),k.fst=f.fst/\zHn k f d e a b i)) (dx (((JJ i.B i.g.W i.s):Int)=f.fst/\qX i.g.m=qX a.m/\dk (xS i.g.W)/\True))
def yZw (i:Cy):Prop:=
 ∃(ia:Eu),ac iJ 5 yO ia.m=qX i.g.m/\(ia.m.ga ia.p ia.B ia.U/\jf ia.p ia.B)/\∀(o:List Int),o.Perm (ap (λ(x:Int×Int) ↦ x.fst) (sw 0 ia.B))->∃(i0:Int×Nat),i0.fst=0/\(i0.snd:Int)=0/\∃(I:Int×Nat->Prop),∃(μ:Int×Nat->Nat),I i0/\∀(mh:Int×Nat),I mh->dp (decide ((mh.snd:Int)<((iE o).length:Int))) ((0<=(mh.snd:Int)/\(mh.snd:Int)<((iE o).length:Int))/\∃(n:Int),zC (iE o) (mh.snd:Int).toNat 0 1=bu [D.v (.int .i64 n)]/\(∀(p:ba×List D),p∈xS i.g.W->me (ax aj n) p.fst=ce)/\∃(b:Bool),∃(IM:Int),(jL (ax aj n) (xS i.g.W)=bu [D.v (.int .i64 IM)]/\b=ce\/jL (ax aj n) (xS i.g.W)=bv/\[D.v (.int .i64 IM)]=[D.v (.int .i64 0)]/\b=cf)/\dp (IM==i.s) (∃(i':Int×Nat),i'.fst=aj.wrap (mh.fst+1)/\(i'.snd:Int)=aj.wrap ((mh.snd:Int)+1)/\I i'/\μ i'<μ mh/\dk (ac iJ 5 yO ia.m)/\dk (af 2 1 (iE o))/\dk (ab [V.nm 1 0,V.mp 2] (152:bc))/\dk (ae (xS i.g.W))) (∃(i':Int×Nat),i'.fst=mh.fst/\(i'.snd:Int)=aj.wrap ((mh.snd:Int)+1)/\I i'/\μ i'<μ mh/\dk (ac iJ 5 yO ia.m)/\dk (af 2 1 (iE o))/\dk (ab [V.nm 1 0,V.mp 2] (152:bc))/\dk (ae (xS i.g.W)))) (∃(o:Unit),((JJ i.B i.g.W i.s):Int)=mh.fst/\ac iJ 5 yO i.g.m=ac iJ 5 yO ia.m/\dk (xS i.g.W)/\True)
def xGd (i:Cy):Prop:=
 ∃(ia:Eu),ac iJ 5 yO ia.m=ac iJ 5 yO i.g.m/\(ia.m.ga ia.p ia.B ia.U/\jf ia.p ia.B)/\∀(o:Unit),True->∃(o:Unit),ac iJ 5 yO i.g.m=ac iJ 5 yO ia.m/\dk (xS i.g.W)/\ac iJ 5 yO i.g.m=ac iJ 5 yO ia.m/\True
def WJ (a:Int) (b:DN) (c:Br):=(gU (ax aj a) [dI b.s] (xS c.W))
def pL (a:vp):=(D.v (ay (sb (zT a.s a.b).fst.label)))
def nI (a:vp):=(dI ((zT a.s a.b).fst.dm))
def nX (a:vp):=(dI ((zT a.s a.b).fst.least))
def nQ (a:vp):=(dI ((zT a.s a.b).fst.time))
def m9 (a:vp):=(dI ((zT a.s a.b).fst.side))
def nF (a:vp):=(dI ((zT a.s a.b).fst.kind))
def pE (a:vp):=(dI ((zT a.s a.b).fst.inst))
def nO (a:vp):=(dI ((zT a.s a.b).fst.dr))
def nM (a:vp):=(dI ((zT a.s a.b).fst.id))
def z1f (a:qz) (b:vp):Prop:=af tRp 8 (ap x9 a.X.R)=af tRp 8 (ap x9 a.X.R)/\dk (ab [V.d (nF b),V.d (nM b),V.d (pE b),V.d (m9 b),V.d (nI b),V.d (nO b),V.d (nX b),V.d (nQ b),V.d (pL b)] 47)
def z2w (a:Br) (b:qz) (c:vp):Prop:=af Rj 9 (ap jY a.O)=af Rj 9 (ap jY a.O)/\z1f b c
def z1j (a:Int->Prop) (b:Int) (c:Int) (d:Int) (e:Int) (f:Int) (g:Int) (h:Int) (j:Int) (k:Int) (l:Br) (m:DN) (n:qz) (p:vp):Prop:=a b/\dk (ab [V.d (dI c),V.d (dI d),V.d (dI e),V.d (dI f),V.d (dI g),V.d (dI h),V.d (dI j),V.d (dI k)] 99)/\dk (ab [V.nm 1 0,V.mp 2] (152:bc))/\dk (qX l.o)/\dk (ae (WJ d m l))/\z2w l n p
def z1w (a:Int->Prop) (b:Int) (c:Int) (d:Int) (e:Int) (f:Int) (g:Int) (h:Int) (j:Int) (k:Int) (l:Br) (m:qz) (n:vp):Prop:=a b/\dk (ab [V.d (dI c),V.d (dI d),V.d (dI e),V.d (dI f),V.d (dI g),V.d (dI h),V.d (dI j),V.d (dI k)] 99)/\dk (ab [V.nm 1 0,V.mp 2] (152:bc))/\dk (qX l.o)/\dk (ae (xS l.W))/\z2w l m n
def z1c (a:Br) (b:Br) (c:Int) (d:Int) (e:Int) (f:Int) (g:Int) (h:Int) (j:Int) (k:Int) (l:Int) (m:Br->Prop) (n:Br->Nat) (p:qz) (q:vp):Prop:=ap jY a.O=ap jY b.O++[[dI c,dI d,dI e,dI f,dI g,dI h,dI j,dI k,dI l]]/\m a/\n a<n b/\z1f p q
@[reducible] def Q4 (a:Bool->Prop)(b:Bool)(c:vp)(R:Prop):Prop:=a b/\ab [V.d (nF c),V.d (nM c),V.d (pE c),V.d (m9 c),V.d (nI c),V.d (nO c),V.d (nX c),V.d (nQ c),V.d (pL c)] 47=ab [V.d (nF c),V.d (nM c),V.d (pE c),V.d (m9 c),V.d (nI c),V.d (nO c),V.d (nX c),V.d (nQ c),V.d (pL c)] 47/\ab [V.nm 1 0,V.mp 2] (152:bc)=ab [V.nm 1 0,V.mp 2] (152:bc)/\R
def Vi (a:Bool->Prop) (b:Bool) (c:vp) (d:DN):Prop:=Q4 a b c (dk (qX d.g.m)/\dk (ae (xS d.g.W)))
def z3c (a:Bool->Prop) (b:vp) (c:DN):Prop:=∃(d:Bool),d=cf/\Vi a d b c
def Vv (a:DN) (b:MI):Prop:=True/\ff (∃(d:iJ),qX d=qX a.g.m/\xS a.X.W=xS a.g.W/\ap jY a.X.O=[jY (b.s,ga.mk 2 b.id 0 0 0 0 0 b.pk)]/\d.ga a.p a.X.B a.X.U)
def VF (a:vp):=(ax aj (zT a.s a.b).fst.id)
def xGk (i:DN):Prop:=
 ∃(a:vp),a.s=i.s/\bE a.b=bE i.b/\a.b.length<=1099511627776/\ff (dp ((zT a.s a.b).snd !=0) (∃(c:MI),c.s=i.s/\c.id=0/\c.pk=(zT a.s a.b).snd/\Vv i c) ((∀(c:ba×List D),c∈xS i.g.W->me (VF a) c.fst=ce)/\∃(c:Bool),∃(d:Int),(jL (VF a) (xS i.g.W)=bu [dI d]/\c=ce\/jL (VF a) (xS i.g.W)=bv/\[dI d]=[dI 0]/\c=cf)/\∃(e:Bool),∃(f:Bool->Prop),dp ((zT a.s a.b).fst.kind==1) (∃(g:Cy),g.s=i.s/\qX g.g.m=qX i.g.m/\xS g.g.W=xS i.g.W/\(g.g.m.ga g.p g.B g.U/\jf g.p g.B)/\ff (∃(j:Bool),j=decide (((JJ g.B g.g.W g.s):Int)>=64)/\Q4 f j a (qX g.g.m=qX i.g.m/\ae (xS g.g.W)=ae (xS i.g.W)))) (z3c f a i)/\∀(g:Bool),f g->dp g (∃(h:MI),h.s=i.s/\h.id=(zT a.s a.b).fst.id/\h.pk=30/\Vv i h) (∃(h:Bool),∃(j:Bool->Prop),dp ((zT a.s a.b).fst.kind !=1) (dp (!c) (∃(k:Bool),k=ce/\Vi j k a i) (∃(k:Bool),k=(d !=i.s)/\Vi j k a i)) (z3c j a i)/\∀(k:Bool),j k->dp k (∃(l:MI),l.s=i.s/\l.id=(zT a.s a.b).fst.id/\l.pk=26/\Vv i l) (∃(l:qz),l.c.kind=(zT a.s a.b).fst.kind/\l.c.id=(zT a.s a.b).fst.id/\l.c.inst=(zT a.s a.b).fst.inst/\l.c.side=(zT a.s a.b).fst.side/\l.c.dm=(zT a.s a.b).fst.dm/\l.c.dr=(zT a.s a.b).fst.dr/\l.c.least=(zT a.s a.b).fst.least/\l.c.time=(zT a.s a.b).fst.time/\sb l.c.label=sb (zT a.s a.b).fst.label/\qX l.m=qX i.g.m/\((l.m.ga l.p l.B l.U/\jf l.p l.B)/\l.c.label.length<=140737488355328/\((-9223372036854775808)<=l.c.dr/\l.c.dr<=9223372036854775807)/\l.X=Ak l.p l.B l.U l.c)/\∀(m:iJ),m.ga l.p l.X.B l.X.U->∃(n:Br),(n.k:Int)=0/\qX n.o=qX m/\xS n.W=xS i.g.W/\ap jY n.O=[]/\∃(p:Br->Prop),∃(q:Br->Nat),p n/\∀(r:Br),p r->dp (decide ((r.k:Int)<((ap x9 l.X.R).length:Int))) ((0<=(r.k:Int)/\(r.k:Int)<((ap x9 l.X.R).length:Int))/\∃(s:Int),∃(t:Int),∃(u:Int),∃(v:Int),∃(w:Int),∃(x:Int),∃(y:Int),∃(z:Int),zC (ap x9 l.X.R) (r.k:Int).toNat 0 8=bu [dI s,dI t,dI u,dI v,dI w,dI x,dI y,dI z]/\dp (s==1) ((∀(lk:ba×List D),lk∈xS r.W->me (ax aj t) lk.fst=ce)/\(∀(lk:ba×List D),lk∈gU (ax aj t) [dI i.s] (xS r.W)->me (ax aj t) lk.fst=ce)/\∃(lk:Bool),∃(my:Int),(jL (ax aj t) (WJ t i r)=bu [dI my]/\lk=ce\/jL (ax aj t) (WJ t i r)=bv/\[dI my]=[dI 0]/\lk=cf)/\∃(iH:Int),∃(oR:Int->Prop),dp (s==2) (∃(jl:Int),jl=i.s/\z1j oR jl s t u v w x y z r i l a) (∃(jl:Int),jl=my/\z1j oR jl s t u v w x y z r i l a)/\∀(jl:Int),oR jl->((ap jY r.O).length+1)*(72:Nat)<=(140737488355328:Nat)/\∃(sy:Br),(sy.k:Int)=aj.wrap ((r.k:Int)+1)/\qX sy.o=qX r.o/\xS sy.W=gU (ax aj t) [dI i.s] (xS r.W)/\z1c sy r jl s t u v w x y z p q l a) ((∀(lk:ba×List D),lk∈xS r.W->me (ax aj t) lk.fst=ce)/\∃(lk:Bool),∃(my:Int),(jL (ax aj t) (xS r.W)=bu [dI my]/\lk=ce\/jL (ax aj t) (xS r.W)=bv/\[dI my]=[dI 0]/\lk=cf)/\∃(iH:Int),∃(oR:Int->Prop),dp (s==2) (∃(jl:Int),jl=i.s/\z1w oR jl s t u v w x y z r l a) (∃(jl:Int),jl=my/\z1w oR jl s t u v w x y z r l a)/\∀(jl:Int),oR jl->((ap jY r.O).length+1)*(72:Nat)<=(140737488355328:Nat)/\∃(sy:Br),(sy.k:Int)=aj.wrap ((r.k:Int)+1)/\qX sy.o=qX r.o/\xS sy.W=xS r.W/\z1c sy r jl s t u v w x y z p q l a)) (∃(s:iJ),qX s=qX r.o/\xS i.X.W=xS r.W/\ap jY i.X.O=ap jY r.O/\s.ga i.p i.X.B i.X.U)))))
def y1a:As.ok Z_ 162:=y9c (dw (WI _) fk) λes _=>by
 unfold yRk ff dx;refine⟨es,?_⟩;exact kp
def y8d {s:gz} {p:fj} {B:Q_ zK} (h:s.ga p B):s.wh.length=ET B:=by rw[ET];exact h.wh.length_eq
def yCw:∀{B:Q_ zK} (n:Nat),(∀L∈B,L.length<=250)->(sw n B).length<=250*B.length
 |[],_,_=>jx _
 |L::B,n,h=>by
  have:=yCw (B:=B) (n+1) λx hx=>h x (jj _ hx)
  have:=h L iY;rw[sw,ix,ib,iG];omega
def yWz:Ud.ok Z_ 204:=gy (V:=xEu) mixed (dw yPs fk) 0 i6 i6 [0] func204 λ(i:Eu) h=>by
 obtain⟨⟨ep,hR,eu⟩,hB⟩:i.m.ga i.p i.B i.U/\jf i.p i.B:=h;have hl:i.m.s.wh.length<=1000000:=by
  have BH:=hR.wf hB;have h1:=yCw (B:=i.B) 0 λL hL=>by
   obtain⟨k,hk⟩:=BB.1 hL;exact(BH.od k L hk).2.2
  have:=hB.bl;have:=y8 i.p;rw[y8d hR,ET];omega
 exact⟨i.m.s,rfl,hl,λo ho=>⟨o,iB (iP ⟨rfl,gj,rfl,ho.trans (hR.wh.map _)⟩)⟩⟩
def z4n:Np.ok Z_ 84:=gy (V:=y6q) mixed (dw P5 (dw y1a fk)) 0 i6 i6 [0] func84 λ(i:Eu) h=>by
 obtain⟨⟨ep,hR,eu⟩,hB⟩:i.m.ga i.p i.B i.U/\jf i.p i.B:=h;have hs:=hR.small hB;exact⟨i.m.s,rfl,hs,λ_ _=>⟨Y_,gj,zY i.m.used,rfl,Y_,λ_ _=>⟨gj,(),gj⟩⟩⟩
def y0t:Ub.ok Z_ 118:=gy (V:=xFm) mixed (dw yZp fk) 0 i6 i6 [] func118 λ(p:fj) h=>by
 refine⟨p,oO (iP ⟨rfl,h,λ_ c=> .inl ⟨(),iP c⟩,λ_ c=>W_ (λe=> .inr ⟨(),Y_,rfl,c⟩) (λe=>absurd (i9 e) c)⟩)⟩
def y0x:UB.ok Z_ 130:=gy (V:=xGj) mixed fk 0 i6 i6 [] func130 λ(i:MI) h=>⟨(),rfl,Y_⟩
def z6r:Ns.ok Z_ 129:=gy (V:=y9p) mixed (dw yYu fk) 0 i6 i6 [] func129 λ(i:vp) h=>by
 have h:i.b.length<=1099511627776:=h;have TG:i.s<0\/8<=i.s->zT i.s i.b=(Iu,1):=λe=>fh e
 refine zH (λe=> ?_) (λe=>zH (λe2=> ?_) (λe2=> ?_))
 ·rw[TG (.inl e)];exact⟨(),oO (iP Y_)⟩
 ·rw[TG (.inr e2)];exact⟨(),oO (iP Y_)⟩
 ·have hg:zT i.s i.b=xU i.b:=eg oM;rw[hg];exact⟨i.b,rfl,h,λ_ _=>⟨(),oO (iP Y_)⟩⟩
def P9 (id:Int) (W:List (Int×Int)):∀p∈xS W,me (ax aj id) p.1=ce:=by
 intro p hp;obtain⟨k,_,rfl⟩:=nn.1 hp;rfl
def z5o (id s:Int):∀W:List (Int×Int),gU (ax aj id) [D.v (.int .i64 s)] (xS W)=xS (JV W id s)
 |[]=>rfl
 |x::W=>by
  have ih:=z5o id s W;have e:mF (ax aj id) (ax aj x.1)=decide (id=x.1):=by simp[mF,xm]
  show(bif mF (ax aj id) (ax aj x.1)then(ax aj x.1,[D.v (.int .i64 s)])::xS W else(ax aj x.1,[D.v (.int .i64 x.2)])::gU (ax aj id) [D.v (.int .i64 s)] (xS W))=_;rw[e,ih,JV];by_cases c:id=x.1
  ·rw[jt c,cond_true,fh c];rfl
  ·rw[ju c,cond_false,eg c];rfl
def PL (id:Int):∀W:List (Int×Int),jL (ax aj id) (xS W)=bu [D.v (.int .i64 (cC W id).1)]/\(cC W id).2=ce\/jL (ax aj id) (xS W)=bv/\[D.v (.int .i64 (cC W id).1)]=[D.v (.int .i64 0)]/\(cC W id).2=cf
 |[]=> .inr ⟨rfl,rfl,rfl⟩
 |x::W=>by
  have ih:=PL id W;have e:mF (ax aj id) (ax aj x.1)=decide (id=x.1):=by simp[mF,xm]
  have e2:jL (ax aj id) (xS (x::W))=bif mF (ax aj id) (ax aj x.1)then bu [D.v (.int .i64 x.2)]else jL (ax aj id) (xS W):=rfl
  rw[e2,e,yQq];by_cases c:id=x.1
  ·rw[jt c,cond_true,fh c];exact .inl ⟨rfl,rfl⟩
  ·rw[ju c,cond_false,eg c];exact ih
def JA:Le.ok Z_ 28:=gy (V:=xGd) mixed (dw z4n fk) 0 i6 i6 [0] func28 λ(i:Cy) h=>⟨⟨i.g.m,i.p,i.B,i.U⟩,rfl,h,λ_ _=>⟨(),iP Y_⟩⟩
def xBn {l:List Int} {k:Nat} {n:Int} {f:Int->Bool} (h:l[k]? =bu n):(l.take (k+1)).countP f=(l.take k).countP f+if f n then 1 else 0:=by
 rw[qf,h,List.countP_append];simp[List.countP_cons]
def yNt (W:List (Int×Int)) (B:Q_ zK) (s:Int) (l:List Int) (h:l.Perm ((sw 0 B).map (·.1))):(JJ B W s:Int)=l.countP λx=>decide ((cC W x).1=s):=by
 rw[h.countP_eq,List.countP_map];rfl
def yKn {l:List Int} {W:List (Int×Int)} {s:Int} (hl:l.length<=1000000):∀{k:Nat} {n:Int},l[k]? =bu n->aj.wrap (((l.take k).countP λx=>decide ((cC W x).1=s):Nat)+1:Int)=((l.take k).countP λx=>decide ((cC W x).1=s):Nat)+1:=by
 intro k n h;have:=List.countP_le_length (p:=λx=>decide ((cC W x).1=s)) (l:=l.take k);rw[nr]at this;exact iw oM
def yYf {p:fj} {B:Q_ zK} (h:rz p B) {l:List Int} (hl:l.Perm ((sw 0 B).map (·.1))):l.length<=1000000:=by
 have h1:=yCw (B:=B) 0 λL hL=>by
  obtain⟨k,hk⟩:=BB.1 hL;exact(h.od k L hk).2.2
 have:=h.ok.bl;have:=y8 p;have:=hl.length_eq;rw[ib]at this;omega
def y5m (i:Cy) (h:Nt.dp i):yOq i:=by
 obtain⟨⟨m,W⟩,p,B,U,s⟩:=i;have h:m.ga p B U/\jf p B:=h;unfold yOq dx zHn dI;dsimp only;refine⟨⟨m,p,B,U⟩,rfl,h,λl hl=> ?_⟩;have hle:=yYf (h.1.s.wf h.2) hl;refine⟨(0,0),rfl,rfl,λj=>j.2<=l.length/\j.1=((l.take j.2).countP λx=>decide ((cC W x).1=s):Nat),λj=>l.length-j.2,⟨ml _,rfl⟩,?_⟩;rintro⟨n,k⟩ ⟨j1,j2⟩;dsimp only at j1 j2 ⊢;subst j2;refine zH (λe=> ?_) (λe=> ?_)
 ·rw[y9]at e;obtain⟨x,hx⟩:=zZ (l:=l) (i:=k) oM;have hc:=xBn (f:=λx=>decide ((cC W x).1=s)) hx;refine⟨⟨oM,by rw[y9];exact e⟩,x,jz hx (by simp) rfl,P9 _ _,_,_,PL x W,W_ (λe2=>⟨(_,k+1),(yKn hle hx).symm,pf oM,⟨Z9,?_⟩,Z9,gj⟩) (λe2=>⟨(_,k+1),rfl,pf oM,⟨Z9,?_⟩,Z9,gj⟩)⟩
  ·have e2:(cC W x).1=s:=i9 e2
   dsimp only;rw[hc,jt e2];rfl
  ·have e2:¬(cC W x).1=s:=i9 e2
   dsimp only;rw[hc,ju e2];rfl
 ·rw[y9]at e;have hk:l.take k=l:=ng oM;rw[hk];exact⟨(),yNt W B s l hl,rfl,rfl,Y_⟩
def yLq:Jz.ok Z_ 131:=gy (V:=yZw) mixed (dw yWz fk) 0 i6 (λ_=>y9g) [] func131 λ(i:Cy) h=>y5m i h
def yMj {b:i4} (h:(xU b).2=0):(xU b).1.right=0:=by
 rw[xU]at h ⊢;dsimp only at h ⊢;split at h
 ·cases h
 ·rename_i h1;rw[eg h1];split at h
  ·cases h
  ·rename_i h2;rw[eg h2];split at h
   ·rename_i h3;exact absurd h h3
   ·rename_i h3;rw[eg h3];simpa using h3
def Zp (n:Int):gx (aj.wrap n):=by
 rw[am];simp only[IntKind.bits,ao];simp;omega
def XL:gx 0:=⟨Z8,Z8⟩
def y8p (k id:Int) (r:RB):gx (qJ k id r).1.dr:=by
 rw[qJ];split
 ·exact Zp _
 split
 ·exact Zp _
 split
 ·exact Zp _
 ·exact XL
def y0n (b:i4):gx (xU b).1.dr:=by
 rw[xU];dsimp only;split
 ·exact XL
 split
 ·exact XL
 split
 ·exact XL
 ·exact y8p _ _ _
def y2e {p:fj} {B:Q_ zK} (h:rz p B) (U:List Int) (c:ir):(Ak p B U c).R.length<=1503000003:=by
 have Aj:=h.ok.bl;have IU:∀w,(rT c w).length<=1503000003:=λw=>by simp[rT]
 rw[Ak];split
 ·exact IU _
 rename_i hr;have hr:c.right=0:=i9 hr
 split
 ·rename_i hk;obtain⟨_,hq,_⟩:=zZo hr hk;rw[nC];split
  ·exact IU _
  rename_i hp;have hp:p.dm c.inst c.dm=0:=i9 hp
  have xd:=Zt hp;split
  ·exact IU _
  split
  ·exact IU _
  split
  ·exact IU _
  split
  ·exact IU _
  have:=zGd h U (c:=c) oM hq;omega
 rename_i hk;split
 ·exact IU _
 rename_i hf;have hf:(z8 B c.id).2.2=ce:=i9 hf
 have hf:z8 B c.id=((z8 B c.id).1,(z8 B c.id).2.1,ce):=by rw[<- hf]
 obtain⟨xd,_⟩:=z1u h hf;split
 ·rename_i h4;have hq:=zNq hr hk oM;rw[fJ];split
  ·exact IU _
  split
  ·simp[mA]
  split
  ·exact IU _
  have:=zGd (h.take c.id (z8 B c.id).2.1.dr) U (c:=⟨1,c.id,(z8 B c.id).1,(z8 B c.id).2.1.side,c.dm,c.dr,0,1,[]⟩) (by dsimp only;rw[sL];exact xd) hq;dsimp only;rw[ix];have e1:(gR B U c.id (z8 B c.id).1 (z8 B c.id).2.1).R.length=1:=rfl;have e2:(gR B U c.id (z8 B c.id).1 (z8 B c.id).2.1).B=(iR B c.id (z8 B c.id).2.1.dr).1:=rfl;rw[e1,e2];omega
 split
 ·simp[gR]
 ·simp[mA]
def y1k {b:i4} (h:b.length<=1099511627776):(xU b).1.label.length<=255:=by
 have h0:(RB.mk b cf).ok:=h;rw[xU];dsimp only;split
 ·exact ml _
 split
 ·exact ml _
 split
 ·exact ml _
 ·exact(y4d (kT (uR h0))).2
def zWm (p:fj) (B:Q_ zK) (U:List Int) (W:List (Int×Int)) (s:Int) (b:i4):tQ p B U W s b=if(zT s b).2≠0 then Og B U W s 0 (zT s b).2 else Ls p B U W s (zT s b).1:=by
 rw[tQ,zT];by_cases c:s<0\/8<=s
 ·rw[fh c,fh c];rfl
 ·rw[eg c,eg c]
def y9e {s:Int} {b:i4} (hb:b.length<=1099511627776) (h:(zT s b).2=0):(zT s b).1.right=0/\gx (zT s b).1.dr/\(zT s b).1.label.length<=255:=by
 rw[zT]at h ⊢;split at h
 ·cases h
 ·rename_i c;rw[eg c];exact⟨yMj h,y0n b,y1k hb⟩
def wjN {j:Nat} (h:(j:Int)<=9223372036854775806):((j+1:Nat):Int)=aj.wrap ((j:Int)+1):=by rw[iw X_];rfl
def xJj (i:DN) (h:TI.dp i):xGk i:=by
 obtain⟨⟨m,W⟩,p,B,U,s,b,X⟩:=i;obtain⟨My,hb,hX⟩:(m.ga p B U/\jf p B)/\b.length<=1099511627776/\X=tQ p B U W s b:=h;rw[zWm]at hX;have hc:= @y9e s b hb;unfold xGk Q4 ff z3c Vi Q4 z1c z1w z1j z2w z1f nM nO pE nF m9 nQ nX nI VF pL WJ Vv ff dI;dsimp only;generalize OZ:zT s b=y at hX hc;obtain⟨c,pk⟩:=y;dsimp only at hX hc;refine⟨⟨s,b⟩,rfl,rfl,hb,λ_ _=> ?_⟩;dsimp only;rw[OZ];dsimp only;refine W_ (λe=> ?_) (λe=>⟨P9 _ _,_,_,PL c.id W,ce,λx=>x=decide (c.kind=1/\64<=JJ B W s),W_ (λe1=>⟨⟨⟨m,W⟩,p,B,U,s⟩,rfl,rfl,rfl,My,λ_ _=>⟨_,rfl,?_,gj⟩⟩) (λe1=>⟨cf,rfl,?_,gj⟩),?_⟩)
 ·have e:pk≠0:=i9 e
  rw[fh e]at hX;subst hX;exact⟨⟨s,0,pk⟩,rfl,rfl,rfl,Y_,λ_ _=>⟨m,iP My.1⟩⟩
 ·have e1:c.kind=1:=i9 e1
  dsimp only;rw[decide_eq_decide];exact⟨λx=>⟨e1,oM⟩,λx=>by have:=x.2;omega⟩
 ·have e1:¬c.kind=1:=i9 e1
  exact(ju λx=>e1 x.1).symm
 have e:pk=0:=i9 e
 obtain⟨hr,hq,aaH⟩:=hc e;rw[eg (by rw[e];decide),Ls]at hX;rintro _ rfl;refine zH (λe1=> ?_) (λe1=> ?_)
 ·rw[fh e1]at hX;subst hX;exact⟨⟨s,c.id,30⟩,rfl,rfl,rfl,Y_,λ_ _=>⟨m,iP My.1⟩⟩
 rw[eg e1]at hX;refine⟨ce,λx=>x=decide (c.kind≠1/\((cC W c.id).2=cf\/(cC W c.id).1≠s)),W_ (λe2=>W_ (λe3=>⟨ce,rfl,?_,gj⟩) (λe3=>⟨_,rfl,?_,gj⟩)) (λe2=>⟨cf,rfl,?_,gj⟩),?_⟩
 ·have e2:¬c.kind=1:=i9 e2
  exact(jt ⟨e2,.inl (i9 e3)⟩).symm
 ·have e2:¬c.kind=1:=i9 e2
  have e3:(cC W c.id).2=ce:=i9 e3
  show((cC W c.id).1 !=s)=decide (c.kind≠1/\((cC W c.id).2=cf\/(cC W c.id).1≠s));rw[CK,ua,bne_iff_ne];exact⟨λx=>⟨e2,.inr x⟩,λx=>x.2.resolve_left (by rw[e3];decide)⟩
 ·have e2:c.kind=1:=i9 e2
  exact(ju λx=>x.1 e2).symm
 rintro _ rfl;refine zH (λe2=> ?_) (λe2=> ?_)
 ·rw[fh e2]at hX;subst hX;exact⟨⟨s,c.id,26⟩,rfl,rfl,rfl,Y_,λ_ _=>⟨m,iP My.1⟩⟩
 rw[eg e2]at hX;have hlen:=y2e (My.1.s.wf My.2) U c;refine⟨⟨m,p,B,U,c,Ak p B U c⟩,nu (iP ⟨rfl,⟨My,tz aaH Z8,hq,rfl⟩,λo ho=> ?_⟩)⟩;dsimp only at ho ⊢;generalize Ak p B U c=Y at hX ho hlen ⊢;obtain⟨YB,YU,R⟩:=Y;dsimp only at hX ho hlen ⊢;subst hX;have e4:(R.map x9).length=R.length:=ib ..;refine⟨⟨o,W,[],0⟩,iP ⟨rfl,λj=>j.o=o/\j.k<=R.length/\j.O.length=j.k/\(FH s W R).1=(FH s j.W (R.drop j.k)).1/\(FH s W R).2=j.O++(FH s j.W (R.drop j.k)).2,λj=>R.length-j.k,⟨rfl,ml _,rfl,rfl,rfl⟩,?_⟩⟩;rintro⟨o',W',O,k⟩ ⟨j1,j2,j3,j4,j5⟩;dsimp only at j1 j2 j3 j4 j5 ⊢;subst j1;have e5:(O.map jY).length=O.length:=ib ..;refine zH (λe6=> ?_) (λe6=> ?_)
 ·obtain⟨r,oy⟩:=zZ (l:=R) (i:=k) oM;have hd:R.drop k=r::R.drop (k+1):=by rw[CN X_,(jk.1 oy).2]
  rw[hd,FH]at j4 j5;dsimp only at j4 j5;refine⟨⟨oM,e6⟩,r.kind,r.id,r.inst,r.side,r.dm,r.dr,r.left,r.pk,jz oy (by simp[x9]) rfl,W_ (λe7=>⟨P9 _ _,?_⟩) (λe7=>⟨P9 _ _,_,_,PL r.id W',?_⟩)⟩
  ·have e7:r.kind=1:=i9 e7
   rw[z5o];rw[fh e7]at j4 j5;refine⟨P9 _ _,_,_,PL r.id (JV W' r.id s),0,λx=>x=if r.kind=2 then s else(cC (JV W' r.id s) r.id).1,W_ (λe8=>⟨_,rfl,(fh (i9 e8)).symm,gj⟩) (λe8=>⟨_,rfl,(eg (i9 e8)).symm,gj⟩),?_⟩;rintro _ rfl;exact⟨oM,⟨o',JV W' r.id s,O++[(if r.kind=2 then s else(cC (JV W' r.id s) r.id).1,r)],k+1⟩,wjN oM,rfl,rfl,by rw[jh];rfl,⟨rfl,Z9,by rw[ix];dsimp only;rw[j3];rfl,j4,by rw[j5];simp⟩,Z9,gj⟩
  ·have e7:¬r.kind=1:=i9 e7
   rw[eg e7]at j4 j5;refine⟨0,λx=>x=if r.kind=2 then s else(cC W' r.id).1,W_ (λe8=>⟨_,rfl,(fh (i9 e8)).symm,gj⟩) (λe8=>⟨_,rfl,(eg (i9 e8)).symm,gj⟩),?_⟩;rintro _ rfl;exact⟨oM,⟨o',W',O++[(if r.kind=2 then s else(cC W' r.id).1,r)],k+1⟩,wjN oM,rfl,rfl,by rw[jh];rfl,⟨rfl,Z9,by rw[ix];dsimp only;rw[j3];rfl,j4,by rw[j5];simp⟩,Z9,gj⟩
 ·have hk:R.drop k=[]:=List.drop_of_length_le oM;rw[hk,FH]at j4 j5;dsimp only at j4 j5;rw[oQ]at j5;rw[j4,j5];exact⟨o',iP ho⟩
def yWa:TI.ok Z_ 56:=gy mixed (dw z6r (dw y0x (dw yLq (dw xFs fk)))) 0 (λ_=>xIx) (λ_=>xKq) [0] func56 xJj
@[reducible] def xKk (v:Vw):fq:= .own 138 10 (v.map zA)
@[reducible] def dW (v:Vw):fq:= .kr 10 (v.map zA)
def GO:gh:=fp Fu (λi=>[nv i.p,.nm 0 0]) (λi=>[zE i.s]) (λi=>i.s.ga i.p i.B/\jf i.p i.B) (λ_=> .agg [.own 1]) (λi=>[zE i.s,xKk (yH i.p i.B)])
def UC:gh:=fp vp (λi=>[.nm 0 0,zB i.s,ox 1 (bE i.b)]) (λ_=>[.gone]) (λi=>i.b.length<=1099511627776) (λi=>zB (zT i.s i.b).2) (λ_=>[.gone])
def Nu:gh:=fp Gt (λ_=>[.nm 0 0]) (λg=>YN g) (λ_=>True) (λ_=> .nm 1 0) (λg=>YN g)
def Nl:gh:=fp iJ (λ_=>[.nm 0 0]) (λm=>Cg m) (λ_=>True) (λ_=> .nm 1 0) (λm=>Cg m)
structure En where
 p:fj
 v:Vw
 q:Int
 R:Q_ UInt8
@[reducible] def Ly:Nat:=110
def MD (e:En) (r l:Nat):fq:= .cells [sV e.p.code,.own 5,zB e.p.tick,zB e.p.low,zB e.p.high,zB e.p.wide,zB e.p.gn,zB e.p.top,zB e.p.least,zB e.p.part,.own 6,.nm 1 0,.nm 2 0,.own l,zB e.q,.own r] Ly
structure Es where
 B:Q_ zK
 U:List Int
 W:List (Int×Int)
 q:Int
 R:Q_ UInt8
def Es.en (x:Es) (p:fj):En:=⟨p,yH p x.B,x.q,x.R⟩
def A7 (s:Int) (b:i4):i4:=iZ s::b
def Es.X (x:Es) (p:fj) (s:Int) (b:i4):S1:=tQ p x.B x.U x.W s b
def Es.M (x:Es) (p:fj) (s:Int) (b:i4):List VM:=xN 0 (yH p x.B) (yH p (x.X p s b).B)
def Es.ed (x:Es) (p:fj) (s:Int) (b:i4):Es:=⟨(x.X p s b).B,(x.X p s b).U,(x.X p s b).W,x.q+(x.M p s b).length,x.R++[A7 s b]⟩
structure yi where
 o:iJ
 x:Es
 p:fj
 s:Int
 b:i4
def yi.g (i:yi):Gt:=⟨i.o,i.x.W⟩
@[reducible] def yi.ok (i:yi):Prop:=(i.o.ga i.p i.x.B i.x.U/\jf i.p i.x.B)/\i.b.length<=1048576/\(0<=i.s/\i.s<8)/\(0<=i.x.q/\i.x.q<=1000000000000000000)/\i.x.R.length<=1000000
def yi.Y (i:yi):Es:=i.x.ed i.p i.s i.b
def yi.N (i:yi):List gi:=jX i.x.q (i.x.M i.p i.s i.b)
def yi.O (i:yi):List (Int×ga):=(i.x.X i.p i.s i.b).O
def yi.rows (i:yi):List fq:=[MD (i.x.en i.p) 4 7,.gone,ma i.g,.gone,HR i.x.R,.kr 1 (iE i.p.dt),.kr 1 (iE i.p.settle),dW (yH i.p i.x.B)]
def edC:gh where
 ι:=yi
 pat:=λi=>[.nm 0 0,zB i.s,ox 1 (bE i.b)]
 pre:=λi=>i.rows
 dp:=λi=>i.ok
 alts:=λi=>[{o:=iJ,res:=λ_=> .agg [.own 10,.own 11],post:=λo=>[MD (i.Y.en i.p) 8 9,.gone,ma ⟨o,i.Y.W⟩,.gone,.gone,.kr 1 (iE i.p.dt),.kr 1 (iE i.p.settle),.gone,HR i.Y.R,dW (yH i.p i.Y.B),L4 i.O,tF i.N],rel:=λo=>o.ga i.p i.Y.B i.Y.U}]
def yOz (i:Fu):Prop:=
 ∃(a:fj),Qb a i.p ((zV a)/\ff (dp (a.check !=0) (dx (dk (zE i.s)/\ap zA (yH i.p i.B)=[]/\True)) (∃(c:gz),zE c=zE i.s/\(gY c)/\ff (∃(e:fj),Qb e i.p ((zV e)/\ff (∃(g:Nat),(g:Int)=0/\ap zA (gO g i)=[]/\ap yC (ap qC i.B)=ap yC c.fm/\∃(h:Nat->Prop),∃(j:Nat->Nat),h g/\∀(k:Nat),h k->dp (decide ((k:Int)<(e.count:Int))) (U9 k c i h j) (dx (zE i.s=zE c/\ap zA (yH i.p i.B)=ap zA (gO k i)/\True))))))))
def xHi (i:vp):Prop:=
 ∃(ia:vp),ia.s=i.s/\bE ia.b=bE i.b/\ia.b.length<=1099511627776/\∀(o:Unit),True->∃(o:Unit),(zT i.s i.b).snd=(zT ia.s ia.b).snd/\True
def xAv (g:Gt):Prop:=
 ∃(o:Unit),ac iJ 5 yO g.m=qX g.m/\dk (xS g.W)/\True
def y7q (m:iJ):Prop:=
 ∃(o:Unit),dk (sb m.p.code)/\dk m.p.tick/\dk m.p.low/\dk m.p.high/\dk m.p.wide/\dk m.p.gn/\dk m.p.top/\dk m.p.least/\dk m.p.part/\zE m.s=yO m 1/\dk (zY m.used)/\aa 1 (iE m.p.dt)=yO m 3/\aa 1 (iE m.p.settle)=yO m 4/\True
def Od (a:yi):Prop:=Ql a.p (True)
def Ob (a:yi):=(ap zA (yH a.p (a.x.X a.p a.s a.b).B))
def z9f (a:yi) (b:iJ) (c:Gt) (d:Q_ UInt8) (e:DN):Prop:=∃(f:Fu),Qb f.p a.p (zE f.s=zE b.s/\(f.s.ga f.p f.B/\jf f.p f.B)/\ff (∃(h:KD),ap zA h.v=ap zA (yH a.p a.x.B)/\ap zA h.w=ap zA (yH f.p f.B)/\h.seq=a.x.q/\(aq h.v=aq h.w/\((-4000000000000000000)<=h.seq/\h.seq<=4000000000000000000)/\h.v.oP<=100000000/\h.w.oP<=100000000/\aq h.v<=1000000)/\ff (∃(k:iJ),Qc a.p (a.x.q+((a.x.M a.p a.s a.b).length:Int)=aj.wrap (a.x.q+((ap zU (jX h.seq (xN 0 h.v h.w))).length:Int))/\Qa k.p b.p (zE k.s=zE f.s/\QD k b (xS (a.x.X a.p a.s a.b).W=xS c.W/\vt a.p (ap kj (a.x.R++[A7 a.s a.b])=ap kj a.x.R++[[D.ro 1 (bE d.flatten)]]/\aa 10 (Ob a)=aa 10 (ap zA (yH f.p f.B))/\ap jY a.O=ap jY e.X.O/\ap zU a.N=ap zU (jX h.seq (xN 0 h.v h.w))/\k.ga a.p (a.x.X a.p a.s a.b).B (a.x.X a.p a.s a.b).U)))))))
def z9q (a:yi) (b:iJ) (c:Gt) (d:Q_ UInt8) (e:DN):Prop:=(Od a)/\z9f a b c d e
def z8x (a:yi) (b:Gt) (c:Q_ UInt8) (d:DN):Prop:=(Od a)/\∃(e:iJ),Qa e.p b.m.p (zE e.s=zE b.m.s/\QD e b.m (True/\ff (z9q a e b c d)))
def UW (a:DN):Prop:=(a.g.m.ga a.p a.B a.U/\jf a.p a.B)/\a.b.length<=1099511627776/\a.X=tQ a.p a.B a.U a.g.W a.s a.b
def Ved (i:yi):Prop:=
 True/\True/\∃(a:Q_ UInt8),ap kj a=[[D.ro 1 [[D.v (.int .u8 (ak.wrap i.s))]]],[D.ro 1 (bE i.b)]]/\(1<=a.flatten.length/\a.flatten.length<=1099511627776/\a.length<=1000)/\ff (True/\True/\((ap kj i.x.R).length+1)*(24:Nat)<=(140737488355328:Nat)/\∃(c:DN),c.s=i.s/\bE c.b=bE i.b/\ma c.g=ma i.g/\(UW c)/\∀(d:iJ),d.ga c.p c.X.B c.X.U->(∃(e:Gt),qX e.m=qX d/\xS e.W=xS c.X.W/\True/\ff ((Od i)/\(∃(g:iJ),Qa g.p e.m.p (zE g.s=zE e.m.s/\QD g e.m (True/\ff ((Od i)/\(z9f i g e a c)/\z9q i g e a c))))/\z8x i e a c))/\True/\(Od i)/\∃(e:Gt),qX e.m=qX d/\xS e.W=xS c.X.W/\True/\ff (z8x i e a c))
def y2c {n lo hi:Int} (h:lo<=hi):lo<=zG n lo hi/\zG n lo hi<=hi:=by
 have h1:=Ox n (show hi-lo+1≠0 by omega);have h2:=RJ n (show 0<hi-lo+1 by omega);rw[zG];constructor<;>omega
open Classical in
open Classical in
def xEz {p:fj} {v w:Vw} (hv:xg p v) (hw:xg p w):v.length=w.length/\Vw.oP v<=100000000/\Vw.oP w<=100000000/\v.length<=1000000:=by
 have h1:=yUx hv;have h2:=yUx hw;have h3:=hv.r.2;have h4:=hw.r.2;exact⟨by rw[hv.len,hw.len],oM,oM,oM⟩
def xCd (i:Fu) (h:GO.dp i):yOz i:=by
 obtain⟨hR,hB⟩:i.s.ga i.p i.B/\jf i.p i.B:=h;have xe:=y8 i.p;have Aj:=hB.bl;have BW:i.s.oe:=hR.Fm oM;have sx:vW (i.B.map qC):=hB.fm;have O7:=dO i.p i.B;unfold yOz Qb ff dx gY U9 Qb ff gV bK kJ ph gK dE ot qL y7 gO zV ph dI;refine⟨i.p,oO (iP ⟨rfl,hB.ps,λ_ _=>W_ (λc=>absurd hB.pc (i9 c)) (λ_=>⟨i.s,rfl,BW,λ_ _=>⟨i.p,oO (iP ⟨rfl,hB.ps,λ_ _=>⟨0,rfl,rfl,by rw[hR.fm],λj=>j<=i.p.count,λj=>i.p.count-j,ml _,λj hj=>zH (λgr=> ?_) (λgr=> ?_)⟩⟩)⟩⟩)⟩)⟩
 ·have gr:j<i.p.count:=X_
  have tf:CW i.B (j:Int)=i.B.getD j []:=by rw[CW,eg X_,ov]
  have hq:∀s,(xR ⟨i.p,i.B.map qC,j⟩ s).length<=1000000:=λs=>tz (zBs _ _) Z8
  refine⟨⟨Z8,Z8⟩,1,rfl,⟨i.s,i.p,i.B,j,cf⟩,rfl,rfl,rfl,⟨hR,Z9⟩,λ_ _=>⟨⟨⟨i.p,i.B.map qC,j⟩,cf⟩,iB (tr ⟨rfl,⟨hB.ps,sx⟩,λ_ _=>⟨⟨xR ⟨i.p,i.B.map qC,j⟩ 1,1⟩,rfl,rfl,⟨.inl rfl,hq 1⟩,λ_ _=>⟨⟨Z8,Z8⟩,2,rfl,⟨i.s,i.p,i.B,j,ce⟩,rfl,rfl,rfl,⟨hR,Z9⟩,λ_ _=>⟨⟨⟨i.p,i.B.map qC,j⟩,ce⟩,iB (tr ⟨rfl,⟨hB.ps,sx⟩,λ_ _=>⟨⟨xR ⟨i.p,i.B.map qC,j⟩ 2,2⟩,rfl,rfl,⟨.inr rfl,hq 2⟩,λ_ _=>⟨?_,j+1,pf oM,?_,rfl,Z9,Z9,rfl,gj⟩⟩⟩)⟩⟩⟩⟩)⟩⟩
  ·rw[ib,nr];omega
  ·rw[qf,zYu i.p i.B gr,AD,jh,jg,Bz];dsimp only;rw[tf];rfl
 ·have hj:j<=i.p.count:=hj;rw[ng X_];exact⟨(),gj⟩
def z5p:GO.ok Z_ 26:=gy mixed (dw pC (dw yGi (dw dL (dw yEm (dw zMo (dw yGq fk)))))) 1 i6 (λi=>y3h i) [] func26 xCd
def yGm:UC.ok Z_ 55:=gy (V:=xHi) mixed (dw z6r fk) 0 i6 i6 [] func55 λ(i:vp) h=>⟨i,rfl,rfl,h,λ_ _=>⟨(),rfl,Y_⟩⟩
def zXz:Nu.ok Z_ 122:=gy (V:=xAv) mixed fk 0 i6 i6 [] func122 λ(g:Gt) _=>⟨(),rfl,rfl,Y_⟩
def z7e:Nl.ok Z_ 123:=gy (V:=y7q) mixed fk 0 i6 i6 [] func123 λ(m:iJ) _=>⟨(),gj⟩
def z4k {p:fj} {B:Q_ zK} (h:rz p B) (U:List Int) (W:List (Int×Int)) (s:Int) (b:i4):jf p (tQ p B U W s b).B:=by
 rw[tQ];split
 ·exact h.ok
 split
 ·exact h.ok
 rw[Ls];split
 ·exact h.ok
 split
 ·exact h.ok
 ·exact y7c h U _
def xGu {p:fj} {v w:Vw} (hv:xg p v) (hw:xg p w):(xN 0 v w).length<=202000000:=by
 obtain⟨h1,h2,h3,h4⟩:=xEz hv hw;have:=XK v w v.length (jx _) oM;rw[ng (jx _),ng X_]at this;omega
def ved (i:yi) (h:edC.dp i):Ved i:=by
 obtain⟨o0,x,p,s,b⟩:=i;obtain⟨⟨hM,hB⟩,hb,⟨um,zd⟩,⟨xb,uo⟩,hR⟩:(o0.ga p x.B x.U/\jf p x.B)/\b.length<=1048576/\(0<=s/\s<8)/\(0<=x.q/\x.q<=1000000000000000000)/\x.R.length<=1000000:=h;have BH:=hM.s.wf hB;have Cr:jf p (x.X p s b).B:=z4k BH _ _ _ _;have Sv:((iZ s).toNat:Int)=ak.wrap s:=(U' s).symm;unfold Ved QD Qa ff UW z8x QD Qa ff z9q z9f QD Qa Qb vt Qc ff Ob Od Ql;dsimp only;refine⟨Y_,Y_,[[iZ s],b],?_,⟨by simp,by simp;omega,by simp⟩,λ_ _=>⟨Y_,Y_,by rw[ib];omega,⟨⟨o0,x.W⟩,p,x.B,x.U,s,b,x.X p s b⟩,rfl,rfl,rfl,⟨⟨hM,hB⟩,Z9,rfl⟩,λo ho=> ?_⟩⟩
 ·show[kj [iZ s],kj b]=_;rw[kj,kj,<- Sv];rfl
 have hv:=JQ BH;have hw:=JQ (ho.s.wf Cr);obtain⟨g1,g2,g3,g4⟩:=xEz hv hw;have hl:=xGu hv hw;have er:ap kj (x.R++[A7 s b])=ap kj x.R++[[D.ro 1 (bE [[iZ s],b].flatten)]]:=by
  rw[jh];simp[kj,A7]
 have eq1:x.q+((x.M p s b).length:Int)=aj.wrap (x.q+(ap zU (jX x.q (x.M p s b))).length):=by
  have:(x.M p s b).length<=202000000:=hl;rw[ib,sK,iw X_]
 refine⟨⟨⟨o,(x.X p s b).W⟩,rfl,rfl,Y_,λ_ _=>⟨gj,⟨o,iB (nh ⟨rfl,Y_,λ_ _=>⟨gj,?_,gj,?_⟩⟩)⟩,gj,o,rfl,rfl,rfl,rfl,rfl,rfl,rfl,rfl,rfl,rfl,rfl,rfl,rfl,Y_,λ_ _=>⟨gj,?_⟩⟩⟩,Y_,gj,⟨o,(x.X p s b).W⟩,rfl,rfl,Y_,λ_ _=>⟨gj,o,iB (nh ⟨rfl,Y_,λ_ _=>⟨gj,?_⟩⟩)⟩⟩
 all_goals exact⟨⟨o.s,p,(x.X p s b).B⟩,iB (iP ⟨rfl,⟨ho.s,Cr⟩,λ_ _=>⟨⟨yH p x.B,yH p (x.X p s b).B,x.q⟩,rfl,rfl,rfl,⟨g1,⟨Z9,Z9⟩,g2,g3,g4⟩,λ_ _=>⟨o,iB ⟨rfl,eq1,iB (oO ⟨rfl,er,iP ho⟩)⟩⟩⟩⟩)⟩
def y3y:edC.ok Z_ 59:=gy mixed (dw yIw (dw yWa (dw zXz (dw z7e (dw z5p (dw yOm fk)))))) 0 i6 i6 [] func59 ved
def TM:gh:=fp Vw (λv=>[Ag v]) i6 (λv=>v.length<=1000000/\xZ v) (λv=>Ag v) i6
def xJd (v:Vw):List gu:=[
 {ι:=Nat,du:=λj=>[(1,.nm 0 0),(12,zB j)],rows:=λ_=>[.cells [.own 1] 59,.own vS 10 (v.map zA)]},
 {ι:=Unit,du:=λ_=>[],rows:=λ_=>[],un:=3}]
structure Vs where
 v:Vw
 q:Int
 H:List gi
def RX (n q:Int) (k v h:Nat):fq:= .cells [zB n,.own (k+v),zB q,.own (k+h)] 107
def Kh (n:Int) (s:Vs):List fq:=[RX n s.q 0 1 2,dW s.v,tF s.H]
def y7h (n:Int) (s:Vs):List fq:=[RX n s.q 0 3 4,.gone,.gone,dW s.v,tF s.H]
def vwK (k:Nat) (n:Int) (s:Vs):List fq:=[RX n s.q k 1 2,dW s.v,tF s.H]
def HO (n:Nat):Vw:=ar n (⟨[],BG,cf⟩,⟨[],BG,cf⟩)
def KG:gh:=fp fj (λp=>[nv p]) i6 (λp=>p.check=0/\p.small) (λ_=> .je [.nm 0 0,zB 0]) (λp=>Kh p.count ⟨HO p.count,0,[]⟩)
structure mo where
 n:Nat
 s:Vs
 m:gi
 b:i4
 e:Nat
@[reducible] def mo.ok (i:mo):Prop:=((i.s.v.length=i.n/\i.n<=1000)/\lR i.e i.s.v/\i.e+i.s.H.length<=1000000)/\∀m∈i.s.H,m.iO i.n=0
def aaa:gh:=fp mo (λi=>[.nm 0 0,Iy i.m]) (λi=>Kh i.n i.s) (λi=>i.ok/\i.m.iO i.n=0) (λ_=>pW) (λi=>[RX i.n i.m.seq 0 3 2,.gone,tF i.s.H,dW (ru i.s.v i.m)])
def pQ:Vw->Int->List gi->Vs
 |v,q,[]=>⟨v,q,[]⟩
 |v,q,m::H=>if aj.wrap (m.seq-1)<=q then(if aj.wrap (m.seq-1)=q then pQ (ru v m) m.seq H else pQ v q H)else⟨v,q,m::H⟩
def Au:gh:=fp (Q_ D) (λl=>[ox 7 l]) i6 (λl=>l.length<=1000000) (λ_=> .own 0) (λl=>[.own nA 7 l])
def mo.F (i:mo):Vs:=pQ i.s.v i.s.q i.s.H
def KH:gh:=fp mo (λ_=>[.nm 0 0]) (λi=>Kh i.n i.s) (λi=>i.ok) (λ_=>pW) (λi=>y7h i.n i.F)
def xGr (i:mo):List gu:=[{ι:=Vs,du:=λ_=>[(0,.nm 0 0)],rows:=λs=>Kh i.n s}]
def HD (H:List gi):Prop:=H.Pairwise λa b=>a.seq<b.seq
def cK (H:List gi) (n:Int):Nat:=(H.takeWhile λl=>decide (l.seq<n)).length
def pP (H:List gi) (n:Int):Bool:=H.any λl=>decide (l.seq=n)
structure KF where
 H:List gi
 n:Int
def TV:gh:=fp KF (λi=>[.own 0,zB i.n,.fn 68 [] []]) (λi=>[tF i.H]) (λi=>HD i.H/\i.H.length<=1000000) (λi=> .je [zB (cK i.H i.n),yM (pP i.H i.n)]) (λi=>[tF i.H])
structure F' where
 a:Nat
 b:Nat
def xKt:List gu:=[{ι:=F',du:=λj=>[(9,zB j.a),(10,zB j.b)],rows:=λ_=>[]}]
def Uh:gh:=Ot nA 7 56
def BD (n:Int) (s:Vs) (m:gi):Vs×Int:=
 if m.seq<1\/m.iO n≠0 then(s,12)else if m.seq<=s.q\/pP s.H m.seq=ce then(s,33)else
 if m.seq-1=s.q then(pQ (ru s.v m) m.seq s.H,0)else if 4096<=s.H.length then(s,13)else(⟨s.v,s.q,s.H.take (cK s.H m.seq)++m::s.H.drop (cK s.H m.seq)⟩,32)
def Cl (n:Int) (s:Vs) (b:i4):Vs×Int:=if(xP b).2≠0 then(s,(xP b).2)else BD n s (xP b).1
def mo.T (i:mo):Vs:=(Cl i.n i.s i.b).1
def mo.W (i:mo):Int:=(Cl i.n i.s i.b).2
def Da:gh:=fp mo (λi=>[.nm 0 0,ox 1 (bE i.b)]) (λi=>Kh i.n i.s) (λi=>i.ok/\HD i.s.H/\i.b.length<=1000000/\i.e+i.s.H.length<=900000) (λi=>zB i.W) (λi=>y7h i.n i.T)
noncomputable def HQ (n:Int) (s:Vs) (b:i4):Vs×Int:=
 if tY b≠0 then(s,tY b)else if((bZ b).length:Int)≠n\/pR b<0 then(s,12)else if pR b<s.q then(s,33)else(pQ (bZ b) (pR b) s.H,0)
noncomputable def mo.S (i:mo):Vs:=(HQ i.n i.s i.b).1
noncomputable def mo.Z (i:mo):Int:=(HQ i.n i.s i.b).2
noncomputable def Gv:gh:=fp mo (λi=>[.nm 0 0,ox 1 (bE i.b)]) (λi=>Kh i.n i.s) (λi=>i.ok/\lR i.e (bZ i.b)/\i.b.length<=1099511627776) (λi=>zB i.Z) (λi=>y7h i.n i.S)
def Gu:gh:=fp mo (λ_=>[.nm 0 0]) (λi=>Kh i.n i.s) (λi=>i.ok) (λi=>Ag i.s.v) (λi=>Kh i.n i.s)
structure wg where
 o:iJ
 x:Es
 p:fj
 d:Dk
 s:Int
 b:i4
def JY (p:fj) (x:Es) (o:iJ) (d:Dk):List fq:=[MD (x.en p) 4 7,Mm 3 x.R.length,ma ⟨o,x.W⟩,mc d,HR x.R,.kr 1 (iE p.dt),.kr 1 (iE p.settle),dW (yH p x.B)]
@[reducible] def wg.ok (i:wg):Prop:=(i.o.ga i.p i.x.B i.x.U/\jf i.p i.x.B)/\i.b.length<=254/\(-1<=i.s/\i.s<8)/\(0<=i.x.q/\i.x.q<=1000000000000000000)/\i.x.R.length<=1000000/\i.d.b.length+i.b.length+7<=1048576
def wg.Y (i:wg):Es:=i.x.ed i.p i.s i.b
def wg.N (i:wg):List gi:=jX i.x.q (i.x.M i.p i.s i.b)
def wg.O (i:wg):List (Int×ga):=(i.x.X i.p i.s i.b).O
def wg.D (i:wg):Dk:=⟨i.d.b++jC (A7 i.s i.b),i.d.safe⟩
def M1:gh where
 ι:=wg
 pat:=λi=>[.nm 0 0,zB i.s,ox 1 (bE i.b)]
 pre:=λi=>JY i.p i.x i.o i.d
 dp:=λi=>i.ok
 alts:=λi=>[
  {o:=iJ,res:=λ_=> .agg [.own 8,LV],post:=λo=>JY i.p i.x o i.d++[L4 [(i.s,⟨2,0,0,0,0,0,0,(zT i.s i.b).2⟩)]],rel:=λo=>(zT i.s i.b).2≠0/\o.ga i.p i.x.B i.x.U},
  {o:=iJ,res:=λ_=> .agg [.own 10,.own 11],post:=λo=>[MD (i.Y.en i.p) 8 9,Mm 3 i.Y.R.length,ma ⟨o,i.Y.W⟩,mc i.D,.gone,.kr 1 (iE i.p.dt),.kr 1 (iE i.p.settle),.gone,HR i.Y.R,dW (yH i.p i.Y.B),L4 i.O,tF i.N],rel:=λo=>(zT i.s i.b).2=0/\o.ga i.p i.Y.B i.Y.U}]
def uf (p:fj):Es:=⟨ar p.count [],[],[],0,[]⟩
def y2j (p:fj) (x:Es) (r:i4):Es:=x.ed p (r.headD 0).toNat r.tail
def vP (p:fj) (L:Q_ UInt8):Es:=L.foldl (y2j p) (uf p)
def y4x (r:i4):Prop:=r≠[]/\(zT (r.headD 0).toNat r.tail).2=0
structure Bs where
 p:fj
 s:Nat
 L:Q_ UInt8
 t:i4
def Bs.j (i:Bs):Cx:=⟨i.s,i.L,i.t⟩
@[reducible] def Bs.ok (i:Bs):Prop:=(i.p.check=0/\i.p.small)/\((Er.mk i.L i.t).ok/\i.j.d.ok)/\(∀r∈i.L,y4x r)/\i.L.length<=100000
def enK (e:En):fq:= .cells [sV e.p.code,.own 5,zB e.p.tick,zB e.p.low,zB e.p.high,zB e.p.wide,zB e.p.gn,zB e.p.top,zB e.p.least,zB e.p.part,.own 6,.nm 2 0,.nm 3 0,.own 7,zB e.q,.own 4] Ly
def TQ:gh where
 ι:=Bs
 pat:=λi=>[nv i.p,.nm 0 0]
 pre:=λi=>[mc i.j.d]
 dp:=λi=>i.ok
 alts:=λi=>[{o:=iJ,res:=λ_=> .je [.nm 1 0,zB 0],post:=λo=>[mc i.j.d',enK ((vP i.p i.L).en i.p),Mm 0 i.L.length,ma ⟨o,(vP i.p i.L).W⟩,HR (vP i.p i.L).R,.kr 1 (iE i.p.dt),.kr 1 (iE i.p.settle),dW (yH i.p (vP i.p i.L).B)],rel:=λo=>o.ga i.p (vP i.p i.L).B (vP i.p i.L).U}]
structure Pq where
 o:iJ
 x:Es
 k:Nat
def xIy (i:Bs):List gu:=[{ι:=Pq,du:=λj=>[(6,.nm 2 0),(10,.nm 0 0),(48,.own 8),(50,zB j.k)],rows:=λj=>[MD (j.x.en i.p) 4 7,Mm 3 i.L.length,ma ⟨j.o,j.x.W⟩,mc i.j.d',HR j.x.R,.kr 1 (iE i.p.dt),.kr 1 (iE i.p.settle),dW (yH i.p j.x.B),HR i.L]}]
noncomputable def TO:gh:=fp En (λ_=>[.nm 0 0]) (λe=>[MD e 4 7,.gone,.gone,.gone,.gone,.gone,.gone,dW e.v]) (λe=>xZ e.v) (λe=>ox 1 (bE (xY e.v e.q))) (λe=>[MD e 4 7,.gone,.gone,.gone,.gone,.gone,.gone,dW e.v])
def Vy (a:yi):Prop:=(a.o.ga a.p a.x.B a.x.U/\jf a.p a.x.B)/\a.b.length<=1048576/\(0<=a.s/\a.s<8)/\(0<=a.x.q/\a.x.q<=1000000000000000000)/\a.x.R.length<=1000000
def cQ (a:wg):=(ap zA (yH a.p (a.x.X a.p a.s a.b).B))
def fK (a:wg):=(a.x.R++[A7 a.s a.b])
def cE (a:wg):=((fK a).length:Int)
def dX (a:wg):=((a.x.M a.p a.s a.b).length:Int)
def uD (a:wg):=(ap zA (yH a.p a.x.B))
def cS (a:iJ) (b:wg):=(Gt.mk a (b.x.X b.p b.s b.b).W)
@[reducible] def QS (a b:Es)(c d:fj)(R:Prop):Prop:=ap kj a.R=ap kj b.R/\aa 1 (iE c.dt)=aa 1 (iE d.dt)/\aa 1 (iE c.settle)=aa 1 (iE d.settle)/\R
def xCu (i:wg):Prop:=
 ∃(a:vp),a.s=i.s/\bE a.b=bE i.b/\a.b.length<=1099511627776/\ff (dp ((zT a.s a.b).snd !=0) (∃(c:DN),c.s=i.s/\bE c.b=bE i.b/\ma c.g=ma (Gt.mk i.o i.x.W)/\(UW c)/\∀(d:iJ),d.ga c.p c.X.B c.X.U->(∃(e:iJ),True/\Qc i.p (dk i.x.q/\dk ((i.x.R.length:Int))/\ma (Gt.mk e i.x.W)=ma (Gt.mk d c.X.W)/\dk (mc i.d)/\dk (ap kj i.x.R)/\vt i.p (aa 10 (uD i)=dW (yH i.p i.x.B)/\[jY (i.s,ga.mk 2 0 0 0 0 0 0 (zT i.s i.b).snd)]=ap jY c.X.O/\(zT i.s i.b).snd≠0/\e.ga i.p i.x.B i.x.U)))\/(∃(e:iJ),Qc i.p (i.x.q+(dX i)=i.x.q/\(cE i)=(i.x.R.length:Int)/\ma (cS e i)=ma (Gt.mk d c.X.W)/\mc i.D=mc i.d/\vt i.p (ap kj (fK i)=ap kj i.x.R/\aa 10 (cQ i)=dW (yH i.p i.x.B)/\ap jY i.O=ap jY c.X.O/\ap zU i.N=[]/\(zT i.s i.b).snd=0/\e.ga i.p (i.x.X i.p i.s i.b).B (i.x.X i.p i.s i.b).U)))) (True/\True/\∃(c:Q_ UInt8),ap kj c=[[D.ro 1 [[D.v (.int .u8 (ak.wrap i.s))]]],[D.ro 1 (bE i.b)]]/\(1<=c.flatten.length/\c.flatten.length<=1099511627776/\c.length<=1000)/\ff (True/\∃(e:YM),bE e.l=bE c.flatten/\e.n=(i.x.R.length:Int)/\mc e.d=mc i.d/\(e.l.length<=255/\e.d.b.length+e.l.length+(6:Nat)<=(1048576:Nat)/\0<=e.n/\e.n<=1048576)/\ff (∃(g:yi),g.s=i.s/\bE g.b=bE i.b/\Qa g.p i.p (g.x.q=i.x.q/\ma g.g=ma (Gt.mk i.o i.x.W)/\QS g.x i.x g.p i.p (aa 10 (ap zA (yH g.p g.x.B))=dW (yH i.p i.x.B)/\(Vy g)/\∀(h:iJ),h.ga g.p (g.x.X g.p g.s g.b).B (g.x.X g.p g.s g.b).U->(∃(j:iJ),False)\/(∃(j:iJ),Qa i.p g.p (i.x.q+(dX i)=g.x.q+((g.x.M g.p g.s g.b).length:Int)/\(cE i)=e.n+1/\ma (cS j i)=ma (Gt.mk h (g.x.X g.p g.s g.b).W)/\mc i.D=mc (Dk.mk (e.d.b++jC e.l) e.d.safe)/\BM i.p g.p (ap kj (fK i)=ap kj (g.x.R++[A7 g.s g.b])/\aa 10 (cQ i)=aa 10 (Ob g)/\ap jY i.O=ap jY g.O/\ap zU i.N=ap zU g.N/\(zT i.s i.b).snd=0/\j.ga i.p (i.x.X i.p i.s i.b).B (i.x.X i.p i.s i.b).U)))))))))
def tO (a:Bs):Prop:=Ql a.p (True)
def Zw (a:Cx):Prop:=((∀(b:i4),b∈a.L->b.length<=255)/\(CE a.t).snd.snd=10/\(oV a.L).length+a.t.length<=1048576)/\a.s<=(oV a.L++a.t).length/\(oV a.L++a.t).length<=1048576
def aP (a:Bs):=(ap zA (yH a.p (vP a.p a.L).B))
def xDa (i:Bs):Prop:=
 ∃(a:fj),Qb a i.p ((zV a)/\(∀(b:Unit),a.check=0->∃(c:Cx),mc c.d=mc i.j.d/\(Zw c)/\ff (∃(e:List Int),iE e=iE i.p.dt/\e.length<=1000000/\ff (True/\∃(g:List Int),iE g=iE i.p.settle/\g.length<=1000000/\ff (∃(j:Gt),qX j.m=qX (iJ.mk a (nN a) [])/\xS j.W=xS []/\True/\ff ((tO i)/\(tO i)/\∃(l:iJ),Qa l.p j.m.p (zE l.s=zE j.m.s/\QD l j.m (True/\ff ((tO i)/\(tO i)/\∃(n:Fu),sb n.p.code=sb i.p.code/\iE n.p.dt=iE e/\Qr n.p i.p (iE n.p.settle=iE g/\zE n.s=zE l.s/\(n.s.ga n.p n.B/\jf n.p n.B)/\ff ((tO i)/\∃(q:Pq),(q.k:Int)=0/\Qc i.p (q.x.q=0/\(i.L.length:Int)=(c.L.length:Int)/\Qa q.o.p l.p (zE q.o.s=zE n.s/\QD q.o l (xS q.x.W=xS j.W/\mc i.j.d'=mc c.d'/\ap kj q.x.R=[]/\aa 1 (iE i.p.dt)=aa 1 (iE e)/\aa 1 (iE i.p.settle)=aa 1 (iE g)/\ap zA (yH i.p q.x.B)=ap zA (yH n.p n.B)/\ap kj i.L=ap kj c.L/\∃(r:Pq->Prop),∃(s:Pq->Nat),r q/\∀(t:Pq),r t->dp (decide ((t.k:Int)<((ap kj c.L).length:Int))) ((0<=(t.k:Int)/\(t.k:Int)<((ap kj i.L).length:Int))/\((zC (ap kj i.L) (t.k:Int).toNat 0 1=bu [D.v y7]/\∃(u:iJ),False)\/(∃(u:Q_ D),zC (ap kj i.L) (t.k:Int).toNat 0 1=bu [D.ro 1 u]/\dp ((u.length:Int)==0) (∃(v:iJ),False) (((0:Int)<=(0:Int)/\0<(u.length:Int))/\∃(v:Int),zC u (cp 0) 0 1=bu [D.v (.int .u8 v)]/\((0:Int)<=(1:Int)/\1<=(u.length:Int))/\∃(w:vp),w.s=aj.wrap v/\bE w.b=aw (cp 1) u/\w.b.length<=1099511627776/\ff (dp ((zT w.s w.b).snd !=0) (∃(y:iJ),False) (((0:Int)<=(0:Int)/\0<(u.length:Int))/\∃(y:Int),zC u (cp 0) 0 1=bu [D.v (.int .u8 y)]/\((0:Int)<=(1:Int)/\1<=(u.length:Int))/\∃(z:yi),z.s=aj.wrap y/\bE z.b=aw (cp 1) u/\Qa z.p i.p (z.x.q=t.x.q/\ma z.g=ma (Gt.mk t.o t.x.W)/\QS z.x t.x z.p i.p (aa 10 (ap zA (yH z.p z.x.B))=aa 10 (ap zA (yH i.p t.x.B))/\(Vy z)/\∀(lk:iJ),lk.ga z.p (z.x.X z.p z.s z.b).B (z.x.X z.p z.s z.b).U->∃(my:Pq),(my.k:Int)=aj.wrap ((t.k:Int)+1)/\Qa i.p z.p (my.x.q=z.x.q+((z.x.M z.p z.s z.b).length:Int)/\dk ((i.L.length:Int))/\ma (Gt.mk my.o my.x.W)=ma (Gt.mk lk (z.x.X z.p z.s z.b).W)/\dk (mc i.j.d')/\ap kj my.x.R=ap kj (z.x.R++[A7 z.s z.b])/\BM i.p z.p (aa 10 (ap zA (yH i.p my.x.B))=aa 10 (Ob z)/\dk (ap kj i.L)/\r my/\s my<s t/\vt l.p (vt j.m.p (dk (aa 1 (iE g))/\dk (aa 1 (iE e))/\dk (ab [V.d (D.v (ay (sb i.p.code))),V.own 7,V.d (dI i.p.tick),V.d (dI i.p.low),V.d (dI i.p.high),V.d (dI i.p.wide),V.d (dI i.p.gn),V.d (dI i.p.top),V.d (dI i.p.least),V.d (dI i.p.part),V.own 8] 25)/\dk (aa 1 (iE i.p.settle))/\dk (aa 1 (iE i.p.dt)))))))))))))) (∃(u:iJ),dk ((0:Int))/\dk (mc i.j.d')/\Qc i.p ((vP i.p i.L).q=t.x.q/\dk ((i.L.length:Int))/\ma (Gt.mk u (vP i.p i.L).W)=ma (Gt.mk t.o t.x.W)/\ap kj (vP i.p i.L).R=ap kj t.x.R/\vt i.p (aa 10 (aP i)=aa 10 (ap zA (yH i.p t.x.B))/\u.ga i.p (vP i.p i.L).B (vP i.p i.L).U))))))))))))))))/\∀(b:Unit),a.check≠0->dp (a.check !=0) (∃(c:iJ),False) (∃(c:Cx),mc c.d=mc i.j.d/\(Zw c)/\ff (∃(e:List Int),iE e=iE i.p.dt/\e.length<=1000000/\ff (True/\∃(g:List Int),iE g=iE i.p.settle/\g.length<=1000000/\ff (∃(j:Gt),False)))))
def xIg (e:En):Prop:=
 ∃(i:Hy),ap zA i.v=ap zA e.v/\i.seq=e.q/\(aq i.v<=1099511627776/\∀(b:Sd×Sd),b∈i.v->b.fst.levels.length<=1099511627776/\b.snd.levels.length<=1099511627776)/\∀(o:Unit),True->∃(o:Unit),bE (xY e.v e.q)=bE (xY i.v i.seq)/\dk (sb e.p.code)/\dk e.p.tick/\dk e.p.low/\dk e.p.high/\dk e.p.wide/\dk e.p.gn/\dk e.p.top/\dk e.p.least/\dk e.p.part/\e.q=e.q/\aa 10 (ap zA e.v)=dW e.v/\True
def ySy {s:Int} {b:i4} (h:(zT s b).2=0):0<=s/\s<8:=by
 rw[zT]at h;split at h
 ·cases h
 ·omega
def xJi (i:wg) (h:M1.dp i):xCu i:=by
 obtain⟨o0,x,p,d,s,b⟩:=i;obtain⟨⟨hM,hB⟩,hb,⟨um,zd⟩,⟨xb,uo⟩,hR,hd⟩:(o0.ga p x.B x.U/\jf p x.B)/\b.length<=254/\(-1<=s/\s<8)/\(0<=x.q/\x.q<=1000000000000000000)/\x.R.length<=1000000/\d.b.length+b.length+7<=1048576:=h;have Sv:((iZ s).toNat:Int)=ak.wrap s:=(U' s).symm;unfold xCu QS Qa vt BM Qc ff Ob UW cS uD dX cE fK cQ Vy;dsimp only;refine⟨⟨s,b⟩,rfl,rfl,Z9,λ_ _=>W_ (λe=> ?_) (λe=> ?_)⟩
 ·have e:(zT s b).2≠0:=i9 e
  exact⟨⟨⟨o0,x.W⟩,p,x.B,x.U,s,b,Og x.B x.U x.W s 0 (zT s b).2⟩,rfl,rfl,rfl,⟨⟨hM,hB⟩,Z9,by dsimp only;rw[zWm,fh e]⟩,λo ho=> .inl ⟨o,Y_,iB (nu (iP ⟨rfl,e,ho⟩))⟩⟩
 ·have e:(zT s b).2=0:=i9 e
  have hs:=ySy e;refine⟨Y_,Y_,[[iZ s],b],?_,⟨by simp,by simp;omega,by simp⟩,λ_ _=>⟨Y_,⟨d,x.R.length,A7 s b⟩,by simp[A7],rfl,rfl,⟨by simp[A7];omega,by simp[A7];omega,Z9,Z9⟩,λ_ _=>⟨⟨o0,x,p,s,b⟩,iB (iB ⟨rfl,⟨⟨hM,hB⟩,Z9,hs,⟨xb,uo⟩,hR⟩,λo ho=> .inr ⟨o,nu (iP ⟨rfl,by simp,oO ⟨rfl,e,ho⟩⟩)⟩⟩)⟩⟩⟩;show[kj [iZ s],kj b]=_;rw[kj,kj,<- Sv];rfl
def GY:M1.ok Z_ 15:=gy mixed (dw yGm (dw yWa (dw yIw (dw yXz (dw y3y fk))))) 0 i6 i6 [] func15 xJi
def xGa {p:fj} {L:Q_ UInt8} {k:Nat} {r:i4} (h:L[k]? =bu r):vP p (L.take (k+1))=y2j p (vP p (L.take k)) r:=by
 rw[qf,h,AD,vP,IG];rfl
def yEt {p:fj} {x:Es} {o:iJ} (hM:o.ga p x.B x.U) (hB:jf p x.B) (s:Int) (b:i4) {o2:iJ} (ho:o2.ga p (x.X p s b).B (x.X p s b).U):
 jf p (x.ed p s b).B/\x.q<=(x.ed p s b).q/\(x.ed p s b).q<=x.q+202000000/\(x.ed p s b).R.length=x.R.length+1:=by
 have BH:=hM.s.wf hB;have Cr:jf p (x.X p s b).B:=z4k BH _ _ _ _;have:(x.M p s b).length<=202000000:=xGu (JQ BH) (JQ (ho.s.wf Cr));refine⟨Cr,?_,?_,?_⟩
 ·show x.q<=x.q+((x.M p s b).length:Int);omega
 ·show x.q+((x.M p s b).length:Int)<=_;omega
 ·show(x.R++[A7 s b]).length=_;rw[ix];rfl
def xJs (i:Bs) (h:TQ.dp i):xDa i:=by
 obtain⟨p,s,L,t⟩:=i;obtain⟨⟨hc,qw⟩,⟨hs,hd⟩,hr,hl⟩:(p.check=0/\p.small)/\((Er.mk L t).ok/\(Cx.mk s L t).d.ok)/\(∀r∈L,y4x r)/\L.length<=100000:=h;have SR:jf p (ar p.count []):=jf.new hc qw;have hM0:=yZz p;have m6:=(jH hc).m6;have sl:=(jH hc).s1;have ux:(L.map kj).length=L.length:=ib _;unfold xDa QD QS Qa Qb vt BM Qc ff Qr y7 aP Zw tO Ql Ob Vy zV ph dI;dsimp only;refine⟨p,oO (iP ⟨rfl,qw,λ_ _=>⟨⟨s,L,t⟩,rfl,⟨hs,hd⟩,λ_ _=>⟨p.dt,rfl,oM,λ_ _=>⟨Y_,p.settle,rfl,oM,λ_ _=>⟨⟨R9 p,[]⟩,rfl,rfl,Y_,λ_ _=>⟨gj,gj,R9 p,iB (nh ⟨rfl,Y_,λ_ _=>⟨gj,gj,⟨(R9 p).s,p,ar p.count []⟩,iB (iP ⟨rfl,⟨hM0.s,SR⟩,λ_ _=>⟨gj,⟨R9 p,uf p,0⟩,iB (iB (iB (oO ⟨rfl,λj=>(j.k<=L.length/\j.x=vP p (L.take j.k))/\(j.o.ga p j.x.B j.x.U/\jf p j.x.B)/\(0<=j.x.q/\j.x.q<=202000000*(j.k:Int))/\j.x.R.length=j.k,λj=>L.length-j.k,⟨⟨ml _,rfl⟩,⟨hM0,SR⟩,⟨yy _,yy _⟩,rfl⟩,?_⟩)))⟩⟩)⟩⟩)⟩⟩⟩⟩⟩,λ_ jy=>absurd hc jy⟩)⟩;rintro⟨o,x,k⟩ ⟨⟨hk,hx⟩,⟨hM,hB⟩,⟨xb,uo⟩,hR⟩;dsimp only at hk hx hM hB xb uo hR ⊢;refine zH (λgr=> ?_) (λgr=> ?_)
 ·obtain⟨r,hrk⟩:=zZ (l:=L) (i:=k) oM;have HX:=kx hrk;obtain⟨jy,OZ⟩:=hr r HX;have Un:=hs.1 r HX;obtain⟨c,b,rfl⟩:∃c b,r=c::b:=by
   cases r with
   |nil=>exact absurd rfl jy
   |cons c b=>exact⟨c,b,rfl⟩
  have OZ:(zT (c.toNat:Int) b).2=0:=OZ;have hc8:=ySy OZ;have wc:aj.wrap (c.toNat:Int)=c.toNat:=iw oM;rw[iG]at Un;refine⟨⟨oM,oM⟩,.inr ⟨bE (c::b),z9d hrk,W_ (λe=>by have e:=ID.1 e;rw[yV,iG]at e;omega) (λ_=>⟨⟨Z8,by rw[yV,iG];omega⟩,c.toNat,dD rfl,⟨Z8,by rw[yV,iG];omega⟩,⟨c.toNat,b⟩,wc.symm,rfl,Z9,λ_ _=>W_ (λe=>by simp[OZ]at e) (λ_=>⟨⟨Z8,by rw[yV,iG];omega⟩,c.toNat,dD rfl,⟨Z8,by rw[yV,iG];omega⟩,⟨o,x,p,c.toNat,b⟩,wc.symm,iB (oO ⟨rfl,⟨⟨hM,hB⟩,Z9,hc8,⟨xb,Z9⟩,Z9⟩,λo2 ho=> ?_⟩)⟩)⟩)⟩⟩;obtain⟨t1,t2,t3,t4⟩:=yEt hM hB (c.toNat:Int) b ho;exact⟨⟨o2,x.ed p c.toNat b,k+1⟩,pf oM,iB (nu (iP ⟨rfl,⟨⟨Z9,by dsimp only;rw[xGa hrk,<- hx];rfl⟩,⟨ho,t1⟩,⟨Z9,Z9⟩,Z9⟩,Z9,gj⟩))⟩
 ·obtain rfl:k=L.length:=X_
  rw[zf]at hx;subst hx;exact⟨o,by repeat'(first|exact rfl|exact hM|apply And.intro)⟩
def yQn:TQ.ok Z_ 52:=gy mixed (dw y0t (dw y7e (dw yKr (dw z3z (dw zXz (dw z7e (dw z5p (dw yGm (dw y3y fk))))))))) 0 i6 (λi=>xIy i) [] func52 xJs
def Ny:TO.ok Z_ 20:=gy (V:=xIg) mixed (dw y7v fk) 0 i6 i6 [] func20 λ(e:En) h=>⟨⟨e.v,e.q⟩,rfl,rfl,h,λ_ _=>⟨(),gj⟩⟩
@[reducible] def yOu:Nat:=42
structure ry where
 x:Es
 o:iJ
 d:Dk
 O:List (Int×ga)
 N:List gi
def xKl (p:fj) (j:ry):List fq:=JY p j.x j.o j.d++[.cells [.own 9,.own 10] yOu,L4 j.O,tF j.N]
def doJ (p:fj) (e a:Nat):gu:={ι:=ry,o8:=λ_=>[(e,.nm 0 0)],mf:=λj=>JY p j.x j.o j.d,du:=λj=>[(e,.nm 0 0),(a,.nm 8 0)],rows:=xKl p}
def xKa (p:fj):List fq:=[.cells [sV p.code,.own 9,zB p.tick,zB p.low,zB p.high,zB p.wide,zB p.gn,zB p.top,zB p.least,zB p.part,.own 10] 25,.kr 1 (iE p.dt),.kr 1 (iE p.settle)]
def y2f {t:zo} (h:0<=t.i/\t.i<=1000000):1<=(xI t).id/\(xI t).id<=1099511627776:=by
 have:0<=zG t.c.id 0 30/\zG t.c.id 0 30<=30:=by rw[zG];omega
 rw[xI];split
 ·dsimp only;omega
 ·simp only[xC];omega
def yNg {x:fj} {c:ir} {k:Nat} (hk:k<=1000000):(xI ⟨im x,c,k⟩).right=0:=by
 have:=yDe x c k (xI ⟨im x,c,k⟩).id (y2f Z9);exact this
def yEj {c:ir} (h:c.right=0) (hl:c.label=[]):c.enc.length<=100:=by
 have e:c.enc=iZ c.kind::(le c.id 8++c.tail):=by rw[ir.enc,eg (by simp[h])]
 have ht:c.tail.length<=60:=by
  rw[ir.tail];split
  ·simp only[iG,ix,xA,FE,hl,nr,uj];omega
  split
  ·rw[xA];omega
  split
  ·rw[ix,xA,xA];omega
  ·exact ml _
 rw[e,iG,ix,xA];omega
def yWf (p:fj) (B:Q_ zK) (U:List Int) (c:ir):∃r l,(Ak p B U c).R=r::l/\(r.kind=2->(Ak p B U c).B=B):=by
 rw[Ak];split
 ·exact⟨_,_,rfl,λ_=>rfl⟩
 split
 ·rw[nC]
  iterate 5 (split;·exact⟨_,_,rfl,λ_=>rfl⟩)
  obtain⟨r,l,h1,h2,_⟩:=(z7y p B U c).2;exact⟨r,l,h1,λe=>X_⟩
 split
 ·exact⟨_,_,rfl,λ_=>rfl⟩
 split
 ·rw[fJ];split
  ·exact⟨_,_,rfl,λ_=>rfl⟩
  split
  ·rw[mA];exact⟨_,_,rfl,λe=>by simp at e⟩
  split
  ·exact⟨_,_,rfl,λ_=>rfl⟩
  rw[gR];exact⟨_,_,rfl,λe=>by simp at e⟩
 split
 ·rw[gR];exact⟨_,_,rfl,λe=>by simp at e⟩
 ·rw[mA];exact⟨_,_,rfl,λe=>by simp at e⟩
def yDf (p:fj) (B:Q_ zK) (U:List Int) (W:List (Int×Int)) (s:Int) (b:i4):∃o l,(tQ p B U W s b).O=o::l/\(o.2.kind=2->(tQ p B U W s b).B=B):=by
 rw[tQ];split
 ·exact⟨_,_,rfl,λ_=>rfl⟩
 split
 ·exact⟨_,_,rfl,λ_=>rfl⟩
 rw[Ls];split
 ·exact⟨_,_,rfl,λ_=>rfl⟩
 split
 ·exact⟨_,_,rfl,λ_=>rfl⟩
 obtain⟨r,l,h1,h2⟩:=yWf p B U (xU b).1;dsimp only;rw[h1];dsimp only[FH];refine⟨_,_,rfl,λe=>h2 ?_⟩;exact e
def yPg (x:Es) (p:fj) (s:Int) (b:i4):∃o l,(x.X p s b).O=o::l/\(o.2.kind=2->x.M p s b=[]):=by
 obtain⟨o,l,h1,h2⟩:=yDf p x.B x.U x.W s b;refine⟨o,l,h1,λe=> ?_⟩;rw[Es.M,Es.X,h2 e];exact yGt 0 _
structure C' (p:fj) (x:Es) (d:Dk) (j:ry):Prop where
 r:j.o.ga p j.x.B j.x.U
 ok:jf p j.x.B
 q1:x.q<=j.x.q
 q2:j.x.q<=x.q+202000000
 n:j.x.R.length<=x.R.length+1
 d:j.d.b.length<=d.b.length+107
 m:∃M:List VM,j.N=jX x.q M/\j.x.q=x.q+(M.length:Int)
 t:∃o l,j.O=o::l/\(o.2.kind=2->j.N=[])
def C'.bad {p:fj} {x:Es} {d:Dk} {o:iJ} (h1:o.ga p x.B x.U) (h2:jf p x.B) (s w:Int):C' p x d ⟨x,o,d,[(s,⟨2,0,0,0,0,0,0,w⟩)],[]⟩:=
 ⟨h1,h2,yy _,Z9,Z9,Z9,⟨[],rfl,by simp⟩,⟨_,_,rfl,λ_=>rfl⟩⟩
def C'.wm {p:fj} {x:Es} {d:Dk} {o o2:iJ} (h1:o.ga p x.B x.U) (h2:jf p x.B) {s:Int} {b:i4} (hb:b.length<=100) (h3:o2.ga p (x.X p s b).B (x.X p s b).U):
 C' p x d ⟨x.ed p s b,o2,⟨d.b++jC (A7 s b),d.safe⟩,(x.X p s b).O,jX x.q (x.M p s b)⟩:=by
 obtain⟨t1,t2,t3,t4⟩:=yEt h1 h2 s b h3;refine⟨h3,t1,t2,t3,Z9,?_,⟨_,rfl,rfl⟩,?_⟩
 ·dsimp only;rw[ix,bV,A7,iG];omega
 ·obtain⟨o,l,e1,e2⟩:=yPg x p s b;exact⟨o,l,e1,λe=>by rw[e2 e];rfl⟩
def At:gh:=W5 2
structure I8 where
 g:Gt
 p:fj
 B:Q_ zK
 U:List Int
def TJ:gh:=fp I8 (λ_=>[.nm 0 0]) (λi=>[ma i.g]) (λi=>i.g.m.ga i.p i.B i.U/\jf i.p i.B) (λ_=> .nm 1 0) (λi=>[ma i.g,ma i.g])
def y3u (es:List (ba×List D)):Prop:=
 ∃(i:List (ba×List D)),i=es/\True/\∀(o:Unit),True->∃(o:Unit),es=i/\es=i/\True
def y7t (es:List (ba×List D)):y3u es=walk Z_ ([(223,vZ 150)]) 0 ([]) ([]) [] Tryz.f161 (Tryz.f161.body.getD .skip) (At.pat es) (At.pre es) (At.alts es):=by kernel_rfl
def y7u (hG:zq Z_ ([(223,vZ 150)])) (h:∀(es:List (ba×List D)),At.dp es->y3u es):At.ok Z_ 161:=qY mixed ([(223,vZ 150)]) hG 0 (λ(es:List (ba×List D))=>[]) (λ(es:List (ba×List D))=>[]) [] func161 (by kernel_rfl) (by kernel_rfl) (by kernel_rfl) (λ_=>by kernel_rfl) (λ(es:List (ba×List D)) hc=>Eq.mp (y7t es) (h es hc))
def xHw (i:I8):Prop:=
 ∃(ia:Eu),ac iJ 5 yO ia.m=ac iJ 5 yO i.g.m/\(ia.m.ga ia.p ia.B ia.U/\jf ia.p ia.B)/\∀(o:Unit),True->True/\∃(mh:List (ba×List D)),mh=xS i.g.W/\True/\∀(o:Unit),True->∃(o:Unit),ac iJ 5 yO i.g.m=ac iJ 5 yO ia.m/\xS i.g.W=mh/\ac iJ 5 yO i.g.m=ac iJ 5 yO ia.m/\xS i.g.W=mh/\True
def y0c:At.ok Z_ 161:=y7u (dw (WI _) fk) λes _=>⟨es,rfl,Y_,λ_ _=>⟨(),rfl,rfl,Y_⟩⟩
def Nv:TJ.ok Z_ 83:=gy (V:=xHw) mixed (dw z4n (dw y0c fk)) 0 i6 i6 [0] func83 λ(i:I8) h=>⟨⟨i.g.m,i.p,i.B,i.U⟩,rfl,h,λ_ _=>⟨Y_,xS i.g.W,rfl,Y_,λ_ _=>⟨(),nh Y_⟩⟩⟩
def XG {M:List gi} {k:Nat} {m:gi} (h:M[k]? =bu m):zC (M.map zU) k 0 7=bu [D.v (.int .i64 m.seq),.v (.int .i64 m.inst),.v (.int .i64 m.side),.v (.int .i64 m.dm),.v (.int .i64 m.dr),.v (.int .i64 m.count),.v (.bool m.gg)]:=jz h (by simp[zU]) rfl
structure BQ (p:fj) (x:Es) (d:Dk) (s:Int) (b:i4) (j:ry):Prop where
 a:C' p x d j
 c:((zT s b).2≠0/\j.x=x/\j.d=d/\j.O=[(s,⟨2,0,0,0,0,0,0,(zT s b).2⟩)]/\j.N=[])\/((zT s b).2=0/\j.x=x.ed p s b/\j.d=⟨d.b++jC (A7 s b),d.safe⟩/\j.O=(x.X p s b).O/\j.N=jX x.q (x.M p s b))
def BQ.bad {p:fj} {x:Es} {d:Dk} {o:iJ} (h1:o.ga p x.B x.U) (h2:jf p x.B) {s:Int} {b:i4} (h:(zT s b).2≠0):BQ p x d s b ⟨x,o,d,[(s,⟨2,0,0,0,0,0,0,(zT s b).2⟩)],[]⟩:=⟨C'.bad h1 h2 s _,.inl ⟨h,iP rfl⟩⟩
def BQ.wm {p:fj} {x:Es} {d:Dk} {o o2:iJ} (h1:o.ga p x.B x.U) (h2:jf p x.B) {s:Int} {b:i4} (hb:b.length<=100) (h:(zT s b).2=0) (h3:o2.ga p (x.X p s b).B (x.X p s b).U):
 BQ p x d s b ⟨x.ed p s b,o2,⟨d.b++jC (A7 s b),d.safe⟩,(x.X p s b).O,jX x.q (x.M p s b)⟩:=⟨C'.wm h1 h2 hb h3,.inr ⟨h,iP rfl⟩⟩
def M5:gh:=fp SX (λi=>[.nm 0 0,sV i.s]) (λi=>[Wr i.l]) (λi=>i.l.length+300<=1099511627776/\i.s.length<=255) (λ_=>pW) (λi=>[Wr (i.l++FE i.s)])
def KR:gh:=fp ir (λc=>[Dp c]) i6 (λc=>c.label=[]/\c.right=0) (λc=> .je [ox 1 (bE c.enc),zB 0]) i6
def S7:gh:=fp zo (λt=>[nv t.p,Dp t.c,zB t.i]) i6 (λt=>(∃x,t.p=im x)/\t.c.raw/\0<=t.i/\t.i<=1000000) (λt=>ox 1 (bE (xI t).enc)) i6
def TL:gh where
 ι:=fj
 pat:=λp=>[nv p]
 pre:=λ_=>[]
 dp:=λp=>p.check=0/\p.small
 alts:=λp=>[{o:=iJ,res:=λ_=> .je [.nm 0 0,.nm 3 0,yM ce],post:=λo=>JY p (uf p) o ⟨[],0⟩,rel:=λo=>o.ga p (uf p).B (uf p).U}]
def awC:gh:=fp fj i6 i6 (λp=>p=cU 2) (λ_=>yM ce) i6
def y6h:List (Nat×gu):=[(4,{ι:=Unit,du:=λ_=>[],rows:=λ_=>[],Dy:=[0]})]
def awJ (p:fj):List (Nat×gu):=[(20,doJ p 2 4),(24,doJ p 2 5),(28,doJ p 2 6)]
end Sx
