/- Texts of ours. No condition. -/
import Derived.Maps.RangeRun
import Derived.Shelf.Spec.SlicesGrow
import Derived.Test.YtfmobncdogfbmaaGreatQ12
set_option linter.all false
open Sx.fq renaming kq->ab,cells->ac,rh->ae,map->af,own->ag,kj->aj
open Go.IntKind renaming i64->ak,u8->am,wrap->ao,signed->ap
open List renaming map->aq,length->ar,replicate->au,map_singleton->av,drop_take->aw,drop->ax
open Go.Value renaming int->ay,string->az
open Go renaming MapEntry->ba,Value->bc,TypeId->be,grownCap->bg,size_zeroCells->bo,World->bu
open Option renaming some->bv,none->bz
open Go.Builtin renaming zeroCells->cd,append_->ce
open Bool renaming true->cf,false->cg
open BitVec renaming ofInt->cm
open List.Perm renaming swap->co,cons->cp
open Int renaming toNat->cq
namespace Sx
set_option maxRecDepth 100000
open Go Cv Go.Proofs
def K3:Go.Shelf.Ren:=⟨λx=>if x=4 then 134 else x,λx=>if x=22 then 44 else if x=25 then 5 else x,λx=>x⟩
def xFg:Lays8.n4 Tryz.prog K3 where
 mixed:=mixed
 f4:=⟨Tryz.f134.name,by decide+kernel,by kernel_rfl⟩
 t0:=by kernel_rfl
 a0:=λ_=>by kernel_rfl
 z0:=λ_=>by kernel_rfl
 v0:=λ_=>by kernel_rfl
 t3:=by kernel_rfl
 a3:=λ_=>by kernel_rfl
 z3:=λ_=>by kernel_rfl
 v3:=λ_=>by kernel_rfl
 t4:=by kernel_rfl
 a4:=λ_=>by kernel_rfl
 z4:=λ_=>by kernel_rfl
 v4:=λ_=>by kernel_rfl
 t9:=by kernel_rfl
 a9:=λ_=>by kernel_rfl
 z9:=λ_=>by kernel_rfl
 v9:=λ_=>by kernel_rfl
 t20:=by kernel_rfl
 a20:=λ_=>by kernel_rfl
 z20:=λ_=>by kernel_rfl
 v20:=λ_=>by kernel_rfl
 t22:=by kernel_rfl
 a22:=λ_=>by kernel_rfl
 z22:=λ_=>by kernel_rfl
 v22:=λ_=>by kernel_rfl
def xDh:vW Tryz.prog 44=bv (5,1,1,#[.int .u8 0]):=by kernel_rfl
def yWg:B0.ok Tryz.prog 134:=by
 intro(n:Nat) hc k L E w ys R hv;obtain⟨c1,c2⟩:1<=n/\n<=1099511627776:=hc;simp only[B0,fp,ib,VR,DR]at hv;obtain⟨_,_,rfl,⟨rfl,_⟩,_,_,rfl,⟨rfl,_⟩,rfl⟩:=hv;obtain⟨inf,zv,q1,q2,q3,q4,q5,q6⟩:=jI xDh;have xa:=Any8.slices_Grow_grow xFg inf zv q2 q5 oM bz 0 0 n [] w (ju _) oM (by rw[q4];omega) oM (by simp) (λ_=>rfl) (λa h=>by cases h);rw[show K3.t 25=5 from rfl]at xa;refine pD (by kernel_rfl) (xa.mono ?_);rintro en w' ⟨rfl,rfl⟩;have hG:=grownCap_ge w (0+n) 0 5;have H:=((R.hp.drew).new (.cells (([]:List bc).toArray++cd zv.cells (0+n-0)++cd zv.cells (bg w (0+n) 0 5-(0+n))) 5))
 have ha:(([]:List bc).toArray++cd zv.cells (0+n-0)++cd zv.cells (bg w (0+n) 0 5-(0+n)))=([]++((cd zv.cells (0+n-0)).toList++(cd zv.cells (bg w (0+n) 0 5-(0+n))).toList)).toArray:=by
  apply Array.ext';simp
 have hz:zv.cells.size=1:=by rw[q6];rfl
 have hl:([]++((cd zv.cells (0+n-0)).toList++(cd zv.cells (bg w (0+n) 0 5-(0+n))).toList)).length=bg w (0+n) 0 5*1:=by
  rw[we,iv,J8,J8,bo,bo,hz];omega
 rw[ha]at H ⊢;have H3:=H.AH (n:=0) (sz:=1) (by simp) hl (mn _);obtain⟨E',r1,r2,r3⟩:=aN (rows:=[]) (fa:=[]) (nx:=0) R.nx (by simp[iB]) (λx hx=>by cases hx) H3;exact⟨_,rfl,_,ua.2 rfl,(),trivial,E',r1,r3,⟨r2.nx,r2.hp⟩⟩
def WV {ls:Q_ UInt8} {k:Nat} {l:i4} (h:ls[k]? =bv l):zD (ls.map iZ) k 0 1=bv [D.ro 1 (bE l)]:=jz h (by simp[iZ]) rfl
def eY {α:Type} {ls:Q_ α} {k:Nat} {l:List α} (h:ls[k]? =bv l):(ls.take (k+1)).flatten=(ls.take k).flatten++l:=by
 rw[qq,h,Bt,Oo];simp
def yFb {α:Type} (ls:Q_ α) (k:Nat):(ls.take k).flatten.length<=ls.flatten.length:=by
 conv=>rhs;rw[<- Bb k ls,Oo,iv]
 omega
def xGg (ls:Q_ UInt8) (h:yf.dp ls):Xq ls:=by
 obtain⟨h1,h2,h3⟩:1<=ls.flatten.length/\ls.flatten.length<=1099511627776/\ls.length<=1000:=h;unfold Xq ff dx kL QO mR;rw[ia];refine⟨0,rfl,rfl,λk=>k<=ls.length,λk=>ls.length-k,mn _,λk hk=>zG (λgu=> ?_) (λgu=> ?_)⟩
 ·obtain⟨l,hl⟩:=zZ (l:=ls) (i:=k) oM;have hk:k<=ls.length:=hk;have e1:=yFb ls (k+1);rw[eY hl,iv]at e1;refine⟨⟨oM,oM⟩,bE l,WV hl,zG (λc=> ?_) (λ_=>⟨k+1,?_,qu oM,Z9,Z9,trivial⟩)⟩
  ·rw[yW,iw (by omega)]at c;omega
  ·rw[eY hl,iv,yW,iw (by omega)];simp
 ·obtain rfl:k=ls.length:=by have hk:k<=ls.length:=hk;omega
  rw[At];refine⟨ls.flatten.length,trivial,rfl,⟨h1,h2⟩,λ_ _=>⟨0,rfl,rfl,λk=>k<=ls.length,λk=>ls.length-k,mn _,λk hk=>zG (λgu=> ?_) (λgu=> ?_)⟩⟩
  ·obtain⟨l,hl⟩:=zZ (l:=ls) (i:=k) oM;have hk:k<=ls.length:=hk;have e1:=yFb ls (k+1);rw[eY hl,iv]at e1;refine⟨⟨oM,oM⟩,bE l,WV hl,by rw[yW,yW];omega,k+1,qu oM,by rw[eY hl,UD],Z9,Z9,trivial⟩
  ·obtain rfl:k=ls.length:=by have hk:k<=ls.length:=hk;omega
   rw[At];exact⟨(),rfl,trivial⟩
def yDb:yf.ok Tryz.prog 58:=y9o (dw yWg fk) xGg
def yFv:Uv.ok Tryz.prog 51:=gx (V:=xCd) mixed fk 0 i6 i6 [] Tryz.func51 λ(_:Unit) _=>⟨(),rfl,rfl,trivial⟩
def yZx:Uz.ok Tryz.prog 133:=gx (V:=y2e) mixed fk 0 i6 i6 [0] Tryz.func133 λ(i:Kw) h=>by
 have h:i.d.b.length+i.l.length<=1048576:=h;unfold y2e dx;rw[yW,yW];refine zG (λc=> ?_) (λ_=>⟨oM,(),rfl,rfl,UD _ _,trivial⟩);rw[iw (by omega)]at c;omega
def yZk:Uy.ok Tryz.prog 197:=gx (V:=xDa) mixed (dw zUx fk) 0 i6 i6 [0] Tryz.func197 λ(d:Dk) h=>by
 obtain⟨h1,h2⟩:d.ok:=h;exact⟨_,rfl,by rw[yW];omega,λ_ _=>⟨(),iM trivial⟩⟩
def yAu:sx.ok Tryz.prog 138:=yJi fk λi h=>λb hb=>
 Cv.dp.mk (λe=>⟨(),hb e,trivial⟩) (λ_=>⟨by rw[nq,Nat.mul_one];exact h,(),rfl,trivial⟩)
def yXv:Us.ok Tryz.prog 199:=gx (V:=y3d) mixed (dw yAu fk) 0 i6 i6 [0] Tryz.func199 λ(i:Kw) h=>by
 have h:i.l.length<=1048576:=h;unfold y3d ff dx;refine zG (λc=> ?_) (λ_=>⟨_,rfl,by rw[yW];omega,λ_ _=>⟨(),rfl,by rw[yW],rfl,trivial⟩⟩);rw[yW]at c;omega
def xEc:∀n:Fin 256,iY (ak.wrap (cm ak.bits (if ak.signed=cf then(-1:Int)else ak.max) ^^^ cm ak.bits (n.val:Int)).toNat)=UInt8.ofNat (255-n.val):=by decide+kernel
def xHw:∀n:Fin 256,am.wrap (cm am.bits (if am.signed=cf then(-1:Int)else am.max) ^^^ cm am.bits (n.val:Int)).toNat=255-(n.val:Int):=by decide+kernel
def bG (l:i4):(jH l).length=l.length+6:=by
 simp only[jH,iF,iv,y8]
def y5j (l:i4) (h:GL.dp l):yNj l:=by
 have h:l.length<=255:=h;have hn:=xEc ⟨l.length,oM⟩;dsimp only at hn;unfold yNj ff dx;rw[yW];revert hn;generalize ak.wrap (cm ak.bits (if ak.signed=cf then(-1:Int)else ak.max) ^^^ cm ak.bits (l.length:Int)).toNat=X;intro hn;refine zG (λc=>by omega) (λ_=>⟨(),trivial,λ_ _=>⟨⟨[],l.length⟩,rfl,rfl,by simp[WN.ok],λ_ _=>⟨⟨_,_⟩,rfl,rfl,by simp[WN.ok],λ_ _=>⟨?_,l,rfl,oM,λ_ _=>⟨⟨_,dP l⟩,rfl,UD _ _,⟨?_,rB l⟩,λ_ _=>⟨_,rfl,?_,λ_ _=>⟨(),rfl,?_,trivial⟩⟩⟩⟩⟩⟩⟩)
 ·rw[yW];simp;omega
 ·dsimp only;simp;omega
 ·dsimp only;simp[y8];omega
 ·dsimp only;rw[hn,jH];simp
def yNh:GL.ok Tryz.prog 132:=gx mixed (dw PC (dw Pt (dw UE (dw yBc (dw Pw fk))))) 0 (λ_=>y4o) i6 [] Tryz.func132 y5j
def ySz {c:Int} (h:0<=c/\c<4294967296):yX (le c 4)=c:=by
 simp only[le,yX,Ro];omega
def zWr {l:i4} (h:l.length<=255) (r:i4):Cx (jH l++r)=(l,6+l.length,0):=by
 have h0:((jH l++r).getD 0 0).toNat=l.length:=by
  have:=ET (n:=(l.length:Int)) oM;show(iY (l.length:Int)).toNat=l.length;omega
 have h1:((jH l++r).getD 1 0).toNat=255-l.length:=by
  show(UInt8.ofNat (255-l.length)).toNat=_;exact UInt8.toNat_ofNat_of_lt' (by
                                     have:255-l.length<256:=by omega
                                     simpa using this)
 have h2:(jH l++r).drop 2=l++(le (dP l) 4++r):=by
  show(l++le (dP l) 4)++r=_;rw[jd]
 have h3:(jH l++r).drop (2+l.length)=le (dP l) 4++r:=by
  rw[<- Dl,h2,Oe]
 unfold Cx;rw[h0,h1,h2,h3,JY,List.take_left' (y8 4 _),ySz (rB l)];rw[ez (by rw[iv,bG];omega),ez (by omega),ez (by rw[iv,bG];omega),ez (by simp)]
def xHs (i:F6) (h:SR.dp i):xDq i:=by
 obtain⟨h1,h2⟩:i.k<=i.b.length/\i.b.length<=1099511627776:=h;have ex:i.x=Cx (i.b.drop i.k):=rfl;have OP:(i.b.drop i.k).length<=1099511627776:=by rw[pd];omega
 have bad:∀e:Int,e≠0->i.x.2.2=e->∀{A:Prop},A\/∃o:Unit,True/\(0:Int)=0/\i.x.2.2=e/\(i.x.2.2=0->False):=λe he hx=> .inr ⟨(),trivial,rfl,hx,λh=>he (hx▸h)⟩
 unfold xDq ff dx PR Vi ZM cC aM nV;rw[ot,<- lS,yW i.b];generalize i.b.drop i.k=l at*;rw[yW l];refine zG (λc=>by omega) (λ_=>⟨⟨oM,oM⟩,zG (λc=>bad 10 Z8 (by rw[ex,Cx,fh (by omega)])) (λc=> ?_)⟩);obtain⟨a,ha⟩:∃a,l[0]? =bv a:=⟨_,vd oM⟩
 obtain⟨b,hb⟩:∃b,l[1]? =bv b:=⟨_,vd oM⟩
 have ea:l.getD 0 0=a:=by rw[mu,ha];rfl
 have eb:l.getD 1 0=b:=by rw[mu,hb];rfl
 have la:=a.toNat_lt;have hn:=xHw ⟨a.toNat,la⟩;dsimp only at hn;refine⟨⟨oM,oM⟩,b.toNat,dC hb,⟨oM,oM⟩,a.toNat,dC ha,?_⟩;rw[hn];have wa:ak.wrap (a.toNat:Int)=a.toNat:=iw oM;have w2:ak.wrap ((2:Int)+a.toNat)=2+a.toNat:=iw oM;have w3:ak.wrap ((2:Int)+a.toNat+4)=2+a.toNat+4:=iw oM;have w4:ak.wrap ((i.k:Int)+(2+a.toNat))=i.k+(2+a.toNat):=iw oM;have w5:ak.wrap ((i.k:Int)+(2+a.toNat)+4)=i.k+(2+a.toNat)+4:=iw oM;have t1:((2:Int)+a.toNat).toNat=2+a.toNat:=by omega
 have t2:((2:Int)+a.toNat+4).toNat=2+a.toNat+4:=by omega
 refine Cv.dp.mk (λc2=>bad 14 Z8 ?_) (λc2=>⟨⟨oM,oM⟩,a.toNat,dC ha,?_⟩)
 ·have c2:¬((b.toNat:Int)=255-a.toNat):=i9 c2
  rw[ex,Cx,ez (by omega),ea,eb,fh (by omega)]
 have c2:(b.toNat:Int)=255-a.toNat:=i9 c2
 rw[wa,w2,w3,w4,w5,t1,t2,show cq 2=2 from rfl];refine zG (λc3=>bad 10 Z8 ?_) (λc3=> ?_)
 ·rw[ex,Cx,ez (by omega),ea,eb,ez (by omega),fh (by omega)]
 have l1:((l.take (2+a.toNat+4)).drop (2+a.toNat)).length=4:=by rw[pd,nn];omega
 have g1:(l.take (2+a.toNat+4)).drop (2+a.toNat)=(l.drop (2+a.toNat)).take 4:=by rw[aw];congr 1;omega
 have g2:(l.take (2+a.toNat)).drop 2=(l.drop 2).take a.toNat:=by rw[aw];congr 1;omega
 have g3:RN.iS ⟨(l.take (2+a.toNat+4)).drop (2+a.toNat),cg,4⟩=(l.drop (2+a.toNat)).take 4:=by
  rw[RN.iS,ez (by simp only[RN.bad,l1];decide)];dsimp only;rw[mz (by omega),g1]
 have l2:((l.drop 2).take a.toNat).length=a.toNat:=by rw[nn,pd];omega
 refine⟨⟨oM,oM,oM⟩,(l.take (2+a.toNat+4)).drop (2+a.toNat),by rw[lS,Lw],oM,λ_ _=>⟨⟨oM,oM,oM⟩,⟨_,cg,4⟩,rfl,rfl,⟨Z9,Z9⟩,λ_ _=>⟨(l.take (2+a.toNat)).drop 2,by rw[lS,Lw],by rw[g2];omega,λ_ _=> ?_⟩⟩⟩;rw[g2,g3];have hr:=uV ((l.drop (2+a.toNat)).take 4);have hl4:((l.drop (2+a.toNat)).take 4).length=4:=by rw[<- g1];exact l1
 rw[hl4]at hr;rw[xEs (by omega)];refine Cv.dp.mk (λc4=>bad 14 Z8 ?_) (λc4=> ?_)
 ·rw[ex,Cx,ez (by omega),ea,eb,ez (by omega),ez (by omega),fh (i9 c4)]
 have ex2:i.x=((l.drop 2).take a.toNat,6+a.toNat,0):=by
  rw[ex,Cx,ez (by omega),ea,eb,ez (by omega),ez (by omega),ez (i9 c4)]
 rw[ex2,<- Lw,<- lS,g2,yW,l2];exact⟨⟨oM,oM,oM⟩,oM,.inl ⟨(),Z9,rfl,rfl,rfl⟩⟩
def xAv:SR.ok Tryz.prog 246:=gx mixed (dw z2m (dw z9a (dw UE fk))) 0 i6 i6 [] Tryz.func246 xHs
def yYk (A B:Q_ UInt8):oU (A++B)=oU A++oU B:=by rw[oU,yy];rfl
def Y8 (l:i4) (L:Q_ UInt8):oU (l::L)=jH l++oU L:=rfl
def yUf {L:Q_ UInt8} {k:Nat} {l:i4} (h:L[k]? =bv l):oU (L.take (k+1))=oU (L.take k)++jH l:=tO h
def zXc (L:Q_ UInt8) (k:Nat):oU L=oU (L.take k)++oU (L.drop k):=by rw[<- yYk,Bb]
def yGw (L:Q_ UInt8):L.length<=(oU L).length:=by
 induction L with
 |nil=>exact ju _
 |cons l L ih=>rw[Y8,iv,bG,iF];omega
def xGa (i:Eo) (h:KG.dp i):y2w i:=by
 obtain⟨h1,h2,h3⟩:i.ok:=h;have hn:=yGw i.L;have tr:∀k,(oU i.L).length=(oU (i.L.take k)).length+(oU (i.L.drop k)).length:=λk=>by
  have:=congrArg ar (zXc i.L k);rwa [iv]at this
 unfold y2w dx zLq dx dB;rw[yW,iv];refine⟨0,rfl,rfl,λk=>k<=i.L.length,λk=>i.L.length-k,mn _,λk hk=>zG (λgu=> ?_) (λgu=> ?_)⟩
 ·have hk:k<=i.L.length:=hk;have hs:=tr k;have hx:(F6.mk (oU i.L++i.t) (oU (i.L.take k)).length).x=Cx (oU (i.L.drop k)++i.t):=by
   show Cx ((oU i.L++i.t).drop _)=_;rw[zXc i.L k,jd,Oe]
  refine⟨⟨oU i.L++i.t,(oU (i.L.take k)).length⟩,rfl,rfl,⟨by dsimp only;rw[iv];omega,by dsimp only;rw[iv];omega⟩,λ_ e0=> ?_,λ_ e1=> ?_⟩
  ·rw[hx]at e0 ⊢;rcases uz k i.L.length with oY|oY
   ·obtain⟨l,hl⟩:=zZ oY;have hd:i.L.drop k=l::i.L.drop (k+1):=by
     rw[CH oY];congr 1;rw[vd oY]at hl;exact Option.some.inj hl
    have Gf:=h1 l (lh hl);rw[hd,Y8,jd,zWr Gf];refine⟨by rw[ia,nn];omega,k+1,?_,?_,Z9,Z9,trivial⟩
    ·rw[yUf hl,iv,bG];dsimp only;omega
    ·rw[qq,hl];simp[iZ]
   ·rw[IB oY]at e0;rw[show oU ([]:Q_ UInt8)++i.t=i.t from rfl,h2]at e0;cases e0
  ·rw[hx]at e1 ⊢;rcases uz k i.L.length with oY|oY
   ·obtain⟨l,hl⟩:=zZ oY;have hd:i.L.drop k=l::i.L.drop (k+1):=by
     rw[CH oY];congr 1;rw[vd oY]at hl;exact Option.some.inj hl
    have Gf:=h1 l (lh hl);rw[hd,Y8,jd,zWr Gf]at e1;exact absurd rfl e1
   ·obtain rfl:k=i.L.length:=by omega
    rw[List.drop_length,show oU ([]:Q_ UInt8)++i.t=i.t from rfl,h2,At];exact Cv.dp.mk (λe=>by cases e) (λ_=>Cv.dp.mk (λ_=>⟨(),iM trivial⟩) (λe=>by cases e))
 ·have hk:k<=i.L.length:=hk;have hs:=tr k;have h5:=yGw (i.L.drop k);rw[pd]at h5;obtain rfl:k=i.L.length:=by omega
  rw[At];exact⟨(),iM trivial⟩
def y1d:KG.ok Tryz.prog 198:=gx mixed (dw xAv fk) 0 i6 (λi=>xEg i) [] Tryz.func198 xGa
def xBi:aax.ok Tryz.prog 119:=gx (V:=xFh) mixed (dw yZk (dw y1d (dw yXv fk))) 0 i6 i6 [] Tryz.func119 λ(i:Cu) h=>by
 obtain⟨hs,hd⟩:(Eo.mk i.L i.t).ok/\i.d.ok:=h;have e0:(bE i.d.b).length=(oU i.L).length+i.t.length:=by rw[yW,Cu.d,iv]
 have h3:=hs.2.2;dsimp only at h3;unfold xFh ff dx;refine⟨i.d,rfl,hd,λ_ _=>⟨⟨i.L,i.t⟩,rfl,hs,λ_ _=>zG (λc=> ?_) (λc=> ?_)⟩⟩
 ·have ht:i.t≠[]:=λe=>by rw[e0,e]at c;simp at c
  refine⟨⟨oM,by rw[e0];dsimp only;omega⟩,⟨i.d,oU i.L⟩,?_,rfl,Z9,λ_ _=>⟨(),rfl,?_,by rw[ia],rfl,trivial⟩⟩
  ·dsimp only;rw[ot,<- Lw,Cu.d,JY]
  ·rw[Cu.d',ez ht]
 ·have ht:i.t=[]:=List.length_eq_zero_iff.1 (by rw[e0]at c;dsimp only at c;omega);refine⟨(),rfl,?_,by rw[ia],rfl,trivial⟩;rw[Cu.d',fh ht]
def yYf:T3.ok Tryz.prog 57:=gx (V:=xDo) mixed (dw yNh (dw yZx fk)) 0 i6 i6 [] Tryz.func57 λ(i:Yx) h=>by
 obtain⟨h1,h2,h3,h4⟩:i.l.length<=255/\i.d.b.length+i.l.length+6<=1048576/\0<=i.n/\i.n<=1048576:=h;exact⟨i.l,rfl,h1,λ_ _=>⟨⟨i.d,jH i.l⟩,rfl,rfl,by dsimp only;rw[bG];omega,λ_ _=>⟨(),rfl,by rw[iw (by omega)],rfl,trivial⟩⟩⟩
def cO (W:List (Int×Int)) (id:Int):Int×Bool:=match W.find? λx=>decide (x.1=id)with
 |some x=>(x.2,cf)
 |none=>(0,cg)
def JV:List (Int×Int)->Int->Int->List (Int×Int)
 |[],id,s=>[(id,s)]
 |x::W,id,s=>if id=x.1 then(x.1,s)::W else x::JV W id s
def yTn (x:Int×Int) (W:List (Int×Int)) (id:Int):cO (x::W) id=if id=x.1 then(x.2,cf)else cO W id:=by
 rw[cO,LV];by_cases c:id=x.1
 ·rw[fh c,jo c.symm]
 ·rw[ez c,jv (λe=>c e.symm)];rfl
structure SO where
 B:Q_ zJ
 U:List Int
 W:List (Int×Int)
 O:List (Int×ga)
def N0 (B:Q_ zJ) (U:List Int) (W:List (Int×Int)) (s id pf:Int):SO:=⟨B,U,W,[(s,⟨2,id,0,0,0,0,0,pf⟩)]⟩
def FD (s:Int):List (Int×Int)->List ga->List (Int×Int)×List (Int×ga)
 |W,[]=>(W,[])
 |W,r::R=>
  let W1:=if r.kind=1 then JV W r.id s else W
  ((FD s W1 R).1,(if r.kind=2 then s else(cO W1 r.id).1,r)::(FD s W1 R).2)
def JA (B:Q_ zJ) (W:List (Int×Int)) (s:Int):Nat:=(sm 0 B).countP λx=>decide ((cO W x.1).1=s)
def Lm (p:fj) (B:Q_ zJ) (U:List Int) (W:List (Int×Int)) (s:Int) (c:iq):SO:=
 if c.kind=1/\64<=JA B W s then N0 B U W s c.id 30
 else if c.kind≠1/\((cO W c.id).2=cg\/(cO W c.id).1≠s)then N0 B U W s c.id 26
 else⟨(Aa p B U c).B,(Aa p B U c).U,(FD s W (Aa p B U c).R).1,(FD s W (Aa p B U c).R).2⟩
def tA (p:fj) (B:Q_ zJ) (U:List Int) (W:List (Int×Int)) (s:Int) (b:i4):SO:=
 if s<0\/8<=s then N0 B U W s 0 1 else if(xX b).2≠0 then N0 B U W s 0 (xX b).2 else Lm p B U W s (xX b).1
def yEr (p:fj) (x:wY) {r:ga} (hr:r.kind=3):∀y∈pN p x r,y.kind=3:=by
 intro y hy;rw[pN,jx]at hy;rcases hy with rfl|hy
 ·exact hr
 ·split at hy
  ·rw[PK]at hy;simp only[jx,FH,or_false]at hy;rcases hy with rfl|rfl<;>exact hr
  ·cases hy
def z8d (p:fj) (c:iq):∀(l:List wY) (q:Int),∀y∈nX p c l q,y.kind=3
 |[],_,y,hy=>by cases hy
 |x::l,q,y,hy=>by
  rw[nX,oK]at hy;rcases hy with hy|hy
  ·rw[rA,oK]at hy;rcases hy with hy|hy
   ·obtain⟨f,_,hy⟩:=A8.1 hy;exact yEr p x rfl y hy
   ·exact yEr p x rfl y hy
  ·exact z8d p c l _ y hy
def z4e (p:fj) (B:Q_ zJ) (U:List Int) (c:iq):(∀r∈(bI p B U c).R,r.kind=1->r.id=c.id)/\∃r l,(bI p B U c).R=r::l/\r.kind=1/\r.id=c.id:=by
 rw[sS];dsimp only;refine⟨λr hr hk=> ?_,_,_,rfl,rfl,rfl⟩;rw[uh,jx,oK]at hr;rcases hr with rfl|hr|hr
 ·rfl
 ·have:=z8d _ _ _ _ r hr;omega
 ·split at hr
  ·rw[ua]at hr;subst hr;rfl
  ·cases hr
def yDy:∀{l m:List Nat},l.Nodup->(∀x∈l,x∈m)->l.length<=m.length
 |[],m,_,_=>mn _
 |a::l,m,h,hs=>by
  rw[ym]at h;have ha:=hs a iX;have:=yDy (l:=l) (m:=m.erase a) h.2 λx hx=>(List.mem_erase_of_ne (λe=>h.1 (by rw[<- e];exact hx))).2 (hs x (ji _ hx))
  rw[List.length_erase_of_mem ha]at this;have:=List.length_pos_of_mem ha;rw[iF];omega
structure Handed (fy:List ba) (seen:Array Nat) (dn:List ba):Prop where
 sn:seen.toList=dn.map (·.born)
 nd:(dn.map (·.born)).Nodup
 sub:∀e∈dn,e∈fy
def Handed.push {fy:List ba} {seen:Array Nat} {dn:List ba} (h:Handed fy seen dn) {e:ba} (he:e∈(leftOf fy.toArray seen).toList):Handed fy (seen.push e.born) (dn++[e]):=by
 simp only[leftOf,Array.toList_filter,ug,Dp]at he;obtain⟨h1,h2⟩:=he;have h3:e.born∉dn.map (·.born):=by
  rw[<- h.sn];intro hm;have:seen.contains e.born=cf:=by
   rw[Array.contains_iff_mem];exact Array.mem_toList_iff.1 hm
  rw[this]at h2;cases h2
 refine⟨by rw[Array.toList_push,h.sn,jk];rfl,?_,λx hx=> ?_⟩
 ·rw[jk,av,Au];exact⟨h.nd,by simp,λx hx y hy e=>by rw[ua]at hy;subst hy;subst e;exact h3 hx⟩
 ·rcases oK.1 hx with hx|hx
  ·exact h.sub x hx
  ·rw[ua]at hx;subst hx;exact h1
def Handed.len {fy:List ba} {seen:Array Nat} {dn:List ba} (h:Handed fy seen dn):dn.length<=fy.length:=by
 have:=yDy (m:=fy.map (·.born)) h.nd λx hx=>by
  obtain⟨e,he,rfl⟩:=np.1 hx;exact si (f:=(·.born)) (h.sub e he)
 simpa using this
def Handed.all {fy:List ba} {seen:Array Nat} {dn:List ba} (h:Handed fy seen dn) (hn:(fy.map (·.born)).Nodup) (h0:(leftOf fy.toArray seen).size=0):dn.Perm fy:=by
 have inj:∀{l:List ba},(l.map (·.born)).Nodup->∀x∈l,∀y∈l,x.born=y.born->x=y:=by
  intro l hl
  induction l with
  |nil=>intro x hx;cases hx
  |cons a l ih=>
   rw[jf,ym]at hl;intro x hx y hy e;rcases jx.1 hx with e1|h1<;>rcases jx.1 hy with e2|h2
   ·rw[e1,e2]
   ·refine absurd ?_ hl.1;rw[<- e1,e];exact si (f:=(·.born)) h2
   ·refine absurd ?_ hl.1;rw[<- e2,<- e];exact si (f:=(·.born)) h1
   ·exact ih hl.2 x h1 y h2 e
 have nd:∀{l:List ba},(l.map (·.born)).Nodup->l.Nodup:=λhl=>List.Pairwise.imp (λjy e=>jy (by rw[e])) (List.pairwise_map.1 hl)
 refine(List.perm_ext_iff_of_nodup (nd h.nd) (nd hn)).2 λe=>⟨h.sub e,λhe=> ?_⟩
 have:seen.contains e.born=cf:=by
  cases hc:seen.contains e.born with
  |true=>rfl
  |false=>
   have hm:e∈(leftOf fy.toArray seen).toList:=by
    simp only[leftOf,Array.toList_filter,ug];exact⟨he,by rw[hc];rfl⟩
   have:(leftOf fy.toArray seen).toList=[]:=xq (i9 h0);rw[this]at hm;cases hm
 rw[Array.contains_iff_mem]at this;have:=Array.mem_toList_iff.2 this;rw[h.sn]at this;obtain⟨x,hx,e2⟩:=np.1 this;rw[<- inj hn x (h.sub x hx) e he e2];exact hx
def yCd (k:Ko) (LL:List HP) (fy:List ba) (e:Ending) (w':bu):Prop:=∃(a:Option Addr) (n c:Nat) (xs:List bc) (dn:List ba),e=.returned (.slice a n c)/\xs=dn.map (·.key)/\n=dn.length/\dn.Perm fy/\Hp k w' (ou 2 1 a n c xs::LL)
def yUp (k:Ko) (LL:List HP) (fy:List ba) (r bm ck:Nat) (v:bc) (w1:bu):Prop:=∃(a:Option Addr) (n c:Nat) (xs:List bc) (seen:Array Nat) (c0:Nat) (dn:List ba),v=.slice a n c/\xs=dn.map (·.key)/\n=dn.length/\ck<=c0/\Handed fy seen dn/\Hp k w1 (ou 2 1 a n c xs::pt r (.mapIter (bv bm) ck seen c0)::LL)
def yMl (fy:List ba) (v:bc) (_:bu):Nat:=match v with| .slice _ n _=>fy.length-n|_=>0
def yLh {b bm ck:Nat} {fy:List ba} {w:bu} {k:Ko} {LL:List HP} {l:List bc} {T:be}
 (H:Hp k w LL) (ta:∀w',Hp k w' LL->w'.heap[b]? =bv (.cells l.toArray T)/\w'.heap[bm]? =bv (.map fy.toArray ck)) (hl:l[12]? =bv (.map (bv bm)))
 (hck:∀e∈fy,e.born<ck) (hn:(fy.map (·.born)).Nodup) (hk:∀e∈fy,∃n,e.key= .int .i64 n) (pg:fy.length<=1000000):
 Calls Tryz.prog 249 #[.pointer (bv ⟨b,0,bz⟩)] w (yCd k LL fy):=by
 refine ux (c:=Tryz.f249.body.getD .skip) (args:=[.pointer (bv ⟨b,0,bz⟩)]) mixed Tryz.func249 (by kernel_rfl) [{ι:=bc,SK:=λv=>[(3,v)],fix:=[9]}] (by kernel_rfl) (by kernel_rfl) (by kernel_rfl) ?_;obtain⟨h1,h2⟩:=ta w H;have hu:Tryz.prog.underlying 150=bv (.map 2 3):=by kernel_rfl
 refine⟨bv bm,?_,bv ⟨w.heap.size,0,bz⟩,w.alloc (.mapIter (bv bm) ck #[] ck),?_,?_⟩
 ·show pY Tryz.prog 150 ⟨b,12,bz⟩ w (.map (bv bm));exact vY (by kernel_rfl) h1 hl
 ·show(Instr.range 150 (.map (bv bm))).run Tryz.prog w=_;exact run_range_map w _ _ _ bm _ ck hu h2
 refine⟨yUp k LL fy w.heap.size bm ck,yMl fy,⟨.slice bz 0 0,rfl,bz,0,0,[],#[],ck,[],rfl,rfl,rfl,ju _,⟨rfl,Oc,λe he=>by cases he⟩,(H.new _).nil _ _⟩,?_⟩;rintro j v w1 ⟨a,n,c,xs,seen,c0,dn,rfl,wk,Sf,OT,hh,H1⟩;have hr:=H1.drop.get;obtain⟨-,g2⟩:=ta w1 H1.drop.drop;rcases run_next_at (P:=Tryz.prog) w1 0 w.heap.size bm ck c0 seen fy.toArray ck hr g2 (λx hx=>hck x (i9 hx)) OT with⟨e1,e2⟩|⟨e,he,w2,hw2,jr⟩
 ·refine .inl ⟨w1,e2,?_⟩;show yCd k LL fy (.returned (.slice a n c)) w1;exact⟨a,n,c,xs,dn,rfl,wk,Sf,hh.all hn e1,(H1.swap).drop⟩
 ·have tv:e∈fy:=by
   have:=he;simp only[leftOf,Array.toList_filter,ug]at this;exact this.1
  obtain⟨m,hm⟩:=hk e tv;have hp:=hh.push he;have H2:Hp k (World.ja w2 w.heap.size (.mapIter (bv bm) ck (seen.push e.born) ck)) (ou 2 1 a n c xs::pt w.heap.size (.mapIter (bv bm) ck (seen.push e.born) ck)::LL):=by
   have H1':Hp k w2 (ou 2 1 a n c xs::pt w.heap.size (.mapIter (bv bm) ck seen c0)::LL):=by
    rcases hw2 with rfl|rfl
    ·exact H1
    ·exact H1.drew
   exact((H1'.swap).yz _).swap
  have qj:Go.ChangeMaps.setBlock w2 w.heap.size (.mapIter (bv bm) ck (seen.push e.born) ck)=World.ja w2 w.heap.size (.mapIter (bv bm) ck (seen.push e.born) ck):=rfl;rw[qj]at jr;generalize XZ:World.ja w2 w.heap.size (.mapIter (bv bm) ck (seen.push e.born) ck)=w3 at H2 jr;obtain⟨-,g3⟩:=ta w3 H2.drop.drop;have EF:=run_entry_at (P:=Tryz.prog) w3 w.heap.size bm ck seen fy.toArray ck e H2.drop.get g3 (i9 tv) (i9 hn);refine .inr ⟨e.key,e.val,w3,jr,.tuple #[e.key,e.val],EF,?_⟩;rw[hm];have hlen:=hp.len;rw[iv,Ba]at hlen;refine Eq.mp (α:=Lz w3 (.cells #[.int .i64 m] 2) λbb w4=>∃(a':Option Addr) (n' c':Nat),∃w5,fJ Tryz.prog (ce #[23,23] 23 #[.slice a n c,.slice (bv ⟨bb,0,bz⟩) 1 1]) w4 (.slice a' n' c') w5/\∃i',.slice a' n' c'=i'/\yUp k LL fy w.heap.size bm ck i' w5/\yMl fy i' w5<yMl fy (.slice a n c) w1) (by kernel_rfl) ?_;rintro bb w4 hb hw4;subst hb hw4;have H3:=(H2.new (.cells [ay .i64 m].toArray 2)).lit (sz:=1) (n:=1) rfl;obtain⟨a',c',w5,Kl,H5⟩:=(H3.swap).append (P:=Tryz.prog) (t1:=23) (t2:=23) (rt:=23) (e:=2) (sz:=1) (oD:=8) (z:= #[.int .i64 0]) (by kernel_rfl) (by kernel_rfl) (x:= .slice (bv ⟨w3.heap.size,0,bz⟩) 1 1) (m:=1) (ys:=[.int .i64 m]) (.inl ⟨_,_,rfl,H3.I0⟩) (by simp[Value.oq]) rfl Z8 oM;refine⟨a',n+1,c',w5,Kl,.slice a' (n+1) c',rfl,⟨a',n+1,c',_,_,ck,dn++[e],rfl,?_,?_,ju _,hp,(H5.swap).drop⟩,?_⟩
  ·rw[wk,jk,av,hm]
  ·rw[iv,Sf];rfl
  ·show fy.length-(n+1)<fy.length-n;omega
def yDr {F:PH}:∀{l:List (Int×Int)} {fy:List ba},MR F (yV l) fy->fy.map (·.key)=l.map (λp=>ay .i64 p.1)
 |[],fy,h=>by
  have h:fy=[]:=h;subst h;rfl
 |p::l,fy,h=>by
  obtain⟨m,ms,rfl,h1,-,h3⟩:=h;rw[jf,jf,yDr (l:=l) h3,h1]
def Xf:bc->Int
 | .int _ n=>n
 |_=>0
def yJh {xs:List bc} {m:List Int} (h:xs.Perm (m.map λn=>ay .i64 n)):∃l:List Int,xs=l.map (λn=>ay .i64 n)/\l.Perm m:=by
 refine⟨xs.map Xf,?_,?_⟩
 ·rw[wb];have:∀x∈xs,((λn=>ay .i64 n)∘Xf) x=x:=by
   intro x hx;obtain⟨n,_,rfl⟩:=np.1 (h.mem_iff.1 hx);rfl
  rw[uc this,List.map_id']
 ·have:=h.map Xf;rw[wb]at this;have e:(Xf∘λn=>ay .i64 n)=id:=rfl;rw[e,List.map_id]at this;exact this
def yGu (F:PH):∀l:List Int,iB F (iE l).flatten (l.map λn=>ay .i64 n)
 |[]=>by simp[iE,iB]
 |n::l=>by
  have ih:=yGu F l;have e:(iE (n::l)).flatten= .v (.int .i64 n)::(iE l).flatten:=rfl;rw[e,iB];exact⟨.int .i64 n,_,rfl,by simp[DR,Value.oq],ih⟩
def yg:gh where
 ι:=gy
 pat:=λ_=>[.nm 0 0]
 pre:=λs=>[zE s]
 dp:=λs=>s.wh.length<=1000000
 alts:=λs=>[{o:=List Int,res:=λ_=> .own 1,post:=λl=>[zE s,.own 2 1 (iE l)],rel:=λl=>l.Perm (s.wh.map (·.1))}]
@[reducible] def EL (s:gy):St:=Vd [0] ⟨gZ 0 (yg.pre s),(yg.pre s).length⟩
def yYh (s:gy) (l:List Int) (hl:l.Perm (s.wh.map (·.1))):W4 1 (.own 5) ((EL s).new (.own 2 1 (iE l))) (yg.alts s):=by
 refine Eq.mp (α:=∃(o:List Int),sb s.p.code=sb s.p.code/\s.p.tick=s.p.tick/\s.p.low=s.p.low/\s.p.high=s.p.high/\s.p.wide=s.p.wide/\s.p.gm=s.p.gm/\s.p.top=s.p.top/\s.p.least=s.p.least/\s.p.part=s.p.part/\aj 160 dq 6 zR s.eg bz=aj 160 dq 6 zR s.eg bz/\yV s.wh=yV s.wh/\ab 1 (iE s.p.dt)=ab 1 (iE s.p.dt)/\ab 1 (iE s.p.settle)=ab 1 (iE s.p.settle)/\iE o=iE l/\o.Perm (s.wh.map (·.1))) (by kernel_rfl) ?_
 exact⟨l,iA (nr hl)⟩
def yTw:yg.ok Tryz.prog 249:=by
 intro s hc k L E w ys R hv;have hc:s.wh.length<=1000000:=hc;have Fc:=R.nx;obtain⟨E1,hle,R1⟩:=zGn [0] R;have R1:Rel k L E1 (EL s) w:=R1;have OT:(EL s).get 0=bv (.cells [sV s.p.code,.own 3,zB s.p.tick,zB s.p.low,zB s.p.high,zB s.p.wide,zB s.p.gm,zB s.p.top,zB s.p.least,zB s.p.part,.own 4,.own 1,.mp 2] 159):=rfl;have Cm:((EL s).del 0).get 2=bv (.map (yV s.wh)):=rfl;have Ra:=(R1.take OT).take Cm;have H0:Hp k w (ic E1 (2,.map (yV s.wh))::ic E1 (0,.cells [sV s.p.code,.own 3,zB s.p.tick,zB s.p.low,zB s.p.high,zB s.p.wide,zB s.p.gm,zB s.p.top,zB s.p.least,zB s.p.part,.own 4,.own 1,.mp 2] 159)::((((EL s).del 0).del 2).rows.map (ic E1)++fz E1.F::L)):=
  Ra.out.perm (.cons _ (((co _ _ _).append_left _).trans mo))
 generalize BW:(((EL s).del 0).del 2).rows.map (ic E1)++fz E1.F::L=rest at H0;obtain⟨hk,hs,hh⟩:=H0;cases hh with
 |cons ha jb HW hr=>
 cases hr with
 |cons ha0 T8 aaQ HR=>
 rcases ha with⟨e,_⟩|⟨AA,t2,r2⟩
 ·cases e
 rcases ha0 with⟨e,_⟩|⟨hd0,t0,r0⟩
 ·cases e
 simp only[fw]at r2 r0;obtain⟨bm,fy,ck,q1,q2,q3,rfl⟩:=r2;obtain⟨b,l,p1,p2,rfl⟩:=r0;have H:Hp k w (pt bm (.map fy.toArray ck)::pt b (.cells l.toArray 159)::rest):=⟨hk,_,.cons rfl jb HW (.cons rfl T8 aaQ HR)⟩
 have aaI:l[12]? =bv (.map (bv bm)):=by
  simp only[ib,VR]at p2;obtain⟨_,_,rfl,-,_,_,rfl,-,_,_,rfl,-,_,_,rfl,-,_,_,rfl,-,_,_,rfl,-,_,_,rfl,-,_,_,rfl,-,_,_,rfl,-,_,_,rfl,-,_,_,rfl,-,_,_,rfl,-,y,_,rfl,⟨bb,sub,g1,rfl⟩,rfl⟩:=p2;rw[t2]at g1;cases g1;cases q1;rfl
 have HO:ys=[.pointer (bv ⟨b,0,bz⟩)]:=by
  simp only[yg,ib,VR]at hv;obtain⟨y,_,rfl,⟨b',oo,sub,g1,rfl⟩,rfl⟩:=hv;rw[hle.get g1]at t0;cases t0;cases p1;rfl
 subst HO;have Gg:=yDr q2;have hlen:fy.length=s.wh.length:=by simpa using congrArg ar Gg
 have xa:=yLh H (λw' H'=>⟨(H'.swap).get,H'.get⟩) aaI q3.2 q3.1 (λe he=>by
  have:e.key∈fy.map (·.key):=si (f:=(·.key)) he
  rw[Gg]at this;obtain⟨p,_,hp⟩:=np.1 this;exact⟨p.1,hp.symm⟩) oM
 have hdo:=pD (P:=Tryz.prog) (f:=249) (args:= #[.pointer (bv ⟨b,0,bz⟩)]) (w:=w) (K:=λv w'=>yCd k (pt bm (.map fy.toArray ck)::pt b (.cells l.toArray 159)::rest) fy (.returned v) w') (by kernel_rfl) (xa.mono λe w' h=>by
  have h2:=h;obtain⟨a,n,c,xs,dn,rfl,-⟩:=h2;exact⟨_,rfl,h⟩)
 refine hdo.mono ?_;rintro v w' ⟨a,n,c,xs,dn,Kc,rfl,rfl,Ud,H2⟩;cases Kc;obtain⟨li,e1,e2⟩:=yJh (xs:=dn.map (·.key)) (m:=s.wh.map (·.1)) (by
  have:=Ud.map (·.key)
  rw[Gg]at this;rwa [wb])
 have TG:dn.length=li.length:=by simpa using congrArg ar e1
 rw[e1,TG]at H2;rw[TG];have H3:Hp k w' (ou 2 1 a li.length c (li.map λn=>ay .i64 n)::((EL s).rows.map (ic E1)++fz E1.F::L)):=by
  have h1:Hp k w' (ic E1 (2,.map (yV s.wh))::ic E1 (0,.cells [sV s.p.code,.own 3,zB s.p.tick,zB s.p.low,zB s.p.high,zB s.p.wide,zB s.p.gm,zB s.p.top,zB s.p.least,zB s.p.part,.own 4,.own 1,.mp 2] 159)::ou 2 1 a li.length c (li.map λn=>ay .i64 n)::rest):=by
   have g0:Hp k w' (pt bm (.map fy.toArray ck)::pt b (.cells l.toArray 159)::ou 2 1 a li.length c (li.map λn=>ay .i64 n)::rest):=
    H2.perm ((co _ _ _).trans (.cons _ (.swap _ _ _)))
   have g1:=g0.imp (B:=ic E1 (2,.map (yV s.wh))) λx hx=> .inr ⟨AA,t2,by simp only[fw];exact⟨bm,fy,ck,q1,q2,q3,hx⟩⟩
   have g2:=(g1.swap).imp (B:=ic E1 (0,.cells [sV s.p.code,.own 3,zB s.p.tick,zB s.p.low,zB s.p.high,zB s.p.wide,zB s.p.gm,zB s.p.top,zB s.p.least,zB s.p.part,.own 4,.own 1,.mp 2] 159)) λx hx=> .inr ⟨hd0,t0,by simp only[fw];exact⟨b,l,p1,p2,hx⟩⟩
   exact g2.swap
  subst BW;refine h1.perm ?_;have p0:=((uI OT).1.map (ic E1))
  have p2:=((uI Cm).1.map (ic E1))
  have p3:=(p0.trans (p2.cons _)).append_right (fz E1.F::L);refine List.Perm.trans ?_ (p3.symm.cons _);exact(co _ _ _).trans ((cp _ (.swap _ _ _)).trans (.swap _ _ _))
 have tw:E1.le ⟨E1.F,E1.gj++[((.slice a li.length c,[]):Hd)]⟩:=Ev.le.app _;have km:(E1.gj++[((.slice a li.length c,[]):Hd)])[(EL s).nx]? =bv (.slice a li.length c,[]):=by rw[<- R1.nx];simp
 have R2:Rel k L ⟨E1.F,E1.gj++[((.slice a li.length c,[]):Hd)]⟩ ((EL s).new (.own 2 1 (iE li))) w':=by
  refine⟨by simp[St.new,R1.nx],?_⟩;have g1:Hp k w' ((EL s).rows.map (ic E1)++(ou 2 1 a li.length c (li.map λn=>ay .i64 n)::fz E1.F::L)):=H3.perm (mo (l₁:=(EL s).rows.map (ic E1))).symm;have g2:=vH (λr x=>ic.mono tw r) g1;have g3:Hp k w' (ou 2 1 a li.length c (li.map λn=>ay .i64 n)::((EL s).rows.map (ic ⟨E1.F,E1.gj++[((.slice a li.length c,[]):Hd)]⟩)++fz E1.F::L)):=g2.perm mo;exact g3.imp λx hx=> .inr ⟨_,km,by
   simp only[fw];exact⟨a,c,_,by rw[y9],yGu _ li,λel oS=>by obtain⟨n,_,rfl⟩:=np.1 oS;rfl,by rw[y9];exact hx⟩⟩
 obtain⟨al,ha,F9⟩:=VQ (yYh s li e2);obtain⟨o,o1,E3,o2,o3,o4⟩:=YI F9 Fc (hle.trans tw) R2 (y:= .slice a li.length c) (by simp only[VR];exact⟨_,km,_,_,_,rfl⟩);exact⟨al,ha,o,o1,E3,o2,o3,o4⟩
structure Er where
 m:iI
 p:fj
 B:Q_ zJ
 U:List Int
@[reducible] def Er.ok (i:Er):Prop:=i.m.ga i.p i.B i.U/\jh i.p i.B
def TZ:gh where
 ι:=Er
 pat:=λ_=>[.nm 0 0]
 pre:=λi=>[kF i.m]
 dp:=λi=>i.ok
 alts:=λi=>[{o:=List Int,res:=λ_=> .own 1,post:=λl=>[kF i.m,.own 2 1 (iE l)],rel:=λl=>l.Perm ((sm 0 i.B).map (·.1))}]
def Ah:gh:=WK 2
def Nb:gh:=fp Er (λ_=>[.nm 0 0]) (λi=>[kF i.m]) (λi=>i.ok) (λ_=> .nm 1 0) (λi=>[kF i.m,kF i.m])
structure Gt where
 m:iI
 W:List (Int×Int)
def xQ (W:List (Int×Int)):List (bc×List D):=W.map λx=>(.int .i64 x.1,[.v (.int .i64 x.2)])
def GtU (g:Gt):Nat->fq
 |0=> .cells [.nm 1 0,.mp 2] 152
 |1=>kF g.m
 |2=> .map (xQ g.W)
 |_=> .gone
def mr (g:Gt):fq:= .rh Gt 3 GtU g
def jX (o:Int×ga):List D:= .v (.int .i64 o.1)::x7 o.2
@[reducible] def P5:Nat:=115
@[reducible] def LH (O:List (Int×ga)):fq:= .own P5 9 (O.map jX)
def TX:gh where
 ι:=fj
 pat:=λp=>[nt p]
 pre:=λ_=>[]
 dp:=λp=>p.small
 alts:=λp=>[{o:=Unit,res:=λ_=> .je [.nm 0 0,zB 0],post:=λ_=>[mr ⟨⟨p,pH p,[]⟩,[]⟩],rel:=λ_=>p.check=0},{o:=Unit,res:=λ_=> .je [.d (.v (.pointer bz)),zB p.check],post:=λ_=>[],rel:=λ_=>p.check≠0}]
structure Mu where
 s:Int
 id:Int
 pf:Int
def Up:gh:=fp Mu (λi=>[zB i.s,zB i.id,zB i.pf]) i6 (λ_=>True) (λ_=> .own 0) (λi=>[LH [(i.s,⟨2,i.id,0,0,0,0,0,i.pf⟩)]])
structure vg where
 s:Int
 b:i4
def zU (s:Int) (b:i4):iq×Int:=if s<0\/8<=s then(Im,1)else xX b
def Nf:gh:=fp vg (λi=>[zB i.s,ow 1 (bE i.b)]) i6 (λi=>i.b.length<=1099511627776) (λi=> .je [De (zU i.s i.b).1,zB (zU i.s i.b).2]) i6
structure DI where
 g:Gt
 p:fj
 B:Q_ zJ
 U:List Int
 s:Int
@[reducible] def DI.ok (i:DI):Prop:=i.g.m.ga i.p i.B i.U/\jh i.p i.B
def Ng:gh:=fp DI (λi=>[.nm 0 0,zB i.s]) (λi=>[mr i.g]) (λi=>i.ok) (λi=>zB (JA i.B i.g.W i.s)) (λi=>[mr i.g])
def Yy (g:Gt):List fq:=[.cells [.nm 1 0,.mp 2] 152,kF g.m,.map (xQ g.W)]
def Jq:gh:=fp DI (λi=>[.nm 0 0,zB i.s]) (λi=>Yy i.g) (λi=>i.ok) (λi=>zB (JA i.B i.g.W i.s)) (λi=>Yy i.g)
def y5t:List gr:=[{ι:=Int×Nat,du:=λj=>[(5,zB j.1),(14,zB j.2)],rows:=λ_=>[]}]
def K4:gh:=fp DI (λ_=>[.nm 0 0]) (λi=>[mr i.g]) (λi=>i.ok) (λ_=> .nm 1 0) (λi=>[mr i.g,kF i.g.m])
structure DJ where
 g:Gt
 p:fj
 B:Q_ zJ
 U:List Int
 s:Int
 b:i4
 X:SO
def Tw:gh where
 ι:=DJ
 pat:=λi=>[.nm 0 0,zB i.s,ow 1 (bE i.b)]
 pre:=λi=>[mr i.g]
 dp:=λi=>(i.g.m.ga i.p i.B i.U/\jh i.p i.B)/\i.b.length<=1099511627776/\i.X=tA i.p i.B i.U i.g.W i.s i.b
 alts:=λi=>[{o:=iI,res:=λ_=> .own 1,post:=λo=>[mr ⟨o,i.X.W⟩,LH i.X.O],rel:=λo=>o.ga i.p i.X.B i.X.U}]
structure Bk where
 o:iI
 W:List (Int×Int)
 O:List (Int×ga)
 k:Nat
def Bk.rows (j:Bk):List fq:=[.cells [.nm 1 0,.mp 2] 152,kF j.o,.map (xQ j.W),LH j.O]
def xIj:List gr:=[{ι:=Bk,du:=λj=>[(0,.nm 0 0),(11,.own 3),(74,zB j.k)],rows:=Bk.rows}]
def xIl:List (Nat×gr):=[(20,bj 36),(28,bj 50),(66,ij 14)]
def yOa (es:List (bc×List D)):Prop:=
 ∃(a:List (bc×List D)),a=es/\True/\ff (dx (es=a/\es=a/\True))
def y7l (es:List (bc×List D)):yOa es=walk Tryz.prog ([(223,v7 153)]) 0 ([]) ([]) [] Tryz.f162 (Tryz.f162.body.getD .skip) (Ah.pat es) (Ah.pre es) (Ah.alts es):=by kernel_rfl
def xBc (hG:zf Tryz.prog ([(223,v7 153)])) (h:∀(es:List (bc×List D)),Ah.dp es->yOa es):Ah.ok Tryz.prog 162:=qY mixed ([(223,v7 153)]) hG 0 (λ(es:List (bc×List D))=>[]) (λ(es:List (bc×List D))=>[]) [] Tryz.func162 (by kernel_rfl) (by kernel_rfl) (by kernel_rfl) (λ_=>by kernel_rfl) (λ(es:List (bc×List D)) hc=>Eq.mp (y7l es) (h es hc))
def xCn (i:Er):Prop:=
 ∃(gz:gy),zE gz=zE i.m.s/\gz.wh.length<=1000000/\∀(o:List Int),o.Perm (aq (λ(x:Int×Int) ↦ x.fst) gz.wh)->∃(By:List Int),dl (sb i.m.p.code)/\dl i.m.p.tick/\dl i.m.p.low/\dl i.m.p.high/\dl i.m.p.wide/\dl i.m.p.gm/\dl i.m.p.top/\dl i.m.p.least/\dl i.m.p.part/\zE i.m.s=zE gz/\dl (zY i.m.used)/\dl (ab 1 (iE i.m.p.dt))/\dl (ab 1 (iE i.m.p.settle))/\iE By=iE o/\By.Perm (aq (λ(x:Int×Int) ↦ x.fst) (sm 0 i.B))
def y5f (i:Er):Prop:=
 ∃(gz:gy),zE gz=zE i.m.s/\(gz.eg.length<=1000000/\∀(b:dq),b∈gz.eg->(b.a.du.length<=1000000/\b.a.dy.length<=1000000)/\b.fv.length<=1000000/\b.fc.length<=1000000/\b.spare.length<=1000000)/\∀(o:Unit),True->True/\(dl (sb i.m.p.code)/\True/\dl i.m.p.tick/\dl i.m.p.low/\dl i.m.p.high/\dl i.m.p.wide/\dl i.m.p.gm/\dl i.m.p.top/\dl i.m.p.least/\dl i.m.p.part/\True/\True)/\∃(mf:List (bc×List D)),mf=zY i.m.used/\True/\∀(o:Unit),True->(dl (sb i.m.p.code)/\True/\dl i.m.p.tick/\dl i.m.p.low/\dl i.m.p.high/\dl i.m.p.wide/\dl i.m.p.gm/\dl i.m.p.top/\dl i.m.p.least/\dl i.m.p.part/\True/\True)/\∃(o:Unit),dl (sb i.m.p.code)/\dl i.m.p.tick/\dl i.m.p.low/\dl i.m.p.high/\dl i.m.p.wide/\dl i.m.p.gm/\dl i.m.p.top/\dl i.m.p.least/\dl i.m.p.part/\zE i.m.s=zE gz/\zY i.m.used=mf/\dl (ab 1 (iE i.m.p.dt))/\dl (ab 1 (iE i.m.p.settle))/\dl (sb i.m.p.code)/\dl i.m.p.tick/\dl i.m.p.low/\dl i.m.p.high/\dl i.m.p.wide/\dl i.m.p.gm/\dl i.m.p.top/\dl i.m.p.least/\dl i.m.p.part/\zE i.m.s=zE gz/\zY i.m.used=mf/\dl (ab 1 (iE i.m.p.dt))/\dl (ab 1 (iE i.m.p.settle))/\True
def xGf (p:fj):Prop:=
 ∃(i:fj),sb i.code=sb p.code/\iE i.dt=iE p.dt/\i.tick=p.tick/\i.low=p.low/\i.high=p.high/\i.wide=p.wide/\i.gm=p.gm/\i.top=p.top/\i.least=p.least/\i.part=p.part/\iE i.settle=iE p.settle/\(i.code.length<=1099511627776/\i.dt.length<=1099511627776/\i.settle.length<=1099511627776)/\(∀(o:Unit),i.check=0->(∃(o:Unit),dl ((0:Int))/\ae iI 5 yO (iI.mk p (pH p) [])=ae iI 5 yO (iI.mk i (pH i) [])/\xQ []=[]/\p.check=0)\/(∃(o:Unit),False))/\∀(o:Unit),i.check≠0->dp (i.check !=0) ((∃(o:Unit),False)\/(∃(o:Unit),True/\p.check=i.check/\(p.check=0->False))) ((∃(o:Unit),dl ((0:Int))/\False)\/(∃(o:Unit),False))
def xFx (i:Mu):Prop:=
 ∃(o:Unit),[jX (i.s,ga.mk 2 i.id 0 0 0 0 0 i.pf)]=[[D.v (.int .i64 i.s),D.v (.int .i64 2),D.v (.int .i64 i.id),D.v (.int .i64 0),D.v (.int .i64 0),D.v (.int .i64 0),D.v (.int .i64 0),D.v (.int .i64 0),D.v (.int .i64 i.pf)]]/\True
def y9v (i:vg):Prop:=
 dp (decide (i.s<0)) (∃(o:Unit),(zU i.s i.b).fst.kind=0/\(zU i.s i.b).fst.id=0/\(zU i.s i.b).fst.inst=0/\(zU i.s i.b).fst.side=0/\(zU i.s i.b).fst.dm=0/\(zU i.s i.b).fst.dr=0/\(zU i.s i.b).fst.least=0/\(zU i.s i.b).fst.time=0/\sb (zU i.s i.b).fst.label=ByteArray.mk #[]/\(zU i.s i.b).snd=1/\True) (dp (decide (i.s>=8)) (∃(o:Unit),(zU i.s i.b).fst.kind=0/\(zU i.s i.b).fst.id=0/\(zU i.s i.b).fst.inst=0/\(zU i.s i.b).fst.side=0/\(zU i.s i.b).fst.dm=0/\(zU i.s i.b).fst.dr=0/\(zU i.s i.b).fst.least=0/\(zU i.s i.b).fst.time=0/\sb (zU i.s i.b).fst.label=ByteArray.mk #[]/\(zU i.s i.b).snd=1/\True) (∃(gz:i4),bE gz=bE i.b/\gz.length<=1099511627776/\∀(o:Unit),True->∃(o:Unit),(zU i.s i.b).fst.kind=(xX gz).fst.kind/\(zU i.s i.b).fst.id=(xX gz).fst.id/\(zU i.s i.b).fst.inst=(xX gz).fst.inst/\(zU i.s i.b).fst.side=(xX gz).fst.side/\(zU i.s i.b).fst.dm=(xX gz).fst.dm/\(zU i.s i.b).fst.dr=(xX gz).fst.dr/\(zU i.s i.b).fst.least=(xX gz).fst.least/\(zU i.s i.b).fst.time=(xX gz).fst.time/\sb (zU i.s i.b).fst.label=sb (xX gz).fst.label/\(zU i.s i.b).snd=(xX gz).snd/\True))
def zFj (a:Int×Nat) (b:Int×Nat) (c:Int×Nat->Prop) (d:Int×Nat->Nat) (e:Er) (f:List Int) (g:DI):Prop:=(a.snd:Int)=ak.wrap ((b.snd:Int)+1)/\c a/\d a<d b/\dl (kF e.m)/\dl (ag 2 1 (iE f))/\dl (ac [V.nm 1 0,V.mp 2] (152:be))/\dl (af (xQ g.g.W))
def ySp (i:DI):Prop:=
 ∃(a:Er),kF a.m=kF i.g.m/\(a.m.ga a.p a.B a.U/\jh a.p a.B)/\∀(b:List Int),b.Perm (aq (λ(x:Int×Int) ↦ x.fst) (sm 0 a.B))->∃(c:Int×Nat),c.fst=0/\(c.snd:Int)=0/\∃(d:Int×Nat->Prop),∃(e:Int×Nat->Nat),d c/\∀(f:Int×Nat),d f->dp (decide ((f.snd:Int)<((iE b).length:Int))) ((0<=(f.snd:Int)/\(f.snd:Int)<((iE b).length:Int))/\∃(g:Int),zD (iE b) (f.snd:Int).toNat 0 1=bv [dI g]/\(∀(h:bc×List D),h∈xQ i.g.W->mc (ay ak g) h.fst=cf)/\∃(h:Bool),∃(j:Int),(jK (ay ak g) (xQ i.g.W)=bv [dI j]/\h=cf\/jK (ay ak g) (xQ i.g.W)=bz/\[dI j]=[dI 0]/\h=cg)/\dp (j==i.s) (∃(k:Int×Nat),k.fst=ak.wrap (f.fst+1)/\zFj k f d e a b i) (∃(k:Int×Nat),k.fst=f.fst/\zFj k f d e a b i)) (dx (((JA i.B i.g.W i.s):Int)=f.fst/\kF i.g.m=kF a.m/\dl (xQ i.g.W)/\True))
def yYv (i:DI):Prop:=
 ∃(gz:Er),ae iI 5 yO gz.m=kF i.g.m/\(gz.m.ga gz.p gz.B gz.U/\jh gz.p gz.B)/\∀(o:List Int),o.Perm (aq (λ(x:Int×Int) ↦ x.fst) (sm 0 gz.B))->∃(i0:Int×Nat),i0.fst=0/\(i0.snd:Int)=0/\∃(I:Int×Nat->Prop),∃(μ:Int×Nat->Nat),I i0/\∀(mf:Int×Nat),I mf->dp (decide ((mf.snd:Int)<((iE o).length:Int))) ((0<=(mf.snd:Int)/\(mf.snd:Int)<((iE o).length:Int))/\∃(n:Int),zD (iE o) (mf.snd:Int).toNat 0 1=bv [D.v (.int .i64 n)]/\(∀(p:bc×List D),p∈xQ i.g.W->mc (ay ak n) p.fst=cf)/\∃(b:Bool),∃(ID:Int),(jK (ay ak n) (xQ i.g.W)=bv [D.v (.int .i64 ID)]/\b=cf\/jK (ay ak n) (xQ i.g.W)=bz/\[D.v (.int .i64 ID)]=[D.v (.int .i64 0)]/\b=cg)/\dp (ID==i.s) (∃(i':Int×Nat),i'.fst=ak.wrap (mf.fst+1)/\(i'.snd:Int)=ak.wrap ((mf.snd:Int)+1)/\I i'/\μ i'<μ mf/\dl (ae iI 5 yO gz.m)/\dl (ag 2 1 (iE o))/\dl (ac [V.nm 1 0,V.mp 2] (152:be))/\dl (af (xQ i.g.W))) (∃(i':Int×Nat),i'.fst=mf.fst/\(i'.snd:Int)=ak.wrap ((mf.snd:Int)+1)/\I i'/\μ i'<μ mf/\dl (ae iI 5 yO gz.m)/\dl (ag 2 1 (iE o))/\dl (ac [V.nm 1 0,V.mp 2] (152:be))/\dl (af (xQ i.g.W)))) (∃(o:Unit),((JA i.B i.g.W i.s):Int)=mf.fst/\ae iI 5 yO i.g.m=ae iI 5 yO gz.m/\dl (xQ i.g.W)/\True)
def xBo (i:DI):Prop:=
 ∃(gz:Er),ae iI 5 yO gz.m=ae iI 5 yO i.g.m/\(gz.m.ga gz.p gz.B gz.U/\jh gz.p gz.B)/\∀(o:Unit),True->∃(o:Unit),ae iI 5 yO i.g.m=ae iI 5 yO gz.m/\dl (xQ i.g.W)/\ae iI 5 yO i.g.m=ae iI 5 yO gz.m/\True
def Ww (a:Int) (b:DJ) (c:Bk):=(gW (ay ak a) [dI b.s] (xQ c.W))
def nJ (a:vg):=(D.v (az (sb (zU a.s a.b).fst.label)))
def pI (a:vg):=(dI ((zU a.s a.b).fst.dm))
def pB (a:vg):=(dI ((zU a.s a.b).fst.least))
def nE (a:vg):=(dI ((zU a.s a.b).fst.time))
def m9 (a:vg):=(dI ((zU a.s a.b).fst.side))
def nP (a:vg):=(dI ((zU a.s a.b).fst.kind))
def nN (a:vg):=(dI ((zU a.s a.b).fst.inst))
def m4 (a:vg):=(dI ((zU a.s a.b).fst.dr))
def nQ (a:vg):=(dI ((zU a.s a.b).fst.id))
def z2k (a:qp) (b:vg):Prop:=ag tRp 8 (aq x7 a.X.R)=ag tRp 8 (aq x7 a.X.R)/\dl (ac [V.d (nP b),V.d (nQ b),V.d (nN b),V.d (m9 b),V.d (pI b),V.d (m4 b),V.d (pB b),V.d (nE b),V.d (nJ b)] 47)
def z1c (a:Bk) (b:qp) (c:vg):Prop:=ag P5 9 (aq jX a.O)=ag P5 9 (aq jX a.O)/\z2k b c
def z1a (a:Int->Prop) (b:Int) (c:Int) (d:Int) (e:Int) (f:Int) (g:Int) (h:Int) (j:Int) (k:Int) (l:Bk) (m:DJ) (n:qp) (p:vg):Prop:=a b/\dl (ac [V.d (dI c),V.d (dI d),V.d (dI e),V.d (dI f),V.d (dI g),V.d (dI h),V.d (dI j),V.d (dI k)] 99)/\dl (ac [V.nm 1 0,V.mp 2] (152:be))/\dl (kF l.o)/\dl (af (Ww d m l))/\z1c l n p
def z0f (a:Int->Prop) (b:Int) (c:Int) (d:Int) (e:Int) (f:Int) (g:Int) (h:Int) (j:Int) (k:Int) (l:Bk) (m:qp) (n:vg):Prop:=a b/\dl (ac [V.d (dI c),V.d (dI d),V.d (dI e),V.d (dI f),V.d (dI g),V.d (dI h),V.d (dI j),V.d (dI k)] 99)/\dl (ac [V.nm 1 0,V.mp 2] (152:be))/\dl (kF l.o)/\dl (af (xQ l.W))/\z1c l m n
def z2w (a:Bk) (b:Bk) (c:Int) (d:Int) (e:Int) (f:Int) (g:Int) (h:Int) (j:Int) (k:Int) (l:Int) (m:Bk->Prop) (n:Bk->Nat) (p:qp) (q:vg):Prop:=aq jX a.O=aq jX b.O++[[dI c,dI d,dI e,dI f,dI g,dI h,dI j,dI k,dI l]]/\m a/\n a<n b/\z2k p q
@[reducible] def Q4 (a:Bool->Prop)(b:Bool)(c:vg)(R:Prop):Prop:=a b/\ac [V.d (nP c),V.d (nQ c),V.d (nN c),V.d (m9 c),V.d (pI c),V.d (m4 c),V.d (pB c),V.d (nE c),V.d (nJ c)] 47=ac [V.d (nP c),V.d (nQ c),V.d (nN c),V.d (m9 c),V.d (pI c),V.d (m4 c),V.d (pB c),V.d (nE c),V.d (nJ c)] 47/\ac [V.nm 1 0,V.mp 2] (152:be)=ac [V.nm 1 0,V.mp 2] (152:be)/\R
def UH (a:Bool->Prop) (b:Bool) (c:vg) (d:DJ):Prop:=Q4 a b c (dl (kF d.g.m)/\dl (af (xQ d.g.W)))
def z1t (a:Bool->Prop) (b:vg) (c:DJ):Prop:=∃(d:Bool),d=cg/\UH a d b c
def Vj (a:DJ) (b:Mu):Prop:=True/\ff (∃(d:iI),kF d=kF a.g.m/\xQ a.X.W=xQ a.g.W/\aq jX a.X.O=[jX (b.s,ga.mk 2 b.id 0 0 0 0 0 b.pf)]/\d.ga a.p a.X.B a.X.U)
def Vk (a:vg):=(ay ak (zU a.s a.b).fst.id)
def xFk (i:DJ):Prop:=
 ∃(a:vg),a.s=i.s/\bE a.b=bE i.b/\a.b.length<=1099511627776/\ff (dp ((zU a.s a.b).snd !=0) (∃(c:Mu),c.s=i.s/\c.id=0/\c.pf=(zU a.s a.b).snd/\Vj i c) ((∀(c:bc×List D),c∈xQ i.g.W->mc (Vk a) c.fst=cf)/\∃(c:Bool),∃(d:Int),(jK (Vk a) (xQ i.g.W)=bv [dI d]/\c=cf\/jK (Vk a) (xQ i.g.W)=bz/\[dI d]=[dI 0]/\c=cg)/\∃(e:Bool),∃(f:Bool->Prop),dp ((zU a.s a.b).fst.kind==1) (∃(g:DI),g.s=i.s/\kF g.g.m=kF i.g.m/\xQ g.g.W=xQ i.g.W/\(g.g.m.ga g.p g.B g.U/\jh g.p g.B)/\ff (∃(j:Bool),j=decide (((JA g.B g.g.W g.s):Int)>=64)/\Q4 f j a (kF g.g.m=kF i.g.m/\af (xQ g.g.W)=af (xQ i.g.W)))) (z1t f a i)/\∀(g:Bool),f g->dp g (∃(h:Mu),h.s=i.s/\h.id=(zU a.s a.b).fst.id/\h.pf=30/\Vj i h) (∃(h:Bool),∃(j:Bool->Prop),dp ((zU a.s a.b).fst.kind !=1) (dp (!c) (∃(k:Bool),k=cf/\UH j k a i) (∃(k:Bool),k=(d !=i.s)/\UH j k a i)) (z1t j a i)/\∀(k:Bool),j k->dp k (∃(l:Mu),l.s=i.s/\l.id=(zU a.s a.b).fst.id/\l.pf=26/\Vj i l) (∃(l:qp),l.c.kind=(zU a.s a.b).fst.kind/\l.c.id=(zU a.s a.b).fst.id/\l.c.inst=(zU a.s a.b).fst.inst/\l.c.side=(zU a.s a.b).fst.side/\l.c.dm=(zU a.s a.b).fst.dm/\l.c.dr=(zU a.s a.b).fst.dr/\l.c.least=(zU a.s a.b).fst.least/\l.c.time=(zU a.s a.b).fst.time/\sb l.c.label=sb (zU a.s a.b).fst.label/\kF l.m=kF i.g.m/\((l.m.ga l.p l.B l.U/\jh l.p l.B)/\l.c.label.length<=140737488355328/\((-9223372036854775808)<=l.c.dr/\l.c.dr<=9223372036854775807)/\l.X=Aa l.p l.B l.U l.c)/\∀(m:iI),m.ga l.p l.X.B l.X.U->∃(n:Bk),(n.k:Int)=0/\kF n.o=kF m/\xQ n.W=xQ i.g.W/\aq jX n.O=[]/\∃(p:Bk->Prop),∃(q:Bk->Nat),p n/\∀(r:Bk),p r->dp (decide ((r.k:Int)<((aq x7 l.X.R).length:Int))) ((0<=(r.k:Int)/\(r.k:Int)<((aq x7 l.X.R).length:Int))/\∃(s:Int),∃(t:Int),∃(u:Int),∃(v:Int),∃(w:Int),∃(x:Int),∃(y:Int),∃(z:Int),zD (aq x7 l.X.R) (r.k:Int).toNat 0 8=bv [dI s,dI t,dI u,dI v,dI w,dI x,dI y,dI z]/\dp (s==1) ((∀(lk:bc×List D),lk∈xQ r.W->mc (ay ak t) lk.fst=cf)/\(∀(lk:bc×List D),lk∈gW (ay ak t) [dI i.s] (xQ r.W)->mc (ay ak t) lk.fst=cf)/\∃(lk:Bool),∃(lu:Int),(jK (ay ak t) (Ww t i r)=bv [dI lu]/\lk=cf\/jK (ay ak t) (Ww t i r)=bz/\[dI lu]=[dI 0]/\lk=cg)/\∃(jq:Int),∃(oQ:Int->Prop),dp (s==2) (∃(iR:Int),iR=i.s/\z1a oQ iR s t u v w x y z r i l a) (∃(iR:Int),iR=lu/\z1a oQ iR s t u v w x y z r i l a)/\∀(iR:Int),oQ iR->((aq jX r.O).length+1)*(72:Nat)<=(140737488355328:Nat)/\∃(qo:Bk),(qo.k:Int)=ak.wrap ((r.k:Int)+1)/\kF qo.o=kF r.o/\xQ qo.W=gW (ay ak t) [dI i.s] (xQ r.W)/\z2w qo r iR s t u v w x y z p q l a) ((∀(lk:bc×List D),lk∈xQ r.W->mc (ay ak t) lk.fst=cf)/\∃(lk:Bool),∃(lu:Int),(jK (ay ak t) (xQ r.W)=bv [dI lu]/\lk=cf\/jK (ay ak t) (xQ r.W)=bz/\[dI lu]=[dI 0]/\lk=cg)/\∃(jq:Int),∃(oQ:Int->Prop),dp (s==2) (∃(iR:Int),iR=i.s/\z0f oQ iR s t u v w x y z r l a) (∃(iR:Int),iR=lu/\z0f oQ iR s t u v w x y z r l a)/\∀(iR:Int),oQ iR->((aq jX r.O).length+1)*(72:Nat)<=(140737488355328:Nat)/\∃(qo:Bk),(qo.k:Int)=ak.wrap ((r.k:Int)+1)/\kF qo.o=kF r.o/\xQ qo.W=xQ r.W/\z2w qo r iR s t u v w x y z p q l a)) (∃(s:iI),kF s=kF r.o/\xQ i.X.W=xQ r.W/\aq jX i.X.O=aq jX r.O/\s.ga i.p i.X.B i.X.U)))))
def y0v:Ah.ok Tryz.prog 162:=xBc (dw (VX _) fk) λes _=>by
 unfold yOa ff dx;refine⟨es,?_⟩;exact kp
def y9t {s:gy} {p:fj} {B:Q_ zJ} (h:s.ga p B):s.wh.length=EJ B:=by rw[EJ];exact h.wh.length_eq
def yAa:∀{B:Q_ zJ} (n:Nat),(∀L∈B,L.length<=250)->(sm n B).length<=250*B.length
 |[],_,_=>ju _
 |L::B,n,h=>by
  have:=yAa (B:=B) (n+1) λx hx=>h x (ji _ hx)
  have:=h L iX;rw[sm,iv,ia,iF];omega
def yZn:TZ.ok Tryz.prog 204:=gx (V:=xCn) mixed (dw yTw fk) 0 i6 i6 [0] Tryz.func204 λ(i:Er) h=>by
 obtain⟨⟨ep,hR,eu⟩,hB⟩:i.m.ga i.p i.B i.U/\jh i.p i.B:=h;have hl:i.m.s.wh.length<=1000000:=by
  have BB:=hR.wf hB;have h1:=yAa (B:=i.B) 0 λL hL=>by
   obtain⟨k,hk⟩:=Bv.1 hL;exact(BB.od k L hk).2.2
  have:=hB.bl;have:=y7 i.p;rw[y9t hR,EJ];omega
 exact⟨i.m.s,rfl,hl,λo ho=>⟨o,iA (iM ⟨rfl,gn,rfl,ho.trans (hR.wh.map _)⟩)⟩⟩
def z7f:Nb.ok Tryz.prog 84:=gx (V:=y5f) mixed (dw P4 (dw y0v fk)) 0 i6 i6 [0] Tryz.func84 λ(i:Er) h=>by
 obtain⟨⟨ep,hR,eu⟩,hB⟩:i.m.ga i.p i.B i.U/\jh i.p i.B:=h;have hs:=hR.small hB;exact⟨i.m.s,rfl,hs,λ_ _=>⟨trivial,gn,zY i.m.used,rfl,trivial,λ_ _=>⟨gn,(),gn⟩⟩⟩
def y0g:TX.ok Tryz.prog 118:=gx (V:=xGf) mixed (dw yZa fk) 0 i6 i6 [] Tryz.func118 λ(p:fj) h=>by
 refine⟨p,oL (iM ⟨rfl,h,λ_ c=> .inl ⟨(),iM c⟩,λ_ c=>Cv.dp.mk (λe=> .inr ⟨(),trivial,rfl,c⟩) (λe=>absurd (i9 e) c)⟩)⟩
def yXr:Up.ok Tryz.prog 130:=gx (V:=xFx) mixed fk 0 i6 i6 [] Tryz.func130 λ(i:Mu) h=>⟨(),rfl,trivial⟩
def z5t:Nf.ok Tryz.prog 129:=gx (V:=y9v) mixed (dw yYx fk) 0 i6 i6 [] Tryz.func129 λ(i:vg) h=>by
 have h:i.b.length<=1099511627776:=h;have Tt:i.s<0\/8<=i.s->zU i.s i.b=(Im,1):=λe=>fh e
 refine zG (λe=> ?_) (λe=>zG (λe2=> ?_) (λe2=> ?_))
 ·rw[Tt (.inl e)];exact⟨(),oL (iM trivial)⟩
 ·rw[Tt (.inr e2)];exact⟨(),oL (iM trivial)⟩
 ·have hg:zU i.s i.b=xX i.b:=ez oM;rw[hg];exact⟨i.b,rfl,h,λ_ _=>⟨(),oL (iM trivial)⟩⟩
def PN (id:Int) (W:List (Int×Int)):∀p∈xQ W,mc (ay ak id) p.1=cf:=by
 intro p hp;obtain⟨k,_,rfl⟩:=np.1 hp;rfl
def z4x (id s:Int):∀W:List (Int×Int),gW (ay ak id) [D.v (.int .i64 s)] (xQ W)=xQ (JV W id s)
 |[]=>rfl
 |x::W=>by
  have ih:=z4x id s W;have e:a8 (ay ak id) (ay ak x.1)=decide (id=x.1):=by simp[a8,xd]
  show(bif a8 (ay ak id) (ay ak x.1)then(ay ak x.1,[D.v (.int .i64 s)])::xQ W else(ay ak x.1,[D.v (.int .i64 x.2)])::gW (ay ak id) [D.v (.int .i64 s)] (xQ W))=_;rw[e,ih,JV];by_cases c:id=x.1
  ·rw[jo c,cond_true,fh c];rfl
  ·rw[jv c,cond_false,ez c];rfl
def PD (id:Int):∀W:List (Int×Int),jK (ay ak id) (xQ W)=bv [D.v (.int .i64 (cO W id).1)]/\(cO W id).2=cf\/jK (ay ak id) (xQ W)=bz/\[D.v (.int .i64 (cO W id).1)]=[D.v (.int .i64 0)]/\(cO W id).2=cg
 |[]=> .inr ⟨rfl,rfl,rfl⟩
 |x::W=>by
  have ih:=PD id W;have e:a8 (ay ak id) (ay ak x.1)=decide (id=x.1):=by simp[a8,xd]
  have e2:jK (ay ak id) (xQ (x::W))=bif a8 (ay ak id) (ay ak x.1)then bv [D.v (.int .i64 x.2)]else jK (ay ak id) (xQ W):=rfl
  rw[e2,e,yTn];by_cases c:id=x.1
  ·rw[jo c,cond_true,fh c];exact .inl ⟨rfl,rfl⟩
  ·rw[jv c,cond_false,ez c];exact ih
def Jr:K4.ok Tryz.prog 28:=gx (V:=xBo) mixed (dw z7f fk) 0 i6 i6 [0] Tryz.func28 λ(i:DI) h=>⟨⟨i.g.m,i.p,i.B,i.U⟩,rfl,h,λ_ _=>⟨(),iM trivial⟩⟩
def xAg {l:List Int} {k:Nat} {n:Int} {f:Int->Bool} (h:l[k]? =bv n):(l.take (k+1)).countP f=(l.take k).countP f+if f n then 1 else 0:=by
 rw[qq,h,List.countP_append];simp[List.countP_cons]
def yUn (W:List (Int×Int)) (B:Q_ zJ) (s:Int) (l:List Int) (h:l.Perm ((sm 0 B).map (·.1))):(JA B W s:Int)=l.countP λx=>decide ((cO W x).1=s):=by
 rw[h.countP_eq,List.countP_map];rfl
def yJe {l:List Int} {W:List (Int×Int)} {s:Int} (hl:l.length<=1000000):∀{k:Nat} {n:Int},l[k]? =bv n->ak.wrap (((l.take k).countP λx=>decide ((cO W x).1=s):Nat)+1:Int)=((l.take k).countP λx=>decide ((cO W x).1=s):Nat)+1:=by
 intro k n h;have:=List.countP_le_length (p:=λx=>decide ((cO W x).1=s)) (l:=l.take k);rw[nn]at this;exact iw oM
def yWl {p:fj} {B:Q_ zJ} (h:rr p B) {l:List Int} (hl:l.Perm ((sm 0 B).map (·.1))):l.length<=1000000:=by
 have h1:=yAa (B:=B) 0 λL hL=>by
  obtain⟨k,hk⟩:=Bv.1 hL;exact(h.od k L hk).2.2
 have:=h.ok.bl;have:=y7 p;have:=hl.length_eq;rw[ia]at this;omega
def y6e (i:DI) (h:Ng.dp i):ySp i:=by
 obtain⟨⟨m,W⟩,p,B,U,s⟩:=i;have h:m.ga p B U/\jh p B:=h;unfold ySp dx zFj dI;dsimp only;refine⟨⟨m,p,B,U⟩,rfl,h,λl hl=> ?_⟩;have hle:=yWl (h.1.s.wf h.2) hl;refine⟨(0,0),rfl,rfl,λj=>j.2<=l.length/\j.1=((l.take j.2).countP λx=>decide ((cO W x).1=s):Nat),λj=>l.length-j.2,⟨mn _,rfl⟩,?_⟩;rintro⟨n,k⟩ ⟨j1,j2⟩;dsimp only at j1 j2 ⊢;subst j2;refine zG (λe=> ?_) (λe=> ?_)
 ·rw[y9]at e;obtain⟨x,hx⟩:=zZ (l:=l) (i:=k) oM;have hc:=xAg (f:=λx=>decide ((cO W x).1=s)) hx;refine⟨⟨oM,by rw[y9];exact e⟩,x,jz hx (by simp) rfl,PN _ _,_,_,PD x W,Cv.dp.mk (λe2=>⟨(_,k+1),(yJe hle hx).symm,qu oM,⟨Z9,?_⟩,Z9,gn⟩) (λe2=>⟨(_,k+1),rfl,qu oM,⟨Z9,?_⟩,Z9,gn⟩)⟩
  ·have e2:(cO W x).1=s:=i9 e2
   dsimp only;rw[hc,jo e2];rfl
  ·have e2:¬(cO W x).1=s:=i9 e2
   dsimp only;rw[hc,jv e2];rfl
 ·rw[y9]at e;have hk:l.take k=l:=mz oM;rw[hk];exact⟨(),yUn W B s l hl,rfl,rfl,trivial⟩
def yJg:Jq.ok Tryz.prog 131:=gx (V:=yYv) mixed (dw yZn fk) 0 i6 (λ_=>y5t) [] Tryz.func131 λ(i:DI) h=>y6e i h
def yLi {b:i4} (h:(xX b).2=0):(xX b).1.right=0:=by
 rw[xX]at h ⊢;dsimp only at h ⊢;split at h
 ·cases h
 ·rename_i h1;rw[ez h1];split at h
  ·cases h
  ·rename_i h2;rw[ez h2];split at h
   ·rename_i h3;exact absurd h h3
   ·rename_i h3;rw[ez h3];simpa using h3
def YS (n:Int):yP (ak.wrap n):=by
 rw[ao];simp only[IntKind.bits,ap];simp;omega
def Xv:yP 0:=⟨Z8,Z8⟩
def y5k (k id:Int) (r:RB):yP (qJ k id r).1.dr:=by
 rw[qJ];split
 ·exact YS _
 split
 ·exact YS _
 split
 ·exact YS _
 ·exact Xv
def yWr (b:i4):yP (xX b).1.dr:=by
 rw[xX];dsimp only;split
 ·exact Xv
 split
 ·exact Xv
 split
 ·exact Xv
 ·exact y5k _ _ _
def y0b {p:fj} {B:Q_ zJ} (h:rr p B) (U:List Int) (c:iq):(Aa p B U c).R.length<=1503000003:=by
 have zz:=h.ok.bl;have II:∀w,(rG c w).length<=1503000003:=λw=>by simp[rG]
 rw[Aa];split
 ·exact II _
 rename_i hr;have hr:c.right=0:=i9 hr
 split
 ·rename_i hk;obtain⟨_,hq,_⟩:=zWp hr hk;rw[nY];split
  ·exact II _
  rename_i hp;have hp:p.dm c.inst c.dm=0:=i9 hp
  have wu:=Zq hp;split
  ·exact II _
  split
  ·exact II _
  split
  ·exact II _
  split
  ·exact II _
  have:=zFp h U (c:=c) oM hq;omega
 rename_i hk;split
 ·exact II _
 rename_i hf;have hf:(z8 B c.id).2.2=cf:=i9 hf
 have hf:z8 B c.id=((z8 B c.id).1,(z8 B c.id).2.1,cf):=by rw[<- hf]
 obtain⟨wu,_⟩:=z0b h hf;split
 ·rename_i h4;have hq:=zLm hr hk oM;rw[fK];split
  ·exact II _
  split
  ·simp[mA]
  split
  ·exact II _
  have:=zFp (h.take c.id (z8 B c.id).2.1.dr) U (c:=⟨1,c.id,(z8 B c.id).1,(z8 B c.id).2.1.side,c.dm,c.dr,0,1,[]⟩) (by dsimp only;rw[sQ];exact wu) hq;dsimp only;rw[iv];have e1:(gL B U c.id (z8 B c.id).1 (z8 B c.id).2.1).R.length=1:=rfl;have e2:(gL B U c.id (z8 B c.id).1 (z8 B c.id).2.1).B=(iO B c.id (z8 B c.id).2.1.dr).1:=rfl;rw[e1,e2];omega
 split
 ·simp[gL]
 ·simp[mA]
def yZz {b:i4} (h:b.length<=1099511627776):(xX b).1.label.length<=255:=by
 have h0:(RB.mk b cg).ok:=h;rw[xX];dsimp only;split
 ·exact mn _
 split
 ·exact mn _
 split
 ·exact mn _
 ·exact(y4c (kO (uT h0))).2
def zWz (p:fj) (B:Q_ zJ) (U:List Int) (W:List (Int×Int)) (s:Int) (b:i4):tA p B U W s b=if(zU s b).2≠0 then N0 B U W s 0 (zU s b).2 else Lm p B U W s (zU s b).1:=by
 rw[tA,zU];by_cases c:s<0\/8<=s
 ·rw[fh c,fh c];rfl
 ·rw[ez c,ez c]
def y8q {s:Int} {b:i4} (hb:b.length<=1099511627776) (h:(zU s b).2=0):(zU s b).1.right=0/\yP (zU s b).1.dr/\(zU s b).1.label.length<=255:=by
 rw[zU]at h ⊢;split at h
 ·cases h
 ·rename_i c;rw[ez c];exact⟨yLi h,yWr b,yZz hb⟩
def wjN {j:Nat} (h:(j:Int)<=9223372036854775806):((j+1:Nat):Int)=ak.wrap ((j:Int)+1):=by rw[iw (by omega)];rfl
def xJp (i:DJ) (h:Tw.dp i):xFk i:=by
 obtain⟨⟨m,W⟩,p,B,U,s,b,X⟩:=i;obtain⟨Mj,hb,hX⟩:(m.ga p B U/\jh p B)/\b.length<=1099511627776/\X=tA p B U W s b:=h;rw[zWz]at hX;have hc:= @y8q s b hb;unfold xFk Q4 ff z1t UH Q4 z2w z0f z1a z1c z2k nQ m4 nN nP m9 nE pB pI Vk nJ Ww Vj ff dI;dsimp only;generalize OK:zU s b=y at hX hc;obtain⟨c,pf⟩:=y;dsimp only at hX hc;refine⟨⟨s,b⟩,rfl,rfl,hb,λ_ _=> ?_⟩;dsimp only;rw[OK];dsimp only;refine Cv.dp.mk (λe=> ?_) (λe=>⟨PN _ _,_,_,PD c.id W,cf,λx=>x=decide (c.kind=1/\64<=JA B W s),Cv.dp.mk (λe1=>⟨⟨⟨m,W⟩,p,B,U,s⟩,rfl,rfl,rfl,Mj,λ_ _=>⟨_,rfl,?_,gn⟩⟩) (λe1=>⟨cg,rfl,?_,gn⟩),?_⟩)
 ·have e:pf≠0:=i9 e
  rw[fh e]at hX;subst hX;exact⟨⟨s,0,pf⟩,rfl,rfl,rfl,trivial,λ_ _=>⟨m,iM Mj.1⟩⟩
 ·have e1:c.kind=1:=i9 e1
  dsimp only;rw[decide_eq_decide];exact⟨λx=>⟨e1,oM⟩,λx=>by have:=x.2;omega⟩
 ·have e1:¬c.kind=1:=i9 e1
  exact(jv λx=>e1 x.1).symm
 have e:pf=0:=i9 e
 obtain⟨hr,hq,aaH⟩:=hc e;rw[ez (by rw[e];decide),Lm]at hX;rintro _ rfl;refine zG (λe1=> ?_) (λe1=> ?_)
 ·rw[fh e1]at hX;subst hX;exact⟨⟨s,c.id,30⟩,rfl,rfl,rfl,trivial,λ_ _=>⟨m,iM Mj.1⟩⟩
 rw[ez e1]at hX;refine⟨cf,λx=>x=decide (c.kind≠1/\((cO W c.id).2=cg\/(cO W c.id).1≠s)),Cv.dp.mk (λe2=>Cv.dp.mk (λe3=>⟨cf,rfl,?_,gn⟩) (λe3=>⟨_,rfl,?_,gn⟩)) (λe2=>⟨cg,rfl,?_,gn⟩),?_⟩
 ·have e2:¬c.kind=1:=i9 e2
  exact(jo ⟨e2,.inl (i9 e3)⟩).symm
 ·have e2:¬c.kind=1:=i9 e2
  have e3:(cO W c.id).2=cf:=i9 e3
  show((cO W c.id).1 !=s)=decide (c.kind≠1/\((cO W c.id).2=cg\/(cO W c.id).1≠s));rw[CF,tn,bne_iff_ne];exact⟨λx=>⟨e2,.inr x⟩,λx=>x.2.resolve_left (by rw[e3];decide)⟩
 ·have e2:c.kind=1:=i9 e2
  exact(jv λx=>x.1 e2).symm
 rintro _ rfl;refine zG (λe2=> ?_) (λe2=> ?_)
 ·rw[fh e2]at hX;subst hX;exact⟨⟨s,c.id,26⟩,rfl,rfl,rfl,trivial,λ_ _=>⟨m,iM Mj.1⟩⟩
 rw[ez e2]at hX;have hlen:=y0b (Mj.1.s.wf Mj.2) U c;refine⟨⟨m,p,B,U,c,Aa p B U c⟩,nr (iM ⟨rfl,⟨Mj,tm aaH Z8,hq,rfl⟩,λo ho=> ?_⟩)⟩;dsimp only at ho ⊢;generalize Aa p B U c=Y at hX ho hlen ⊢;obtain⟨YB,YU,R⟩:=Y;dsimp only at hX ho hlen ⊢;subst hX;have e4:(R.map x7).length=R.length:=ia ..;refine⟨⟨o,W,[],0⟩,iM ⟨rfl,λj=>j.o=o/\j.k<=R.length/\j.O.length=j.k/\(FD s W R).1=(FD s j.W (R.drop j.k)).1/\(FD s W R).2=j.O++(FD s j.W (R.drop j.k)).2,λj=>R.length-j.k,⟨rfl,mn _,rfl,rfl,rfl⟩,?_⟩⟩;rintro⟨o',W',O,k⟩ ⟨j1,j2,j3,j4,j5⟩;dsimp only at j1 j2 j3 j4 j5 ⊢;subst j1;have e5:(O.map jX).length=O.length:=ia ..;refine zG (λe6=> ?_) (λe6=> ?_)
 ·obtain⟨r,ov⟩:=zZ (l:=R) (i:=k) oM;have hd:R.drop k=r::R.drop (k+1):=by rw[CH (by omega),(jm.1 ov).2]
  rw[hd,FD]at j4 j5;dsimp only at j4 j5;refine⟨⟨oM,e6⟩,r.kind,r.id,r.inst,r.side,r.dm,r.dr,r.left,r.pf,jz ov (by simp[x7]) rfl,Cv.dp.mk (λe7=>⟨PN _ _,?_⟩) (λe7=>⟨PN _ _,_,_,PD r.id W',?_⟩)⟩
  ·have e7:r.kind=1:=i9 e7
   rw[z4x];rw[fh e7]at j4 j5;refine⟨PN _ _,_,_,PD r.id (JV W' r.id s),0,λx=>x=if r.kind=2 then s else(cO (JV W' r.id s) r.id).1,Cv.dp.mk (λe8=>⟨_,rfl,(fh (i9 e8)).symm,gn⟩) (λe8=>⟨_,rfl,(ez (i9 e8)).symm,gn⟩),?_⟩;rintro _ rfl;exact⟨oM,⟨o',JV W' r.id s,O++[(if r.kind=2 then s else(cO (JV W' r.id s) r.id).1,r)],k+1⟩,wjN oM,rfl,rfl,by rw[jk];rfl,⟨rfl,Z9,by rw[iv];dsimp only;rw[j3];rfl,j4,by rw[j5];simp⟩,Z9,gn⟩
  ·have e7:¬r.kind=1:=i9 e7
   rw[ez e7]at j4 j5;refine⟨0,λx=>x=if r.kind=2 then s else(cO W' r.id).1,Cv.dp.mk (λe8=>⟨_,rfl,(fh (i9 e8)).symm,gn⟩) (λe8=>⟨_,rfl,(ez (i9 e8)).symm,gn⟩),?_⟩;rintro _ rfl;exact⟨oM,⟨o',W',O++[(if r.kind=2 then s else(cO W' r.id).1,r)],k+1⟩,wjN oM,rfl,rfl,by rw[jk];rfl,⟨rfl,Z9,by rw[iv];dsimp only;rw[j3];rfl,j4,by rw[j5];simp⟩,Z9,gn⟩
 ·have hk:R.drop k=[]:=List.drop_of_length_le oM;rw[hk,FD]at j4 j5;dsimp only at j4 j5;rw[oJ]at j5;rw[j4,j5];exact⟨o',iM ho⟩
def yOc:Tw.ok Tryz.prog 56:=gx mixed (dw z5t (dw yXr (dw yJg (dw xDr fk)))) 0 (λ_=>xIl) (λ_=>xIj) [0] Tryz.func56 xJp
@[reducible] def xHa (v:Vw):fq:= .own 138 10 (v.map zA)
@[reducible] def dW (v:Vw):fq:= .kq 10 (v.map zA)
def GH:gh:=fp Fp (λi=>[nt i.p,.nm 0 0]) (λi=>[zE i.s]) (λi=>i.s.ga i.p i.B/\jh i.p i.B) (λ_=> .agg [.own 1]) (λi=>[zE i.s,xHa (yK i.p i.B)])
def Uq:gh:=fp vg (λi=>[.nm 0 0,zB i.s,ow 1 (bE i.b)]) (λ_=>[.gone]) (λi=>i.b.length<=1099511627776) (λi=>zB (zU i.s i.b).2) (λ_=>[.gone])
def Nh:gh:=fp Gt (λ_=>[.nm 0 0]) (λg=>Yy g) (λ_=>True) (λ_=> .nm 1 0) (λg=>Yy g)
def M8:gh:=fp iI (λ_=>[.nm 0 0]) (λm=>Cb m) (λ_=>True) (λ_=> .nm 1 0) (λm=>Cb m)
structure En where
 p:fj
 v:Vw
 q:Int
 R:Q_ UInt8
@[reducible] def Jy:Nat:=110
def Mo (e:En) (r l:Nat):fq:= .cells [sV e.p.code,.own 5,zB e.p.tick,zB e.p.low,zB e.p.high,zB e.p.wide,zB e.p.gm,zB e.p.top,zB e.p.least,zB e.p.part,.own 6,.nm 1 0,.nm 2 0,.own l,zB e.q,.own r] Jy
structure Es where
 B:Q_ zJ
 U:List Int
 W:List (Int×Int)
 q:Int
 R:Q_ UInt8
def Es.en (x:Es) (p:fj):En:=⟨p,yK p x.B,x.q,x.R⟩
def A3 (s:Int) (b:i4):i4:=iY s::b
def Es.X (x:Es) (p:fj) (s:Int) (b:i4):SO:=tA p x.B x.U x.W s b
def Es.M (x:Es) (p:fj) (s:Int) (b:i4):List VM:=xN 0 (yK p x.B) (yK p (x.X p s b).B)
def Es.ed (x:Es) (p:fj) (s:Int) (b:i4):Es:=⟨(x.X p s b).B,(x.X p s b).U,(x.X p s b).W,x.q+(x.M p s b).length,x.R++[A3 s b]⟩
structure xx where
 o:iI
 x:Es
 p:fj
 s:Int
 b:i4
def xx.g (i:xx):Gt:=⟨i.o,i.x.W⟩
@[reducible] def xx.ok (i:xx):Prop:=(i.o.ga i.p i.x.B i.x.U/\jh i.p i.x.B)/\i.b.length<=1048576/\(0<=i.s/\i.s<8)/\(0<=i.x.q/\i.x.q<=1000000000000000000)/\i.x.R.length<=1000000
def xx.Y (i:xx):Es:=i.x.ed i.p i.s i.b
def xx.N (i:xx):List gi:=jY i.x.q (i.x.M i.p i.s i.b)
def xx.O (i:xx):List (Int×ga):=(i.x.X i.p i.s i.b).O
def xx.rows (i:xx):List fq:=[Mo (i.x.en i.p) 4 7,.gone,mr i.g,.gone,Eh i.x.R,.kq 1 (iE i.p.dt),.kq 1 (iE i.p.settle),dW (yK i.p i.x.B)]
def edC:gh where
 ι:=xx
 pat:=λi=>[.nm 0 0,zB i.s,ow 1 (bE i.b)]
 pre:=λi=>i.rows
 dp:=λi=>i.ok
 alts:=λi=>[{o:=iI,res:=λ_=> .agg [.own 10,.own 11],post:=λo=>[Mo (i.Y.en i.p) 8 9,.gone,mr ⟨o,i.Y.W⟩,.gone,.gone,.kq 1 (iE i.p.dt),.kq 1 (iE i.p.settle),.gone,Eh i.Y.R,dW (yK i.p i.Y.B),LH i.O,tJ i.N],rel:=λo=>o.ga i.p i.Y.B i.Y.U}]
def yMn (i:Fp):Prop:=
 ∃(a:fj),Qb a i.p ((zV a)/\ff (dp (a.check !=0) (dx (dl (zE i.s)/\aq zA (yK i.p i.B)=[]/\True)) (∃(c:gy),zE c=zE i.s/\(gS c)/\ff (∃(e:fj),Qb e i.p ((zV e)/\ff (∃(g:Nat),(g:Int)=0/\aq zA (gD g i)=[]/\aq yC (aq qC i.B)=aq yC c.fm/\∃(h:Nat->Prop),∃(j:Nat->Nat),h g/\∀(k:Nat),h k->dp (decide ((k:Int)<(e.count:Int))) (UU k c i h j) (dx (zE i.s=zE c/\aq zA (yK i.p i.B)=aq zA (gD k i)/\True))))))))
def xFq (i:vg):Prop:=
 ∃(gz:vg),gz.s=i.s/\bE gz.b=bE i.b/\gz.b.length<=1099511627776/\∀(o:Unit),True->∃(o:Unit),(zU i.s i.b).snd=(zU gz.s gz.b).snd/\True
def y8g (g:Gt):Prop:=
 ∃(o:Unit),ae iI 5 yO g.m=kF g.m/\dl (xQ g.W)/\True
def xBb (m:iI):Prop:=
 ∃(o:Unit),dl (sb m.p.code)/\dl m.p.tick/\dl m.p.low/\dl m.p.high/\dl m.p.wide/\dl m.p.gm/\dl m.p.top/\dl m.p.least/\dl m.p.part/\zE m.s=yO m 1/\dl (zY m.used)/\ab 1 (iE m.p.dt)=yO m 3/\ab 1 (iE m.p.settle)=yO m 4/\True
def NP (a:xx):Prop:=Ql a.p (True)
def NL (a:xx):=(aq zA (yK a.p (a.x.X a.p a.s a.b).B))
def yBm (a:xx) (b:iI) (c:Gt) (d:Q_ UInt8) (e:DJ):Prop:=∃(f:Fp),Qb f.p a.p (zE f.s=zE b.s/\(f.s.ga f.p f.B/\jh f.p f.B)/\ff (∃(h:Kv),aq zA h.v=aq zA (yK a.p a.x.B)/\aq zA h.w=aq zA (yK f.p f.B)/\h.seq=a.x.q/\(ar h.v=ar h.w/\((-4000000000000000000)<=h.seq/\h.seq<=4000000000000000000)/\h.v.oO<=100000000/\h.w.oO<=100000000/\ar h.v<=1000000)/\ff (∃(k:iI),Qc a.p (a.x.q+((a.x.M a.p a.s a.b).length:Int)=ak.wrap (a.x.q+((aq zS (jY h.seq (xN 0 h.v h.w))).length:Int))/\Qa k.p b.p (zE k.s=zE f.s/\QE k b (xQ (a.x.X a.p a.s a.b).W=xQ c.W/\wy a.p (aq iZ (a.x.R++[A3 a.s a.b])=aq iZ a.x.R++[[D.ro 1 (bE d.flatten)]]/\ab 10 (NL a)=ab 10 (aq zA (yK f.p f.B))/\aq jX a.O=aq jX e.X.O/\aq zS a.N=aq zS (jY h.seq (xN 0 h.v h.w))/\k.ga a.p (a.x.X a.p a.s a.b).B (a.x.X a.p a.s a.b).U)))))))
def yBk (a:xx) (b:iI) (c:Gt) (d:Q_ UInt8) (e:DJ):Prop:=(NP a)/\yBm a b c d e
def z9x (a:xx) (b:Gt) (c:Q_ UInt8) (d:DJ):Prop:=(NP a)/\∃(e:iI),Qa e.p b.m.p (zE e.s=zE b.m.s/\QE e b.m (True/\ff (yBk a e b c d)))
def UY (a:DJ):Prop:=(a.g.m.ga a.p a.B a.U/\jh a.p a.B)/\a.b.length<=1099511627776/\a.X=tA a.p a.B a.U a.g.W a.s a.b
def Ved (i:xx):Prop:=
 True/\True/\∃(a:Q_ UInt8),aq iZ a=[[D.ro 1 [[D.v (.int .u8 (am.wrap i.s))]]],[D.ro 1 (bE i.b)]]/\(1<=a.flatten.length/\a.flatten.length<=1099511627776/\a.length<=1000)/\ff (True/\True/\((aq iZ i.x.R).length+1)*(24:Nat)<=(140737488355328:Nat)/\∃(c:DJ),c.s=i.s/\bE c.b=bE i.b/\mr c.g=mr i.g/\(UY c)/\∀(d:iI),d.ga c.p c.X.B c.X.U->(∃(e:Gt),kF e.m=kF d/\xQ e.W=xQ c.X.W/\True/\ff ((NP i)/\(∃(g:iI),Qa g.p e.m.p (zE g.s=zE e.m.s/\QE g e.m (True/\ff ((NP i)/\(yBm i g e a c)/\yBk i g e a c))))/\z9x i e a c))/\True/\(NP i)/\∃(e:Gt),kF e.m=kF d/\xQ e.W=xQ c.X.W/\True/\ff (z9x i e a c))
def yXi {n lo hi:Int} (h:lo<=hi):lo<=zI n lo hi/\zI n lo hi<=hi:=by
 have h1:=Of n (show hi-lo+1≠0 by omega);have h2:=Rw n (show 0<hi-lo+1 by omega);rw[zI];constructor<;>omega
open Classical in
open Classical in
def xFm {p:fj} {v w:Vw} (hv:xe p v) (hw:xe p w):v.length=w.length/\Vw.oO v<=100000000/\Vw.oO w<=100000000/\v.length<=1000000:=by
 have h1:=yPm hv;have h2:=yPm hw;have h3:=hv.r.2;have h4:=hw.r.2;exact⟨by rw[hv.len,hw.len],oM,oM,oM⟩
def y7e (i:Fp) (h:GH.dp i):yMn i:=by
 obtain⟨hR,hB⟩:i.s.ga i.p i.B/\jh i.p i.B:=h;have wv:=y7 i.p;have zz:=hB.bl;have BQ:i.s.ob:=hR.Fl oM;have ss:uB (i.B.map qC):=hB.fm;have OP:=dN i.p i.B;unfold yMn Qb ff dx gS UU Qb ff gN bH kK o8 gI dO gD om qN zV o8 dI;refine⟨i.p,oL (iM ⟨rfl,hB.ps,λ_ _=>Cv.dp.mk (λc=>absurd hB.pc (i9 c)) (λ_=>⟨i.s,rfl,BQ,λ_ _=>⟨i.p,oL (iM ⟨rfl,hB.ps,λ_ _=>⟨0,rfl,rfl,by rw[hR.fm],λj=>j<=i.p.count,λj=>i.p.count-j,mn _,λj hj=>zG (λgu=> ?_) (λgu=> ?_)⟩⟩)⟩⟩)⟩)⟩
 ·have gu:j<i.p.count:=by omega
  have ta:CO i.B (j:Int)=i.B.getD j []:=by rw[CO,ez (by omega),ot]
  have hq:∀s,(xR ⟨i.p,i.B.map qC,j⟩ s).length<=1000000:=λs=>tm (zAz _ _) Z8
  refine⟨⟨Z8,Z8⟩,1,rfl,⟨i.s,i.p,i.B,j,cg⟩,rfl,rfl,rfl,⟨hR,Z9⟩,λ_ _=>⟨⟨⟨i.p,i.B.map qC,j⟩,cg⟩,iA (sy ⟨rfl,⟨hB.ps,ss⟩,λ_ _=>⟨⟨xR ⟨i.p,i.B.map qC,j⟩ 1,1⟩,rfl,rfl,⟨.inl rfl,hq 1⟩,λ_ _=>⟨⟨Z8,Z8⟩,2,rfl,⟨i.s,i.p,i.B,j,cf⟩,rfl,rfl,rfl,⟨hR,Z9⟩,λ_ _=>⟨⟨⟨i.p,i.B.map qC,j⟩,cf⟩,iA (sy ⟨rfl,⟨hB.ps,ss⟩,λ_ _=>⟨⟨xR ⟨i.p,i.B.map qC,j⟩ 2,2⟩,rfl,rfl,⟨.inr rfl,hq 2⟩,λ_ _=>⟨?_,j+1,qu oM,?_,rfl,Z9,Z9,rfl,gn⟩⟩⟩)⟩⟩⟩⟩)⟩⟩
  ·rw[ia,nn];omega
  ·rw[qq,zWj i.p i.B gu,Bt,jk,jf,Bs];dsimp only;rw[ta];rfl
 ·have hj:j<=i.p.count:=hj;rw[mz (by omega)];exact⟨(),gn⟩
def z5r:GH.ok Tryz.prog 26:=gx mixed (dw pG (dw yGo (dw dU (dw yEc (dw zMl (dw yGp fk)))))) 1 i6 (λi=>y3k i) [] Tryz.func26 y7e
def yHc:Uq.ok Tryz.prog 55:=gx (V:=xFq) mixed (dw z5t fk) 0 i6 i6 [] Tryz.func55 λ(i:vg) h=>⟨i,rfl,rfl,h,λ_ _=>⟨(),rfl,trivial⟩⟩
def zYa:Nh.ok Tryz.prog 122:=gx (V:=y8g) mixed fk 0 i6 i6 [] Tryz.func122 λ(g:Gt) _=>⟨(),rfl,rfl,trivial⟩
def z6b:M8.ok Tryz.prog 123:=gx (V:=xBb) mixed fk 0 i6 i6 [] Tryz.func123 λ(m:iI) _=>⟨(),gn⟩
def z6m {p:fj} {B:Q_ zJ} (h:rr p B) (U:List Int) (W:List (Int×Int)) (s:Int) (b:i4):jh p (tA p B U W s b).B:=by
 rw[tA];split
 ·exact h.ok
 split
 ·exact h.ok
 rw[Lm];split
 ·exact h.ok
 split
 ·exact h.ok
 ·exact y8w h U _
def xBx {p:fj} {v w:Vw} (hv:xe p v) (hw:xe p w):(xN 0 v w).length<=202000000:=by
 obtain⟨h1,h2,h3,h4⟩:=xFm hv hw;have:=Xu v w v.length (ju _) oM;rw[mz (ju _),mz (by omega)]at this;omega
def ved (i:xx) (h:edC.dp i):Ved i:=by
 obtain⟨o0,x,p,s,b⟩:=i;obtain⟨⟨hM,hB⟩,hb,⟨ud,yu⟩,⟨wm,ue⟩,hR⟩:(o0.ga p x.B x.U/\jh p x.B)/\b.length<=1048576/\(0<=s/\s<8)/\(0<=x.q/\x.q<=1000000000000000000)/\x.R.length<=1000000:=h;have BB:=hM.s.wf hB;have Co:jh p (x.X p s b).B:=z6m BB _ _ _ _;have Sj:((iY s).toNat:Int)=am.wrap s:=(Ve s).symm;unfold Ved QE Qa ff UY z9x QE Qa ff yBk yBm QE Qa Qb wy Qc ff NL NP Ql;dsimp only;refine⟨trivial,trivial,[[iY s],b],?_,⟨by simp,by simp;omega,by simp⟩,λ_ _=>⟨trivial,trivial,by rw[ia];omega,⟨⟨o0,x.W⟩,p,x.B,x.U,s,b,x.X p s b⟩,rfl,rfl,rfl,⟨⟨hM,hB⟩,Z9,rfl⟩,λo ho=> ?_⟩⟩
 ·show[iZ [iY s],iZ b]=_;rw[iZ,iZ,<- Sj];rfl
 have hv:=JH BB;have hw:=JH (ho.s.wf Co);obtain⟨g1,g2,g3,g4⟩:=xFm hv hw;have hl:=xBx hv hw;have er:aq iZ (x.R++[A3 s b])=aq iZ x.R++[[D.ro 1 (bE [[iY s],b].flatten)]]:=by
  rw[jk];simp[iZ,A3]
 have eq1:x.q+((x.M p s b).length:Int)=ak.wrap (x.q+(aq zS (jY x.q (x.M p s b))).length):=by
  have:(x.M p s b).length<=202000000:=hl;rw[ia,sZ,iw (by omega)]
 refine⟨⟨⟨o,(x.X p s b).W⟩,rfl,rfl,trivial,λ_ _=>⟨gn,⟨o,iA (nf ⟨rfl,trivial,λ_ _=>⟨gn,?_,gn,?_⟩⟩)⟩,gn,o,rfl,rfl,rfl,rfl,rfl,rfl,rfl,rfl,rfl,rfl,rfl,rfl,rfl,trivial,λ_ _=>⟨gn,?_⟩⟩⟩,trivial,gn,⟨o,(x.X p s b).W⟩,rfl,rfl,trivial,λ_ _=>⟨gn,o,iA (nf ⟨rfl,trivial,λ_ _=>⟨gn,?_⟩⟩)⟩⟩
 all_goals exact⟨⟨o.s,p,(x.X p s b).B⟩,iA (iM ⟨rfl,⟨ho.s,Co⟩,λ_ _=>⟨⟨yK p x.B,yK p (x.X p s b).B,x.q⟩,rfl,rfl,rfl,⟨g1,⟨Z9,Z9⟩,g2,g3,g4⟩,λ_ _=>⟨o,iA ⟨rfl,eq1,iA (oL ⟨rfl,er,iM ho⟩)⟩⟩⟩⟩)⟩
def y3z:edC.ok Tryz.prog 59:=gx mixed (dw yDb (dw yOc (dw zYa (dw z6b (dw z5r (dw yRo fk)))))) 0 i6 i6 [] Tryz.func59 ved
def TA:gh:=fp Vw (λv=>[zw v]) i6 (λv=>v.length<=1000000/\xZ v) (λv=>zw v) i6
def xJh (v:Vw):List gr:=[
 {ι:=Nat,du:=λj=>[(1,.nm 0 0),(12,zB j)],rows:=λ_=>[.cells [.own 1] 59,.own vS 10 (v.map zA)]},
 {ι:=Unit,du:=λ_=>[],rows:=λ_=>[],un:=3}]
structure Vs where
 v:Vw
 q:Int
 H:List gi
def RK (n q:Int) (k v h:Nat):fq:= .cells [zB n,.own (k+v),zB q,.own (k+h)] 107
def EV (n:Int) (s:Vs):List fq:=[RK n s.q 0 1 2,dW s.v,tJ s.H]
def y5v (n:Int) (s:Vs):List fq:=[RK n s.q 0 3 4,.gone,.gone,dW s.v,tJ s.H]
def vwK (k:Nat) (n:Int) (s:Vs):List fq:=[RK n s.q k 1 2,dW s.v,tJ s.H]
def Ci (n:Nat):Vw:=au n (⟨[],BA,cg⟩,⟨[],BA,cg⟩)
def Ky:gh:=fp fj (λp=>[nt p]) i6 (λp=>p.check=0/\p.small) (λ_=> .je [.nm 0 0,zB 0]) (λp=>EV p.count ⟨Ci p.count,0,[]⟩)
structure mq where
 n:Nat
 s:Vs
 m:gi
 b:i4
 e:Nat
@[reducible] def mq.ok (i:mq):Prop:=((i.s.v.length=i.n/\i.n<=1000)/\tX i.e i.s.v/\i.e+i.s.H.length<=1000000)/\∀m∈i.s.H,m.iN i.n=0
def aaa:gh:=fp mq (λi=>[.nm 0 0,Iu i.m]) (λi=>EV i.n i.s) (λi=>i.ok/\i.m.iN i.n=0) (λ_=>rE) (λi=>[RK i.n i.m.seq 0 3 2,.gone,tJ i.s.H,dW (rn i.s.v i.m)])
def pJ:Vw->Int->List gi->Vs
 |v,q,[]=>⟨v,q,[]⟩
 |v,q,m::H=>if ak.wrap (m.seq-1)<=q then(if ak.wrap (m.seq-1)=q then pJ (rn v m) m.seq H else pJ v q H)else⟨v,q,m::H⟩
def Aj:gh:=fp (Q_ D) (λl=>[ow 7 l]) i6 (λl=>l.length<=1000000) (λ_=> .own 0) (λl=>[.own rM 7 l])
def mq.F (i:mq):Vs:=pJ i.s.v i.s.q i.s.H
def Kz:gh:=fp mq (λ_=>[.nm 0 0]) (λi=>EV i.n i.s) (λi=>i.ok) (λ_=>rE) (λi=>y5v i.n i.F)
def xFw (i:mq):List gr:=[{ι:=Vs,du:=λ_=>[(0,.nm 0 0)],rows:=λs=>EV i.n s}]
def Hv (H:List gi):Prop:=H.Pairwise λa b=>a.seq<b.seq
def cP (H:List gi) (n:Int):Nat:=(H.takeWhile λl=>decide (l.seq<n)).length
def nW (H:List gi) (n:Int):Bool:=H.any λl=>decide (l.seq=n)
structure Kx where
 H:List gi
 n:Int
def TJ:gh:=fp Kx (λi=>[.own 0,zB i.n,.fn 68 [] []]) (λi=>[tJ i.H]) (λi=>Hv i.H/\i.H.length<=1000000) (λi=> .je [zB (cP i.H i.n),yL (nW i.H i.n)]) (λi=>[tJ i.H])
structure F5 where
 a:Nat
 b:Nat
def xHl:List gr:=[{ι:=F5,du:=λj=>[(9,zB j.a),(10,zB j.b)],rows:=λ_=>[]}]
def T5:gh:=NY rM 7 56
def Bx (n:Int) (s:Vs) (m:gi):Vs×Int:=
 if m.seq<1\/m.iN n≠0 then(s,12)else if m.seq<=s.q\/nW s.H m.seq=cf then(s,33)else
 if m.seq-1=s.q then(pJ (rn s.v m) m.seq s.H,0)else if 4096<=s.H.length then(s,13)else(⟨s.v,s.q,s.H.take (cP s.H m.seq)++m::s.H.drop (cP s.H m.seq)⟩,32)
def HJ (n:Int) (s:Vs) (b:i4):Vs×Int:=if(xO b).2≠0 then(s,(xO b).2)else Bx n s (xO b).1
def mq.T (i:mq):Vs:=(HJ i.n i.s i.b).1
def mq.W (i:mq):Int:=(HJ i.n i.s i.b).2
def C4:gh:=fp mq (λi=>[.nm 0 0,ow 1 (bE i.b)]) (λi=>EV i.n i.s) (λi=>i.ok/\Hv i.s.H/\i.b.length<=1000000/\i.e+i.s.H.length<=900000) (λi=>zB i.W) (λi=>y5v i.n i.T)
noncomputable def HK (n:Int) (s:Vs) (b:i4):Vs×Int:=
 if Ar b≠0 then(s,Ar b)else if((bX b).length:Int)≠n\/pK b<0 then(s,12)else if pK b<s.q then(s,33)else(pJ (bX b) (pK b) s.H,0)
noncomputable def mq.S (i:mq):Vs:=(HK i.n i.s i.b).1
noncomputable def mq.Z (i:mq):Int:=(HK i.n i.s i.b).2
noncomputable def Gm:gh:=fp mq (λi=>[.nm 0 0,ow 1 (bE i.b)]) (λi=>EV i.n i.s) (λi=>i.ok/\tX i.e (bX i.b)/\i.b.length<=1099511627776) (λi=>zB i.Z) (λi=>y5v i.n i.S)
def Gl:gh:=fp mq (λ_=>[.nm 0 0]) (λi=>EV i.n i.s) (λi=>i.ok) (λi=>zw i.s.v) (λi=>EV i.n i.s)
structure vt where
 o:iI
 x:Es
 p:fj
 d:Dk
 s:Int
 b:i4
def JO (p:fj) (x:Es) (o:iI) (d:Dk):List fq:=[Mo (x.en p) 4 7,L7 3 x.R.length,mr ⟨o,x.W⟩,lz d,Eh x.R,.kq 1 (iE p.dt),.kq 1 (iE p.settle),dW (yK p x.B)]
@[reducible] def vt.ok (i:vt):Prop:=(i.o.ga i.p i.x.B i.x.U/\jh i.p i.x.B)/\i.b.length<=254/\(-1<=i.s/\i.s<8)/\(0<=i.x.q/\i.x.q<=1000000000000000000)/\i.x.R.length<=1000000/\i.d.b.length+i.b.length+7<=1048576
def vt.Y (i:vt):Es:=i.x.ed i.p i.s i.b
def vt.N (i:vt):List gi:=jY i.x.q (i.x.M i.p i.s i.b)
def vt.O (i:vt):List (Int×ga):=(i.x.X i.p i.s i.b).O
def vt.D (i:vt):Dk:=⟨i.d.b++jH (A3 i.s i.b),i.d.safe⟩
def MO:gh where
 ι:=vt
 pat:=λi=>[.nm 0 0,zB i.s,ow 1 (bE i.b)]
 pre:=λi=>JO i.p i.x i.o i.d
 dp:=λi=>i.ok
 alts:=λi=>[
  {o:=iI,res:=λ_=> .agg [.own 8,LS],post:=λo=>JO i.p i.x o i.d++[LH [(i.s,⟨2,0,0,0,0,0,0,(zU i.s i.b).2⟩)]],rel:=λo=>(zU i.s i.b).2≠0/\o.ga i.p i.x.B i.x.U},
  {o:=iI,res:=λ_=> .agg [.own 10,.own 11],post:=λo=>[Mo (i.Y.en i.p) 8 9,L7 3 i.Y.R.length,mr ⟨o,i.Y.W⟩,lz i.D,.gone,.kq 1 (iE i.p.dt),.kq 1 (iE i.p.settle),.gone,Eh i.Y.R,dW (yK i.p i.Y.B),LH i.O,tJ i.N],rel:=λo=>(zU i.s i.b).2=0/\o.ga i.p i.Y.B i.Y.U}]
def tu (p:fj):Es:=⟨au p.count [],[],[],0,[]⟩
def y3f (p:fj) (x:Es) (r:i4):Es:=x.ed p (r.headD 0).toNat r.tail
def vO (p:fj) (L:Q_ UInt8):Es:=L.foldl (y3f p) (tu p)
def y2r (r:i4):Prop:=r≠[]/\(zU (r.headD 0).toNat r.tail).2=0
structure Bl where
 p:fj
 s:Nat
 L:Q_ UInt8
 t:i4
def Bl.j (i:Bl):Cu:=⟨i.s,i.L,i.t⟩
@[reducible] def Bl.ok (i:Bl):Prop:=(i.p.check=0/\i.p.small)/\((Eo.mk i.L i.t).ok/\i.j.d.ok)/\(∀r∈i.L,y2r r)/\i.L.length<=100000
def enK (e:En):fq:= .cells [sV e.p.code,.own 5,zB e.p.tick,zB e.p.low,zB e.p.high,zB e.p.wide,zB e.p.gm,zB e.p.top,zB e.p.least,zB e.p.part,.own 6,.nm 2 0,.nm 3 0,.own 7,zB e.q,.own 4] Jy
def TE:gh where
 ι:=Bl
 pat:=λi=>[nt i.p,.nm 0 0]
 pre:=λi=>[lz i.j.d]
 dp:=λi=>i.ok
 alts:=λi=>[{o:=iI,res:=λ_=> .je [.nm 1 0,zB 0],post:=λo=>[lz i.j.d',enK ((vO i.p i.L).en i.p),L7 0 i.L.length,mr ⟨o,(vO i.p i.L).W⟩,Eh (vO i.p i.L).R,.kq 1 (iE i.p.dt),.kq 1 (iE i.p.settle),dW (yK i.p (vO i.p i.L).B)],rel:=λo=>o.ga i.p (vO i.p i.L).B (vO i.p i.L).U}]
structure Pb where
 o:iI
 x:Es
 k:Nat
def xHb (i:Bl):List gr:=[{ι:=Pb,du:=λj=>[(6,.nm 2 0),(10,.nm 0 0),(48,.own 8),(50,zB j.k)],rows:=λj=>[Mo (j.x.en i.p) 4 7,L7 3 i.L.length,mr ⟨j.o,j.x.W⟩,lz i.j.d',Eh j.x.R,.kq 1 (iE i.p.dt),.kq 1 (iE i.p.settle),dW (yK i.p j.x.B),Eh i.L]}]
noncomputable def TC:gh:=fp En (λ_=>[.nm 0 0]) (λe=>[Mo e 4 7,.gone,.gone,.gone,.gone,.gone,.gone,dW e.v]) (λe=>xZ e.v) (λe=>ow 1 (bE (xU e.v e.q))) (λe=>[Mo e 4 7,.gone,.gone,.gone,.gone,.gone,.gone,dW e.v])
def Vn (a:xx):Prop:=(a.o.ga a.p a.x.B a.x.U/\jh a.p a.x.B)/\a.b.length<=1048576/\(0<=a.s/\a.s<8)/\(0<=a.x.q/\a.x.q<=1000000000000000000)/\a.x.R.length<=1000000
def cD (a:vt):=(aq zA (yK a.p (a.x.X a.p a.s a.b).B))
def fC (a:vt):=(a.x.R++[A3 a.s a.b])
def cF (a:vt):=((fC a).length:Int)
def cM (a:vt):=((a.x.M a.p a.s a.b).length:Int)
def uD (a:vt):=(aq zA (yK a.p a.x.B))
def dX (a:iI) (b:vt):=(Gt.mk a (b.x.X b.p b.s b.b).W)
@[reducible] def QT (a b:Es)(c d:fj)(R:Prop):Prop:=aq iZ a.R=aq iZ b.R/\ab 1 (iE c.dt)=ab 1 (iE d.dt)/\ab 1 (iE c.settle)=ab 1 (iE d.settle)/\R
def xGd (i:vt):Prop:=
 ∃(a:vg),a.s=i.s/\bE a.b=bE i.b/\a.b.length<=1099511627776/\ff (dp ((zU a.s a.b).snd !=0) (∃(c:DJ),c.s=i.s/\bE c.b=bE i.b/\mr c.g=mr (Gt.mk i.o i.x.W)/\(UY c)/\∀(d:iI),d.ga c.p c.X.B c.X.U->(∃(e:iI),True/\Qc i.p (dl i.x.q/\dl ((i.x.R.length:Int))/\mr (Gt.mk e i.x.W)=mr (Gt.mk d c.X.W)/\dl (lz i.d)/\dl (aq iZ i.x.R)/\wy i.p (ab 10 (uD i)=dW (yK i.p i.x.B)/\[jX (i.s,ga.mk 2 0 0 0 0 0 0 (zU i.s i.b).snd)]=aq jX c.X.O/\(zU i.s i.b).snd≠0/\e.ga i.p i.x.B i.x.U)))\/(∃(e:iI),Qc i.p (i.x.q+(cM i)=i.x.q/\(cF i)=(i.x.R.length:Int)/\mr (dX e i)=mr (Gt.mk d c.X.W)/\lz i.D=lz i.d/\wy i.p (aq iZ (fC i)=aq iZ i.x.R/\ab 10 (cD i)=dW (yK i.p i.x.B)/\aq jX i.O=aq jX c.X.O/\aq zS i.N=[]/\(zU i.s i.b).snd=0/\e.ga i.p (i.x.X i.p i.s i.b).B (i.x.X i.p i.s i.b).U)))) (True/\True/\∃(c:Q_ UInt8),aq iZ c=[[D.ro 1 [[D.v (.int .u8 (am.wrap i.s))]]],[D.ro 1 (bE i.b)]]/\(1<=c.flatten.length/\c.flatten.length<=1099511627776/\c.length<=1000)/\ff (True/\∃(e:Yx),bE e.l=bE c.flatten/\e.n=(i.x.R.length:Int)/\lz e.d=lz i.d/\(e.l.length<=255/\e.d.b.length+e.l.length+(6:Nat)<=(1048576:Nat)/\0<=e.n/\e.n<=1048576)/\ff (∃(g:xx),g.s=i.s/\bE g.b=bE i.b/\Qa g.p i.p (g.x.q=i.x.q/\mr g.g=mr (Gt.mk i.o i.x.W)/\QT g.x i.x g.p i.p (ab 10 (aq zA (yK g.p g.x.B))=dW (yK i.p i.x.B)/\(Vn g)/\∀(h:iI),h.ga g.p (g.x.X g.p g.s g.b).B (g.x.X g.p g.s g.b).U->(∃(j:iI),False)\/(∃(j:iI),Qa i.p g.p (i.x.q+(cM i)=g.x.q+((g.x.M g.p g.s g.b).length:Int)/\(cF i)=e.n+1/\mr (dX j i)=mr (Gt.mk h (g.x.X g.p g.s g.b).W)/\lz i.D=lz (Dk.mk (e.d.b++jH e.l) e.d.safe)/\BG i.p g.p (aq iZ (fC i)=aq iZ (g.x.R++[A3 g.s g.b])/\ab 10 (cD i)=ab 10 (NL g)/\aq jX i.O=aq jX g.O/\aq zS i.N=aq zS g.N/\(zU i.s i.b).snd=0/\j.ga i.p (i.x.X i.p i.s i.b).B (i.x.X i.p i.s i.b).U)))))))))
def rS (a:Bl):Prop:=Ql a.p (True)
def ZL (a:Cu):Prop:=((∀(b:i4),b∈a.L->b.length<=255)/\(Cx a.t).snd.snd=10/\(oU a.L).length+a.t.length<=1048576)/\a.s<=(oU a.L++a.t).length/\(oU a.L++a.t).length<=1048576
def aL (a:Bl):=(aq zA (yK a.p (vO a.p a.L).B))
def xDi (i:Bl):Prop:=
 ∃(a:fj),Qb a i.p ((zV a)/\(∀(b:Unit),a.check=0->∃(c:Cu),lz c.d=lz i.j.d/\(ZL c)/\ff (∃(e:List Int),iE e=iE i.p.dt/\e.length<=1000000/\ff (True/\∃(g:List Int),iE g=iE i.p.settle/\g.length<=1000000/\ff (∃(j:Gt),kF j.m=kF (iI.mk a (pH a) [])/\xQ j.W=xQ []/\True/\ff ((rS i)/\(rS i)/\∃(l:iI),Qa l.p j.m.p (zE l.s=zE j.m.s/\QE l j.m (True/\ff ((rS i)/\(rS i)/\∃(n:Fp),sb n.p.code=sb i.p.code/\iE n.p.dt=iE e/\Qr n.p i.p (iE n.p.settle=iE g/\zE n.s=zE l.s/\(n.s.ga n.p n.B/\jh n.p n.B)/\ff ((rS i)/\∃(q:Pb),(q.k:Int)=0/\Qc i.p (q.x.q=0/\(i.L.length:Int)=(c.L.length:Int)/\Qa q.o.p l.p (zE q.o.s=zE n.s/\QE q.o l (xQ q.x.W=xQ j.W/\lz i.j.d'=lz c.d'/\aq iZ q.x.R=[]/\ab 1 (iE i.p.dt)=ab 1 (iE e)/\ab 1 (iE i.p.settle)=ab 1 (iE g)/\aq zA (yK i.p q.x.B)=aq zA (yK n.p n.B)/\aq iZ i.L=aq iZ c.L/\∃(r:Pb->Prop),∃(s:Pb->Nat),r q/\∀(t:Pb),r t->dp (decide ((t.k:Int)<((aq iZ c.L).length:Int))) ((0<=(t.k:Int)/\(t.k:Int)<((aq iZ i.L).length:Int))/\((zD (aq iZ i.L) (t.k:Int).toNat 0 1=bv [D.v (Value.slice bz 0 0)]/\∃(u:iI),False)\/(∃(u:Q_ D),zD (aq iZ i.L) (t.k:Int).toNat 0 1=bv [D.ro 1 u]/\dp ((u.length:Int)==0) (∃(v:iI),False) (((0:Int)<=(0:Int)/\0<(u.length:Int))/\∃(v:Int),zD u (cq 0) 0 1=bv [D.v (.int .u8 v)]/\((0:Int)<=(1:Int)/\1<=(u.length:Int))/\∃(w:vg),w.s=ak.wrap v/\bE w.b=ax (cq 1) u/\w.b.length<=1099511627776/\ff (dp ((zU w.s w.b).snd !=0) (∃(y:iI),False) (((0:Int)<=(0:Int)/\0<(u.length:Int))/\∃(y:Int),zD u (cq 0) 0 1=bv [D.v (.int .u8 y)]/\((0:Int)<=(1:Int)/\1<=(u.length:Int))/\∃(z:xx),z.s=ak.wrap y/\bE z.b=ax (cq 1) u/\Qa z.p i.p (z.x.q=t.x.q/\mr z.g=mr (Gt.mk t.o t.x.W)/\QT z.x t.x z.p i.p (ab 10 (aq zA (yK z.p z.x.B))=ab 10 (aq zA (yK i.p t.x.B))/\(Vn z)/\∀(lk:iI),lk.ga z.p (z.x.X z.p z.s z.b).B (z.x.X z.p z.s z.b).U->∃(lu:Pb),(lu.k:Int)=ak.wrap ((t.k:Int)+1)/\Qa i.p z.p (lu.x.q=z.x.q+((z.x.M z.p z.s z.b).length:Int)/\dl ((i.L.length:Int))/\mr (Gt.mk lu.o lu.x.W)=mr (Gt.mk lk (z.x.X z.p z.s z.b).W)/\dl (lz i.j.d')/\aq iZ lu.x.R=aq iZ (z.x.R++[A3 z.s z.b])/\BG i.p z.p (ab 10 (aq zA (yK i.p lu.x.B))=ab 10 (NL z)/\dl (aq iZ i.L)/\r lu/\s lu<s t/\wy l.p (wy j.m.p (dl (ab 1 (iE g))/\dl (ab 1 (iE e))/\dl (ac [V.d (D.v (az (sb i.p.code))),V.own 7,V.d (dI i.p.tick),V.d (dI i.p.low),V.d (dI i.p.high),V.d (dI i.p.wide),V.d (dI i.p.gm),V.d (dI i.p.top),V.d (dI i.p.least),V.d (dI i.p.part),V.own 8] 25)/\dl (ab 1 (iE i.p.settle))/\dl (ab 1 (iE i.p.dt)))))))))))))) (∃(u:iI),dl ((0:Int))/\dl (lz i.j.d')/\Qc i.p ((vO i.p i.L).q=t.x.q/\dl ((i.L.length:Int))/\mr (Gt.mk u (vO i.p i.L).W)=mr (Gt.mk t.o t.x.W)/\aq iZ (vO i.p i.L).R=aq iZ t.x.R/\wy i.p (ab 10 (aL i)=ab 10 (aq zA (yK i.p t.x.B))/\u.ga i.p (vO i.p i.L).B (vO i.p i.L).U))))))))))))))))/\∀(b:Unit),a.check≠0->dp (a.check !=0) (∃(c:iI),False) (∃(c:Cu),lz c.d=lz i.j.d/\(ZL c)/\ff (∃(e:List Int),iE e=iE i.p.dt/\e.length<=1000000/\ff (True/\∃(g:List Int),iE g=iE i.p.settle/\g.length<=1000000/\ff (∃(j:Gt),False)))))
def xJg (e:En):Prop:=
 ∃(i:Hu),aq zA i.v=aq zA e.v/\i.seq=e.q/\(ar i.v<=1099511627776/\∀(b:Sd×Sd),b∈i.v->b.fst.levels.length<=1099511627776/\b.snd.levels.length<=1099511627776)/\∀(o:Unit),True->∃(o:Unit),bE (xU e.v e.q)=bE (xU i.v i.seq)/\dl (sb e.p.code)/\dl e.p.tick/\dl e.p.low/\dl e.p.high/\dl e.p.wide/\dl e.p.gm/\dl e.p.top/\dl e.p.least/\dl e.p.part/\e.q=e.q/\ab 10 (aq zA e.v)=dW e.v/\True
def yTr {s:Int} {b:i4} (h:(zU s b).2=0):0<=s/\s<8:=by
 rw[zU]at h;split at h
 ·cases h
 ·omega
def xIi (i:vt) (h:MO.dp i):xGd i:=by
 obtain⟨o0,x,p,d,s,b⟩:=i;obtain⟨⟨hM,hB⟩,hb,⟨ud,yu⟩,⟨wm,ue⟩,hR,hd⟩:(o0.ga p x.B x.U/\jh p x.B)/\b.length<=254/\(-1<=s/\s<8)/\(0<=x.q/\x.q<=1000000000000000000)/\x.R.length<=1000000/\d.b.length+b.length+7<=1048576:=h;have Sj:((iY s).toNat:Int)=am.wrap s:=(Ve s).symm;unfold xGd QT Qa wy BG Qc ff NL UY dX uD cM cF fC cD Vn;dsimp only;refine⟨⟨s,b⟩,rfl,rfl,Z9,λ_ _=>Cv.dp.mk (λe=> ?_) (λe=> ?_)⟩
 ·have e:(zU s b).2≠0:=i9 e
  exact⟨⟨⟨o0,x.W⟩,p,x.B,x.U,s,b,N0 x.B x.U x.W s 0 (zU s b).2⟩,rfl,rfl,rfl,⟨⟨hM,hB⟩,Z9,by dsimp only;rw[zWz,fh e]⟩,λo ho=> .inl ⟨o,trivial,iA (nr (iM ⟨rfl,e,ho⟩))⟩⟩
 ·have e:(zU s b).2=0:=i9 e
  have hs:=yTr e;refine⟨trivial,trivial,[[iY s],b],?_,⟨by simp,by simp;omega,by simp⟩,λ_ _=>⟨trivial,⟨d,x.R.length,A3 s b⟩,by simp[A3],rfl,rfl,⟨by simp[A3];omega,by simp[A3];omega,Z9,Z9⟩,λ_ _=>⟨⟨o0,x,p,s,b⟩,iA (iA ⟨rfl,⟨⟨hM,hB⟩,Z9,hs,⟨wm,ue⟩,hR⟩,λo ho=> .inr ⟨o,nr (iM ⟨rfl,by simp,oL ⟨rfl,e,ho⟩⟩)⟩⟩)⟩⟩⟩;show[iZ [iY s],iZ b]=_;rw[iZ,iZ,<- Sj];rfl
def GQ:MO.ok Tryz.prog 15:=gx mixed (dw yHc (dw yOc (dw yDb (dw yYf (dw y3z fk))))) 0 i6 i6 [] Tryz.func15 xIi
def xCv {p:fj} {L:Q_ UInt8} {k:Nat} {r:i4} (h:L[k]? =bv r):vO p (L.take (k+1))=y3f p (vO p (L.take k)) r:=by
 rw[qq,h,Bt,vO,Iz];rfl
def yFn {p:fj} {x:Es} {o:iI} (hM:o.ga p x.B x.U) (hB:jh p x.B) (s:Int) (b:i4) {o2:iI} (ho:o2.ga p (x.X p s b).B (x.X p s b).U):
 jh p (x.ed p s b).B/\x.q<=(x.ed p s b).q/\(x.ed p s b).q<=x.q+202000000/\(x.ed p s b).R.length=x.R.length+1:=by
 have BB:=hM.s.wf hB;have Co:jh p (x.X p s b).B:=z6m BB _ _ _ _;have:(x.M p s b).length<=202000000:=xBx (JH BB) (JH (ho.s.wf Co));refine⟨Co,?_,?_,?_⟩
 ·show x.q<=x.q+((x.M p s b).length:Int);omega
 ·show x.q+((x.M p s b).length:Int)<=_;omega
 ·show(x.R++[A3 s b]).length=_;rw[iv];rfl
def xJs (i:Bl) (h:TE.dp i):xDi i:=by
 obtain⟨p,s,L,t⟩:=i;obtain⟨⟨hc,qy⟩,⟨hs,hd⟩,hr,hl⟩:(p.check=0/\p.small)/\((Eo.mk L t).ok/\(Cu.mk s L t).d.ok)/\(∀r∈L,y2r r)/\L.length<=100000:=h;have SG:jh p (au p.count []):=jh.new hc qy;have hM0:=yZm p;have m6:=(jB hc).m6;have sl:=(jB hc).s1;have uk:(L.map iZ).length=L.length:=ia _;unfold xDi QE QT Qa Qb wy BG Qc ff Qr aL ZL rS Ql NL Vn zV o8 dI;dsimp only;refine⟨p,oL (iM ⟨rfl,qy,λ_ _=>⟨⟨s,L,t⟩,rfl,⟨hs,hd⟩,λ_ _=>⟨p.dt,rfl,oM,λ_ _=>⟨trivial,p.settle,rfl,oM,λ_ _=>⟨⟨RR p,[]⟩,rfl,rfl,trivial,λ_ _=>⟨gn,gn,RR p,iA (nf ⟨rfl,trivial,λ_ _=>⟨gn,gn,⟨(RR p).s,p,au p.count []⟩,iA (iM ⟨rfl,⟨hM0.s,SG⟩,λ_ _=>⟨gn,⟨RR p,tu p,0⟩,iA (iA (iA (oL ⟨rfl,λj=>(j.k<=L.length/\j.x=vO p (L.take j.k))/\(j.o.ga p j.x.B j.x.U/\jh p j.x.B)/\(0<=j.x.q/\j.x.q<=202000000*(j.k:Int))/\j.x.R.length=j.k,λj=>L.length-j.k,⟨⟨mn _,rfl⟩,⟨hM0,SG⟩,⟨yl _,yl _⟩,rfl⟩,?_⟩)))⟩⟩)⟩⟩)⟩⟩⟩⟩⟩,λ_ jy=>absurd hc jy⟩)⟩;rintro⟨o,x,k⟩ ⟨⟨hk,hx⟩,⟨hM,hB⟩,⟨wm,ue⟩,hR⟩;dsimp only at hk hx hM hB wm ue hR ⊢;refine zG (λgu=> ?_) (λgu=> ?_)
 ·obtain⟨r,hrk⟩:=zZ (l:=L) (i:=k) oM;have IH:=lh hrk;obtain⟨jy,OK⟩:=hr r IH;have Ub:=hs.1 r IH;obtain⟨c,b,rfl⟩:∃c b,r=c::b:=by
   cases r with
   |nil=>exact absurd rfl jy
   |cons c b=>exact⟨c,b,rfl⟩
  have OK:(zU (c.toNat:Int) b).2=0:=OK;have hc8:=yTr OK;have wc:ak.wrap (c.toNat:Int)=c.toNat:=iw oM;rw[iF]at Ub;refine⟨⟨oM,oM⟩,.inr ⟨bE (c::b),WV hrk,Cv.dp.mk (λe=>by have e:=Ix.1 e;rw[yW,iF]at e;omega) (λ_=>⟨⟨Z8,by rw[yW,iF];omega⟩,c.toNat,dC rfl,⟨Z8,by rw[yW,iF];omega⟩,⟨c.toNat,b⟩,wc.symm,rfl,Z9,λ_ _=>Cv.dp.mk (λe=>by simp[OK]at e) (λ_=>⟨⟨Z8,by rw[yW,iF];omega⟩,c.toNat,dC rfl,⟨Z8,by rw[yW,iF];omega⟩,⟨o,x,p,c.toNat,b⟩,wc.symm,iA (oL ⟨rfl,⟨⟨hM,hB⟩,Z9,hc8,⟨wm,Z9⟩,Z9⟩,λo2 ho=> ?_⟩)⟩)⟩)⟩⟩;obtain⟨t1,t2,t3,t4⟩:=yFn hM hB (c.toNat:Int) b ho;exact⟨⟨o2,x.ed p c.toNat b,k+1⟩,qu oM,iA (nr (iM ⟨rfl,⟨⟨Z9,by dsimp only;rw[xCv hrk,<- hx];rfl⟩,⟨ho,t1⟩,⟨Z9,Z9⟩,Z9⟩,Z9,gn⟩))⟩
 ·obtain rfl:k=L.length:=by omega
  rw[At]at hx;subst hx;exact⟨o,by repeat'(first|exact rfl|exact hM|apply And.intro)⟩
def yTq:TE.ok Tryz.prog 52:=gx mixed (dw y0g (dw xBi (dw yKu (dw z5l (dw zYa (dw z6b (dw z5r (dw yHc (dw y3z fk))))))))) 0 i6 (λi=>xHb i) [] Tryz.func52 xJs
def Nl:TC.ok Tryz.prog 20:=gx (V:=xJg) mixed (dw y9f fk) 0 i6 i6 [] Tryz.func20 λ(e:En) h=>⟨⟨e.v,e.q⟩,rfl,rfl,h,λ_ _=>⟨(),gn⟩⟩
@[reducible] def yUt:Nat:=42
structure rq where
 x:Es
 o:iI
 d:Dk
 O:List (Int×ga)
 N:List gi
def xHg (p:fj) (j:rq):List fq:=JO p j.x j.o j.d++[.cells [.own 9,.own 10] yUt,LH j.O,tJ j.N]
def doJ (p:fj) (e a:Nat):gr:={ι:=rq,oP:=λ_=>[(e,.nm 0 0)],lq:=λj=>JO p j.x j.o j.d,du:=λj=>[(e,.nm 0 0),(a,.nm 8 0)],rows:=xHg p}
def xIt (p:fj):List fq:=[.cells [sV p.code,.own 9,zB p.tick,zB p.low,zB p.high,zB p.wide,zB p.gm,zB p.top,zB p.least,zB p.part,.own 10] 25,.kq 1 (iE p.dt),.kq 1 (iE p.settle)]
def yWi {t:zd} (h:0<=t.i/\t.i<=1000000):1<=(xI t).id/\(xI t).id<=1099511627776:=by
 have:0<=zI t.c.id 0 30/\zI t.c.id 0 30<=30:=by rw[zI];omega
 rw[xI];split
 ·dsimp only;omega
 ·simp only[xB];omega
def yQi {x:fj} {c:iq} {k:Nat} (hk:k<=1000000):(xI ⟨ig x,c,k⟩).right=0:=by
 have:=z8l x c k (xI ⟨ig x,c,k⟩).id (yWi Z9);exact this
def yGi {c:iq} (h:c.right=0) (hl:c.label=[]):c.enc.length<=100:=by
 have e:c.enc=iY c.kind::(le c.id 8++c.tail):=by rw[iq.enc,ez (by simp[h])]
 have ht:c.tail.length<=60:=by
  rw[iq.tail];split
  ·simp only[iF,iv,y8,FB,hl,nn,tz];omega
  split
  ·rw[y8];omega
  split
  ·rw[iv,y8,y8];omega
  ·exact mn _
 rw[e,iF,iv,y8];omega
def yRj (p:fj) (B:Q_ zJ) (U:List Int) (c:iq):∃r l,(Aa p B U c).R=r::l/\(r.kind=2->(Aa p B U c).B=B):=by
 rw[Aa];split
 ·exact⟨_,_,rfl,λ_=>rfl⟩
 split
 ·rw[nY]
  iterate 5 (split;·exact⟨_,_,rfl,λ_=>rfl⟩)
  obtain⟨r,l,h1,h2,_⟩:=(z4e p B U c).2;exact⟨r,l,h1,λe=>by omega⟩
 split
 ·exact⟨_,_,rfl,λ_=>rfl⟩
 split
 ·rw[fK];split
  ·exact⟨_,_,rfl,λ_=>rfl⟩
  split
  ·rw[mA];exact⟨_,_,rfl,λe=>by simp at e⟩
  split
  ·exact⟨_,_,rfl,λ_=>rfl⟩
  rw[gL];exact⟨_,_,rfl,λe=>by simp at e⟩
 split
 ·rw[gL];exact⟨_,_,rfl,λe=>by simp at e⟩
 ·rw[mA];exact⟨_,_,rfl,λe=>by simp at e⟩
def z9i (p:fj) (B:Q_ zJ) (U:List Int) (W:List (Int×Int)) (s:Int) (b:i4):∃o l,(tA p B U W s b).O=o::l/\(o.2.kind=2->(tA p B U W s b).B=B):=by
 rw[tA];split
 ·exact⟨_,_,rfl,λ_=>rfl⟩
 split
 ·exact⟨_,_,rfl,λ_=>rfl⟩
 rw[Lm];split
 ·exact⟨_,_,rfl,λ_=>rfl⟩
 split
 ·exact⟨_,_,rfl,λ_=>rfl⟩
 obtain⟨r,l,h1,h2⟩:=yRj p B U (xX b).1;dsimp only;rw[h1];dsimp only[FD];refine⟨_,_,rfl,λe=>h2 ?_⟩;exact e
def yMo (x:Es) (p:fj) (s:Int) (b:i4):∃o l,(x.X p s b).O=o::l/\(o.2.kind=2->x.M p s b=[]):=by
 obtain⟨o,l,h1,h2⟩:=z9i p x.B x.U x.W s b;refine⟨o,l,h1,λe=> ?_⟩;rw[Es.M,Es.X,h2 e];exact yGr 0 _
structure C3 (p:fj) (x:Es) (d:Dk) (j:rq):Prop where
 r:j.o.ga p j.x.B j.x.U
 ok:jh p j.x.B
 q1:x.q<=j.x.q
 q2:j.x.q<=x.q+202000000
 n:j.x.R.length<=x.R.length+1
 d:j.d.b.length<=d.b.length+107
 m:∃M:List VM,j.N=jY x.q M/\j.x.q=x.q+(M.length:Int)
 t:∃o l,j.O=o::l/\(o.2.kind=2->j.N=[])
def C3.bad {p:fj} {x:Es} {d:Dk} {o:iI} (h1:o.ga p x.B x.U) (h2:jh p x.B) (s w:Int):C3 p x d ⟨x,o,d,[(s,⟨2,0,0,0,0,0,0,w⟩)],[]⟩:=
 ⟨h1,h2,yl _,Z9,Z9,Z9,⟨[],rfl,by simp⟩,⟨_,_,rfl,λ_=>rfl⟩⟩
def C3.vw {p:fj} {x:Es} {d:Dk} {o o2:iI} (h1:o.ga p x.B x.U) (h2:jh p x.B) {s:Int} {b:i4} (hb:b.length<=100) (h3:o2.ga p (x.X p s b).B (x.X p s b).U):
 C3 p x d ⟨x.ed p s b,o2,⟨d.b++jH (A3 s b),d.safe⟩,(x.X p s b).O,jY x.q (x.M p s b)⟩:=by
 obtain⟨t1,t2,t3,t4⟩:=yFn h1 h2 s b h3;refine⟨h3,t1,t2,t3,Z9,?_,⟨_,rfl,rfl⟩,?_⟩
 ·dsimp only;rw[iv,bG,A3,iF];omega
 ·obtain⟨o,l,e1,e2⟩:=yMo x p s b;exact⟨o,l,e1,λe=>by rw[e2 e];rfl⟩
def Ai:gh:=WK 2
structure Yz where
 g:Gt
 p:fj
 B:Q_ zJ
 U:List Int
def Tx:gh:=fp Yz (λ_=>[.nm 0 0]) (λi=>[mr i.g]) (λi=>i.g.m.ga i.p i.B i.U/\jh i.p i.B) (λ_=> .nm 1 0) (λi=>[mr i.g,mr i.g])
def y2y (es:List (bc×List D)):Prop:=
 ∃(i:List (bc×List D)),i=es/\True/\∀(o:Unit),True->∃(o:Unit),es=i/\es=i/\True
def y4w (es:List (bc×List D)):y2y es=walk Tryz.prog ([(223,v7 150)]) 0 ([]) ([]) [] Tryz.f161 (Tryz.f161.body.getD .skip) (Ai.pat es) (Ai.pre es) (Ai.alts es):=by kernel_rfl
def y4m (hG:zf Tryz.prog ([(223,v7 150)])) (h:∀(es:List (bc×List D)),Ai.dp es->y2y es):Ai.ok Tryz.prog 161:=qY mixed ([(223,v7 150)]) hG 0 (λ(es:List (bc×List D))=>[]) (λ(es:List (bc×List D))=>[]) [] Tryz.func161 (by kernel_rfl) (by kernel_rfl) (by kernel_rfl) (λ_=>by kernel_rfl) (λ(es:List (bc×List D)) hc=>Eq.mp (y4w es) (h es hc))
def xJq (i:Yz):Prop:=
 ∃(gz:Er),ae iI 5 yO gz.m=ae iI 5 yO i.g.m/\(gz.m.ga gz.p gz.B gz.U/\jh gz.p gz.B)/\∀(o:Unit),True->True/\∃(mf:List (bc×List D)),mf=xQ i.g.W/\True/\∀(o:Unit),True->∃(o:Unit),ae iI 5 yO i.g.m=ae iI 5 yO gz.m/\xQ i.g.W=mf/\ae iI 5 yO i.g.m=ae iI 5 yO gz.m/\xQ i.g.W=mf/\True
def y1a:Ai.ok Tryz.prog 161:=y4m (dw (VX _) fk) λes _=>⟨es,rfl,trivial,λ_ _=>⟨(),rfl,rfl,trivial⟩⟩
def Ni:Tx.ok Tryz.prog 83:=gx (V:=xJq) mixed (dw z7f (dw y1a fk)) 0 i6 i6 [0] Tryz.func83 λ(i:Yz) h=>⟨⟨i.g.m,i.p,i.B,i.U⟩,rfl,h,λ_ _=>⟨trivial,xQ i.g.W,rfl,trivial,λ_ _=>⟨(),nf trivial⟩⟩⟩
def Xk {M:List gi} {k:Nat} {m:gi} (h:M[k]? =bv m):zD (M.map zS) k 0 7=bv [D.v (.int .i64 m.seq),.v (.int .i64 m.inst),.v (.int .i64 m.side),.v (.int .i64 m.dm),.v (.int .i64 m.dr),.v (.int .i64 m.count),.v (.bool m.gg)]:=jz h (by simp[zS]) rfl
structure BK (p:fj) (x:Es) (d:Dk) (s:Int) (b:i4) (j:rq):Prop where
 a:C3 p x d j
 c:((zU s b).2≠0/\j.x=x/\j.d=d/\j.O=[(s,⟨2,0,0,0,0,0,0,(zU s b).2⟩)]/\j.N=[])\/((zU s b).2=0/\j.x=x.ed p s b/\j.d=⟨d.b++jH (A3 s b),d.safe⟩/\j.O=(x.X p s b).O/\j.N=jY x.q (x.M p s b))
def BK.bad {p:fj} {x:Es} {d:Dk} {o:iI} (h1:o.ga p x.B x.U) (h2:jh p x.B) {s:Int} {b:i4} (h:(zU s b).2≠0):BK p x d s b ⟨x,o,d,[(s,⟨2,0,0,0,0,0,0,(zU s b).2⟩)],[]⟩:=⟨C3.bad h1 h2 s _,.inl ⟨h,iM rfl⟩⟩
def BK.vw {p:fj} {x:Es} {d:Dk} {o o2:iI} (h1:o.ga p x.B x.U) (h2:jh p x.B) {s:Int} {b:i4} (hb:b.length<=100) (h:(zU s b).2=0) (h3:o2.ga p (x.X p s b).B (x.X p s b).U):
 BK p x d s b ⟨x.ed p s b,o2,⟨d.b++jH (A3 s b),d.safe⟩,(x.X p s b).O,jY x.q (x.M p s b)⟩:=⟨C3.vw h1 h2 hb h3,.inr ⟨h,iM rfl⟩⟩
def MS:gh:=fp SL (λi=>[.nm 0 0,sV i.s]) (λi=>[Wr i.l]) (λi=>i.l.length+300<=1099511627776/\i.s.length<=255) (λ_=>rE) (λi=>[Wr (i.l++FB i.s)])
def KJ:gh:=fp iq (λc=>[De c]) i6 (λc=>c.label=[]/\c.right=0) (λc=> .je [ow 1 (bE c.enc),zB 0]) i6
def SU:gh:=fp zd (λt=>[nt t.p,De t.c,zB t.i]) i6 (λt=>(∃x,t.p=ig x)/\t.c.raw/\0<=t.i/\t.i<=1000000) (λt=>ow 1 (bE (xI t).enc)) i6
def Tz:gh where
 ι:=fj
 pat:=λp=>[nt p]
 pre:=λ_=>[]
 dp:=λp=>p.check=0/\p.small
 alts:=λp=>[{o:=iI,res:=λ_=> .je [.nm 0 0,.nm 3 0,yL cf],post:=λo=>JO p (tu p) o ⟨[],0⟩,rel:=λo=>o.ga p (tu p).B (tu p).U}]
def awC:gh:=fp fj i6 i6 (λp=>p=cW 2) (λ_=>yL cf) i6
def y4r:List (Nat×gr):=[(4,{ι:=Unit,du:=λ_=>[],rows:=λ_=>[],Ds:=[0]})]
def awJ (p:fj):List (Nat×gr):=[(20,doJ p 2 4),(24,doJ p 2 5),(28,doJ p 2 6)]
end Sx
