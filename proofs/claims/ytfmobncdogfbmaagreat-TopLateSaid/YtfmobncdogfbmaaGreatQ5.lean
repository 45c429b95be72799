/- Texts of ours. No condition. -/
import Derived.Laws.AppendOwn
import Derived.Lib.AppendZerosOnto
import Derived.Lib.Overlaps
import Derived.Test.YtfmobncdogfbmaaGreatQ4
set_option linter.all false
open List renaming map->ab,take->ac,drop->ae,range->af,drop_length->ag
open Go.IntKind renaming i64->aj
open Sx.fq renaming rh->ak,own->am,kq->ao,cells->ap,kj->aq,map->ar
open Bool renaming true->au,false->av
open Option renaming some->aw,none->ax
open Go.Value renaming int->ay
open Go.Builtin renaming zeroCells->az,copy_->ba,firstCells->bc,append_->be
open And renaming intro->bg
open Exists renaming intro->bo
open Go renaming Value->bu,World->bv,Program->bz,Addr->cd,size_zeroCells->ce,TypeId->cf
open Int renaming tmod_eq_emod_of_nonneg->cg,toNat->cm
namespace Sx
set_option maxRecDepth 100000
open Go Cv Go.Proofs
def z9f {l:List Quote} {q:Quote} (s:Int) (h:l[0]? =aw q):(z6 (l.take (max 0 1)) s).1=q:=by
 cases l with
 |nil=>simp at h
 |cons a l=>simp at h;subst h;rfl
def z9j {l:List Quote} {j:Nat} {q:Quote} (s:Int) (h:l[j]? =aw q):
 (z6 (l.take (max (j+1) 1)) s).1=if jl s q.dm (z6 (l.take (max j 1)) s).1.dm then q else(z6 (l.take (max j 1)) s).1:=by
 cases l with
 |nil=>simp at h
 |cons a l=>
  cases j with
  |zero=>simp at h;subst h;simp[z6]
  |succ m=>
   simp only[Bd]at h;rw[show max (m+1+1) 1=(m+1)+1 by omega,show max (m+1) 1=m+1 by omega,u',u',qq,h];simp only[z6,Bt,Iz];rfl
def yKy {l:List Quote} (s:Int) (h:l≠[]):(z6 l s).2=au:=by
 cases l with
 |nil=>exact absurd rfl h
 |cons a l=>rfl
def y7s (i:Ab) (h:G1.dp i):yNr i:=by
 obtain⟨hs,hl⟩:(i.s=1\/i.s=2)/\i.l.length<=1000000:=h;unfold yNr zGa dx zLt ff dx u9 yH zFz dI;simp only[ia];refine Cv.dp.mk (λc=> ?_) (λc=> ?_)
 ·have e:i.l=[]:=xq (by have:(i.l.length:Int)=0:=(i9 c);omega);rw[e];exact kp
 have h0:0<i.l.length:=by
  rcases Nat.eq_zero_or_pos i.l.length with h|h
  ·rw[h]at c;exact absurd c Z8
  ·exact h
 have jy:i.l≠[]:=by intro e;rw[e]at h0;simp at h0
 have two:=yKy i.s jy;obtain⟨q,hq⟩:=zZ h0;have b0:=z9f i.s hq;have fin:(z6 (i.l.take (max i.l.length 1)) i.s).1=(z6 i.l i.s).1:=by
  rw[mz (by omega)]
 have step:∀j:Nat,j<i.l.length->∀x:Quote,i.l[j]? =aw x->(jl i.s x.dm (z6 (i.l.take (max j 1)) i.s).1.dm=au->(z6 (i.l.take (max (j+1) 1)) i.s).1=x)/\(jl i.s x.dm (z6 (i.l.take (max j 1)) i.s).1.dm=av->(z6 (i.l.take (max (j+1) 1)) i.s).1=(z6 (i.l.take (max j 1)) i.s).1):=λj hj x hx=>by
  have:=z9j i.s hx;constructor
  ·intro e;rw[this,fh e]
  ·intro e;rw[this,ez (by rw[e];simp)]
 refine Cv.dp.mk (λc1=>Cv.dp.mk (λc2=> ?_) (λc2=> ?_)) (λc1=> ?_)
 ·exfalso;have c1:i.s≠1:=i9 c1
  have c2:i.s≠2:=i9 c2
  omega
 all_goals
  refine⟨⟨oM,oM⟩,q.dm,q.dr,q.a.inst,q.a.side,q.b.inst,q.b.side,jz hq (by simp[zL]) rfl,0,?_⟩;rw[b0]
  (repeat'(first|exact rfl|exact trivial|assumption|apply bg|refineλ(_:Unit) (_:True)=>?_|refine bo () ?_|omega|(dsimp only;omega)))
  refine⟨λj=>j<=i.l.length,λj=>i.l.length-j,oM,λj hj=>zG (λgu=> ?_) (λgu=> ?_)⟩
  ·have ox:j<i.l.length:=by omega
   obtain⟨x,hx⟩:=zZ ox;obtain⟨st,sf⟩:=step j ox x hx;refine⟨⟨oM,oM⟩,x.dm,x.dr,x.a.inst,x.a.side,x.b.inst,x.b.side,jz hx (by simp[zL]) rfl,⟨i.s,x.dm,_⟩,rfl,rfl,rfl,trivial,λ_ _=>Cv.dp.mk (λe=>⟨j+1,by rw[iw (by omega)];rfl,?_⟩) (λe=>⟨j+1,by rw[iw (by omega)];rfl,?_⟩)⟩
   ·rw[st e];exact kp
   ·rw[sf e];exact kp
  ·have hj:j<=i.l.length:=hj;obtain rfl:j=i.l.length:=by omega
   rw[fin,two];exact kp
def z6i:G1.ok Tryz.prog 158:=gx mixed (dw yBl fk) 0 i6 (λi=>y7o i) [] Tryz.func158 y7s
def Pu (fm:List j') (a b:Ct) (less:Bool):(xm fm a b less).length<=1:=by
 unfold xm;dsimp only;split<;>split<;>simp
def z2h {α:Type} {f:Nat->List α} (h:∀k,(f k).length<=1):∀n,((af n).flatMap f).length<=n
 |0=>by simp
 |n+1=>by
  rw[HB,yy,iv];have:=z2h h n;have:=h n;simp only[vi,LY,oJ];omega
def zGf (i:bS) (s:Int) (k:Nat):(jQ i s k).length<=k:=z2h (λ_=>Pu _ _ _ _) k
def lG (i:bS) (s:Int) (k:Nat):(wL i s k).length<=k:=z2h (λ_=>Pu _ _ _ _) k
def VG (i:bS) (s:Int):(kZ i s).length<=100:=by
 unfold kZ;split
 ·simp
 ·rename_i h;have hc:=y7 i.p;have m6:=(jB (PW (p:=i.p) oM)).m6;split
  ·rw[ia];have:=Pu i.fm ⟨(i.p.gp i.inst).2.1,3-s⟩ ⟨(i.p.gp i.inst).1,s⟩ au;have e:(yY i s).length<=1:=this;omega
  ·rw[iv];have h1:=zGf i s (i.p.dt.length-(i.inst.toNat+1));have h2:=lG i s i.inst.toNat;omega
def yWp (j:Bq) (h:DW.dp j):yGf j:=by
 unfold yGf Qb ff dx zFs Bi dD wH kK o8 gI qQ o8 dI;obtain⟨hp,ht,hr⟩:j.i.p.small/\uB j.i.fm:=h;obtain⟨h1,h2,h3⟩:=hp;have hl:=VG j.i (zF j.s);refine⟨j,?_⟩;simp only[ia]
 (repeat'(first|exact rfl|exact trivial|assumption|apply bg|refineλ(_:Unit) (_:True)=>?_|refine bo () ?_|omega|(dsimp only;omega)))
 refine⟨0,rfl,rfl,λk=>k<=(kZ j.i (zF j.s)).length,λk=>(kZ j.i (zF j.s)).length-k,oM,λk hk=>zG (λgu=> ?_) (λgu=> ?_)⟩
 ·have pk:k<(kZ j.i (zF j.s)).length:=by omega
  obtain⟨q,hq⟩:=zZ pk;have hf:(List.filter (λq=>decide (j.i.p.dm j.i.inst q.dm=0)) (ac k (kZ j.i (zF j.s)))).length<=100:=by
   have:=HE (λq:Quote=>decide (j.i.p.dm j.i.inst q.dm=0)) (ac k (kZ j.i (zF j.s)));rw[nn]at this;omega
  refine⟨⟨oM,oM⟩,q.dm,q.dr,q.a.inst,q.a.side,q.b.inst,q.b.side,jz hq (by simp[zL]) rfl,⟨j.i.p,j.i.inst,q.dm⟩,?_⟩
  (repeat'(first|exact rfl|exact trivial|assumption|apply bg|refineλ(_:Unit) (_:True)=>?_|refine bo () ?_|omega|(dsimp only;omega)))
  refine Cv.dp.mk (λc=>⟨oM,k+1,by rw[iw (by omega)];rfl,?_⟩) (λc=>⟨k+1,by rw[iw (by omega)];rfl,?_⟩)
  ·have c:j.i.p.dm j.i.inst q.dm=0:=i9 c
   rw[qq,hq,Bt,Cf,RF (i9 c),jk];exact kp
  ·have c:¬j.i.p.dm j.i.inst q.dm=0:=i9 c
   rw[qq,hq,Bt,Cf,RE (i9 c),List.filter_nil,oJ];exact kp
 ·have hk:k<=(kZ j.i (zF j.s)).length:=hk;obtain rfl:k=(kZ j.i (zF j.s)).length:=by omega
  rw[mz (ju _)];exact kp
def yJf:∀n≤6,∀a<n,∀b<n,a<b->0<=(yQ n a:Int)+b-a-1/\(yQ n a:Int)+b-a-1<((n+n*(n-1) / 2:Nat):Int):=by decide
def mI {p:fj} (hc:p.check=0) {a b:Nat} (Dx:a<b) (hb:b<p.dt.length):0<=(p.spread a b).1/\(p.spread a b).1<p.count:=by
 have m6:=(jB hc).m6;have:=yJf p.dt.length m6 a oM b hb Dx;rw[fj.spread,ez (by omega),fj.count,fh hc];simpa using this
def yVv:∀n≤6,∀k<n+n*(n-1) / 2,n<=k->(jT n k n 0).2.2=au/\0<=(jT n k n 0).1/\(jT n k n 0).1<n/\0<=(jT n k n 0).2.1/\(jT n k n 0).2.1<n:=by decide
def dM {p:fj} (hc:p.check=0) {k:Nat} (hk:k<p.count):((p.gp k).2.2=au/\0<=(p.gp k).1/\(p.gp k).1<p.dt.length/\0<=(p.gp k).2.1/\(p.gp k).2.1<p.dt.length)\/((p.gp k).2.2=av/\k<p.dt.length):=by
 have m6:=(jB hc).m6;have pk:=hk;rw[fj.count,fh hc]at pk;by_cases h:k<p.dt.length
 ·right;rw[fj.gp,ez (by omega),fh (by omega)];exact⟨rfl,h⟩
 ·left;rw[fj.gp,ez (by omega),ez (by omega)];exact yVv p.dt.length m6 k pk oM
def VA {p:fj} (hc:p.check=0):p.dt.length<=p.count:=by
 rw[fj.count,fh hc];omega
def z4c {i:bS} {s:Int} {k:Nat} (hk:k<(yY i s).length):ab zL (ab (aY i s) (ac (k+1) (yY i s))++ae (k+1) (yY i s))=
 zK (ab zL (ab (aY i s) (ac k (yY i s))++ae k (yY i s))) k (0+2) [D.v (.int .i64 (i.p.gp i.inst).1),D.v (.int .i64 s),D.v (.int .i64 (i.p.gp i.inst).2.1),D.v (.int .i64 (3-s))]:=by
 obtain⟨q,hq⟩:=zZ hk;rw[zXg (a:=ab zL (ab (aY i s) (ac k (yY i s)))) (b:=ab zL (ae (k+1) (yY i s))) (x:=zL q) (y:=zL (aY i s q)) (by
  rw[jk,CH hk,(jm.1 hq).2,jf]) (by simp;omega) rfl]
 rw[qq,hq,Bt,jk,jk,jk,jf,Bs,jf,Bs,jd];rfl
def xEw (i:bS) (h:Lh.dp i):y3i i:=by
 unfold y3i Qb O4 Yn ff dx zV o8 Vu Vh sU Bi uJ rU Wm tN j9 o8 qQ o8 VY gH dE gI dI;obtain⟨⟨h1,h2,h3⟩,ht,hr⟩:i.p.small/\uB i.fm:=h;have ss:uB i.fm:=⟨ht,hr⟩
 refine⟨i.p,?_⟩;simp only[ia,y9]
 (repeat'(first|exact rfl|exact trivial|assumption|apply bg|refineλ(_:Unit) (_:True)=>?_|refine bo () ?_|omega|(dsimp only;omega)))
 have bad (hb:i.p.count=0\/(i.fm.length:Int)≠i.p.count\/i.inst<0\/(i.p.count:Int)<=i.inst):∃(o:Unit),ab zL (kZ i 1)=[]/\True:=⟨(),by rw[kZ,fh hb];rfl,trivial⟩
 refine Cv.dp.mk (λc1=>bad (.inl (by have c1:(i.p.count:Int)=0:=(i9 c1);omega))) λc1=>Cv.dp.mk (λc2=>bad (.inr (.inl (i9 c2)))) λc2=>zG (λc3=>bad oM) λc3=>zG (λc4=>bad oM) λc4=>⟨⟨i.p,i.inst⟩,?_⟩
 have c1:i.p.count≠0:=by
  have c1:¬(i.p.count:Int)=0:=(i9 c1)
  omega
 have c2:(i.fm.length:Int)=i.p.count:=i9 c2
 have c4:i.inst<(i.p.count:Int):=by
  have c4:¬i.inst>=(i.p.count:Int):=c4;omega
 have hc:=PW c1;have hm:=VA hc;have e0:kZ i 1=if(i.p.gp i.inst).2.2 then(yY i 1).map (aY i 1)else jQ i 1 (i.p.dt.length-(i.inst.toNat+1))++wL i 1 i.inst.toNat:=by
  rw[kZ,ez (by omega)]
 obtain⟨k,hk⟩:∃k:Nat,i.inst=k:=⟨i.inst.toNat,oM⟩
 have hl:=dM hc (k:=k) oM;rw[<- hk]at hl
 (repeat'(first|exact rfl|exact trivial|assumption|apply bg|refineλ(_:Unit) (_:True)=>?_|refine bo () ?_|omega|(dsimp only;omega)))
 refine Cv.dp.mk (λc5=> ?_) (λc5=> ?_)
 ·have c5:(i.p.gp i.inst).2.2=au:=c5;rw[e0,fh c5];rcases hl with⟨_,l1,l2,l3,l4⟩|⟨l1,_⟩
  ·have yt:(yY i 1).length<=1:=Pu _ _ _ _;refine⟨1,rfl,oM,λ_ _=>⟨⟨⟨i.fm,[],(i.p.gp i.inst).2.1,(i.p.gp i.inst).1,au⟩,au,av⟩,nr ⟨rfl,⟨l3,Z9,l1,Z9,ss,by simp⟩,λ_ _=>⟨0,rfl,rfl,rfl,λj=>j<=(yY i 1).length,λj=>(yY i 1).length-j,oM,?_⟩⟩⟩⟩;intro j hj;have hj:j<=(yY i 1).length:=hj;have hL:(ab (aY i 1) (ac j (yY i 1))++ae j (yY i 1)).length=(yY i 1).length:=by simp;omega
   refine zG (λgu=> ?_) (λgu=> ?_)
   ·have gu:(j:Int)<((yY i 1).length:Int):=gu;refine⟨⟨oM,by rw[hL];omega⟩,by rw[hL];omega,j+1,by rw[iw (by omega)];rfl,kp,?_,?_⟩
    ·exact z4c (i:=i) (s:=1) oM
    ·exact kp
   ·have gu:¬(j:Int)<((yY i 1).length:Int):=gu;obtain rfl:j=(yY i 1).length:=by omega
    rw[mz (ju _),ag,oJ];exact kp
  ·rw[c5]at l1;cases l1
 ·have c5:(i.p.gp i.inst).2.2=av:=c5;rw[e0,ez (by rw[c5];simp)];rcases hl with⟨l1,_⟩|⟨_,l2⟩
  ·rw[c5]at l1;cases l1
  have m6:=(jB hc).m6;have e1:i.inst.toNat=k:=by omega
  rw[e1];refine⟨0,by rw[iw (by omega)];omega,kp,rfl,λj=>j<=i.p.dt.length-(k+1),λj=>i.p.dt.length-(k+1)-j,oM,?_⟩;intro j hj;have hj:j<=i.p.dt.length-(k+1):=hj;have hq:=zGf i 1 j;refine zG (λgu=> ?_) (λgu=> ?_)
  ·obtain⟨b1,b2⟩:=mI hc (a:=k) (b:=k+1+j) oM oM;have eb:((k+1+j:Nat):Int)=i.inst+1+j:=by omega
   rw[eb,<- hk]at b1 b2;refine⟨⟨i.p,i.inst,i.inst+1+j⟩,?_⟩
   (repeat'(first|exact rfl|exact trivial|assumption|apply bg|refineλ(_:Unit) (_:True)=>?_|refine bo () ?_|omega|(dsimp only;omega)))
   refine⟨⟨⟨i.fm,jQ i 1 j,(i.p.spread i.inst (i.inst+1+j)).1,i.inst+1+j,av⟩,av,av⟩,nf ⟨rfl,kp,rfl,⟨b1,Z9,Z9,Z9,ss,Z9⟩,λ_ _=>⟨j+1,by rw[iw (by omega)];omega,kp,?_,?_⟩⟩⟩
   ·rw[jQ,HB,yy];simp only[vi,LY,oJ];rfl
   ·exact kp
  ·obtain rfl:j=i.p.dt.length-(k+1):=by omega
   refine⟨0,rfl,kp,by rw[wL];simp,λj=>j<=k,λj=>k-j,oM,?_⟩;intro j hj;have hj:j<=k:=hj;have ue:=lG i 1 j;refine zG (λxz=> ?_) (λxz=> ?_)
   ·obtain⟨b1,b2⟩:=mI hc (a:=j) (b:=k) oM oM;rw[<- hk]at b1 b2;refine⟨⟨i.p,j,i.inst⟩,?_⟩
    (repeat'(first|exact rfl|exact trivial|assumption|apply bg|refineλ(_:Unit) (_:True)=>?_|refine bo () ?_|omega|(dsimp only;omega)))
    refine⟨1,rfl,oM,λ_ _=>⟨⟨⟨i.fm,jQ i 1 (i.p.dt.length-(k+1))++wL i 1 j,(i.p.spread j i.inst).1,j,au⟩,au,av⟩,nf ⟨rfl,kp,rfl,⟨b1,Z9,Z9,Z9,ss,by dsimp only;rw[iv];omega⟩,λ_ _=>⟨j+1,by rw[iw (by omega)];omega,kp,?_,?_⟩⟩⟩⟩
    ·rw[wL,HB,yy];simp only[vi,LY,oJ,jd];rfl
    ·exact kp
   ·obtain rfl:j=k:=by omega
    exact kp
def yVp:Lh.ok Tryz.prog 159:=gx mixed (dw dU (dw NX (dw zXq (dw zWg (dw z3v fk))))) 0 i6 (λi=>xDn i 1) [] Tryz.func159 xEw
def xEe (i:bS) (h:Lg.dp i):y3t i:=by
 unfold y3t Qb O4 Yn ff dx zV o8 tK Wq sM Vu Vh sU Bi uJ j9 o8 qQ o8 VY gH dE gI dI;obtain⟨⟨h1,h2,h3⟩,ht,hr⟩:i.p.small/\uB i.fm:=h;have ss:uB i.fm:=⟨ht,hr⟩
 refine⟨i.p,?_⟩;simp only[ia,y9]
 (repeat'(first|exact rfl|exact trivial|assumption|apply bg|refineλ(_:Unit) (_:True)=>?_|refine bo () ?_|omega|(dsimp only;omega)))
 have bad (hb:i.p.count=0\/(i.fm.length:Int)≠i.p.count\/i.inst<0\/(i.p.count:Int)<=i.inst):∃(o:Unit),ab zL (kZ i 2)=[]/\True:=⟨(),by rw[kZ,fh hb];rfl,trivial⟩
 refine Cv.dp.mk (λc1=>bad (.inl (by have c1:(i.p.count:Int)=0:=(i9 c1);omega))) λc1=>Cv.dp.mk (λc2=>bad (.inr (.inl (i9 c2)))) λc2=>zG (λc3=>bad oM) λc3=>zG (λc4=>bad oM) λc4=>⟨⟨i.p,i.inst⟩,?_⟩
 have c1:i.p.count≠0:=by
  have c1:¬(i.p.count:Int)=0:=(i9 c1)
  omega
 have c2:(i.fm.length:Int)=i.p.count:=i9 c2
 have c4:i.inst<(i.p.count:Int):=by
  have c4:¬i.inst>=(i.p.count:Int):=c4;omega
 have hc:=PW c1;have hm:=VA hc;have e0:kZ i 2=if(i.p.gp i.inst).2.2 then(yY i 2).map (aY i 2)else jQ i 2 (i.p.dt.length-(i.inst.toNat+1))++wL i 2 i.inst.toNat:=by
  rw[kZ,ez (by omega)]
 obtain⟨k,hk⟩:∃k:Nat,i.inst=k:=⟨i.inst.toNat,oM⟩
 have hl:=dM hc (k:=k) oM;rw[<- hk]at hl
 (repeat'(first|exact rfl|exact trivial|assumption|apply bg|refineλ(_:Unit) (_:True)=>?_|refine bo () ?_|omega|(dsimp only;omega)))
 refine Cv.dp.mk (λc5=> ?_) (λc5=> ?_)
 ·have c5:(i.p.gp i.inst).2.2=au:=c5;rw[e0,fh c5];rcases hl with⟨_,l1,l2,l3,l4⟩|⟨l1,_⟩
  ·have yt:(yY i 2).length<=1:=Pu _ _ _ _;refine⟨2,rfl,oM,λ_ _=>⟨⟨⟨i.fm,[],(i.p.gp i.inst).2.1,(i.p.gp i.inst).1,au⟩,av,au⟩,nr ⟨rfl,⟨l3,Z9,l1,Z9,ss,by simp⟩,λ_ _=>⟨0,rfl,rfl,rfl,λj=>j<=(yY i 2).length,λj=>(yY i 2).length-j,oM,?_⟩⟩⟩⟩;intro j hj;have hj:j<=(yY i 2).length:=hj;have hL:(ab (aY i 2) (ac j (yY i 2))++ae j (yY i 2)).length=(yY i 2).length:=by simp;omega
   refine zG (λgu=> ?_) (λgu=> ?_)
   ·have gu:(j:Int)<((yY i 2).length:Int):=gu;refine⟨⟨oM,by rw[hL];omega⟩,by rw[hL];omega,j+1,by rw[iw (by omega)];rfl,kp,?_,?_⟩
    ·exact z4c (i:=i) (s:=2) oM
    ·exact kp
   ·have gu:¬(j:Int)<((yY i 2).length:Int):=gu;obtain rfl:j=(yY i 2).length:=by omega
    rw[mz (ju _),ag,oJ];exact kp
  ·rw[c5]at l1;cases l1
 ·have c5:(i.p.gp i.inst).2.2=av:=c5;rw[e0,ez (by rw[c5];simp)];rcases hl with⟨l1,_⟩|⟨_,l2⟩
  ·rw[c5]at l1;cases l1
  have m6:=(jB hc).m6;have e1:i.inst.toNat=k:=by omega
  rw[e1];refine⟨0,by rw[iw (by omega)];omega,kp,rfl,λj=>j<=i.p.dt.length-(k+1),λj=>i.p.dt.length-(k+1)-j,oM,?_⟩;intro j hj;have hj:j<=i.p.dt.length-(k+1):=hj;have hq:=zGf i 2 j;refine zG (λgu=> ?_) (λgu=> ?_)
  ·obtain⟨b1,b2⟩:=mI hc (a:=k) (b:=k+1+j) oM oM;have eb:((k+1+j:Nat):Int)=i.inst+1+j:=by omega
   rw[eb,<- hk]at b1 b2;refine⟨⟨i.p,i.inst,i.inst+1+j⟩,?_⟩
   (repeat'(first|exact rfl|exact trivial|assumption|apply bg|refineλ(_:Unit) (_:True)=>?_|refine bo () ?_|omega|(dsimp only;omega)))
   refine⟨⟨⟨i.fm,jQ i 2 j,(i.p.spread i.inst (i.inst+1+j)).1,i.inst+1+j,av⟩,au,au⟩,nf ⟨rfl,kp,rfl,⟨b1,Z9,Z9,Z9,ss,Z9⟩,λ_ _=>⟨j+1,by rw[iw (by omega)];omega,kp,?_,?_⟩⟩⟩
   ·rw[jQ,HB,yy];simp only[vi,LY,oJ];rfl
   ·exact kp
  ·obtain rfl:j=i.p.dt.length-(k+1):=by omega
   refine⟨0,rfl,kp,by rw[wL];simp,λj=>j<=k,λj=>k-j,oM,?_⟩;intro j hj;have hj:j<=k:=hj;have ue:=lG i 2 j;refine zG (λxz=> ?_) (λxz=> ?_)
   ·obtain⟨b1,b2⟩:=mI hc (a:=j) (b:=k) oM oM;rw[<- hk]at b1 b2;refine⟨⟨i.p,j,i.inst⟩,?_⟩
    (repeat'(first|exact rfl|exact trivial|assumption|apply bg|refineλ(_:Unit) (_:True)=>?_|refine bo () ?_|omega|(dsimp only;omega)))
    refine⟨2,rfl,oM,λ_ _=>⟨⟨⟨i.fm,jQ i 2 (i.p.dt.length-(k+1))++wL i 2 j,(i.p.spread j i.inst).1,j,au⟩,av,au⟩,nf ⟨rfl,kp,rfl,⟨b1,Z9,Z9,Z9,ss,by dsimp only;rw[iv];omega⟩,λ_ _=>⟨j+1,by rw[iw (by omega)];omega,kp,?_,?_⟩⟩⟩⟩
    ·rw[wL,HB,yy];simp only[vi,LY,oJ,jd];rfl
    ·exact kp
   ·obtain rfl:j=k:=by omega
    exact kp
def yVx:Lg.ok Tryz.prog 159:=gx mixed (dw dU (dw NX (dw zXq (dw zWg (dw z3v fk))))) 0 i6 (λi=>xDn i 2) [] Tryz.func159 xEe
def yVd:aaZ.ok Tryz.prog 159:=λj=>match j with
 |⟨i,av⟩=>yVp i
 |⟨i,au⟩=>yVx i
def zMl:DW.ok Tryz.prog 82:=gx mixed (dw yVd (dw PS fk)) 0 i6 (λj=>y0o j) [] Tryz.func82 yWp
def zAz (i:bS) (s:Int):(xR i s).length<=100:=tm (HE _ _) (VG i s)
structure iI where
 p:fj
 s:gy
 used:List Int
def zY (l:List Int):List (bu×List D):=l.map λx=>(.int .i64 x,[.v (.bool au)])
def yO (m:iI):Nat->fq
 |0=> .cells [sV m.p.code,.own 3,zB m.p.tick,zB m.p.low,zB m.p.high,zB m.p.wide,zB m.p.gm,zB m.p.top,zB m.p.least,zB m.p.part,.own 4,.nm 1 0,.mp 2] 155
 |1=>zE m.s
 |2=> .map (zY m.used)
 |3=> .kq 1 (iE m.p.dt)
 |4=> .kq 1 (iE m.p.settle)
 |_=> .gone
def kF (m:iI):fq:= .rh iI 5 yO m
def KM:gh where
 ι:=fj
 pat:=λp=>[nt p]
 pre:=λ_=>[]
 dp:=λp=>p.small
 alts:=λp=>[{o:=Unit,res:=λ_=> .je [.nm 0 0,zB 0],post:=λ_=>[kF ⟨p,pH p,[]⟩],rel:=λ_=>p.check=0},{o:=Unit,res:=λ_=> .je [.d (.v (.pointer ax)),zB p.check],post:=λ_=>[],rel:=λ_=>p.check≠0}]
def Gs:gh:=fp iI (λ_=>[.nm 0 0]) (λm=>[kF m]) (λm=>m.s.small) (λ_=> .nm 1 0) (λm=>[kF m,zE m.s])
def Z' (a:fj) (b:fj):Prop:=True/\(0+(iE a.settle).length)*(8:Nat)<=(140737488355328:Nat)/\((dx (dl ((0:Int))/\Qc a (zE (pH a)=zE (pH b)/\zY []=[]/\iE a.dt=[]++iE a.dt/\iE a.settle=[]++iE a.settle/\a.check=0)))\/(dx (False)))
def zMg (a:fj) (b:fj):Prop:=True/\True/\(0+(iE a.dt).length)*(8:Nat)<=(140737488355328:Nat)/\Z' a b
def zKt (a:fj):Prop:=True/\(0+(iE a.settle).length)*(8:Nat)<=(140737488355328:Nat)/\((dx (dl ((0:Int))/\Qc a (False)))\/(dx (False)))
def zMy (a:fj):Prop:=True/\True/\(0+(iE a.dt).length)*(8:Nat)<=(140737488355328:Nat)/\zKt a
def y1t (p:fj):Prop:=
 ∃(a:fj),Qb a p ((zV a)/\(∀(b:Unit),a.check=0->(True/\True/\(Mt p (Z' p a))/\zMg p a)/\True/\True/\zMg p a)/\∀(b:Unit),a.check≠0->dp (a.check !=0) ((dx (False))\/(dx (True/\p.check=a.check/\(p.check=0->False)))) ((True/\True/\(Mt p (zKt p))/\zMy p)/\True/\True/\zMy p))
def y8k (m:iI):Prop:=
 ∃(i:gy),zE i=zE m.s/\(i.eg.length<=1000000/\∀(b:dq),b∈i.eg->(b.a.du.length<=1000000/\b.a.dy.length<=1000000)/\b.fv.length<=1000000/\b.fc.length<=1000000/\b.spare.length<=1000000)/\∀(o:Unit),True->∃(o:Unit),dl (sb m.p.code)/\dl m.p.tick/\dl m.p.low/\dl m.p.high/\dl m.p.wide/\dl m.p.gm/\dl m.p.top/\dl m.p.least/\dl m.p.part/\zE m.s=zE i/\dl (zY m.used)/\dl (ao 1 (iE m.p.dt))/\dl (ao 1 (iE m.p.settle))/\zE m.s=zE i/\True
def Hb:Gs.ok Tryz.prog 29:=gx (V:=y8k) mixed (dw P4 fk) 0 i6 i6 [0] Tryz.func29 λ(m:iI) h=>by
 obtain⟨h1,h2⟩:m.s.small:=h;refine⟨m.s,rfl,⟨h1,h2⟩,λ_ _=>⟨(),?_⟩⟩;exact kp
def xCy (p:fj) (h:KM.dp p):y1t p:=by
 unfold y1t Qb Mt dx zMy zKt Qc dx zMg Z' Qc dx zV o8;obtain⟨h1,h2,h3⟩:p.small:=h;refine⟨p,?_⟩;simp only[y9]
 (repeat'(first|exact rfl|exact trivial|assumption|apply bg|refineλ(_:Unit) (_:True)=>?_|refine bo () ?_|omega|(dsimp only;omega)))
 ·intro _ c
  (repeat'(first|exact rfl|exact trivial|assumption|apply bg|refineλ(_:Unit) (_:True)=>?_|refine bo () ?_|omega|(dsimp only;omega)))
  all_goals(refine .inl ⟨(),?_⟩;(repeat'(first|exact rfl|exact trivial|assumption|apply bg|refineλ(_:Unit) (_:True)=>?_|refine bo () ?_|omega|(dsimp only;omega))))
 ·intro _ c;refine Cv.dp.mk (λe=> .inr ⟨(),trivial,kp,c⟩) (λe=>absurd (i9 e) c)
def yZa:KM.ok Tryz.prog 38:=gx mixed (dw yZj fk) 0 i6 i6 [] Tryz.func38 xCy
def D8:gh:=fp (List Int) (λl=>[iV l]) i6 (λl=>l.length<=1000000) (λl=>iV l) i6
structure ra where
 n:Int
 lo:Int
 hi:Int
def zI (n lo hi:Int):Int:=lo+n % (hi-lo+1)
def AV:gh:=fp ra (λi=>[zB i.n,zB i.lo,zB i.hi]) i6 (λi=>yP i.n/\-1000000<=i.lo/\i.lo<=i.hi/\i.hi<=1000000) (λi=>zB (zI i.n i.lo i.hi)) i6
def cW (gm:Int):fj:=⟨[67,76],[320,321,323],5,0,1000,200,gm,4,2,40,[500,505,490]⟩
def MT:gh:=fp Int (λn=>[zB n]) i6 (λ_=>True) (λn=>nt (cW n)) i6
def yYu (l:List Int):Prop:=
 ∀(b:Bool),(b=au->iE l=[])->dp b (∃(o:Unit),iE l=[]/\True) ((0+(iE l).length)*(8:Nat)<=(140737488355328:Nat)/\∃(o:Unit),iE l=[]++iE l/\True)
def yIr (l:List Int):Prop:=
 ∀(b:Bool),(b=au->iE l=[])->dp b (∃(o:Unit),iE l=[]/\True) ((0+(iE l).length)*(8:Nat)<=(140737488355328:Nat)/\∃(o:Unit),iE l=[]++iE l/\True)
def pO (a:ra):=(aj.wrap (aj.wrap (a.hi-a.lo)+1))
def yDx (i:ra):Prop:=
 aj=aj/\aj.wrap (aj.wrap (i.hi-i.lo)+1)≠0/\dp (decide (i.n.tmod (pO i)<0)) (dx (zI i.n i.lo i.hi=aj.wrap (i.lo+aj.wrap (aj.wrap (aj.wrap (i.n.tmod (pO i)+i.hi)-i.lo)+1))/\True)) (dx (zI i.n i.lo i.hi=aj.wrap (i.lo+i.n.tmod (pO i))/\True))
@[reducible] def Ym (a:Int)(R:Prop):Prop:=(5:Int)=(5:Int)/\(0:Int)=(0:Int)/\(1000:Int)=(1000:Int)/\(200:Int)=(200:Int)/\a=a/\(4:Int)=(4:Int)/\(2:Int)=(2:Int)/\(40:Int)=(40:Int)/\R
def yOj (n:Int):Prop:=
 dx (sb [(67:UInt8),(76:UInt8)]=ByteArray.mk #[(67:UInt8),(76:UInt8)]/\iE [(320:Int),(321:Int),(323:Int)]=[[dI 320],[dI 321],[dI 323]]/\Ym n (iE [(500:Int),(505:Int),(490:Int)]=[[dI 500],[dI 505],[dI 490]]/\True))
def yKu:D8.ok Tryz.prog 120:=gx (V:=yYu) mixed fk 0 i6 i6 [] Tryz.func120 λ(l:List Int) h=>by
 have h:l.length<=1000000:=h;exactλb hb=>Cv.dp.mk (λe=>⟨(),hb e,trivial⟩) (λ_=>⟨by rw[nq,y9];omega,(),rfl,trivial⟩)
def z5l:D8.ok Tryz.prog 121:=gx (V:=yIr) mixed fk 0 i6 i6 [] Tryz.func121 λ(l:List Int) h=>by
 have h:l.length<=1000000:=h;exactλb hb=>Cv.dp.mk (λe=>⟨(),hb e,trivial⟩) (λ_=>⟨by rw[nq,y9];omega,(),rfl,trivial⟩)
def yTl:MT.ok Tryz.prog 37:=gx (V:=yOj) mixed fk 0 i6 i6 [] Tryz.func37 λ(n:Int) _=>by
 unfold yOj Ym dx dI;exact kp
def yYe (i:ra) (h:AV.dp i):yDx i:=by
 obtain⟨⟨a1,a2⟩,a3,a4,a5⟩:yP i.n/\-1000000<=i.lo/\i.lo<=i.hi/\i.hi<=1000000:=h;unfold yDx dx pO;rw[iw (x:=i.hi-i.lo) (by omega),iw (x:=i.hi-i.lo+1) (by omega)];obtain⟨d,hd⟩:∃d:Int,i.hi-i.lo+1=d:=⟨_,rfl⟩
 rw[hd];have h1:i.n.tmod d=if 0<=i.n then i.n % d else-((-i.n) % d):=by
  split
  ·rename_i h;rw[cg h]
  ·rename_i h;have:i.n= -(-i.n):=by omega
   conv=>lhs;rw[this]
   rw[Int.neg_tmod,cg (by omega)]
 have qd:=Of i.n (show d≠0 by omega);have ni:=Rw i.n (show 0<d by omega);have Dw:=Of (-i.n) (show d≠0 by omega);have Yd:=Rw (-i.n) (show 0<d by omega);have key:i.n.tmod d<0->i.n % d=i.n.tmod d+d:=λME=>by
  have:=Int.emod_eq_of_lt (a:=i.n.tmod d+d) (b:=d) (by rw[h1]at ME ⊢;split at ME<;>split<;>omega) oM;rw[<- this,Int.add_emod_right];have e:=Int.tmod_add_mul_tdiv i.n d
  conv=>lhs;rw[<- e]
  rw[XJ]
 have aao:¬i.n.tmod d<0->i.n % d=i.n.tmod d:=λME=>by
  have gu:i.n.tmod d<d:=by rw[h1];split<;>omega
  have:=Int.emod_eq_of_lt (a:=i.n.tmod d) (b:=d) oM gu;rw[<- this];have e:=Int.tmod_add_mul_tdiv i.n d
  conv=>lhs;rw[<- e]
  rw[XJ]
 refine⟨rfl,oM,zG (λc=>⟨(),?_,trivial⟩) (λc=>⟨(),?_,trivial⟩)⟩
 ·have k:=key c;rw[zI,hd,k];rw[iw (x:=i.n.tmod d+i.hi) (by omega),iw (x:=i.n.tmod d+i.hi-i.lo) (by omega),iw (x:=i.n.tmod d+i.hi-i.lo+1) (by omega),iw (by omega)];omega
 ·have k:=aao c;rw[zI,hd,k,iw (by omega)]
def vz:AV.ok Tryz.prog 14:=gx mixed fk 0 i6 i6 [] Tryz.func14 yYe
def CD (l:List (Int×Int)) (k:Int):Option Int:=(l.find? λx=>decide (x.1=k)).map (·.2)
def yOy (l:List (Int×Int)) (k:Int):∀p∈yV l,mc (ay aj k) p.1=au:=by
 intro p hp;obtain⟨x,_,rfl⟩:=np.1 hp;rfl
def sW (k:Int):∀l:List (Int×Int),jK (ay aj k) (yV l)=(CD l k).map λv=>[D.v (.int .i64 v)]
 |[]=>rfl
 |(a,v)::l=>by
  have ih:=sW k l;show(bif (xd .i64 .i64 && decide (k=a))then _ else jK _ (yV l))=_;by_cases h:k=a
  ·subst h;simp[CD,xd]
  ·have h':¬a=k:=λe=>h e.symm
   rw[show(xd .i64 .i64 && decide (k=a))=av by simp[h],cond_false,ih];simp[CD,LV,h']
structure ga where
 kind:Int
 id:Int
 inst:Int
 side:Int
 dm:Int
 dr:Int
 left:Int
 pf:Int
 deriving DecidableEq
@[reducible] def xIx (r:ga):V:= .agg [zB r.kind,zB r.id,zB r.inst,zB r.side,zB r.dm,zB r.dr,zB r.left,zB r.pf]
def x7 (r:ga):List D:=[.v (.int .i64 r.kind),.v (.int .i64 r.id),.v (.int .i64 r.inst),.v (.int .i64 r.side),.v (.int .i64 r.dm),.v (.int .i64 r.dr),.v (.int .i64 r.left),.v (.int .i64 r.pf)]
def JN (k v:Int):List (Int×Int)->List (Int×Int)
 |[]=>[(k,v)]
 |(a,b)::l=>if k=a then(a,v)::l else(a,b)::JN k v l
def LD (k:Int):List (Int×Int)->List (Int×Int)
 |[]=>[]
 |(a,b)::l=>if k=a then l else(a,b)::LD k l
def bj (t:Nat):gr:={ι:=Bool,du:=λb=>[(t,yL b)],rows:=λ_=>[]}
def ij (t:Nat):gr:={ι:=Int,du:=λn=>[(t,zB n)],rows:=λ_=>[]}
def bV (l:List (Int×Int)) (k:Int):∀(p:bu×List D),p∈yV l->mc (ay aj k) p.1=au:=λp hp=>yOy l k p hp
def z4y (k v:Int):∀l,gW (ay aj k) [D.v (.int .i64 v)] (yV l)=yV (JN k v l)
 |[]=>rfl
 |(a,b)::l=>by
  have ih:=z4y k v l;show(bif (xd .i64 .i64 && decide (k=a))then _ else _::gW _ _ (yV l))=_;rw[ih,JN];by_cases h:k=a
  ·subst h;simp[xd,yV]
  ·simp[h,yV]
def z5k (k:Int):∀l,CE (ay aj k) (yV l)=yV (LD k l)
 |[]=>rfl
 |(a,b)::l=>by
  have ih:=z5k k l;show(bif (xd .i64 .i64 && decide (k=a))then yV l else _::CE _ (yV l))=_;rw[ih,LD];by_cases h:k=a
  ·subst h;simp[xd]
  ·simp[h,yV]
def y8y (l:List (Int×Int)) (k:Int):jK (ay aj k) (yV l)=aw [D.v (.int .i64 ((CD l k).getD 0))]/\(CD l k).isSome=au\/jK (ay aj k) (yV l)=ax/\[D.v (.int .i64 ((CD l k).getD 0))]=[D.v (.int .i64 0)]/\(CD l k).isSome=av:=by
 rw[sW];cases CD l k with
 |none=>exact .inr ⟨rfl,rfl,rfl⟩
 |some v=>exact .inl ⟨rfl,rfl⟩
def z5z (a b:Int):(a==b)=decide (a=b):=by
 by_cases h:a=b
 ·subst h;simp
 ·simp[h]
def z4g (n:Int):(cW n).small:=⟨by simp[cW],by simp[cW],by simp[cW]⟩
def yZ {n lo hi:Int} (h:lo<=hi):lo<=zI n lo hi/\zI n lo hi<=hi:=by
 rw[zI];have h1:=Of n (show hi-lo+1≠0 by omega);have h2:=Rw n (show 0<hi-lo+1 by omega);omega
open Go Go.RowKit Cv
def V3 {P:bz} {dT sT ty e sz oD:Nat} {z:Array bu} (hi:vW P dT=aw (e,sz,oD,z)) {w:bv} {g o dLen dCap b so sLen sCap n:Nat} {cur src:List bu} {T T':cf} {fr:Nat×Nat}
 (hg:w.heap[g]? =aw (.cells cur.toArray T (0,0))) (hs:w.heap[b]? =aw (.cells src.toArray T' fr)) (hn:Nat.min sLen dLen=n) (h1:so+n*sz<=src.length) (h2:o+n*sz<=cur.length)
 (EB:∀v∈(src.drop so).take (n*sz),v.oq=au):
 fJ P (ba #[dT,sT] ty #[.slice (aw ⟨g,o,ax⟩) dLen dCap,.slice (aw ⟨b,so,ax⟩) sLen sCap]) w (.int .i64 n) (World.ja w g (.cells (kx cur o ((src.drop so).take (n*sz))).toArray T (0,0))):=by
 obtain⟨i,zv,q1,q2,rfl,rfl,q5,rfl⟩:=jI hi;have hl:((src.drop so).take (n*i.size)).length=n*i.size:=by rw[nn,pd];omega
 have lp:=vK (P:=P) ((src.drop so).take (n*i.size)) 0 o cur w hg (by rw[hl];omega) EB;simp only[FE]at lp;unfold fJ ba;simp only[Bc,CG,Bd,bind,pure,run_bind,Sem.bind,Sem.run,Cv.run_underlying q1,Cv.run_sizeOf q2,Builtin.lenOf,hn,bc,fF hs h1,lp];rfl
def Hp.apart {k:Ko} {w:bv} {b c:Nat} {o o':Obj} {L:List HP} (H:Hp k w (pt b o::pt c o'::L)):b≠c:=by
 obtain⟨hk,hs,hh⟩:=H;cases hh with
 |cons ha jb hd hr=>
  cases hr with
  |cons hb KW AA xo=>
   intro e;subst e;have:=hd _ iX b;rw[show _=one b o from ha,show _=one b o' from hb]at this;simp[one]at this
def xAp (P:bz) (tS tI sz fO fR:Nat) (s:Option cd) (sn sk:Nat) (i:Int) (v:Option cd) (vn vk:Nat) (w:bv) (R:Ending->bv->Prop):Prop:=
tp s sn sk (aw i) ax sz λa1 na1 ka1=>
dp (((vn:Int):Int)==0) (
R (.returned (.slice s sn sk)) w) (
dp ((i:Int)==(sn:Int)) (
∃(a2:Option cd) (na2 ka2:Nat),∃w3:bv,fJ P (be #[tS,tS] tS #[.slice s sn sk,.slice v vn vk]) w (.slice a2 na2 ka2) w3/\
R (.returned (.slice a2 na2 ka2)) w3) (
dp (decide ((aj.wrap ((sn:Int)+(vn:Int)):Int)>(sk:Int))) (
tp s sn sk ax (aw i) sz λa4 na4 ka4=>
∃(a5:Option cd) (IC Ka:Nat),∃w6:bv,fJ P (be #[tS,tI] tS #[.slice a4 na4 ka4,.int .i64 (aj.wrap (aj.wrap ((sn:Int)+(vn:Int))-i))]) w (.slice a5 IC Ka) w6/\
tp a5 IC Ka (aw i) ax sz λa7 na7 ka7=>
∃x8:Int,∃w9:bv,fJ P (ba #[tS,tS] tI #[.slice a7 na7 ka7,.slice v vn vk]) w6 (.int .i64 x8) w9/\
Xl w9 λw10=>
tp a5 IC Ka (aw (aj.wrap (i+(vn:Int)))) ax sz λa11 aak aaw=>
tp s sn sk (aw i) ax sz λa12 aaj aav=>
∃x13:Int,∃w14:bv,fJ P (ba #[tS,tS] tI #[.slice a11 aak aaw,.slice a12 aaj aav]) w10 (.int .i64 x13) w14/\
R (.returned (.slice a5 IC Ka)) w14) (
tp s sn sk ax (aw (aj.wrap ((sn:Int)+(vn:Int)))) sz λKq BN BO=>
tp Kq BN BO (aw (aj.wrap (i+(vn:Int)))) ax sz λa16 aai aau=>
∃c17:Bool,∃w18:bv,Cv.Ext P fO #[.slice v vn vk,.slice a16 aai aau] w (.bool c17) w18/\
dp (!c17) (
Xl w18 λw19=>
tp Kq BN BO (aw (aj.wrap (i+(vn:Int)))) ax sz λa20 aah aat=>
tp Kq BN BO (aw i) ax sz λa21 aag aas=>
∃x22:Int,∃w23:bv,fJ P (ba #[tS,tS] tI #[.slice a20 aah aat,.slice a21 aag aas]) w19 (.int .i64 x22) w23/\
tp Kq BN BO (aw i) ax sz λa24 aaf aar=>
∃x25:Int,∃w26:bv,fJ P (ba #[tS,tS] tI #[.slice a24 aaf aar,.slice v vn vk]) w23 (.int .i64 x25) w26/\
R (.returned (.slice Kq BN BO)) w26) (
tp Kq BN BO (aw (sn:Int)) ax sz λa27 aae aaq=>
∃x28:Int,∃w29:bv,fJ P (ba #[tS,tS] tI #[.slice a27 aae aaq,.slice v vn vk]) w18 (.int .i64 x28) w29/\
tp Kq BN BO (aw i) ax sz λa30 aad aap=>
Calls P fR #[.slice a30 aad aap,.int .i64 (vn:Int)] w29 λe32 w31=>e32= .returned (.tuple #[])/\
R (.returned (.slice Kq BN BO)) w31))))
def yJk {α:Type} {l m:Nat} {xs r ys:List α} (hl:l<=xs.length) (hy:ys.length=m) (hr:m<=r.length):
 ((xs++r).take (l+m)++xs.drop l++(xs++r).drop (l+m+(xs.drop l).length)).take l++ys++((xs++r).take (l+m)++xs.drop l++(xs++r).drop (l+m+(xs.drop l).length)).drop (l+ys.length)=(xs.take l++ys++xs.drop l)++r.drop m:=by
 have e1:(xs++r).drop (l+m+(xs.drop l).length)=r.drop m:=by
  rw[pd,show l+m+(xs.length-l)=xs.length+m by omega,LZ];simp
 have e2:((xs++r).take (l+m)++xs.drop l++r.drop m).take l=xs.take l:=by
  rw[jd,yp (by rw[nn,iv];omega),List.take_take,FG (by omega),yp hl]
 have e3:((xs++r).take (l+m)++xs.drop l++r.drop m).drop (l+ys.length)=xs.drop l++r.drop m:=by
  have:((xs++r).take (l+m)).length=l+m:=by rw[nn,iv];omega
  rw[jd,hy,LZ,this,JW,Ee,IB (by omega),we]
 rw[e1,e2,e3];simp
def z2b (A Z Y:List bu):kx (A++Z) A.length Y=A++Y++Z.drop Y.length:=by
 simp only[kx];rw[JY,LZ];simp
def NG {b o n c i:Nat} (h:c≠i):(if c=i then(aw ⟨b,o,ax⟩:Option cd)else(aw ⟨b,o,ax⟩:Option cd).map (·.add n))=aw ⟨b,o+n,ax⟩:=by
 rw[ez h,wg,h9]
def z0k (P:bz) (fO:Nat):Prop:=∀(w:bv) (va sb so la ca lb cb:Nat) (c c':Array bu) (T T':cf),va≠sb->w.heap[va]?=aw (.cells c T (0,0))->w.heap[sb]?=aw (.cells c' T' (0,0))->c'.size≠0->
 Cv.Ext P fO #[.slice (aw ⟨va,0,ax⟩) la ca,.slice (aw ⟨sb,so,ax⟩) lb cb] w (.bool av) w
def z0s {P : Program} {fO tS tB e sz oD : Nat} {z : Array Value} {fn : Func} (hf : P.funcs[fO]? = some fn) (BX : (fn.name == "runtime.NumGoroutine") = false) (hb : fn.body.isNone = true) (hn : Extern.findNext fn = none) (he : Extern.find fn = some (Extern.SlicesOverlaps.overlaps #[tS, tS] #[tB]))
 (hi:vW P tS=aw (e,sz,oD,z)):z0k P fO:=by
 obtain⟨i,zv,q1,q2,rfl,rfl,q5,rfl⟩:=jI hi;intro w va sb so la ca lb cb c c' T T' jy h1 h2 h3;unfold Cv.Ext;rw[run_callFunc_extern hf BX hb hn he,Lib.run_overlaps_apart w tS tB e q1 i.size (λw=>Cv.run_sizeOf q2 w) ⟨va,0,ax⟩ ⟨sb,so,ax⟩ la ca lb cb jy T T' c.size c'.size (by simp[World.shape?,h1]) (by simp[World.shape?,h2]) h3 (by simp[World.frozen?,h1]) (by simp[World.frozen?,h1])];rfl
def xHy {P:bz} {tS tI e sz oD fO fR:Nat} {z:Array bu} (hi:vW P tS=aw (e,sz,oD,z)) (hz:z.size=sz) (Fh:0<oD) (pg:0<sz) (h2:Ly P tS=au) (IG:P.underlying tI=aw (.int .i64)) (hov:z0k P fO)
 {k:Ko} {w:bv} {L:List HP} {s v:Option cd} {sn sk vn vk i:Nat} {xs ys:List bu} (H:Hp k w (ou e sz s sn sk xs::ou e sz v vn vk ys::L)) (h1:∀u∈xs,u.oq=au) (hy:∀u∈ys,u.oq=au) (wu:i<=sn) (hv:0<vn)
 (hb:(sn+vn)*oD<=140737488355328):
 xAp P tS tI sz fO fR s sn sk i v vn vk w λen w'=>∃a kk,en= .returned (.slice a (sn+vn) kk)/\Hp k w' (ou e sz a (sn+vn) kk (xs.take (i*sz)++ys++xs.drop (i*sz))::ou e sz v vn vk ys::L):=by
 obtain⟨CK,IK⟩:=H.len;obtain⟨Dv,hvk⟩:=H.swap.len;have hnm:sn+vn<=140737488355328:=tm (Nat.le_mul_of_pos_right _ Fh) hb;have w1:aj.wrap ((sn:Int)+(vn:Int))=((sn+vn:Nat):Int):=by rw[Cv.wrap_i64 (by omega) (by omega)];simp
 have w2:aj.wrap ((i:Int)+(vn:Int))=((i+vn:Nat):Int):=by rw[Cv.wrap_i64 (by omega) (by omega)];simp
 have w3:aj.wrap (((sn+vn:Nat):Int)-(i:Int))=((sn+vn-i:Nat):Int):=by rw[Cv.wrap_i64 (by omega) (by omega)];omega
 have hle:i*sz<=xs.length:=by rw[CK];exact xj _ wu
 have IF:(xs.take (i*sz)).length=i*sz:=by rw[nn];omega
 have Mg:(xs.drop (i*sz)).length=(sn-i)*sz:=by rw[pd,CK,Nat.sub_mul]
 have CU:(i+vn)*sz=i*sz+vn*sz:=zq _ _ _;have KV:(sn+vn)*sz=i*sz+vn*sz+(sn-i)*sz:=by rw[<- zq,<- zq];congr 1;omega
 have I9:(xs.take (i*sz)++ys++xs.drop (i*sz)).length=(sn+vn)*sz:=by
  rw[iv,iv,IF,Dv,Mg,KV]
 unfold xAp;simp only[tp,w1,w2,w3,ot];refine⟨⟨oM,oM,IK⟩,Cv.dp.mk (λc=>absurd c (by simp;omega)) λ_=>Cv.dp.mk (λc=> ?_) λc=>Cv.dp.mk (λhc=> ?_) λhc=> ?_⟩
 ·have c:i=sn:=by have:(i:Int)=(sn:Int):=i9 c
                  omega
  subst c;obtain⟨a',c',w',r1,r2⟩:=H.append (rt:=tS) hi h2 (x:= .slice v vn vk) (m:=vn) (ys:=ys) (.inl ⟨v,vk,rfl,H.swap.I0⟩) hy hz Fh hb;refine⟨a',_,c',w',r1,a',c',rfl,?_⟩;rw[mz (by omega),IB (by omega),oJ];exact r2
 ·have c:i<sn:=by have:¬(i:Int)=(sn:Int):=i9 c
                  omega
  have hc:sk<sn+vn:=by have:=rf hc;omega
  obtain⟨inf,zv,q1,q2,q3,q4,q5,q6⟩:=jI hi;subst q3 q4 q6;rcases H.oE with⟨_,e0,_⟩|⟨b,r,rfl,g1,g2,g3,H0⟩
  ·omega
  rcases H0.swap.oE with⟨_,e0,_⟩|⟨vb,rv,rfl,g4,g5,g6,H1⟩
  ·omega
  have hold:(bc inf.size i (.slice (aw ⟨b,0,ax⟩) i sk)).run P w.drew= .ok (xs.take (i*inf.size)).toArray w.drew:=by
   have SA:=(H1.drew).swap.get;have:=fF (P:=P) (o:=0) (n:=i*inf.size) SA (by rw[iv];omega);unfold bc;rw[this,Ee,yp hle]
  have Uk:=zSk (need:=sn+vn) (cap:=sk) oM;have aa4:=xj inf.bytes Uk;have e2:2*(sn+vn)*inf.bytes=2*((sn+vn)*inf.bytes):=by rw[Nat.mul_assoc]
  have hkb:(sn+vn-i)*inf.bytes<=(sn+vn)*inf.bytes:=xj _ oM;have Sq:=Lib.run_append_grow_zeros (P:=P) w tS tI tS e inf zv .i64 .i64 q1 IG q2 q5 (aw ⟨b,0,ax⟩) i sk (xs.take (i*inf.size)) hold (sn+vn-i) oM pg oM oM oM (by rw[show i+(sn+vn-i)=sn+vn by omega];omega);rw[show i+(sn+vn-i)=sn+vn by omega]at Sq;have hG:sn+vn<=grownCap w (sn+vn) sk e:=grownCap_ge w (sn+vn) sk e;generalize grownCap w (sn+vn) sk e=G at Sq hG;have F':(xs.take (i*inf.size)).toArray++az zv.cells (sn+vn-i)++az zv.cells (G-(sn+vn))=(xs.take (i*inf.size)++((az zv.cells (sn+vn-i)).toList++(az zv.cells (G-(sn+vn))).toList)).toArray:=by
   apply Array.ext';simp
  rw[F']at Sq;have Ye:((az zv.cells (sn+vn-i)).toList++(az zv.cells (G-(sn+vn))).toList).length=(sn+vn-i)*inf.size+(G-(sn+vn))*inf.size:=by
   rw[iv,J8,J8,ce,ce,hz]
  generalize (az zv.cells (sn+vn-i)).toList++(az zv.cells (G-(sn+vn))).toList=Z at Sq Ye;have hZ2:(sn+vn-i)*inf.size=vn*inf.size+(sn-i)*inf.size:=by rw[<- zq];congr 1;omega
  have H2:=(H1.drew).new (.cells (xs.take (i*inf.size)++Z).toArray e);have hB:w.drew.heap.size=w.heap.size:=rfl;rw[hB]at H2;have CM:=V3 (P:=P) (sT:=tS) (ty:=tI) hi (g:=w.heap.size) (o:=0+i*inf.size) (dLen:=sn+vn-i) (dCap:=G-i) (b:=vb) (so:=0) (sLen:=vn) (sCap:=vk) (n:=vn) H2.get H2.swap.get (FG oM) (by rw[iv];omega) (by rw[iv,IF,Ye];omega) (by
   rw[Ee,yp (by omega),mz (by omega)];exact hy)
  rw[Ee,yp (by omega),mz (show ys.length<=vn*inf.size by omega),nq]at CM;have es1:kx (xs.take (i*inf.size)++Z) (i*inf.size) ys=xs.take (i*inf.size)++ys++Z.drop ys.length:=by
   have:=z2b (xs.take (i*inf.size)) Z ys;rwa [IF]at this
  rw[es1]at CM;have H3:=(H2.yz (.cells (xs.take (i*inf.size)++ys++Z.drop ys.length).toArray e)).drew;have Ss:(xs++r).drop (i*inf.size)=xs.drop (i*inf.size)++r:=HI hle;have Cm:=V3 (P:=P) (sT:=tS) (ty:=tI) hi (g:=w.heap.size) (o:=0+(i+vn)*inf.size) (dLen:=sn+vn-(i+vn)) (dCap:=G-(i+vn)) (b:=b) (so:=0+i*inf.size) (sLen:=sn-i) (sCap:=sk-i) (n:=sn-i) H3.get H3.swap.drop.swap.get (FG oM) (by rw[iv,CK,nq,<- zq];exact tm (xj _ oM) (Nat.le_add_right _ _)) (by
   rw[iv,iv,IF,Dv,pd,Ye];omega) (by
   rw[nq,Ss,yp (by omega),mz (by omega)];exactλu hu=>h1 u (J9 hu))
  rw[nq,nq,Ss,yp (by omega),mz (show(xs.drop (i*inf.size)).length<=(sn-i)*inf.size by omega)]at Cm;have es2:kx (xs.take (i*inf.size)++ys++Z.drop ys.length) ((i+vn)*inf.size) (xs.drop (i*inf.size))=xs.take (i*inf.size)++ys++xs.drop (i*inf.size)++(Z.drop ys.length).drop (xs.drop (i*inf.size)).length:=by
   have:=z2b (xs.take (i*inf.size)++ys) (Z.drop ys.length) (xs.drop (i*inf.size));rwa [show(xs.take (i*inf.size)++ys).length=(i+vn)*inf.size by rw[iv,IF,Dv,CU]]at this
  rw[es2]at Cm;refine⟨⟨oM,oM⟩,_,_,_,_,Sq,?_⟩;rw[NG (show G≠i by omega),nq];refine⟨⟨oM,oM,hG⟩,_,_,CM,?_⟩;rintro _ rfl;rw[NG (show G≠i+vn by omega),NG (show sk≠i by omega),nq,nq];refine⟨⟨oM,oM,hG⟩,⟨oM,oM,IK⟩,_,_,Cm,_,_,rfl,?_⟩;have H4:=H3.yz (.cells (xs.take (i*inf.size)++ys++xs.drop (i*inf.size)++(Z.drop ys.length).drop (xs.drop (i*inf.size)).length).toArray e);have H5:=H4.AH (n:=sn+vn) (c:=G) (sz:=inf.size) I9 (by
   rw[iv,I9,pd,pd,Ye,Dv,Mg];have:G*inf.size=(sn+vn)*inf.size+(G-(sn+vn))*inf.size:=by rw[<- zq];congr 1;omega
   omega) hG
  have H6:=H5.swap.AH (n:=vn) (c:=vk) (sz:=inf.size) g4 g5 g6;exact(H6.swap.perm (List.Perm.trans ((List.Perm.swap _ _ _).cons _) (List.Perm.swap _ _ _))).drop
 ·have c:i<sn:=by have:¬(i:Int)=(sn:Int):=i9 c
                  omega
  have hc:sn+vn<=sk:=by have:=L3 hc;omega
  rcases H.oE with⟨_,e0,_⟩|⟨b,r,rfl,g1,g2,g3,H0⟩
  ·omega
  rcases H0.swap.oE with⟨_,e0,_⟩|⟨vb,rv,rfl,g4,g5,g6,H1⟩
  ·omega
  have R9:vn*sz<=r.length:=by
   have e1:(sn+vn)*sz<=sk*sz:=xj _ hc;rw[iv,g1]at g2;rw[zq]at e1;omega
  have H2:=H1.swap;have jy:vb≠b:=Hp.apart H1;have Ss:(xs++r).drop (i*sz)=xs.drop (i*sz)++r:=HI hle;have hex:=hov w vb b (0+(i+vn)*sz) vn vk (sn+vn-(i+vn)) (sk-(i+vn)) (ys++rv).toArray (xs++r).toArray e e jy H1.get H2.get (by
   rw[J2,iv,g1];have:=Nat.mul_pos (show 0<sn by omega) pg;omega)
  have H3:=H2.drew;have CM:=V3 (P:=P) (sT:=tS) (ty:=tI) hi (g:=b) (o:=0+(i+vn)*sz) (dLen:=sn+vn-(i+vn)) (dCap:=sk-(i+vn)) (b:=b) (so:=0+i*sz) (sLen:=sn+vn-i) (sCap:=sk-i) (n:=sn-i) H3.get H3.get (by rw[show sn+vn-(i+vn)=sn-i by omega];exact Nat.min_eq_right oM) (by
   rw[iv,g1,nq,<- zq];exact tm (xj _ oM) (Nat.le_add_right _ _)) (by
   rw[iv,g1,nq,<- zq,show i+vn+(sn-i)=sn+vn by omega,zq];omega) (by
   rw[nq,Ss,yp (by omega),mz (by omega)];exactλu hu=>h1 u (J9 hu))
  rw[nq,nq,Ss,yp (by omega),mz (show(xs.drop (i*sz)).length<=(sn-i)*sz by omega)]at CM;have H4:=H3.yz (.cells (kx (xs++r) ((i+vn)*sz) (xs.drop (i*sz))).toArray e);have wv:(kx (xs++r) ((i+vn)*sz) (xs.drop (i*sz))).length=(xs++r).length:=by
   simp only[kx,iv,nn,Mg];rw[pd,iv,g1,CU];have:sn*sz=i*sz+(sn-i)*sz:=by rw[<- zq];congr 1;omega
   omega
  have Cm:=V3 (P:=P) (sT:=tS) (ty:=tI) hi (g:=b) (o:=0+i*sz) (dLen:=sn+vn-i) (dCap:=sk-i) (b:=vb) (so:=0) (sLen:=vn) (sCap:=vk) (n:=vn) H4.get H4.swap.get (FG oM) (by rw[iv];omega) (by
   rw[wv,iv,nq];omega) (by
   rw[Ee,yp (by omega),mz (by omega)];exact hy)
  rw[Ee,yp (by omega),mz (show ys.length<=vn*sz by omega),nq]at Cm;have es:kx (kx (xs++r) ((i+vn)*sz) (xs.drop (i*sz))) (i*sz) ys=(xs.take (i*sz)++ys++xs.drop (i*sz))++r.drop (vn*sz):=by
   have:=yJk (l:=i*sz) (m:=vn*sz) (xs:=xs) (r:=r) (ys:=ys) hle Dv R9;simp only[kx,CU];exact this
  rw[es]at Cm;refine⟨⟨oM,oM⟩,⟨oM,oM,oM⟩,av,w,?_,Cv.dp.mk (λ_=> ?_) (λc=>absurd c Z8)⟩
  ·rw[NG (show sk≠i+vn by omega)];exact hex
  rintro _ rfl;rw[NG (show sk≠i+vn by omega),NG (show sk≠i by omega),nq,nq];refine⟨⟨oM,oM,oM⟩,⟨oM,oM,oM⟩,_,_,CM,⟨oM,oM,oM⟩,_,_,Cm,_,_,rfl,?_⟩;have H5:=H4.yz (.cells (xs.take (i*sz)++ys++xs.drop (i*sz)++r.drop (vn*sz)).toArray e);have H6:=H5.AH (n:=sn+vn) (c:=sk) (sz:=sz) I9 (by
   rw[iv,I9,pd,<- g2,iv,g1,zq];omega) hc
  exact(H6.swap.AH (n:=vn) (c:=vk) (sz:=sz) g4 g5 g6).swap
structure Bo where
 fa:Q_ D
 el:List D
 i:Nat
def NY (e sz oD:Nat):gh where
 ι:=Bo
 pat:=λi=>[.own 0,.d (.v (.int .i64 i.i)),.own 1]
 pre:=λi=>[.own e sz i.fa,.own e sz [i.el]]
 dp:=λi=>i.i<=i.fa.length/\(i.fa.length+1)*oD<=140737488355328
 alts:=λi=>[{o:=Unit,res:=λ_=> .own 2,post:=λ_=>[.gone,.gone,.own e sz (i.fa.take i.i++i.el::i.fa.drop i.i)],rel:=λ_=>True}]
def AX {P:bz} (hm:P.follows .mixedOrders=au) {tS tI e sz oD fI fO fR:Nat} {z:Array bu} {fn:Func} {c:Code} (hf:P.funcs[fI]? =aw fn) (hb:fn.body=aw c) (BD:gU P fI=au) (oX:xl fn.ntmps c=au) (Mf:okF [] c=au) (My:Nat.ble 3 fn.ntmps=au)
 (hi:vW P tS=aw (e,sz,oD,z)) (hz:z.size=sz) (Fh:0<oD) (pg:0<sz) (h2:Ly P tS=au) (IG:P.underlying tI=aw (.int .i64)) (hov:z0k P fO)
 (heq:∀(s:Option cd) (sn sk:Nat) (i:Int) (v:Option cd) (vn vk:Nat) (w:bv) (R:Ending->bv->Prop),xAp P tS tI sz fO fR s sn sk i v vn vk w R=Fk P [] c (WS P fn R) (gF [.slice s sn sk,.int .i64 i,.slice v vn vk]) w):
 (NY e sz oD).ok P fI:=by
 intro i hc k L E w ys R hv;obtain⟨c1,c2⟩:i.i<=i.fa.length/\(i.fa.length+1)*oD<=140737488355328:=hc;simp only[NY,ib,VR,DR]at hv;obtain⟨y0,_,rfl,⟨l0,e0,_⟩,y1,_,rfl,⟨rfl,_⟩,y2,_,rfl,⟨l2,e2,_⟩,rfl⟩:=hv;obtain⟨s,sk,xs,aab,g1,wk,hu,H⟩:=R.su (n:=0) (t:=e) (sz:=sz) (fa:=i.fa) rfl;rw[e0]at g1;cases g1;have oY:∃v vk zs,y2= .slice v 1 vk/\iB E.F i.el zs/\i.el.length=sz/\Hp k w (ou e sz s i.fa.length sk xs::ou e sz v 1 vk zs::fz E.F::L):=by
  obtain⟨hk,hs,hh⟩:=H;cases hh with
  |cons ha jb hd hr=>
   simp only[NY,gZ,uC,jf,Bs,uh,we]at hr;cases hr with
   |cons ni KW AA xo=>
    rcases ni with⟨q,_⟩|⟨⟨E9,tb⟩,q1,q2⟩
    ·cases q
    ·simp only at q1;rw[e2]at q1;cases q1;simp only[fw]at q2;obtain⟨a,kk,zs,rfl,q3,q4,q5⟩:=q2;simp only[A9,List.flatten_nil,oJ]at q3;exact⟨a,kk,zs,rfl,q3,q4 _ iX,hk,_,.cons ha jb hd (.cons q5 KW AA xo)⟩
 obtain⟨v,vk,zs,rfl,OG,oS,H2⟩:=oY;have hv:=xHy (fR:=fR) (fO:=fO) hi hz Fh pg h2 IG hov (i:=i.i) H2 wk.one OG.one c1 oM c2;have xa:=zOi (args:=[.slice s i.fa.length sk,.int .i64 i.i,.slice v 1 vk]) hm hf hb [] oX Mf My (heq s i.fa.length sk i.i v 1 vk w _) hv;refine pD BD (xa.mono ?_);rintro en w' ⟨a,kk,rfl,H3⟩;have H4:Hp k w' (ou e sz a (i.fa.take i.i++i.el::i.fa.drop i.i).length kk (xs.take (i.i*sz)++zs++xs.drop (i.i*sz))::(([]:List (Nat×fq)).map (ic E)++fz E.F::L)):=by
  have:(i.fa.take i.i++i.el::i.fa.drop i.i).length=i.fa.length+1:=by
   rw[iv,iF,nn,pd];omega
  rw[this];exact H3.swap.drop
 obtain⟨E',r1,r2,r3⟩:=aN (nx:=2) R.nx (by
  rw[Oo,A9,<- rY i.i hu,<- sG i.i hu,<- jd];exact((wk.take _).append OG).append (wk.drop _)) (λx hx=>by
   rcases oK.1 hx with hx|hx
   ·exact hu x (Ot hx)
   ·rcases jx.1 hx with rfl|hx
    ·exact oS
    ·exact hu x (J9 hx)) H4
 have hl:(i.fa.take i.i++i.el::i.fa.drop i.i).length=i.fa.length+1:=by
  rw[iv,iF,nn,pd];omega
 rw[hl]at r3;refine⟨_,rfl,_,ua.2 rfl,(),trivial,E',r1,r3,⟨r2.nx,?_⟩⟩;have q1:=((@gV k w' True _).2 ⟨trivial,r2.hp⟩).imp (B:=ic E' (1,.gone)) λx hx=> .inl ⟨rfl,hx.2⟩
 have q2:=((@gV k w' True _).2 ⟨trivial,q1⟩).imp (B:=ic E' (0,.gone)) λx hx=> .inl ⟨rfl,hx.2⟩
 exact q2
def Hm:gh:=fp Et (λi=>[zB i.side,zB i.x,zB i.y]) i6 (λ_=>True) (λi=>yL (jl i.side i.x i.y)) i6
@[reducible] def xCj (s:Slot):V:= .agg [yL s.used,zB s.n,zB s.id,zB s.dr,yL s.top,zB s.queue,zB s.ahead,zB s.back]
def M5:gh:=fp Slot (λs=>[xCj s]) i6 (λ_=>True) (λs=>yL (!s.used)) i6
def jW (l:List Slot):Int:=JC (l.findIdx? λs=> !s.used)
def B8:gh:=fp (List Slot) (λ_=>[.own 0,.fn 264 [] []]) (λl=>[.own 389 8 (l.map zT)]) (λl=>l.length<=1000000) (λl=>zB (jW l)) (λl=>[.own 389 8 (l.map zT)])
def ySl (l:List Slot):List gr:=[{ι:=Nat,du:=λj=>[(8,zB j)],rows:=λ_=>[]}]
def mW:aV:=⟨-1,-1,0,0⟩
def dv.ru (a:dv):dv:={a with dy:=a.dy++[mW]}
def Nt:gh:=fp dv (λ_=>[.nm 0 0]) (λa=>[wT a]) (λa=>a.dy.length<=1000000) (λa=>zB a.dy.length) (λa=>[wT a.ru])
structure N5 where
 a:dv
 n:Int
 t:Bool
def dv.iy (a:dv) (n:Int):Bool:=decide (0<=n) && (decide (n<a.du.length) && (a.du.getD n.toNat iH).used)
def dv.mi (a:dv) (n:Int) (t:Bool):dv:=if a.iy n=au then{a with du:=a.du.modify n.toNat λs=>{s with top:=t}}else a
def Le:gh:=fp N5 (λi=>[.nm 0 0,zB i.n,yL i.t]) (λi=>[wT i.a]) (λi=>i.a.du.length<=1000000) (λi=>zB (if i.a.iy i.n=au then 0 else 26)) (λi=>[wT (i.a.mi i.n i.t)])
structure DH where
 a:dv
 n:Int
 id:Int
 dr:Int
 top:Bool
def dv.put (a:dv) (n id dr:Int) (top:Bool):dv:=
 let q:=a.dy.getD n.toNat mW
 let k:=jW a.du
 let sl:=a.du.set k.toNat ⟨au,k,id,dr,top,n,q.last,-1⟩
 ⟨if q.last= -1 then sl else sl.modify q.last.toNat λs=>{s with back:=k},a.dy.set n.toNat ⟨if q.last= -1 then k else q.first,k,aj.wrap (q.total+dr),aj.wrap (q.count+1)⟩,aj.wrap (a.free-1)⟩
def dv.push (a:dv) (n id dr:Int) (top:Bool):dv×Int×Int:=
 if n<0\/a.dy.length<=n then(a,0,26)else if dr<1\/1000000<dr then(a,0,24)else if a.free=0 then(a,0,13)else(a.put n id dr top,jW a.du,0)
def dv.fit (a:dv):Prop:=a.du.length<=1000000/\(a.free≠0->∃s∈a.du,s.used=av)/\∀q∈a.dy,q.last= -1\/(0<=q.last/\q.last<a.du.length)
def G6:gh:=fp DH (λi=>[.nm 0 0,zB i.n,zB i.id,zB i.dr,yL i.top]) (λi=>[wT i.a]) (λi=>i.a.fit) (λi=> .je [zB (i.a.push i.n i.id i.dr i.top).2.1,zB (i.a.push i.n i.id i.dr i.top).2.2]) (λi=>[wT (i.a.push i.n i.id i.dr i.top).1])
@[reducible] def JD (b:dq):List fq:=[zR b 0,zR b 1,zR b 2,zR b 3,zR b 4,zR b 5]
structure oH where
 b:dq
 dm:Int
def yB (s:Int) (l:List xY) (dm:Int):Nat:=(l.takeWhile λr=>jl s r.dm dm).length
def jR (s:Int) (l:List xY) (dm:Int):Bool:=match l[yB s l dm]? with
 |some r=>decide (r.dm=dm)
 |none=>av
def dq.dz (b:dq) (s:Int):List xY:=if s=1 then b.fv else b.fc
def yOq (s:Int):gh:=fp oH (λi=>[.nm 0 0,zB s,zB i.dm]) (λi=>JD i.b) (λi=>i.b.small) (λi=> .je [zB (yB s (i.b.dz s) i.dm),yL (jR s (i.b.dz s) i.dm)]) (λi=>JD i.b)
def GN:gh:=yOq 1
def GM:gh:=yOq 2
def y1y:List gr:=[{ι:=Nat,du:=λj=>[(9,zB j)],rows:=λ_=>[]}]
def ld (l:List (Int×Place)) (k:Int):Option Place:=(l.find? λx=>decide (x.1=k)).map (·.2)
def tT (k:Int) (v:Place):List (Int×Place)->List (Int×Place)
 |[]=>[(k,v)]
 |(a,b)::l=>if k=a then(a,v)::l else(a,b)::tT k v l
structure CQ where
 b:dq
 id:Int
def dq.my (b:dq) (s:Int):Bool:=if s=1 then b.gv else b.gq
def dq.jc (b:dq) (s:Int):Int:=if s=1 then b.iK else b.iJ
def dq.iW (b:dq) (s:Int):dv:=if b.my s=au then(match ld b.at_ (b.jc s)with
 |some o=>if o.side=s then b.a.mi o.slot av else b.a
 |none=>b.a)else b.a
def dq.jj (b:dq) (id s:Int):dq:=if s=1 then{b with a:=b.iW s,iK:=id,gv:=au}else{b with a:=b.iW s,iJ:=id,gq:=au}
def yOh (s:Int):gh:=fp CQ (λi=>[.nm 0 0,zB i.id,zB s]) (λi=>JD i.b) (λi=>i.b.small) (λ_=>rE) (λi=>JD (i.b.jj i.id s))
def GJ:gh:=yOh 1
def GI:gh:=yOh 2
def dq.iT (b:dq):Int×List Int×dv:=if b.spare.length=0 then(b.a.dy.length,b.spare,b.a.ru)else(b.spare.getD (b.spare.length-1) 0,b.spare.take (b.spare.length-1),b.a)
def dq.ins (b:dq) (s dm:Int):List xY:=(b.dz s).take (yB s (b.dz s) dm)++⟨dm,b.iT.1⟩::(b.dz s).drop (yB s (b.dz s) dm)
def dq.gf (b:dq) (s dm:Int):dq×Int:=
 if jR s (b.dz s) dm=au then(b,((b.dz s).getD (yB s (b.dz s) dm) ⟨0,0⟩).queue)
 else(if s=1 then{b with a:=b.iT.2.2,fv:=b.ins s dm,spare:=b.iT.2.1}else{b with a:=b.iT.2.2,fc:=b.ins s dm,spare:=b.iT.2.1},b.iT.1)
def yXn (b:dq):fq:= .cells [.nm 1 0,.own 6,.own 3,.mp 4,zB b.iK,zB b.iJ,.own 7,yL b.gv,yL b.gq] 284
def yZg (b:dq):fq:= .cells [.nm 1 0,.own 2,.own 6,.mp 4,zB b.iK,zB b.iJ,.own 7,yL b.gv,yL b.gq] 284
@[reducible] def y7c (b:dq):List fq:=[yXn b,zR b 1,.gone,zR b 3,zR b 4,.gone,zR b 2,zR b 5]
@[reducible] def y9w (b:dq):List fq:=[yZg b,zR b 1,zR b 2,.gone,zR b 4,.gone,zR b 3,zR b 5]
@[reducible] def dq.fit (b:dq):Prop:=b.a.fit/\b.a.dy.length<=100000/\b.fv.length<=100000/\b.fc.length<=100000/\b.spare.length<=100000
def DY:gh:=fp oH (λi=>[.nm 0 0,zB 1,zB i.dm]) (λi=>JD i.b) (λi=>i.b.fit) (λi=>zB (i.b.gf 1 i.dm).2) (λi=>y7c (i.b.gf 1 i.dm).1)
def DX:gh:=fp oH (λi=>[.nm 0 0,zB 2,zB i.dm]) (λi=>JD i.b) (λi=>i.b.fit) (λi=>zB (i.b.gf 2 i.dm).2) (λi=>y9w (i.b.gf 2 i.dm).1)
def T4:gh:=NY 340 2 16
def z5u (i:Et):Prop:=
 dp (i.side==1) (dx (jl i.side i.x i.y=decide (i.x>i.y)/\True)) (dx (jl i.side i.x i.y=decide (i.x<i.y)/\True))
def yQb (s:Slot):Prop:=
 dx ((!s.used)=!s.used/\True)
def z4h (l:List Slot):Prop:=
 ∃(a:Nat),(a:Int)=0/\∃(b:Nat->Prop),∃(c:Nat->Nat),b a/\∀(d:Nat),b d->dp (decide ((d:Int)<((ab zT l).length:Int))) ((0<=(d:Int)/\(d:Int)<((ab zT l).length:Int))/\∃(e:Bool),∃(f:Int),∃(g:Int),∃(h:Int),∃(j:Bool),∃(k:Int),∃(m:Int),∃(n:Int),zD (ab zT l) (d:Int).toNat 0 8=aw [D.v (.bool e),dI f,dI g,dI h,D.v (.bool j),dI k,dI m,dI n]/\∃(p:Slot),p.used=e/\p.n=f/\p.id=g/\p.dr=h/\p.top=j/\p.queue=k/\p.ahead=m/\p.back=n/\True/\ff (dp (!p.used) (dx (jW l=(d:Int)/\dl (ab zT l)/\True)) (∃(r:Nat),QO r d b c (dl (am 389 8 (ab zT l)))))) (dx (jW l=(-1)/\dl (ab zT l)/\True))
def yMf (a:dv):Prop:=
 ((ab zQ a.dy).length+1)*(32:Nat)<=(140737488355328:Nat)/\dx ((a.dy.length:Int)=aj.wrap (((ab zQ a.dy++[[dI (-1),dI (-1),dI 0,dI 0]]).length:Int)-1)/\dl a.free/\dl (ab zT a.du)/\ab zQ (a.dy++[mW])=ab zQ a.dy++[[dI (-1),dI (-1),dI 0,dI 0]]/\True)
def V' (a:N5):Prop:=dx ((if a.a.iy a.n=au then(0:Int)else(26:Int))=26/\(a.a.mi a.n a.t).free=a.a.free/\ab zT (a.a.mi a.n a.t).du=ab zT a.a.du/\ab zQ (a.a.mi a.n a.t).dy=ab zQ a.a.dy/\True)
def y4f (i:N5):Prop:=
 dp (decide (i.n<0)) (V' i) (dp (decide (i.n>=((ab zT i.a.du).length:Int))) (V' i) ((0<=i.n/\i.n<((ab zT i.a.du).length:Int))/\∃(a:Bool),zD (ab zT i.a.du) i.n.toNat 0 1=aw [D.v (.bool a)]/\dp (!a) (V' i) ((0<=i.n/\i.n<((ab zT i.a.du).length:Int))/\i.n.toNat<(ab zT i.a.du).length/\dx ((if i.a.iy i.n=au then(0:Int)else(26:Int))=0/\(i.a.mi i.n i.t).free=i.a.free/\ab zT (i.a.mi i.n i.t).du=zK (ab zT i.a.du) i.n.toNat 4 [D.v (.bool i.t)]/\ab zQ (i.a.mi i.n i.t).dy=ab zQ i.a.dy/\True))))
def yN (a:DH):=(a.a.push a.n a.id a.dr a.top)
def Wy (a:DH):Prop:=(yN a).fst.free=a.a.free/\ab zT (yN a).fst.du=ab zT a.a.du/\ab zQ (yN a).fst.dy=ab zQ a.a.dy/\True
def zGk (a:DH):Prop:=dx ((yN a).snd.fst=0/\(yN a).snd.snd=26/\Wy a)
def zGi (a:DH):Prop:=dx ((yN a).snd.fst=0/\(yN a).snd.snd=24/\Wy a)
def tQ (a:DH) (b:List Slot):=(zK (zK (ab zQ a.a.dy) a.n.toNat 0 [dI (jW b)]) a.n.toNat 1 [dI (jW b)])
def WA (a:DH) (b:List Slot) (c:Int):=(zK (tQ a b) a.n.toNat 2 [dI (aj.wrap (c+a.dr))])
def lN (a:DH) (b:List Slot):=(zK (ab zQ a.a.dy) a.n.toNat 1 [dI (jW b)])
def lD (a:DH) (b:List Slot) (c:Int):=(zK (lN a b) a.n.toNat 2 [dI (aj.wrap (c+a.dr))])
def yTg (i:DH):Prop:=
 dp (decide (i.n>=0)) (dp (!decide (i.n<((ab zQ i.a.dy).length:Int))) (zGk i) (dp (decide (i.dr<1)) (zGi i) (dp (decide (i.dr>1000000)) (zGi i) (dp (i.a.free==0) (dx ((yN i).snd.fst=0/\(yN i).snd.snd=13/\Wy i)) (∃(a:List Slot),ab zT a=ab zT i.a.du/\a.length<=1000000/\ff ((0<=i.n/\i.n<((ab zQ i.a.dy).length:Int))/\∃(c:Int),zD (ab zQ i.a.dy) i.n.toNat 1 1=aw [dI c]/\(0<=jW a/\jW a<((ab zT a).length:Int))/\(jW a).toNat<(ab zT a).length/\∃(d:Int),zD (ab zQ i.a.dy) i.n.toNat 1 1=aw [dI d]/\dp (d==(-1)) (i.n.toNat<(ab zQ i.a.dy).length/\i.n.toNat<(zK (ab zQ i.a.dy) i.n.toNat 0 [dI (jW a)]).length/\∃(e:Int),zD (tQ i a) i.n.toNat 2 1=aw [dI e]/\i.n.toNat<(tQ i a).length/\∃(f:Int),zD (WA i a e) i.n.toNat 3 1=aw [dI f]/\i.n.toNat<(WA i a e).length/\dx ((yN i).snd.fst=jW a/\(yN i).snd.snd=0/\(yN i).fst.free=aj.wrap (i.a.free-1)/\ab zT (yN i).fst.du=zK (ab zT a) (jW a).toNat 0 [D.v (.bool au),dI (jW a),dI i.id,dI i.dr,D.v (.bool i.top),dI i.n,dI c,dI (-1)]/\ab zQ (yN i).fst.dy=zK (WA i a e) i.n.toNat 3 [dI (aj.wrap (f+1))]/\True)) (∃(e:Int),zD (ab zQ i.a.dy) i.n.toNat 1 1=aw [dI e]/\(0<=e/\e<((zK (ab zT a) (jW a).toNat 0 [D.v (.bool au),dI (jW a),dI i.id,dI i.dr,D.v (.bool i.top),dI i.n,dI c,dI (-1)]).length:Int))/\e.toNat<(zK (ab zT a) (jW a).toNat 0 [D.v (.bool au),dI (jW a),dI i.id,dI i.dr,D.v (.bool i.top),dI i.n,dI c,dI (-1)]).length/\i.n.toNat<(ab zQ i.a.dy).length/\∃(f:Int),zD (lN i a) i.n.toNat 2 1=aw [dI f]/\i.n.toNat<(lN i a).length/\∃(g:Int),zD (lD i a f) i.n.toNat 3 1=aw [dI g]/\i.n.toNat<(lD i a f).length/\dx ((yN i).snd.fst=jW a/\(yN i).snd.snd=0/\(yN i).fst.free=aj.wrap (i.a.free-1)/\ab zT (yN i).fst.du=zK (zK (ab zT a) (jW a).toNat 0 [D.v (.bool au),dI (jW a),dI i.id,dI i.dr,D.v (.bool i.top),dI i.n,dI c,dI (-1)]) e.toNat 7 [dI (jW a)]/\ab zQ (yN i).fst.dy=zK (lD i a f) i.n.toNat 3 [dI (aj.wrap (g+1))]/\True)))))))) (zGk i)
def qF (a:oH):=((yB 1 (a.b.dz 1) a.dm):Int)
def hZ (a:oH):=((ab zC a.b.fv).length:Int)
@[reducible] def QQ (a:dq)(R:Prop):Prop:=ab zC a.fv=ab zC a.fv/\ab zC a.fc=ab zC a.fc/\jw a.at_=jw a.at_/\iE a.spare=iE a.spare/\R
@[reducible] def Q9 (a:dq)(R:Prop):Prop:=a.iK=a.iK/\a.iJ=a.iJ/\a.gv=a.gv/\a.gq=a.gq/\R
def bP (a:oH):Prop:=Q9 a.b (ak dv 3 zH a.b.a=zR a.b 1/\QQ a.b (True))
def zHq (a:Nat) (b:oH):Prop:=(0<=(a:Int)/\(a:Int)<(hZ b))/\∃(c:Int),zD (ab zC b.b.fv) (a:Int).toNat 0 1=aw [dI c]/\dx ((qF b)=(a:Int)/\jR 1 (b.b.dz 1) b.dm=(c==b.dm)/\bP b)
def zFn (a:oH) (b:Nat):Prop:=dx ((qF a)=(b:Int)/\jR 1 (a.b.dz 1) a.dm=av/\bP a)
def eO (a:Nat) (b:Nat->Prop) (c:Nat->Nat) (d:oH):Prop:=∃(e:Nat),QO e a b c (dl (zR d.b 0)/\dl (zR d.b 1)/\dl (zR d.b 2)/\dl (zR d.b 3)/\dl (zR d.b 4)/\dl (zR d.b 5))
def lU (a:Nat) (b:oH):=(decide ((a:Int)<(hZ b)))
def ySj (i:oH):Prop:=
 ∃(a:Nat),(a:Int)=0/\∃(b:Nat->Prop),∃(c:Nat->Nat),b a/\∀(d:Nat),b d->dp (lU d i) ((0<=(d:Int)/\(d:Int)<(hZ i))/\∃(e:Int),zD (ab zC i.b.fv) (d:Int).toNat 0 1=aw [dI e]/\∃(f:Et),f.side=1/\f.x=e/\f.y=i.dm/\True/\ff (dp (jl f.side f.x f.y) (eO d b c i) (dp (lU d i) (zHq d i) (zFn i d)))) (dp (lU d i) (zHq d i) (zFn i d))
def qE (a:oH):=((yB 2 (a.b.dz 2) a.dm):Int)
def hJ (a:oH):=((ab zC a.b.fc).length:Int)
def zHn (a:Nat) (b:oH):Prop:=(0<=(a:Int)/\(a:Int)<(hJ b))/\∃(c:Int),zD (ab zC b.b.fc) (a:Int).toNat 0 1=aw [dI c]/\dx ((qE b)=(a:Int)/\jR 2 (b.b.dz 2) b.dm=(c==b.dm)/\bP b)
def zHu (a:oH) (b:Nat):Prop:=dx ((qE a)=(b:Int)/\jR 2 (a.b.dz 2) a.dm=av/\bP a)
def lY (a:Nat) (b:oH):=(decide ((a:Int)<(hJ b)))
def ySv (i:oH):Prop:=
 ∃(a:Nat),(a:Int)=0/\∃(b:Nat->Prop),∃(c:Nat->Nat),b a/\∀(d:Nat),b d->dp (lY d i) ((0<=(d:Int)/\(d:Int)<(hJ i))/\∃(e:Int),zD (ab zC i.b.fc) (d:Int).toNat 0 1=aw [dI e]/\∃(f:Et),f.side=2/\f.x=e/\f.y=i.dm/\True/\ff (dp (jl f.side f.x f.y) (eO d b c i) (dp (lY d i) (zHn d i) (zHu i d)))) (dp (lY d i) (zHn d i) (zHu i d))
def bL (a:CQ):Prop:=QQ a.b (True)
def tW (a:CQ):Prop:=dx (dl a.id/\dl a.b.iJ/\au=au/\dl a.b.gq/\ak dv 3 zH (a.b.iW 1)=zR a.b 1/\bL a)
def zHb (a:CQ) (b:Int) (c:Int) (d:Int) (e:Bool):Prop:=jK (ay aj a.b.iK) (jw a.b.at_)=aw [dI b,dI c,dI d]/\e=au\/jK (ay aj a.b.iK) (jw a.b.at_)=ax/\[dI b,dI c,dI d]=[dI 0,dI 0,dI 0]/\e=av
def zFm (a:CQ):Prop:=∀(b:bu×List D),b∈jw a.b.at_->mc (ay aj a.b.iK) b.fst=au
def yQl (i:CQ):Prop:=
 dp i.b.gv ((zFm i)/\∃(a:Bool),∃(b:Int),∃(c:Int),∃(d:Int),(zHb i b c d a)/\((zFm i)/\∃(e:Bool),∃(f:Int),∃(g:Int),∃(h:Int),(zHb i f g h e)/\(f=b/\g=c/\h=d/\True)/\e=a/\True)/\dl i.b.iK/\True/\dp a (dp (b==1) (∃(e:N5),e.n=d/\e.t=av/\ak dv 3 zH e.a=zR i.b 1/\e.a.du.length<=1000000/\ff (dx (dl i.id/\dl i.b.iJ/\au=au/\dl i.b.gq/\ak dv 3 zH (i.b.iW 1)=ak dv 3 zH (e.a.mi e.n e.t)/\bL i))) (tW i)) (tW i)) (tW i)
def eT (a:CQ):Prop:=dx (dl a.b.iK/\dl a.id/\dl a.b.gv/\au=au/\ak dv 3 zH (a.b.iW 2)=zR a.b 1/\bL a)
def zHh (a:CQ) (b:Int) (c:Int) (d:Int) (e:Bool):Prop:=jK (ay aj a.b.iJ) (jw a.b.at_)=aw [dI b,dI c,dI d]/\e=au\/jK (ay aj a.b.iJ) (jw a.b.at_)=ax/\[dI b,dI c,dI d]=[dI 0,dI 0,dI 0]/\e=av
def zGw (a:CQ):Prop:=∀(b:bu×List D),b∈jw a.b.at_->mc (ay aj a.b.iJ) b.fst=au
def yNl (i:CQ):Prop:=
 dp i.b.gq ((zGw i)/\∃(a:Bool),∃(b:Int),∃(c:Int),∃(d:Int),(zHh i b c d a)/\((zGw i)/\∃(e:Bool),∃(f:Int),∃(g:Int),∃(h:Int),(zHh i f g h e)/\(f=b/\g=c/\h=d/\True)/\e=a/\True)/\dl i.b.iJ/\True/\dp a (dp (b==2) (∃(e:N5),e.n=d/\e.t=av/\ak dv 3 zH e.a=zR i.b 1/\e.a.du.length<=1000000/\ff (dx (dl i.b.iK/\dl i.id/\dl i.b.gv/\au=au/\ak dv 3 zH (i.b.iW 2)=ak dv 3 zH (e.a.mi e.n e.t)/\bL i))) (eT i)) (eT i)) (eT i)
@[reducible] def Q0 (a:dv)(b:dq)(R:Prop):Prop:=(a.du.length<=1000000/\a.dy.length<=1000000)/\b.fv.length<=1000000/\b.fc.length<=1000000/\R
def qT (a:oH):Prop:=Q0 a.b.a a.b (a.b.spare.length<=1000000)
def f9 (a:oH):Prop:=0<=(qF a)/\(qF a)<(hZ a)
def uW (a:oH):=(((iE a.b.spare).length:Int)-1)
def pW (a:oH):Prop:=0<=aj.wrap (uW a)/\aj.wrap (uW a)<=((iE a.b.spare).length:Int)
def pQ (a:oH):Prop:=0<=aj.wrap (uW a)/\aj.wrap (uW a)<((iE a.b.spare).length:Int)
def dQ (a:Bo):Prop:=a.i<=a.fa.length/\(a.fa.length+1)*(16:Nat)<=(140737488355328:Nat)
def dR (a:oH):=(aj.wrap (uW a))
def zP (a:oH):=(a.b.gf 1 a.dm)
@[reducible] def Qz (a b:dq)(R:Prop):Prop:=a.iK=b.iK/\a.iJ=b.iJ/\a.gv=b.gv/\a.gq=b.gq/\ak dv 3 zH a.a=zR b 1/\ab zC a.fv=ab zC b.fv/\ab zC a.fc=ab zC b.fc/\jw a.at_=jw b.at_/\iE a.spare=iE b.spare/\R
@[reducible] def QB (a:oH)(b:dq)(R:Prop):Prop:=(zP a).fst.iK=b.iK/\(zP a).fst.iJ=b.iJ/\(zP a).fst.gv=b.gv/\(zP a).fst.gq=b.gq/\ak dv 3 zH (zP a).fst.a=ak dv 3 zH b.a/\ab zC (zP a).fst.fc=ab zC b.fc/\jw (zP a).fst.at_=jw b.at_/\R
def yEx (i:oH):Prop:=
 ∃(a:oH),dl ((1:Int))/\a.dm=i.dm/\Qz a.b i.b ((qT a)/\ff (dp (jR 1 (a.b.dz 1) a.dm) ((f9 a)/\∃(c:Int),zD (ab zC a.b.fv) (qF a).toNat 1 1=aw [dI c]/\dx ((zP i).snd=c/\QB i a.b (ab zC (zP i).fst.fv=ab zC a.b.fv/\iE (zP i).fst.spare=iE a.b.spare/\True))) (dp (decide (((iE a.b.spare).length:Int)>0)) ((pQ a)/\∃(c:Int),zD (iE a.b.spare) (dR a).toNat 0 1=aw [dI c]/\(pW a)/\True/\∃(d:Bo),(d.i:Int)=(qF a)/\d.fa=ab zC a.b.fv/\[d.el]=[[dI i.dm,dI c]]/\(dQ d)/\ff (dx ((zP i).snd=c/\QB i a.b (ab zC (zP i).fst.fv=ac d.i d.fa++d.el::ae d.i d.fa/\iE (zP i).fst.spare=ac (dR a).toNat (iE a.b.spare)/\True)))) (∃(c:dv),ak dv 3 zH c=ak dv 3 zH a.b.a/\c.dy.length<=1000000/\ff (True/\∃(e:Bo),(e.i:Int)=(qF a)/\e.fa=ab zC a.b.fv/\[e.el]=[[dI i.dm,dI (c.dy.length:Int)]]/\(dQ e)/\ff (dx ((zP i).snd=(c.dy.length:Int)/\(zP i).fst.iK=a.b.iK/\(zP i).fst.iJ=a.b.iJ/\(zP i).fst.gv=a.b.gv/\(zP i).fst.gq=a.b.gq/\ak dv 3 zH (zP i).fst.a=ak dv 3 zH c.ru/\ab zC (zP i).fst.fc=ab zC a.b.fc/\jw (zP i).fst.at_=jw a.b.at_/\ab zC (zP i).fst.fv=ac e.i e.fa++e.el::ae e.i e.fa/\iE (zP i).fst.spare=iE a.b.spare/\True)))))))
def f8 (a:oH):Prop:=0<=(qE a)/\(qE a)<(hJ a)
def zO (a:oH):=(a.b.gf 2 a.dm)
@[reducible] def QC (a:oH)(b:dq)(R:Prop):Prop:=(zO a).fst.iK=b.iK/\(zO a).fst.iJ=b.iJ/\(zO a).fst.gv=b.gv/\(zO a).fst.gq=b.gq/\ak dv 3 zH (zO a).fst.a=ak dv 3 zH b.a/\ab zC (zO a).fst.fv=ab zC b.fv/\jw (zO a).fst.at_=jw b.at_/\R
def yGb (i:oH):Prop:=
 ∃(a:oH),dl ((2:Int))/\a.dm=i.dm/\Qz a.b i.b ((qT a)/\ff (dp (jR 2 (a.b.dz 2) a.dm) ((f8 a)/\∃(c:Int),zD (ab zC a.b.fc) (qE a).toNat 1 1=aw [dI c]/\dx ((zO i).snd=c/\QC i a.b (ab zC (zO i).fst.fc=ab zC a.b.fc/\iE (zO i).fst.spare=iE a.b.spare/\True))) (dp (decide (((iE a.b.spare).length:Int)>0)) ((pQ a)/\∃(c:Int),zD (iE a.b.spare) (dR a).toNat 0 1=aw [dI c]/\(pW a)/\True/\∃(d:Bo),(d.i:Int)=(qE a)/\d.fa=ab zC a.b.fc/\[d.el]=[[dI i.dm,dI c]]/\(dQ d)/\ff (dx ((zO i).snd=c/\QC i a.b (ab zC (zO i).fst.fc=ac d.i d.fa++d.el::ae d.i d.fa/\iE (zO i).fst.spare=ac (dR a).toNat (iE a.b.spare)/\True)))) (∃(c:dv),ak dv 3 zH c=ak dv 3 zH a.b.a/\c.dy.length<=1000000/\ff (True/\∃(e:Bo),(e.i:Int)=(qE a)/\e.fa=ab zC a.b.fc/\[e.el]=[[dI i.dm,dI (c.dy.length:Int)]]/\(dQ e)/\ff (dx ((zO i).snd=(c.dy.length:Int)/\(zO i).fst.iK=a.b.iK/\(zO i).fst.iJ=a.b.iJ/\(zO i).fst.gv=a.b.gv/\(zO i).fst.gq=a.b.gq/\ak dv 3 zH (zO i).fst.a=ak dv 3 zH c.ru/\ab zC (zO i).fst.fv=ab zC a.b.fv/\jw (zO i).fst.at_=jw a.b.at_/\ab zC (zO i).fst.fc=ac e.i e.fa++e.el::ae e.i e.fa/\iE (zO i).fst.spare=iE a.b.spare/\True)))))))
def nS:Hm.ok Tryz.prog 211:=gx (V:=z5u) mixed fk 0 i6 i6 [] Tryz.func211 λ(i:Et) _=>by
 unfold z5u dx;refine Cv.dp.mk (λc=> ?_) (λc=> ?_)
 ·have c:i.side=1:=i9 c
  rw[jl,fh c];exact kp
 ·have c:¬i.side=1:=i9 c
  rw[jl,ez c];exact kp
def yMm:M5.ok Tryz.prog 264:=gx (V:=yQb) mixed fk 0 i6 i6 [] Tryz.func264 λ(s:Slot) _=>by
 unfold yQb dx;exact kp
def xJc {l:List Slot} {k:Nat} {s:Slot} (h:l[k]? =aw s):zD (l.map zT) k 0 8=aw [D.v (.bool s.used),.v (.int .i64 s.n),.v (.int .i64 s.id),.v (.int .i64 s.dr),.v (.bool s.top),.v (.int .i64 s.queue),.v (.int .i64 s.ahead),.v (.int .i64 s.back)]:=jz h (by simp[zT]) rfl
def yOd (l:List Slot) (h:B8.dp l):z4h l:=by
 have h:l.length<=1000000:=h;unfold z4h QO ff dx dI;simp only[ia];refine⟨0,rfl,λj=>j<=l.length/\∀k<j,∀x,l[k]? =aw x->(!x.used)=av,λj=>l.length-j,⟨oM,λk hk=>by omega⟩,?_⟩;rintro j ⟨h3,h4⟩;refine zG (λhj=> ?_) (λhj=> ?_)
 ·obtain⟨s,hs⟩:=zZ (l:=l) (i:=j) oM;refine⟨⟨oM,oM⟩,s.used,s.n,s.id,s.dr,s.top,s.queue,s.ahead,s.back,xJc hs,s,oL ⟨rfl,trivial,λ_ _=>Cv.dp.mk (λe=> ?_) (λe=> ?_)⟩⟩
  ·rw[jW,ZP hs e h4];exact kp
  ·refine⟨j+1,by rw[iw (by omega)];rfl,⟨oM,λk hk x hx=> ?_⟩,by(first|omega|(dsimp only;omega)),gn⟩;rcases uz k j with pk|pk
   ·exact h4 k pk x hx
   ·obtain rfl:k=j:=by omega
    rw[hs]at hx;cases hx;exact e
 ·rw[jW,zMk λk x hx=>h4 k (by have:=(jm.1 hx).1;omega) x hx];exact kp
def yBp:B8.ok Tryz.prog 263:=gx mixed (dw yMm fk) 0 i6 (λl=>ySl l) [] Tryz.func263 yOd
def z5b:Nt.ok Tryz.prog 266:=gx (V:=yMf) mixed fk 0 i6 i6 [0] Tryz.func266 λ(a:dv) h=>by
 have h:a.dy.length<=1000000:=h;unfold yMf dx dI;rw[iv,ia,iw (by simp only[iF,tz];omega)];refine⟨oM,(),?_,rfl,rfl,?_,trivial⟩
 ·simp
 ·rw[jk];rfl
def b8 {α:Type} {f:α->α}:∀{l:List α} {i:Nat} {x:α},l[i]? =aw x->l.modify i f=l.set i (f x)
 |[],i,x,h=>by simp at h
 |a::l,0,x,h=>by simp at h;subst h;rfl
 |a::l,i+1,x,h=>by
  simp only[Bd]at h;simp only[RA,Oj,b8 h]
def yM {α:Type} {f:α->List D} {l:List α} {i g:Nat} {x y:α} {ds:List D} (hi:l[i]? =aw x) (hh:(f x).take g++(ds++(f x).drop (g+ds.length))=f y):zK (l.map f) i g ds=(l.set i y).map f:=by
 have gu:=(jm.1 hi).1;rw[zK,b8 (by rw[qt,hi];rfl),hh,List.map_set]
def gR {α:Type} {l:List α} {i:Nat} {x y:α} (hi:l[i]? =aw x):(l.set i y)[i]? =aw y:=List.getElem?_set_self (jm.1 hi).1
def zX {α:Type} {l:List α} {i:Nat} {x d:α} (h:l[i]? =aw x):l.getD i d=x:=by rw[mu,h];rfl
def xCa (i:N5) (h:Le.dp i):y4f i:=by
 have h:i.a.du.length<=1000000:=h;unfold y4f dx V' dx;simp only[ia];have no (e:i.a.iy i.n=av):i.a.mi i.n i.t=i.a:=by rw[dv.mi,ez (by rw[e];decide)]
 refine zG (λc=> ?_) (λc=>zG (λd=> ?_) (λd=> ?_))
 ·have e:i.a.iy i.n=av:=by rw[dv.iy,jv (by omega),Di]
  rw[no e,e];exact kp
 ·have e:i.a.iy i.n=av:=by rw[dv.iy,jv (show ¬i.n<(i.a.du.length:Int)by omega),Di,JX]
  rw[no e,e];exact kp
 ·obtain⟨s,hs⟩:=zZ (l:=i.a.du) (i:=i.n.toNat) oM;have eu:i.a.iy i.n=s.used:=by rw[dv.iy,jo (show 0<=i.n by omega),jo (show i.n<(i.a.du.length:Int)by omega),zX hs];simp
  refine⟨⟨oM,oM⟩,s.used,jz hs (by simp[zT]) rfl,Cv.dp.mk (λu=> ?_) (λu=> ?_)⟩
  ·have e:i.a.iy i.n=av:=by rw[eu];simpa using u
   rw[no e,e];exact kp
  ·have e:i.a.iy i.n=au:=by rw[eu];simpa using u
   have et:i.a.mi i.n i.t={i.a with du:=i.a.du.set i.n.toNat {s with top:=i.t}}:=by
    rw[dv.mi,fh e,b8 hs]
   rw[et,e,yM hs (y:={s with top:=i.t}) rfl];refine⟨⟨oM,oM⟩,oM,(),nf trivial⟩
def yGv:Le.ok Tryz.prog 261:=gx mixed fk 1 i6 i6 [0] Tryz.func261 xCa
def ySn {l:List Slot} (h:∃s∈l,s.used=av):∃k:Nat,jW l=k/\k<l.length:=by
 obtain⟨s,hs,hu⟩:=h;cases hf:l.findIdx? λs=> !s.used with
 |none=>
  rw[Ou]at hf;have:=hf s hs;rw[hu]at this;cases this
 |some k=>
  rw[L4]at hf;exact⟨k,by rw[jW,show(l.findIdx? λs=> !s.used)=aw k by rw[L4];exact hf];rfl,hf.1⟩
def y4p (i:DH) (h:G6.dp i):yTg i:=by
 obtain⟨h1,h2,h3⟩:i.a.fit:=h;unfold yTg ff dx lD lN WA tQ zGi dx zGk dx Wy yN dI;simp only[ia];have out (e:i.n<0\/i.a.dy.length<=i.n):i.a.push i.n i.id i.dr i.top=(i.a,0,26):=by rw[dv.push,fh e]
 refine zG (λc=>Cv.dp.mk (λd=> ?_) (λd=> ?_)) (λc=> ?_)
 ·have d:¬i.n<(i.a.dy.length:Int):=i9 d
  rw[out (.inr (by omega))];exact kp
 ·have d:i.n<(i.a.dy.length:Int):=i9 d
  have hn:¬(i.n<0\/(i.a.dy.length:Int)<=i.n):=by omega
  refine zG (λq1=> ?_) (λq1=>zG (λq2=> ?_) (λq2=>Cv.dp.mk (λfr=> ?_) (λfr=> ?_)))
  ·rw[dv.push,ez hn,fh (.inl q1)];exact kp
  ·rw[dv.push,ez hn,fh (.inr q2)];exact kp
  ·rw[dv.push,ez hn,ez (by omega),fh (i9 fr)];exact kp
  ·have fr:i.a.free≠0:=i9 fr
   have ep:i.a.push i.n i.id i.dr i.top=(i.a.put i.n i.id i.dr i.top,jW i.a.du,0):=by rw[dv.push,ez hn,ez (by omega),ez fr]
   obtain⟨k,hk,o7⟩:=ySn (h2 fr);obtain⟨q,hq⟩:=zZ (l:=i.a.dy) (i:=i.n.toNat) oM;have hqm:=lh hq;have hl:=h3 q hqm;obtain⟨s,hs⟩:=zZ o7;refine⟨i.a.du,rfl,h1,λ_ _=>⟨⟨oM,oM⟩,q.last,jz hq (by simp[zQ]) rfl,⟨oM,oM⟩,by rw[hk];exact o7,q.last,jz hq (by simp[zQ]) rfl,?_⟩⟩;rw[ep];have aaX:i.a.put i.n i.id i.dr i.top=⟨if q.last= -1 then i.a.du.set k ⟨au,k,i.id,i.dr,i.top,i.n,q.last,-1⟩else(i.a.du.set k ⟨au,k,i.id,i.dr,i.top,i.n,q.last,-1⟩).modify q.last.toNat λs=>{s with back:=k},i.a.dy.set i.n.toNat ⟨if q.last= -1 then k else q.first,k,aj.wrap (q.total+i.dr),aj.wrap (q.count+1)⟩,aj.wrap (i.a.free-1)⟩:=by
    simp only[dv.put,zX hq,hk,ot]
   rw[aaX,hk];simp only[ot];have es:zK (ab zT i.a.du) k 0 [D.v (.bool au),D.v (.int .i64 k),D.v (.int .i64 i.id),D.v (.int .i64 i.dr),D.v (.bool i.top),D.v (.int .i64 i.n),D.v (.int .i64 q.last),D.v (.int .i64 (-1))]=ab zT (i.a.du.set k ⟨au,k,i.id,i.dr,i.top,i.n,q.last,-1⟩):=yM hs rfl;rw[es];refine Cv.dp.mk (λe=> ?_) (λe=> ?_)
   ·have e:q.last= -1:=i9 e
    have e1:zK (ab zQ i.a.dy) i.n.toNat (0+0) [D.v (.int .i64 k)]=ab zQ (i.a.dy.set i.n.toNat {q with first:=k}):=yM hq rfl;have g1:=gR (y:={q with first:=(k:Int)}) hq;have e2:zK (ab zQ (i.a.dy.set i.n.toNat {q with first:=k})) i.n.toNat (0+1) [D.v (.int .i64 k)]=ab zQ (i.a.dy.set i.n.toNat {q with first:=k,last:=k}):=by
     rw[yM g1 (y:={q with first:=(k:Int),last:=(k:Int)}) rfl,Ec]
    have g2:=gR (y:={q with first:=(k:Int),last:=(k:Int)}) hq;have e3:zK (ab zQ (i.a.dy.set i.n.toNat {q with first:=k,last:=k})) i.n.toNat (0+2) [D.v (.int .i64 (aj.wrap (q.total+i.dr)))]=ab zQ (i.a.dy.set i.n.toNat {q with first:=k,last:=k,total:=aj.wrap (q.total+i.dr)}):=by
     rw[yM g2 (y:={q with first:=(k:Int),last:=(k:Int),total:=aj.wrap (q.total+i.dr)}) rfl,Ec]
    have g3:=gR (y:={q with first:=(k:Int),last:=(k:Int),total:=aj.wrap (q.total+i.dr)}) hq;have e4:zK (ab zQ (i.a.dy.set i.n.toNat {q with first:=k,last:=k,total:=aj.wrap (q.total+i.dr)})) i.n.toNat (0+3) [D.v (.int .i64 (aj.wrap (q.count+1)))]=ab zQ (i.a.dy.set i.n.toNat ⟨k,k,aj.wrap (q.total+i.dr),aj.wrap (q.count+1)⟩):=by
     rw[yM g3 (y:=⟨k,k,aj.wrap (q.total+i.dr),aj.wrap (q.count+1)⟩) rfl,Ec]
    rw[e1,e2];simp only[fh e];refine⟨oM,by simp only[ia,qm];omega,q.total,jz g2 (by simp[zQ]) rfl,by simp only[ia,qm];omega,q.count,?_,by rw[e3];simp only[ia,qm];omega,(),?_⟩
    ·rw[e3];exact jz g3 (by simp[zQ]) rfl
    ·rw[e3,e4];exact kp
   ·have e:¬q.last= -1:=i9 e
    have hl:0<=q.last/\q.last<i.a.du.length:=hl.resolve_left e;have e2:zK (ab zQ i.a.dy) i.n.toNat (0+1) [D.v (.int .i64 k)]=ab zQ (i.a.dy.set i.n.toNat {q with last:=k}):=yM hq rfl;have g2:=gR (y:={q with last:=(k:Int)}) hq;have e3:zK (ab zQ (i.a.dy.set i.n.toNat {q with last:=k})) i.n.toNat (0+2) [D.v (.int .i64 (aj.wrap (q.total+i.dr)))]=ab zQ (i.a.dy.set i.n.toNat {q with last:=k,total:=aj.wrap (q.total+i.dr)}):=by
     rw[yM g2 (y:={q with last:=(k:Int),total:=aj.wrap (q.total+i.dr)}) rfl,Ec]
    have g3:=gR (y:={q with last:=(k:Int),total:=aj.wrap (q.total+i.dr)}) hq;have e4:zK (ab zQ (i.a.dy.set i.n.toNat {q with last:=k,total:=aj.wrap (q.total+i.dr)})) i.n.toNat (0+3) [D.v (.int .i64 (aj.wrap (q.count+1)))]=ab zQ (i.a.dy.set i.n.toNat ⟨q.first,k,aj.wrap (q.total+i.dr),aj.wrap (q.count+1)⟩):=by
     rw[yM g3 (y:=⟨q.first,k,aj.wrap (q.total+i.dr),aj.wrap (q.count+1)⟩) rfl,Ec]
    obtain⟨s2,yu⟩:=zZ (l:=i.a.du.set k ⟨au,k,i.id,i.dr,i.top,i.n,q.last,-1⟩) (i:=q.last.toNat) (by rw[qm];omega);have e5:zK (ab zT (i.a.du.set k ⟨au,k,i.id,i.dr,i.top,i.n,q.last,-1⟩)) q.last.toNat (0+7) [D.v (.int .i64 k)]=ab zT ((i.a.du.set k ⟨au,k,i.id,i.dr,i.top,i.n,q.last,-1⟩).modify q.last.toNat λs=>{s with back:=k}):=by
     rw[yM yu (y:={s2 with back:=(k:Int)}) rfl,b8 yu]
    rw[e2];simp only[ez e];refine⟨q.last,jz hq (by simp[zQ]) rfl,⟨oM,by simp only[ia,qm];omega⟩,by simp only[ia,qm];omega,oM,q.total,jz g2 (by simp[zQ]) rfl,by simp only[ia,qm];omega,q.count,?_,by rw[e3];simp only[ia,qm];omega,(),?_⟩
    ·rw[e3];exact jz g3 (by simp[zQ]) rfl
    ·rw[e3,e4,e5];exact kp
 ·rw[out (.inl (by omega))];exact kp
def z4l:G6.ok Tryz.prog 229:=gx mixed (dw yBp fk) 1 i6 i6 [0] Tryz.func229 y4p
def tM {s dm:Int}:∀{l:List xY} {j:Nat},j<=l.length->(∀k<j,∀r,l[k]? =aw r->jl s r.dm dm=au)->(∀r,l[j]? =aw r->jl s r.dm dm=av)->yB s l dm=j
 |[],j,hj,_,_=>by
  obtain rfl:j=0:=i9 hj
  rfl
 |r::l,0,_,_,he=>by
  have:=he r rfl;rw[yB,List.takeWhile_cons,this];rfl
 |r::l,j+1,hj,h,he=>by
  have h0:=h 0 oM r rfl;have ih:=tM (l:=l) (j:=j) (i9 hj) (λk hk x hx=>h (k+1) oM x (i9 hx)) (λx hx=>he x (i9 hx));rw[yB]at ih ⊢;rw[List.takeWhile_cons,h0,fh rfl,iF,ih]
def VE (s dm:Int) (l:List xY):yB s l dm<=l.length:=(List.takeWhile_sublist _).length_le
def eQ (b:dq):b.dz 1=b.fv:=rfl
def lC (b:dq):b.dz 2=b.fc:=rfl
def y9a (i:oH) (h:GN.dp i):ySj i:=by
 obtain⟨_,h1,h2,_⟩:i.b.small:=h;unfold ySj ff lU eO QO zFn dx zHq dx bP Q9 QQ hZ qF dI;simp only[ia,eQ];refine⟨0,rfl,λj=>j<=i.b.fv.length/\∀k<j,∀r,i.b.fv[k]? =aw r->jl 1 r.dm i.dm=au,λj=>i.b.fv.length-j,⟨oM,λk hk=>by omega⟩,?_⟩;rintro j ⟨h3,h4⟩;refine zG (λhj=> ?_) (λhj=> ?_)
 ·obtain⟨r,hr⟩:=zZ (l:=i.b.fv) (i:=j) oM;refine⟨⟨oM,oM⟩,r.dm,jz hr (by simp[zC]) rfl,⟨1,r.dm,i.dm⟩,rfl,rfl,rfl,trivial,λ_ _=> ?_⟩;dsimp only;refine Cv.dp.mk (λe=>⟨j+1,by rw[iw (by omega)];rfl,⟨oM,λk hk x hx=> ?_⟩,by(first|omega|(dsimp only;omega)),gn⟩) (λe=>zG (λ_=> ?_) (λc=>absurd hj c))
  ·rcases uz k j with pk|pk
   ·exact h4 k pk x hx
   ·obtain rfl:k=j:=by omega
    rw[hr]at hx;cases hx;exact e
  ·have en:yB 1 i.b.fv i.dm=j:=tM h3 h4 λx hx=>by rw[hr]at hx;cases hx;exact e
   have eb:jR 1 i.b.fv i.dm=(r.dm==i.dm):=by rw[jR,en,hr];exact(z5z _ _).symm
   refine⟨⟨oM,oM⟩,r.dm,jz hr (by simp[zC]) rfl,(),by rw[en],eb,?_⟩
   (repeat'(first|exact trivial|exact rfl|apply bg))
 ·have en:yB 1 i.b.fv i.dm=j:=tM h3 h4 λx hx=>by have:=(jm.1 hx).1;omega
  have eb:jR 1 i.b.fv i.dm=av:=by rw[jR,en,ui (by omega)]
  refine zG (λc=>absurd c hj) (λ_=>⟨(),by rw[en],eb,?_⟩)
  (repeat'(first|exact trivial|exact rfl|apply bg))
def Y6:GN.ok Tryz.prog 265:=gx mixed (dw nS fk) 0 i6 (λ_=>y1y) [] Tryz.func265 y9a
def vA (l:List (Int×Place)) (k:Int):∀(p:bu×List D),p∈jw l->mc (ay aj k) p.1=au:=by
 intro p hp;obtain⟨x,_,rfl⟩:=np.1 hp;rfl
def NN (k:Int):∀l:List (Int×Place),jK (ay aj k) (jw l)=(ld l k).map yBa
 |[]=>rfl
 |(a,v)::l=>by
  have ih:=NN k l;show(bif (xd .i64 .i64 && decide (k=a))then _ else jK _ (jw l))=_;by_cases h:k=a
  ·subst h;simp[ld,xd]
  ·have h':¬a=k:=λe=>h e.symm
   rw[show(xd .i64 .i64 && decide (k=a))=av by simp[h],cond_false,ih];simp[ld,LV,h']
def NH:Place:=⟨0,0,0⟩
def ND (l:List (Int×Place)) (k:Int):jK (ay aj k) (jw l)=aw [D.v (.int .i64 ((ld l k).getD NH).side),D.v (.int .i64 ((ld l k).getD NH).dm),D.v (.int .i64 ((ld l k).getD NH).slot)]/\(ld l k).isSome=au\/jK (ay aj k) (jw l)=ax/\[D.v (.int .i64 ((ld l k).getD NH).side),D.v (.int .i64 ((ld l k).getD NH).dm),D.v (.int .i64 ((ld l k).getD NH).slot)]=[D.v (.int .i64 0),D.v (.int .i64 0),D.v (.int .i64 0)]/\(ld l k).isSome=av:=by
 rw[NN];cases ld l k with
 |none=>exact .inr ⟨rfl,rfl,rfl⟩
 |some v=>exact .inl ⟨rfl,rfl⟩
def z0c (k:Int) (v:Place):∀l,gW (ay aj k) (yBa v) (jw l)=jw (tT k v l)
 |[]=>rfl
 |(a,b)::l=>by
  have ih:=z0c k v l;show(bif (xd .i64 .i64 && decide (k=a))then _ else _::gW _ _ (jw l))=_;rw[ih,tT];by_cases h:k=a
  ·subst h;simp[xd,jw]
  ·simp[h,jw]
def y9b (i:CQ) (h:GJ.dp i):yQl i:=by
 obtain⟨⟨ha,_⟩,h1,h2,_⟩:i.b.small:=h;unfold yQl ff dx zFm zHb tW dx bL QQ dI;have no (e:i.b.iW 1=i.b.a):ak dv 3 zH (i.b.iW 1)=zR i.b 1:=by rw[e];rfl
 refine Cv.dp.mk (λc=> ?_) (λc=>⟨(),?_⟩)
 ·have c:i.b.my 1=au:=c;refine⟨vA _ _,(ld i.b.at_ i.b.iK).isSome,_,_,_,ND _ _,⟨vA _ _,(ld i.b.at_ i.b.iK).isSome,_,_,_,ND _ _,(iM trivial),rfl,trivial⟩,rfl,trivial,Cv.dp.mk (λd=>Cv.dp.mk (λe=> ?_) (λe=>⟨(),?_⟩)) (λd=>⟨(),?_⟩)⟩
  ·obtain⟨o,ho⟩:=XG.1 d;have e:o.side=1:=by rw[ho]at e;simpa using e
   have eu:i.b.iW 1=i.b.a.mi o.slot av:=by
    have ht:ld i.b.at_ (i.b.jc 1)=aw o:=ho;rw[dq.iW,fh c,ht];dsimp only;rw[fh e]
   refine⟨⟨i.b.a,o.slot,av⟩,by rw[ho];rfl,rfl,rfl,ha,λ_ _=>⟨(),?_⟩⟩;rw[eu];(repeat'(first|exact trivial|exact rfl|apply bg))
  ·obtain⟨o,ho⟩:=XG.1 d;have e:¬o.side=1:=by rw[ho]at e;simpa using e
   have ht:ld i.b.at_ (i.b.jc 1)=aw o:=ho;rw[no (by rw[dq.iW,fh c,ht];dsimp only;rw[ez e])];(repeat'(first|exact trivial|exact rfl|apply bg))
  ·have ht:ld i.b.at_ (i.b.jc 1)=ax:=by
    show ld i.b.at_ i.b.iK=ax;simpa using d
   rw[no (by rw[dq.iW,fh c,ht])];(repeat'(first|exact trivial|exact rfl|apply bg))
 ·have c:¬i.b.my 1=au:=by rw[show i.b.my 1=i.b.gv from rfl,c];decide
  rw[no (by rw[dq.iW,ez c])];(repeat'(first|exact trivial|exact rfl|apply bg))
def yNy:GJ.ok Tryz.prog 228:=gx mixed (dw yGv fk) 0 i6 i6 [] Tryz.func228 y9b
def z6g {s dm:Int} {l:List xY} (h:jR s l dm=au):∃r,l[yB s l dm]? =aw r:=by
 rw[jR]at h;split at h
 ·rename_i r hr;exact⟨r,hr⟩
 ·cases h
def yXs (i:oH) (h:DY.dp i):yEx i:=by
 obtain⟨⟨ha,_⟩,ha',h1,h2,h3⟩:i.b.fit:=h;have hle:=VE 1 i.dm i.b.fv;unfold yEx QB ff dx Qz zP dR dQ pQ pW uW f9 hZ qT Q0 qF dI;refine⟨i,oL (iM ⟨rfl,⟨⟨ha,oM⟩,oM,oM,oM⟩,λ_ _=> ?_⟩)⟩;simp only[ia,y9,eQ];refine Cv.dp.mk (λc=> ?_) (λc=> ?_)
 ·obtain⟨r,hr⟩:=z6g c;have gu:=(jm.1 hr).1;have e:i.b.gf 1 i.dm=(i.b,r.queue):=by rw[dq.gf,fh (by rw[eQ];exact c),eQ,zX hr]
  rw[e];refine⟨⟨oM,oM⟩,r.queue,jz (i9 hr) (by simp[zC]) rfl,(),?_⟩
  (repeat'(first|exact trivial|exact rfl|apply bg))
 ·have e:i.b.gf 1 i.dm=({i.b with a:=i.b.iT.2.2,fv:=i.b.ins 1 i.dm,spare:=i.b.iT.2.1},i.b.iT.1):=by
   rw[dq.gf,ez (by rw[eQ,c];decide),fh rfl]
  have BP:ab zC (i.b.ins 1 i.dm)=ac (yB 1 i.b.fv i.dm) (ab zC i.b.fv)++zC ⟨i.dm,i.b.iT.1⟩::ae (yB 1 i.b.fv i.dm) (ab zC i.b.fv):=by
   rw[dq.ins,eQ,jk,jf,Ed,FF]
  rw[e];refine zG (λd=> ?_) (λd=> ?_)
  ·have w:aj.wrap ((i.b.spare.length:Int)-1)=((i.b.spare.length-1:Nat):Int):=by rw[iw (by omega)];omega
   rw[w];simp only[ot];obtain⟨q,hq⟩:=zZ (l:=i.b.spare) (i:=i.b.spare.length-1) oM;have eq:i.b.iT=(q,i.b.spare.take (i.b.spare.length-1),i.b.a):=by rw[dq.iT,ez (by omega),zX hq]
   rw[eq]at BP ⊢;refine⟨⟨oM,oM⟩,q,rp hq,⟨oM,oM⟩,trivial,⟨i.b.fv.map zC,zC ⟨i.dm,q⟩,yB 1 i.b.fv i.dm⟩,rfl,rfl,rfl,⟨by rw[ia];exact hle,by rw[ia];omega⟩,λ_ _=>⟨(),?_⟩⟩;have hs:iE (i.b.spare.take (i.b.spare.length-1))=(iE i.b.spare).take (i.b.spare.length-1):=by simp only[iE,Ed]
   exact kp
  ·have eq:i.b.iT=((i.b.a.dy.length:Int),i.b.spare,i.b.a.ru):=by rw[dq.iT,fh (by omega)]
   rw[eq]at BP ⊢;refine⟨i.b.a,rfl,oM,λ_ _=>⟨trivial,⟨i.b.fv.map zC,zC ⟨i.dm,i.b.a.dy.length⟩,yB 1 i.b.fv i.dm⟩,rfl,rfl,rfl,⟨by rw[ia];exact hle,by rw[ia];omega⟩,λ_ _=>⟨(),?_⟩⟩⟩;exact kp
def zKw:vW Tryz.prog 281=aw (340,2,16,#[.int .i64 0,.int .i64 0]):=by kernel_rfl
def yHa:T4.ok Tryz.prog 267:=
 AX (tS:=281) (tI:=3) (fO:=290) (fR:=291) (z:= #[.int .i64 0,.int .i64 0]) mixed Tryz.func267 rfl (by kernel_rfl) (by kernel_rfl) (by kernel_rfl) (by kernel_rfl) zKw rfl Z8 Z8 (by kernel_rfl) Tryz.underlying3
  (z0s (tS:=281) (tB:=4) Tryz.func290 (by kernel_rfl) (by kernel_rfl) (by kernel_rfl) (by kernel_rfl) zKw) (λs sn sk i v vn vk w R=>by kernel_rfl)
def yKq:DY.ok Tryz.prog 230:=gx mixed (dw Y6 (dw z5b (dw yHa fk))) 0 i6 i6 [] Tryz.func230 yXs
def y7y (i:oH) (h:GM.dp i):ySv i:=by
 obtain⟨_,h1,h2,_⟩:i.b.small:=h;unfold ySv ff lY zHu dx zHn dx hJ qE bP Q9 QQ eO QO dI;simp only[ia,lC];refine⟨0,rfl,λj=>j<=i.b.fc.length/\∀k<j,∀r,i.b.fc[k]? =aw r->jl 2 r.dm i.dm=au,λj=>i.b.fc.length-j,⟨oM,λk hk=>by omega⟩,?_⟩;rintro j ⟨h3,h4⟩;refine zG (λhj=> ?_) (λhj=> ?_)
 ·obtain⟨r,hr⟩:=zZ (l:=i.b.fc) (i:=j) oM;refine⟨⟨oM,oM⟩,r.dm,jz hr (by simp[zC]) rfl,⟨2,r.dm,i.dm⟩,rfl,rfl,rfl,trivial,λ_ _=> ?_⟩;dsimp only;refine Cv.dp.mk (λe=>⟨j+1,by rw[iw (by omega)];rfl,⟨oM,λk hk x hx=> ?_⟩,by(first|omega|(dsimp only;omega)),gn⟩) (λe=>zG (λ_=> ?_) (λc=>absurd hj c))
  ·rcases uz k j with pk|pk
   ·exact h4 k pk x hx
   ·obtain rfl:k=j:=by omega
    rw[hr]at hx;cases hx;exact e
  ·have en:yB 2 i.b.fc i.dm=j:=tM h3 h4 λx hx=>by rw[hr]at hx;cases hx;exact e
   have eb:jR 2 i.b.fc i.dm=(r.dm==i.dm):=by rw[jR,en,hr];exact(z5z _ _).symm
   refine⟨⟨oM,oM⟩,r.dm,jz hr (by simp[zC]) rfl,(),by rw[en],eb,?_⟩
   (repeat'(first|exact trivial|exact rfl|apply bg))
 ·have en:yB 2 i.b.fc i.dm=j:=tM h3 h4 λx hx=>by have:=(jm.1 hx).1;omega
  have eb:jR 2 i.b.fc i.dm=av:=by rw[jR,en,ui (by omega)]
  refine zG (λc=>absurd c hj) (λ_=>⟨(),by rw[en],eb,?_⟩)
  (repeat'(first|exact trivial|exact rfl|apply bg))
def Y3:GM.ok Tryz.prog 265:=gx mixed (dw nS fk) 0 i6 (λ_=>y1y) [] Tryz.func265 y7y
def y7p (i:CQ) (h:GI.dp i):yNl i:=by
 obtain⟨⟨ha,_⟩,h1,h2,_⟩:i.b.small:=h;unfold yNl ff dx zGw zHh eT dx bL QQ dI;have no (e:i.b.iW 2=i.b.a):ak dv 3 zH (i.b.iW 2)=zR i.b 1:=by rw[e];rfl
 refine Cv.dp.mk (λc=> ?_) (λc=>⟨(),?_⟩)
 ·have c:i.b.my 2=au:=c;refine⟨vA _ _,(ld i.b.at_ i.b.iJ).isSome,_,_,_,ND _ _,⟨vA _ _,(ld i.b.at_ i.b.iJ).isSome,_,_,_,ND _ _,(iM trivial),rfl,trivial⟩,rfl,trivial,Cv.dp.mk (λd=>Cv.dp.mk (λe=> ?_) (λe=>⟨(),?_⟩)) (λd=>⟨(),?_⟩)⟩
  ·obtain⟨o,ho⟩:=XG.1 d;have e:o.side=2:=by rw[ho]at e;simpa using e
   have eu:i.b.iW 2=i.b.a.mi o.slot av:=by
    have ht:ld i.b.at_ (i.b.jc 2)=aw o:=ho;rw[dq.iW,fh c,ht];dsimp only;rw[fh e]
   refine⟨⟨i.b.a,o.slot,av⟩,by rw[ho];rfl,rfl,rfl,ha,λ_ _=>⟨(),?_⟩⟩;rw[eu];(repeat'(first|exact trivial|exact rfl|apply bg))
  ·obtain⟨o,ho⟩:=XG.1 d;have e:¬o.side=2:=by rw[ho]at e;simpa using e
   have ht:ld i.b.at_ (i.b.jc 2)=aw o:=ho;rw[no (by rw[dq.iW,fh c,ht];dsimp only;rw[ez e])];(repeat'(first|exact trivial|exact rfl|apply bg))
  ·have ht:ld i.b.at_ (i.b.jc 2)=ax:=by
    show ld i.b.at_ i.b.iJ=ax;simpa using d
   rw[no (by rw[dq.iW,fh c,ht])];(repeat'(first|exact trivial|exact rfl|apply bg))
 ·have c:¬i.b.my 2=au:=by rw[show i.b.my 2=i.b.gq from rfl,c];decide
  rw[no (by rw[dq.iW,ez c])];(repeat'(first|exact trivial|exact rfl|apply bg))
def yNs:GI.ok Tryz.prog 228:=gx mixed (dw yGv fk) 0 i6 i6 [] Tryz.func228 y7p
def yXq (i:oH) (h:DX.dp i):yGb i:=by
 obtain⟨⟨ha,_⟩,ha',h1,h2,h3⟩:i.b.fit:=h;have hle:=VE 2 i.dm i.b.fc;unfold yGb QC ff dx Qz zO f8 hJ dR dQ pQ pW uW qT Q0 qE dI;refine⟨i,oL (iM ⟨rfl,⟨⟨ha,oM⟩,oM,oM,oM⟩,λ_ _=> ?_⟩)⟩;simp only[ia,y9,lC];refine Cv.dp.mk (λc=> ?_) (λc=> ?_)
 ·obtain⟨r,hr⟩:=z6g c;have gu:=(jm.1 hr).1;have e:i.b.gf 2 i.dm=(i.b,r.queue):=by rw[dq.gf,fh (by rw[lC];exact c),lC,zX hr]
  rw[e];refine⟨⟨oM,oM⟩,r.queue,jz (i9 hr) (by simp[zC]) rfl,(),?_⟩
  (repeat'(first|exact trivial|exact rfl|apply bg))
 ·have e:i.b.gf 2 i.dm=({i.b with a:=i.b.iT.2.2,fc:=i.b.ins 2 i.dm,spare:=i.b.iT.2.1},i.b.iT.1):=by
   rw[dq.gf,ez (by rw[lC,c];decide),ez (by decide)]
  have BP:ab zC (i.b.ins 2 i.dm)=ac (yB 2 i.b.fc i.dm) (ab zC i.b.fc)++zC ⟨i.dm,i.b.iT.1⟩::ae (yB 2 i.b.fc i.dm) (ab zC i.b.fc):=by
   rw[dq.ins,lC,jk,jf,Ed,FF]
  rw[e];refine zG (λd=> ?_) (λd=> ?_)
  ·have w:aj.wrap ((i.b.spare.length:Int)-1)=((i.b.spare.length-1:Nat):Int):=by rw[iw (by omega)];omega
   rw[w];simp only[ot];obtain⟨q,hq⟩:=zZ (l:=i.b.spare) (i:=i.b.spare.length-1) oM;have eq:i.b.iT=(q,i.b.spare.take (i.b.spare.length-1),i.b.a):=by rw[dq.iT,ez (by omega),zX hq]
   rw[eq]at BP ⊢;refine⟨⟨oM,oM⟩,q,rp hq,⟨oM,oM⟩,trivial,⟨i.b.fc.map zC,zC ⟨i.dm,q⟩,yB 2 i.b.fc i.dm⟩,rfl,rfl,rfl,⟨by rw[ia];exact hle,by rw[ia];omega⟩,λ_ _=>⟨(),?_⟩⟩;have hs:iE (i.b.spare.take (i.b.spare.length-1))=(iE i.b.spare).take (i.b.spare.length-1):=by simp only[iE,Ed]
   exact kp
  ·have eq:i.b.iT=((i.b.a.dy.length:Int),i.b.spare,i.b.a.ru):=by rw[dq.iT,fh (by omega)]
   rw[eq]at BP ⊢;refine⟨i.b.a,rfl,oM,λ_ _=>⟨trivial,⟨i.b.fc.map zC,zC ⟨i.dm,i.b.a.dy.length⟩,yB 2 i.b.fc i.dm⟩,rfl,rfl,rfl,⟨by rw[ia];exact hle,by rw[ia];omega⟩,λ_ _=>⟨(),?_⟩⟩⟩;exact kp
def yJj:DX.ok Tryz.prog 230:=gx mixed (dw Y3 (dw z5b (dw yHa fk))) 0 i6 i6 [] Tryz.func230 yXq
structure Bn where
 b:dq
 id:Int
 dm:Int
 dr:Int
def dq.leads (b:dq) (s dm:Int):Bool:=match b.dz s with
 |[]=>au
 |r::_=>jl s dm r.dm
def dq.qv (b:dq) (id s dm:Int):dq:=if b.leads s dm=au then b.jj id s else b
def dq.pw (b:dq) (s id dm dr:Int):dq:=
 let b2:=(b.qv id s dm).gf s dm
 let x:=b2.1.a.push b2.2 id dr (b.leads s dm)
 {b2.1 with a:=x.1,at_:=tT id ⟨s,dm,x.2.1⟩ b2.1.at_}
def dq.iC (b:dq) (s id dm dr:Int):dq×Int:=
 if dr<1\/1000000<dr then(b,24)else if(ld b.at_ id).isSome=au then(b,25)else if 250<=b.at_.length then(b,13)else(b.pw s id dm dr,0)
def yPb (s:Int):gh:=fp Bn (λi=>[.nm 0 0,zB i.id,zB s,zB i.dm,zB i.dr]) (λi=>[yA i.b]) (λi=>i.b.fit) (λi=>zB (i.b.iC s i.id i.dm i.dr).2) (λi=>[yA (i.b.iC s i.id i.dm i.dr).1])
def y3h:List (Nat×gr):=[(44,bj 14)]
def G3:gh:=yPb 1
def G2:gh:=yPb 2
structure BaJ where
 i:Bn
 s:Bool
def UB:gh:=fp BaJ (λj=>[.nm 0 0,zB j.i.id,zB (zF j.s),zB j.i.dm,zB j.i.dr]) (λj=>[yA j.i.b]) (λj=>j.i.b.fit) (λj=>zB (j.i.b.iC (zF j.s) j.i.id j.i.dm j.i.dr).2) (λj=>[yA (j.i.b.iC (zF j.s) j.i.id j.i.dm j.i.dr).1])
structure HZ where
 s:gy
 inst:Int
 id:Int
 sd:Bool
 dm:Int
 dr:Int
def gy.AS (s:gy) (n:Int):dq:=s.eg.getD n.toNat oc
def gy.iC (i:HZ):gy×Int:=
 if i.inst<0\/i.s.eg.length<=i.inst then(i.s,20)else if(CD i.s.wh i.id).isSome=au then(i.s,25)else if 250<=i.s.wh.length then(i.s,13)else if i.s.p.dm i.inst i.dm≠0 then(i.s,i.s.p.dm i.inst i.dm)
 else
  let x:=(i.s.AS i.inst).iC (zF i.sd) i.id i.dm i.dr
  ({i.s with eg:=i.s.eg.set i.inst.toNat x.1,wh:=if x.2=0 then JN i.id i.inst i.s.wh else i.s.wh},x.2)
@[reducible] def gy.fit (s:gy):Prop:=s.p.small/\s.eg.length<=1000000/\∀b∈s.eg,b.fit
def KH:gh:=fp HZ (λi=>[.nm 0 0,zB i.inst,zB i.id,zB (zF i.sd),zB i.dm,zB i.dr]) (λi=>[zE i.s]) (λi=>i.s.fit) (λi=>zB (gy.iC i).2) (λi=>[zE (gy.iC i).1])
def Wx (a:oH):Prop:=(a.b.a.du.length<=1000000/\(a.b.a.free≠0->∃(b:Slot),b∈a.b.a.du/\b.used=av)/\∀(b:aV),b∈a.b.a.dy->b.last=(-1)\/0<=b.last/\b.last<(a.b.a.du.length:Int))/\a.b.a.dy.length<=100000/\a.b.fv.length<=100000/\a.b.fc.length<=100000/\a.b.spare.length<=100000
def lQ (a:DH):Prop:=a.a.du.length<=1000000/\(a.a.free≠0->∃(b:Slot),b∈a.a.du/\b.used=av)/\∀(b:aV),b∈a.a.dy->b.last=(-1)\/0<=b.last/\b.last<(a.a.du.length:Int)
def yU (a:Bn):=(a.b.iC 1 a.id a.dm a.dr)
def ZO (a:oH) (b:Bn) (c:Bool):Prop:=(Wx a)/\ff (True/\∃(e:DH),e.n=(zP a).snd/\e.id=b.id/\e.dr=b.dr/\e.top=c/\ak dv 3 zH e.a=ak dv 3 zH (zP a).fst.a/\(lQ e)/\ff ((∀(g:bu×List D),g∈jw (zP a).fst.at_->mc (ay aj b.id) g.fst=au)/\dx ((yU b).snd=0/\(yU b).fst.iK=(zP a).fst.iK/\(yU b).fst.iJ=(zP a).fst.iJ/\(yU b).fst.gv=(zP a).fst.gv/\(yU b).fst.gq=(zP a).fst.gq/\ak dv 3 zH (yU b).fst.a=ak dv 3 zH (yN e).fst/\ab zC (yU b).fst.fv=ab zC (zP a).fst.fv/\ab zC (yU b).fst.fc=ab zC (zP a).fst.fc/\jw (yU b).fst.at_=gW (ay aj b.id) [dI 1,dI b.dm,dI ((yN e).snd.fst)] (jw (zP a).fst.at_)/\iE (yU b).fst.spare=iE (zP a).fst.spare/\True)))
@[reducible] def QP (a:dq)(R:Prop):Prop:=am 340 2 (ab zC a.fv)=am 340 2 (ab zC a.fv)/\am 340 2 (ab zC a.fc)=am 340 2 (ab zC a.fc)/\ar (jw a.at_)=ar (jw a.at_)/\R
def Wl (a:Bool->Prop) (b:Bool) (c:Int) (d:Int) (e:Int) (f:Bn):Prop:=a b/\dl (ap [V.d (dI c),V.d (dI d),V.d (dI e)] 350)/\dl (ap [V.nm 1 0,V.own 2,V.own 3,V.mp 4,V.d (dI f.b.iK),V.d (dI f.b.iJ),V.own 5,V.d (D.v (.bool f.b.gv)),V.d (D.v (.bool f.b.gq))] (284:cf))/\dl (ak dv 3 zH f.b.a)/\QP f.b (dl (am 3 1 (iE f.b.spare)))
def V1 (a:Et) (b:Bn) (c:Int) (d:Bool->Prop) (e:Int) (f:Int) (g:Int):Prop:=a.x=b.dm/\a.y=c/\True/\ff (∃(j:Bool),j=jl a.side a.x a.y/\Wl d j e f g b)
def Wh (a:Bool->Prop) (b:Int) (c:Int) (d:Int) (e:Bn):Prop:=∃(f:Bool),f=au/\Wl a f b c d e
def rN (a:Bn):Prop:=(yU a).fst.iK=a.b.iK/\(yU a).fst.iJ=a.b.iJ/\(yU a).fst.gv=a.b.gv/\(yU a).fst.gq=a.b.gq/\ak dv 3 zH (yU a).fst.a=ak dv 3 zH a.b.a/\ab zC (yU a).fst.fv=ab zC a.b.fv/\ab zC (yU a).fst.fc=ab zC a.b.fc/\jw (yU a).fst.at_=jw a.b.at_/\iE (yU a).fst.spare=iE a.b.spare/\True
def zKx (a:Bn):Prop:=dx ((yU a).snd=24/\rN a)
def Wz (a:Bn) (b:Int) (c:Int) (d:Int) (e:Bool):Prop:=jK (ay aj a.id) (jw a.b.at_)=aw [dI b,dI c,dI d]/\e=au\/jK (ay aj a.id) (jw a.b.at_)=ax/\[dI b,dI c,dI d]=[dI 0,dI 0,dI 0]/\e=av
def eE (a:CQ):Prop:=Q0 a.b.a a.b (a.b.spare.length<=1000000)
def kX (a:Int):=(!(decide (a=1)||decide (a=2)))
@[reducible] def Qe (a b:dq)(R:Prop):Prop:=a.iK=b.iK/\a.iJ=b.iJ/\a.gv=b.gv/\a.gq=b.gq/\ak dv 3 zH a.a=ak dv 3 zH b.a/\ab zC a.fv=ab zC b.fv/\ab zC a.fc=ab zC b.fc/\jw a.at_=jw b.at_/\iE a.spare=iE b.spare/\R
@[reducible] def QS (a b:dq)(R:Prop):Prop:=ab zC a.fv=ab zC b.fv/\ab zC a.fc=ab zC b.fc/\jw a.at_=jw b.at_/\iE a.spare=iE b.spare/\R
def yPo (i:Bn):Prop:=
 (∀(a:bu×List D),a∈jw i.b.at_->mc (ay aj i.id) a.fst=au)/\∃(a:Bool),∃(b:Int),∃(c:Int),∃(d:Int),(Wz i b c d a)/\∃(e:Int),e=1/\True/\ff (dp (kX e) (dx ((yU i).snd=21/\rN i)) (dp (decide (i.dr<1)) (zKx i) (dp (decide (i.dr>1000000)) (zKx i) (dp a (dx ((yU i).snd=25/\rN i)) (dp (decide (((jw i.b.at_).length:Int)>=250)) (dx ((yU i).snd=13/\rN i)) (∃(g:Bool),∃(h:Bool->Prop),dp (((ab zC i.b.fv).length:Int)==0) (Wh h b c d i) (((0:Int)<=(0:Int)/\0<((ab zC i.b.fv).length:Int))/\∃(j:Int),zD (ab zC i.b.fv) (cm 0) 0 1=aw [dI j]/\∃(k:Et),k.side=1/\V1 k i j h b c d)/\∀(j:Bool),h j->dp j (∃(k:CQ),k.id=i.id/\dl ((1:Int))/\Qe k.b i.b ((eE k)/\ff (∃(m:oH),dl ((1:Int))/\m.dm=i.dm/\m.b.iK=k.id/\m.b.iJ=k.b.iJ/\m.b.gv=au/\m.b.gq=k.b.gq/\ak dv 3 zH m.b.a=ak dv 3 zH (k.b.iW 1)/\QS m.b k.b (ZO m i j)))) (∃(k:oH),dl ((1:Int))/\k.dm=i.dm/\Qe k.b i.b (ZO k i j))))))))
def yS (a:Bn):=(a.b.iC 2 a.id a.dm a.dr)
def zLk (a:oH) (b:Bn) (c:Bool):Prop:=(Wx a)/\ff (True/\∃(e:DH),e.n=(zO a).snd/\e.id=b.id/\e.dr=b.dr/\e.top=c/\ak dv 3 zH e.a=ak dv 3 zH (zO a).fst.a/\(lQ e)/\ff ((∀(g:bu×List D),g∈jw (zO a).fst.at_->mc (ay aj b.id) g.fst=au)/\dx ((yS b).snd=0/\(yS b).fst.iK=(zO a).fst.iK/\(yS b).fst.iJ=(zO a).fst.iJ/\(yS b).fst.gv=(zO a).fst.gv/\(yS b).fst.gq=(zO a).fst.gq/\ak dv 3 zH (yS b).fst.a=ak dv 3 zH (yN e).fst/\ab zC (yS b).fst.fv=ab zC (zO a).fst.fv/\ab zC (yS b).fst.fc=ab zC (zO a).fst.fc/\jw (yS b).fst.at_=gW (ay aj b.id) [dI 2,dI b.dm,dI ((yN e).snd.fst)] (jw (zO a).fst.at_)/\iE (yS b).fst.spare=iE (zO a).fst.spare/\True)))
def rW (a:Bn):Prop:=(yS a).fst.iK=a.b.iK/\(yS a).fst.iJ=a.b.iJ/\(yS a).fst.gv=a.b.gv/\(yS a).fst.gq=a.b.gq/\ak dv 3 zH (yS a).fst.a=ak dv 3 zH a.b.a/\ab zC (yS a).fst.fv=ab zC a.b.fv/\ab zC (yS a).fst.fc=ab zC a.b.fc/\jw (yS a).fst.at_=jw a.b.at_/\iE (yS a).fst.spare=iE a.b.spare/\True
def Z7 (a:Bn):Prop:=dx ((yS a).snd=24/\rW a)
def yTe (i:Bn):Prop:=
 (∀(a:bu×List D),a∈jw i.b.at_->mc (ay aj i.id) a.fst=au)/\∃(a:Bool),∃(b:Int),∃(c:Int),∃(d:Int),(Wz i b c d a)/\∃(e:Int),e=2/\True/\ff (dp (kX e) (dx ((yS i).snd=21/\rW i)) (dp (decide (i.dr<1)) (Z7 i) (dp (decide (i.dr>1000000)) (Z7 i) (dp a (dx ((yS i).snd=25/\rW i)) (dp (decide (((jw i.b.at_).length:Int)>=250)) (dx ((yS i).snd=13/\rW i)) (∃(g:Bool),∃(h:Bool->Prop),dp (((ab zC i.b.fc).length:Int)==0) (Wh h b c d i) (((0:Int)<=(0:Int)/\0<((ab zC i.b.fc).length:Int))/\∃(j:Int),zD (ab zC i.b.fc) (cm 0) 0 1=aw [dI j]/\∃(k:Et),k.side=2/\V1 k i j h b c d)/\∀(j:Bool),h j->dp j (∃(k:CQ),k.id=i.id/\dl ((2:Int))/\Qe k.b i.b ((eE k)/\ff (∃(m:oH),dl ((2:Int))/\m.dm=i.dm/\m.b.iK=k.b.iK/\m.b.iJ=k.id/\m.b.gv=k.b.gv/\m.b.gq=au/\ak dv 3 zH m.b.a=ak dv 3 zH (k.b.iW 2)/\QS m.b k.b (zLk m i j)))) (∃(k:oH),dl ((2:Int))/\k.dm=i.dm/\Qe k.b i.b (zLk k i j))))))))
def zLz (a:HZ):Prop:=ao 1 (iE (gy.iC a).fst.p.dt)=ao 1 (iE a.s.p.dt)/\ao 1 (iE (gy.iC a).fst.p.settle)=ao 1 (iE a.s.p.settle)/\True
def ZR (a:HZ):Prop:=yV (gy.iC a).fst.wh=yV a.s.wh/\zLz a
@[reducible] def Qk (a:HZ)(R:Prop):Prop:=sb (gy.iC a).fst.p.code=sb a.s.p.code/\(gy.iC a).fst.p.tick=a.s.p.tick/\(gy.iC a).fst.p.low=a.s.p.low/\(gy.iC a).fst.p.high=a.s.p.high/\(gy.iC a).fst.p.wide=a.s.p.wide/\(gy.iC a).fst.p.gm=a.s.p.gm/\(gy.iC a).fst.p.top=a.s.p.top/\(gy.iC a).fst.p.least=a.s.p.least/\(gy.iC a).fst.p.part=a.s.p.part/\R
def P3 (a:HZ):Prop:=Qk a (aq 160 dq 6 zR (gy.iC a).fst.eg ax=aq 160 dq 6 zR a.s.eg ax/\ZR a)
def Zg (a:HZ):Prop:=dx ((gy.iC a).snd=20/\P3 a)
def sC (a:BaJ):=(a.i.b.iC (zF a.s) a.i.id a.i.dm a.i.dr)
@[reducible] def DF (a:Int)(b:List dq)(R:Prop):Prop:=a.toNat=a.toNat/\a.toNat<b.length/\R
def y3y (i:HZ):Prop:=
 (∀(a:bu×List D),a∈yV i.s.wh->mc (ay aj i.id) a.fst=au)/\∃(a:Bool),∃(b:Int),(jK (ay aj i.id) (yV i.s.wh)=aw [dI b]/\a=au\/jK (ay aj i.id) (yV i.s.wh)=ax/\[dI b]=[dI 0]/\a=av)/\dp (decide (i.inst>=0)) (dp (!decide (i.inst<(i.s.eg.length:Int))) (Zg i) (dp a (dx ((gy.iC i).snd=25/\P3 i)) (dp (decide (((yV i.s.wh).length:Int)>=250)) (dx ((gy.iC i).snd=13/\P3 i)) (∃(c:A2),Qb c.p i.s.p (c.a=i.inst/\c.b=i.dm/\(qQ c)/\ff (dp (c.p.dm c.a c.b !=0) (dx ((gy.iC i).snd=c.p.dm c.a c.b/\P3 i)) ((0<=i.inst/\i.inst<(i.s.eg.length:Int))/\i.inst.toNat<i.s.eg.length/\∃(e:dq),i.s.eg[i.inst.toNat]?=aw e/\∃(f:BaJ),f.i.id=i.id/\zF f.s=zF i.sd/\f.i.dm=i.dm/\f.i.dr=i.dr/\yA f.i.b=yA e/\((f.i.b.a.du.length<=1000000/\(f.i.b.a.free≠0->∃(g:Slot),g∈f.i.b.a.du/\g.used=av)/\∀(g:aV),g∈f.i.b.a.dy->g.last=(-1)\/0<=g.last/\g.last<(f.i.b.a.du.length:Int))/\f.i.b.a.dy.length<=100000/\f.i.b.fv.length<=100000/\f.i.b.fc.length<=100000/\f.i.b.spare.length<=100000)/\ff (∃(h:dq),yA (sC f).fst=yA h/\DF i.inst i.s.eg (dp ((sC f).snd==0) ((∀(j:bu×List D),j∈yV i.s.wh->mc (ay aj i.id) j.fst=au)/\dx ((gy.iC i).snd=(sC f).snd/\Qk i (aq 160 dq 6 zR (gy.iC i).fst.eg ax=aq 160 dq 6 zR (i.s.eg.set i.inst.toNat h) ax/\yV (gy.iC i).fst.wh=gW (ay aj i.id) [dI i.inst] (yV i.s.wh)/\zLz i))) (dx ((gy.iC i).snd=(sC f).snd/\Qk i (aq 160 dq 6 zR (gy.iC i).fst.eg ax=aq 160 dq 6 zR (i.s.eg.set i.inst.toNat h) ax/\ZR i)))))))))))) (Zg i)
def zQw {α:Type} {f:α->α} {Q:α->Prop} (hf:∀x,Q x->Q (f x)):∀{l:List α} (i:Nat),(∃x∈l,Q x)->∃x∈l.modify i f,Q x
 |[],i,⟨x,hx,_⟩=>by cases hx
 |a::l,0,⟨x,hx,q⟩=>by
  rcases jx.1 hx with rfl|hx
  ·exact⟨f x,iX,hf x q⟩
  ·exact⟨x,ji _ hx,q⟩
 |a::l,i+1,⟨x,hx,q⟩=>by
  rw[RA];rcases jx.1 hx with rfl|hx
  ·exact⟨x,iX,q⟩
  ·obtain⟨y,hy,hq⟩:=zQw hf (l:=l) i ⟨x,hx,q⟩;exact⟨y,ji _ hy,hq⟩
def yTc {a:dv} (h:a.fit) (n:Int) (t:Bool):(a.mi n t).fit:=by
 obtain⟨h1,h2,h3⟩:=h;rw[dv.mi];split
 ·refine⟨i9 h1,λhf=> ?_,i9 h3⟩;exact zQw (f:=λs:Slot=>{s with top:=t}) (Q:=λs=>s.used=av) (λx hx=>hx) _ (h2 hf)
 ·exact⟨h1,h2,h3⟩
def yIy {b:dq} (h:b.a.fit) (s:Int):(b.iW s).fit:=by
 rw[dq.iW]
 repeat' split
 all_goals first|exact h|exact yTc h _ _
def yJn {a:dv} (h:a.fit):a.ru.fit:=by
 obtain⟨h1,h2,h3⟩:=h;refine⟨h1,h2,λq hq=> ?_⟩;rcases oK.1 hq with hq|hq
 ·exact h3 q hq
 ·rw[ua.1 hq];exact .inl rfl
def z4a {b:dq} (h:b.a.fit):b.iT.2.2.fit:=by
 rw[dq.iT];split
 ·exact yJn h
 ·exact h
def tP {b:dq} (h:b.a.fit) (s p:Int):(b.gf s p).1.a.fit:=by
 rw[dq.gf]
 repeat' split
 ·exact h
 ·exact z4a h
 ·exact z4a h
def yJu (b:dq) (s:Int):(b.iW s).du.length=b.a.du.length/\(b.iW s).dy=b.a.dy:=by
 have ht:∀n t,(b.a.mi n t).du.length=b.a.du.length/\(b.a.mi n t).dy=b.a.dy:=by
  intro n t;rw[dv.mi];split
  ·exact⟨by simp,rfl⟩
  ·exact⟨rfl,rfl⟩
 rw[dq.iW]
 repeat' split
 all_goals first|exact⟨rfl,rfl⟩|exact ht _ _
def zXr {b:dq} (h:b.fit) (id s:Int):(b.jj id s).fit:=by
 obtain⟨h1,h2,h3,h4,h5⟩:=h;have hl:=yJu b s;rw[dq.jj];split
 all_goals exact⟨yIy h1 s,by rw[hl.2];exact h2,h3,h4,h5⟩
def zXp {b:dq} (h:b.fit):b.small:=by
 obtain⟨⟨h1,_⟩,h2,h3,h4,h5⟩:=h;exact⟨⟨h1,oM⟩,oM,oM,oM⟩
def y5z (i:Bn) (h:G3.dp i):yPo i:=by
 have td:i.b.fit:=h;have qy:=zXp td;unfold yPo QS ff dx Qe zKx dx rN Wh V1 ff Wl QP kX ZO ff dx zP yU lQ Wx yN eE Q0 Wz dI;have FM:∀(b:dq) (x:Int),gW (ay aj i.id) [D.v (.int .i64 1),D.v (.int .i64 i.dm),D.v (.int .i64 x)] (jw b.at_)=jw (tT i.id ⟨1,i.dm,x⟩ b.at_):=λb x=>z0c i.id ⟨1,i.dm,x⟩ b.at_
 refine⟨vA _ _,(ld i.b.at_ i.id).isSome,_,_,_,ND _ _,1,rfl,trivial,λ_ _=> ?_⟩;refine Cv.dp.mk (λc=>absurd c Z8) λ_=> ?_
 refine zG (λc=> ?_) (λc=>zG (λd=> ?_) (λd=> ?_))
 ·have ha:i.b.iC 1 i.id i.dm i.dr=(i.b,24):=by rw[dq.iC,fh (.inl c)]
  rw[ha];exact kp
 ·have ha:i.b.iC 1 i.id i.dm i.dr=(i.b,24):=by rw[dq.iC,fh (.inr d)]
  rw[ha];exact kp
 have hq:¬(i.dr<1\/1000000<i.dr):=by omega
 refine Cv.dp.mk (λe=> ?_) (λe=> ?_)
 ·have ha:i.b.iC 1 i.id i.dm i.dr=(i.b,25):=by rw[dq.iC,ez hq,fh e]
  rw[ha];exact kp
 have hlen:(jw i.b.at_).length=i.b.at_.length:=by simp[jw]
 rw[hlen];refine zG (λf=> ?_) (λf=> ?_)
 ·have ha:i.b.iC 1 i.id i.dm i.dr=(i.b,13):=by rw[dq.iC,ez hq,ez (by rw[e];decide),fh (by omega)]
  rw[ha];exact kp
 have ha:i.b.iC 1 i.id i.dm i.dr=(i.b.pw 1 i.id i.dm i.dr,0):=by rw[dq.iC,ez hq,ez (by rw[e];decide),ez (by omega)]
 rw[ha];simp only[ia];refine⟨au,λx=>x=i.b.leads 1 i.dm,Cv.dp.mk (λg=>⟨au,rfl,?_,gn⟩) (λg=> ?_),λx hx=> ?_⟩
 ·have:i.b.fv=[]:=xq (by have:(i.b.fv.length:Int)=0:=(i9 g);omega);rw[dq.leads,eQ,this]
 ·obtain⟨r,l,hl⟩:∃r l,i.b.fv=r::l:=by
   cases hb:i.b.fv with
   |nil=>rw[hb]at g;exact absurd g Z8
   |cons r l=>exact⟨r,l,rfl⟩
  refine⟨⟨oM,by rw[hl,iF];omega⟩,r.dm,jz (x:=r) (by rw[hl];rfl) (by simp[zC]) rfl,⟨1,i.dm,r.dm⟩,rfl,rfl,rfl,trivial,λ_ _=>⟨_,rfl,?_,gn⟩⟩;rw[dq.leads,eQ,hl]
 subst hx;refine Cv.dp.mk (λg=> ?_) (λg=> ?_)
 ·have CZ:i.b.qv i.id 1 i.dm=i.b.jj i.id 1:=by rw[dq.qv,fh g]
  have Sv:=zXr td i.id 1;have lp:i.b.pw 1 i.id i.dm i.dr={((i.b.jj i.id 1).gf 1 i.dm).1 with a:=(((i.b.jj i.id 1).gf 1 i.dm).1.a.push ((i.b.jj i.id 1).gf 1 i.dm).2 i.id i.dr (i.b.leads 1 i.dm)).1,at_:=tT i.id ⟨1,i.dm,(((i.b.jj i.id 1).gf 1 i.dm).1.a.push ((i.b.jj i.id 1).gf 1 i.dm).2 i.id i.dr (i.b.leads 1 i.dm)).2.1⟩ ((i.b.jj i.id 1).gf 1 i.dm).1.at_}:=by
   simp only[dq.pw,CZ]
  refine⟨⟨i.b,i.id⟩,rfl,trivial,iA ⟨rfl,qy,λ_ _=>⟨⟨i.b.jj i.id 1,i.dm⟩,trivial,nr (iM ⟨rfl,Sv,λ_ _=>⟨trivial,?_⟩⟩)⟩⟩⟩;refine⟨⟨((i.b.jj i.id 1).gf 1 i.dm).1.a,((i.b.jj i.id 1).gf 1 i.dm).2,i.id,i.dr,i.b.leads 1 i.dm⟩,nf ⟨rfl,tP Sv.1 1 i.dm,λ_ _=>⟨vA _ _,(),?_⟩⟩⟩;dsimp only;rw[lp,FM];exact kp
 ·have CZ:i.b.qv i.id 1 i.dm=i.b:=by rw[dq.qv,ez (by rw[g];decide)]
  have lp:i.b.pw 1 i.id i.dm i.dr={(i.b.gf 1 i.dm).1 with a:=((i.b.gf 1 i.dm).1.a.push (i.b.gf 1 i.dm).2 i.id i.dr (i.b.leads 1 i.dm)).1,at_:=tT i.id ⟨1,i.dm,((i.b.gf 1 i.dm).1.a.push (i.b.gf 1 i.dm).2 i.id i.dr (i.b.leads 1 i.dm)).2.1⟩ (i.b.gf 1 i.dm).1.at_}:=by
   simp only[dq.pw,CZ]
  refine⟨⟨i.b,i.dm⟩,trivial,nr (iM ⟨rfl,td,λ_ _=>⟨trivial,?_⟩⟩)⟩;refine⟨⟨(i.b.gf 1 i.dm).1.a,(i.b.gf 1 i.dm).2,i.id,i.dr,i.b.leads 1 i.dm⟩,nf ⟨rfl,tP td.1 1 i.dm,λ_ _=>⟨vA _ _,(),?_⟩⟩⟩;dsimp only;rw[lp,FM];exact kp
def yPj:G3.ok Tryz.prog 166:=gx mixed (dw JK (dw nS (dw yNy (dw yKq (dw z4l fk))))) 0 (λ_=>y3h) i6 [0] Tryz.func166 y5z
def y8m (i:Bn) (h:G2.dp i):yTe i:=by
 have td:i.b.fit:=h;have qy:=zXp td;unfold yTe QS ff dx Qe Z7 dx rW zLk ff dx zO yS lQ Wx yN Wh V1 ff Wl QP kX eE Q0 Wz dI;have FM:∀(b:dq) (x:Int),gW (ay aj i.id) [D.v (.int .i64 2),D.v (.int .i64 i.dm),D.v (.int .i64 x)] (jw b.at_)=jw (tT i.id ⟨2,i.dm,x⟩ b.at_):=λb x=>z0c i.id ⟨2,i.dm,x⟩ b.at_
 refine⟨vA _ _,(ld i.b.at_ i.id).isSome,_,_,_,ND _ _,2,rfl,trivial,λ_ _=> ?_⟩;refine Cv.dp.mk (λc=>absurd c Z8) λ_=> ?_
 refine zG (λc=> ?_) (λc=>zG (λd=> ?_) (λd=> ?_))
 ·have ha:i.b.iC 2 i.id i.dm i.dr=(i.b,24):=by rw[dq.iC,fh (.inl c)]
  rw[ha];exact kp
 ·have ha:i.b.iC 2 i.id i.dm i.dr=(i.b,24):=by rw[dq.iC,fh (.inr d)]
  rw[ha];exact kp
 have hq:¬(i.dr<1\/1000000<i.dr):=by omega
 refine Cv.dp.mk (λe=> ?_) (λe=> ?_)
 ·have ha:i.b.iC 2 i.id i.dm i.dr=(i.b,25):=by rw[dq.iC,ez hq,fh e]
  rw[ha];exact kp
 have hlen:(jw i.b.at_).length=i.b.at_.length:=by simp[jw]
 rw[hlen];refine zG (λf=> ?_) (λf=> ?_)
 ·have ha:i.b.iC 2 i.id i.dm i.dr=(i.b,13):=by rw[dq.iC,ez hq,ez (by rw[e];decide),fh (by omega)]
  rw[ha];exact kp
 have ha:i.b.iC 2 i.id i.dm i.dr=(i.b.pw 2 i.id i.dm i.dr,0):=by rw[dq.iC,ez hq,ez (by rw[e];decide),ez (by omega)]
 rw[ha];simp only[ia];refine⟨au,λx=>x=i.b.leads 2 i.dm,Cv.dp.mk (λg=>⟨au,rfl,?_,gn⟩) (λg=> ?_),λx hx=> ?_⟩
 ·have:i.b.fc=[]:=xq (by have:(i.b.fc.length:Int)=0:=(i9 g);omega);rw[dq.leads,lC,this]
 ·obtain⟨r,l,hl⟩:∃r l,i.b.fc=r::l:=by
   cases hb:i.b.fc with
   |nil=>rw[hb]at g;exact absurd g Z8
   |cons r l=>exact⟨r,l,rfl⟩
  refine⟨⟨oM,by rw[hl,iF];omega⟩,r.dm,jz (x:=r) (by rw[hl];rfl) (by simp[zC]) rfl,⟨2,i.dm,r.dm⟩,rfl,rfl,rfl,trivial,λ_ _=>⟨_,rfl,?_,gn⟩⟩;rw[dq.leads,lC,hl]
 subst hx;refine Cv.dp.mk (λg=> ?_) (λg=> ?_)
 ·have CZ:i.b.qv i.id 2 i.dm=i.b.jj i.id 2:=by rw[dq.qv,fh g]
  have Sv:=zXr td i.id 2;have lp:i.b.pw 2 i.id i.dm i.dr={((i.b.jj i.id 2).gf 2 i.dm).1 with a:=(((i.b.jj i.id 2).gf 2 i.dm).1.a.push ((i.b.jj i.id 2).gf 2 i.dm).2 i.id i.dr (i.b.leads 2 i.dm)).1,at_:=tT i.id ⟨2,i.dm,(((i.b.jj i.id 2).gf 2 i.dm).1.a.push ((i.b.jj i.id 2).gf 2 i.dm).2 i.id i.dr (i.b.leads 2 i.dm)).2.1⟩ ((i.b.jj i.id 2).gf 2 i.dm).1.at_}:=by
   simp only[dq.pw,CZ]
  refine⟨⟨i.b,i.id⟩,rfl,trivial,iA ⟨rfl,qy,λ_ _=>⟨⟨i.b.jj i.id 2,i.dm⟩,trivial,nr (iM ⟨rfl,Sv,λ_ _=>⟨trivial,?_⟩⟩)⟩⟩⟩;refine⟨⟨((i.b.jj i.id 2).gf 2 i.dm).1.a,((i.b.jj i.id 2).gf 2 i.dm).2,i.id,i.dr,i.b.leads 2 i.dm⟩,nf ⟨rfl,tP Sv.1 2 i.dm,λ_ _=>⟨vA _ _,(),?_⟩⟩⟩;dsimp only;rw[lp,FM];exact kp
 ·have CZ:i.b.qv i.id 2 i.dm=i.b:=by rw[dq.qv,ez (by rw[g];decide)]
  have lp:i.b.pw 2 i.id i.dm i.dr={(i.b.gf 2 i.dm).1 with a:=((i.b.gf 2 i.dm).1.a.push (i.b.gf 2 i.dm).2 i.id i.dr (i.b.leads 2 i.dm)).1,at_:=tT i.id ⟨2,i.dm,((i.b.gf 2 i.dm).1.a.push (i.b.gf 2 i.dm).2 i.id i.dr (i.b.leads 2 i.dm)).2.1⟩ (i.b.gf 2 i.dm).1.at_}:=by
   simp only[dq.pw,CZ]
  refine⟨⟨i.b,i.dm⟩,trivial,nr (iM ⟨rfl,td,λ_ _=>⟨trivial,?_⟩⟩)⟩;refine⟨⟨(i.b.gf 2 i.dm).1.a,(i.b.gf 2 i.dm).2,i.id,i.dr,i.b.leads 2 i.dm⟩,nf ⟨rfl,tP td.1 2 i.dm,λ_ _=>⟨vA _ _,(),?_⟩⟩⟩;dsimp only;rw[lp,FM];exact kp
def yTs:G2.ok Tryz.prog 166:=gx mixed (dw JK (dw nS (dw yNs (dw yJj (dw z4l fk))))) 0 (λ_=>y3h) i6 [0] Tryz.func166 y8m
def yYq:UB.ok Tryz.prog 166:=λj=>match j with
 |⟨i,av⟩=>yPj i
 |⟨i,au⟩=>yTs i
def xBt (i:HZ) (h:KH.dp i):y3y i:=by
 obtain⟨hp,zz,hb⟩:i.s.fit:=h;unfold y3y Qb DF ff dx Qk Zg dx P3 Qk sC ZR zLz qQ o8 dI;simp only[z4y];have uk:(yV i.s.wh).length=i.s.wh.length:=by simp[yV]
 rw[uk];have out (e:i.inst<0\/i.s.eg.length<=i.inst):gy.iC i=(i.s,20):=by rw[gy.iC,fh e]
 refine⟨bV _ _,(CD i.s.wh i.id).isSome,_,y8y _ _,zG (λc=>Cv.dp.mk (λd=> ?_) (λd=> ?_)) (λc=> ?_)⟩
 ·have d:¬i.inst<(i.s.eg.length:Int):=i9 d
  rw[out (.inr (by omega))];exact kp
 ·have d:i.inst<(i.s.eg.length:Int):=i9 d
  have hn:¬(i.inst<0\/(i.s.eg.length:Int)<=i.inst):=by omega
  refine Cv.dp.mk (λe=> ?_) (λe=>zG (λf=> ?_) (λf=> ?_))
  ·rw[gy.iC,ez hn,fh e];exact kp
  ·rw[gy.iC,ez hn,ez (by rw[e];decide),fh (by omega)];exact kp
  ·refine⟨⟨i.s.p,i.inst,i.dm⟩,iA (nf ⟨rfl,hp,λ_ _=>Cv.dp.mk (λg=> ?_) (λg=> ?_)⟩)⟩
   ·have g:i.s.p.dm i.inst i.dm≠0:=i9 g
    rw[gy.iC,ez hn,ez (by rw[e];decide),ez (by omega),fh g];exact kp
   ·have g:i.s.p.dm i.inst i.dm=0:=i9 g
    obtain⟨x,hx⟩:=zZ (l:=i.s.eg) (i:=i.inst.toNat) oM;have hba:i.s.AS i.inst=x:=zX hx;have ha:gy.iC i=({i.s with eg:=i.s.eg.set i.inst.toNat (x.iC (zF i.sd) i.id i.dm i.dr).1,wh:=if(x.iC (zF i.sd) i.id i.dm i.dr).2=0 then JN i.id i.inst i.s.wh else i.s.wh},(x.iC (zF i.sd) i.id i.dm i.dr).2):=by
     rw[gy.iC,ez hn,ez (by rw[e];decide),ez (by omega),ez (by simp[g])];simp only[hba]
    refine⟨⟨oM,oM⟩,oM,x,hx,⟨⟨x,i.id,i.dm,i.dr⟩,i.sd⟩,nf ⟨rfl,hb x (lh hx),λ_ _=>⟨(x.iC (zF i.sd) i.id i.dm i.dr).1,rfl,trivial,oM,Cv.dp.mk (λz=>⟨bV _ _,?_⟩) (λz=> ?_)⟩⟩⟩
    ·have z:(x.iC (zF i.sd) i.id i.dm i.dr).2=0:=i9 z
     rw[ha,z];simp only[if_true];exact kp
    ·have z:¬(x.iC (zF i.sd) i.id i.dm i.dr).2=0:=i9 z
     rw[ha,ez z];exact kp
 ·rw[out (.inl (by omega))];exact kp
def y1g:KH.ok Tryz.prog 90:=gx mixed (dw PS (dw yYq fk)) 1 i6 i6 [0] Tryz.func90 xBt
def DV:gh:=fp i4 (λs=>[sV s]) i6 (λs=>s.length<=1099511627776) (λs=>yL (vL s)) i6
def yYr (s:i4):List gr:=[{ι:=Nat×Nat,du:=λx=>[(3,zB x.2),(7,.nm 0 0)],rows:=λx=>[.iter (sb s) x.1]}]
def yZb:List (Nat×gr):=[(20,bj 29)]
def B4:gh:=fp fj (λp=>[nt p]) i6 fj.small (λp=>zB p.check) i6
def yOf:List gr:=[{ι:=Nat,du:=λj=>[(3,zB j)],rows:=λ_=>[]},{ι:=Nat,du:=λj=>[(4,zB j)],rows:=λ_=>[]},{ι:=Nat,du:=λj=>[(5,zB j)],rows:=λ_=>[]}]
def yQj:List (Nat×gr):=[(12,bj 19),(32,bj 58),(40,bj 90),(68,bj 136),(96,bj 168),(104,bj 176),(112,bj 204)]
def B2:gh:=fp fj (λp=>[nt p]) i6 fj.small (λp=>zB p.count) i6
def DU:gh:=fp aP (λi=>[nt i.p,zB i.n]) i6 (λi=>i.p.small) (λi=> .je [zB (i.p.gp i.n).1,zB (i.p.gp i.n).2.1,yL (i.p.gp i.n).2.2]) i6
def yYl (i:aP):List gr:=[{ι:=Nat,du:=λm=>[(8,zB (yQ i.p.dt.length m)),(9,zB m)],rows:=λ_=>[]},
 {ι:=Nat×Nat,du:=λm=>[(8,zB ((yQ i.p.dt.length m.1+m.2:Nat):Int)),(9,zB m.1),(10,zB ((m.1+1+m.2:Nat):Int))],rows:=λ_=>[]}]
def kN (x:fj):Int:=2+zI x.dt.length 0 3
def zW (x:fj):Int:=1+zI x.tick 0 9
def qU (n:Nat):List Int:=(af n).map λ(i:Nat)=>10*(i:Int)+3
def jA (t:Int) (n:Nat):List Int:=(af n).map λ(i:Nat)=>t*(10+(i:Int))
def ig (x:fj):fj:=⟨[206,169],qU (kN x).toNat,zW x,-20*zW x,100*zW x,zW x*(5+zI x.wide 0 60),1+zI x.gm 0 2,zI x.top 0 9,1+zI x.least 0 4,zI x.part 0 100,jA (zW x) (kN x).toNat⟩
@[reducible] def fj.raw (x:fj):Prop:=yP x.tick/\yP x.wide/\yP x.gm/\yP x.top/\yP x.least/\yP x.part/\x.dt.length<=9223372036854775807
def C5:gh:=fp fj (λx=>[nt x]) i6 fj.raw (λx=>nt (ig x)) i6
def xJl (x:fj) (w:Int) (j:Nat):List fq:=[.cells [sV [206,169],.own 1,zB (zW x),zB (-20*zW x),zB (100*zW x),zB w,zB (1+zI x.gm 0 2),zB (zI x.top 0 9),zB (1+zI x.least 0 4),zB (zI x.part 0 100),.own 2] 25,.own 3 1 (iE (qU j)),.own 2 1 (iE (jA (zW x) j))]
def xCh (x:fj):List fq:=[.cells [sV [206,169],.d (.v (.slice ax 0 0)),zB (zW x),zB (-20*zW x),zB (100*zW x),zB 0,zB (1+zI x.gm 0 2),zB (zI x.top 0 9),zB (1+zI x.least 0 4),zB (zI x.part 0 100),.d (.v (.slice ax 0 0))] 25]
def y8r (x:fj):List gr:=[{ι:=Nat,du:=λj=>[(5,.nm 0 0),(6,zB j)],rows:=λj=>xJl x (zW x*(5+zI x.wide 0 60)) j}]
def y4t (x:fj):List (Nat×gr):=[(12,{ι:=Unit,du:=λ_=>[(5,.nm 0 0)],oP:=λ_=>[],lq:=λ_=>[],rows:=λ_=>xCh x})]
end Sx
