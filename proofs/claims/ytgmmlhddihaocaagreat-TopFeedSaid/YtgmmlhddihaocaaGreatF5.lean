/- Texts of ours. No condition. -/
import Derived.Laws.AppendOwn
import Derived.Lib.AppendZerosOnto
import Derived.Lib.Overlaps
import Derived.Test.YtgmmlhddihaocaaGreatF4
set_option linter.all false
open Go.IntKind renaming i64->ab
open Go.Builtin renaming zeroCells->ac,copy_->ae,firstCells->af,append_->ag
open List renaming map->aj,take->ak,drop->am,drop_length->ao
open Exists renaming intro->ap
open Option renaming some->aq,none->ar
open Bool renaming true->au,false->av
open And renaming intro->aw
open Go renaming World->ax,Value->ay,Program->az,Addr->ba,size_zeroCells->bc
open Go.Value renaming int->be
open Int renaming tmod_eq_emod_of_nonneg->bg
namespace Sx
set_option maxRecDepth 100000
open Go Cv Go.Proofs
def yAx {l:List Quote} {q:Quote} (s:Int) (h:l[0]? =aq q):(zZ (l.take (max 0 1)) s).1=q:=by
 cases l with
 |nil=>simp at h
 |cons a l=>simp at h;subst h;rfl
def z8h {l:List Quote} {j:Nat} {q:Quote} (s:Int) (h:l[j]? =aq q):
 (zZ (l.take (max (j+1) 1)) s).1=if je s q.dm (zZ (l.take (max j 1)) s).1.dm then q else(zZ (l.take (max j 1)) s).1:=by
 cases l with
 |nil=>simp at h
 |cons a l=>
  cases j with
  |zero=>simp at h;subst h;simp[zZ]
  |succ m=>
   simp only[Bd]at h;rw[show max (m+1+1) 1=(m+1)+1 by omega,show max (m+1) 1=m+1 by omega,ux,ux,qx,h];simp only[zZ,Cb,JK];rfl
def yIp {l:List Quote} (s:Int) (h:l≠[]):(zZ l s).2=au:=by
 cases l with
 |nil=>exact absurd rfl h
 |cons a l=>rfl
def y5h (i:zz) (h:GV.dp i):yMc i:=by
 obtain⟨hs,hl⟩:(i.s=1\/i.s=2)/\i.l.length<=1000000:=h;unfold yMc zKu fa dx uU yI zHd zFn dx dI;simp only[gy];refine Cv.dp.mk (λc=> ?_) (λc=> ?_)
 ·have e:i.l=[]:=xu (by have:(i.l.length:Int)=0:=(by simpa using c);omega);rw[e];exact kp
 have h0:0<i.l.length:=by
  rcases Nat.eq_zero_or_pos i.l.length with h|h
  ·rw[h]at c;exact absurd c Z8
  ·exact h
 have jr:i.l≠[]:=by intro e;rw[e]at h0;simp at h0
 have two:=yIp i.s jr;obtain⟨q,hq⟩:=z6 h0;have b0:=yAx i.s hq;have fin:(zZ (i.l.take (max i.l.length 1)) i.s).1=(zZ i.l i.s).1:=by
  rw[mo (by omega)]
 have step:∀j:Nat,j<i.l.length->∀x:Quote,i.l[j]? =aq x->(je i.s x.dm (zZ (i.l.take (max j 1)) i.s).1.dm=au->(zZ (i.l.take (max (j+1) 1)) i.s).1=x)/\(je i.s x.dm (zZ (i.l.take (max j 1)) i.s).1.dm=av->(zZ (i.l.take (max (j+1) 1)) i.s).1=(zZ (i.l.take (max j 1)) i.s).1):=λj hj x hx=>by
  have:=z8h i.s hx;constructor
  ·intro e;rw[this,fc e]
  ·intro e;rw[this,eg (by rw[e];simp)]
 refine Cv.dp.mk (λc1=>Cv.dp.mk (λc2=> ?_) (λc2=> ?_)) (λc1=> ?_)
 ·exfalso;have c1:i.s≠1:=by simpa using c1
  have c2:i.s≠2:=by simpa using c2
  omega
 all_goals
  refine⟨⟨oM,oM⟩,q.dm,q.dr,q.a.inst,q.a.side,q.b.inst,q.b.side,ju hq (by simp[zL]) rfl,0,?_⟩;rw[b0]
  (repeat'(first|exact rfl|exact trivial|assumption|apply aw|refineλ(_:Unit) (_:True)=>?_|refine ap () ?_|omega|(dsimp only;omega)))
  refine⟨λj=>j<=i.l.length,λj=>i.l.length-j,oM,λj hj=>zH (λgn=> ?_) (λgn=> ?_)⟩
  ·have ov:j<i.l.length:=by omega
   obtain⟨x,hx⟩:=z6 ov;obtain⟨st,sf⟩:=step j ov x hx;refine⟨⟨oM,oM⟩,x.dm,x.dr,x.a.inst,x.a.side,x.b.inst,x.b.side,ju hx (by simp[zL]) rfl,⟨i.s,x.dm,_⟩,rfl,rfl,rfl,trivial,λ_ _=>Cv.dp.mk (λe=>⟨j+1,by rw[iq (by omega)];rfl,?_⟩) (λe=>⟨j+1,by rw[iq (by omega)];rfl,?_⟩)⟩
   ·rw[st e];exact kp
   ·rw[sf e];exact kp
  ·have hj:j<=i.l.length:=hj;obtain rfl:j=i.l.length:=by omega
   rw[fin,two];exact kp
def z6c:GV.ok Tryz.prog 61:=gu mixed (dw z8e fg) 0 (λ_=>[]) (λi=>y9u i) [] Tryz.func61 y5h
def Ps (fh:List jv) (a b:Co) (less:Bool):(xm fh a b less).length<=1:=by
 unfold xm;dsimp only;split<;>split<;>simp
def z0e {α:Type} {f:Nat->List α} (h:∀k,(f k).length<=1):∀n,((List.range n).flatMap f).length<=n
 |0=>by simp
 |n+1=>by
  rw[JI,yu,iv];have:=z0e h n;have:=h n;simp only[vi,LD,oJ];omega
def zGc (i:cV) (s:Int) (k:Nat):(jK i s k).length<=k:=z0e (λ_=>Ps _ _ _ _) k
def lF (i:cV) (s:Int) (k:Nat):(wH i s k).length<=k:=z0e (λ_=>Ps _ _ _ _) k
def Vg (i:cV) (s:Int):(kX i s).length<=100:=by
 unfold kX;split
 ·simp
 ·rename_i h;have hc:=xF i.p;have m6:=(jE (PC (p:=i.p) oM)).m6;split
  ·rw[gy];have:=Ps i.fh ⟨(i.p.gj i.inst).2.1,3-s⟩ ⟨(i.p.gj i.inst).1,s⟩ au;have e:(yW i s).length<=1:=this;omega
  ·rw[iv];have h1:=zGc i s (i.p.dt.length-(i.inst.toNat+1));have h2:=lF i s i.inst.toNat;omega
def yXg (j:Br) (h:DO.dp j):yFy j:=by
 unfold yFy Qb fa dx zGd Bi fZ wD kJ o7 gO qQ o7 dI;obtain⟨hp,ht,hr⟩:j.i.p.small/\vU j.i.fh:=h;obtain⟨h1,h2,h3⟩:=hp;have hl:=Vg j.i (zE j.s);refine⟨j,?_⟩;simp only[gy]
 (repeat'(first|exact rfl|exact trivial|assumption|apply aw|refineλ(_:Unit) (_:True)=>?_|refine ap () ?_|omega|(dsimp only;omega)))
 refine⟨0,rfl,rfl,λk=>k<=(kX j.i (zE j.s)).length,λk=>(kX j.i (zE j.s)).length-k,oM,λk hk=>zH (λgn=> ?_) (λgn=> ?_)⟩
 ·have pj:k<(kX j.i (zE j.s)).length:=by omega
  obtain⟨q,hq⟩:=z6 pj;have hf:(List.filter (λq=>decide (j.i.p.dm j.i.inst q.dm=0)) (ak k (kX j.i (zE j.s)))).length<=100:=by
   have:=Ij (λq:Quote=>decide (j.i.p.dm j.i.inst q.dm=0)) (ak k (kX j.i (zE j.s)));rw[ng]at this;omega
  refine⟨⟨oM,oM⟩,q.dm,q.dr,q.a.inst,q.a.side,q.b.inst,q.b.side,ju hq (by simp[zL]) rfl,⟨j.i.p,j.i.inst,q.dm⟩,?_⟩
  (repeat'(first|exact rfl|exact trivial|assumption|apply aw|refineλ(_:Unit) (_:True)=>?_|refine ap () ?_|omega|(dsimp only;omega)))
  refine Cv.dp.mk (λc=>⟨oM,k+1,by rw[iq (by omega)];rfl,?_⟩) (λc=>⟨k+1,by rw[iq (by omega)];rfl,?_⟩)
  ·have c:j.i.p.dm j.i.inst q.dm=0:=by simpa using c
   rw[qx,hq,Cb,Df,Ro (by simpa using c),jl];exact kp
  ·have c:¬j.i.p.dm j.i.inst q.dm=0:=by simpa using c
   rw[qx,hq,Cb,Df,Rn (by simpa using c),List.filter_nil,oJ];exact kp
 ·have hk:k<=(kX j.i (zE j.s)).length:=hk;obtain rfl:k=(kX j.i (zE j.s)).length:=by omega
  rw[mo (lh _)];exact kp
def yKg:∀n≤6,∀a<n,∀b<n,a<b->0<=(yP n a:Int)+b-a-1/\(yP n a:Int)+b-a-1<((n+n*(n-1) / 2:Nat):Int):=by decide
def mI {p:ff} (hc:p.check=0) {a b:Nat} (Ds:a<b) (hb:b<p.dt.length):0<=(p.spread a b).1/\(p.spread a b).1<p.count:=by
 have m6:=(jE hc).m6;have:=yKg p.dt.length m6 a oM b hb Ds;rw[ff.spread,eg (by omega),ff.count,fc hc];simpa using this
def yXi:∀n≤6,∀k<n+n*(n-1) / 2,n<=k->(jS n k n 0).2.2=au/\0<=(jS n k n 0).1/\(jS n k n 0).1<n/\0<=(jS n k n 0).2.1/\(jS n k n 0).2.1<n:=by decide
def dC {p:ff} (hc:p.check=0) {k:Nat} (hk:k<p.count):((p.gj k).2.2=au/\0<=(p.gj k).1/\(p.gj k).1<p.dt.length/\0<=(p.gj k).2.1/\(p.gj k).2.1<p.dt.length)\/((p.gj k).2.2=av/\k<p.dt.length):=by
 have m6:=(jE hc).m6;have pj:=hk;rw[ff.count,fc hc]at pj;by_cases h:k<p.dt.length
 ·right;rw[ff.gj,eg (by omega),fc (by omega)];exact⟨rfl,h⟩
 ·left;rw[ff.gj,eg (by omega),eg (by omega)];exact yXi p.dt.length m6 k pj oM
def Vq {p:ff} (hc:p.check=0):p.dt.length<=p.count:=by
 rw[ff.count,fc hc];omega
def z5e {i:cV} {s:Int} {k:Nat} (hk:k<(yW i s).length):aj zL (aj (aQ i s) (ak (k+1) (yW i s))++am (k+1) (yW i s))=
 zJ (aj zL (aj (aQ i s) (ak k (yW i s))++am k (yW i s))) k (0+2) [D.v (.int .i64 (i.p.gj i.inst).1),D.v (.int .i64 s),D.v (.int .i64 (i.p.gj i.inst).2.1),D.v (.int .i64 (3-s))]:=by
 obtain⟨q,hq⟩:=z6 hk;rw[zXv (a:=aj zL (aj (aQ i s) (ak k (yW i s)))) (b:=aj zL (am (k+1) (yW i s))) (x:=zL q) (y:=zL (aQ i s q)) (by
  rw[jl,CD hk,(jf.1 hq).2,jj]) (by simp;omega) rfl]
 rw[qx,hq,Cb,jl,jl,jl,jj,B9,jj,B9,iY];rfl
def xDu (i:cV) (h:KX.dp i):y0p i:=by
 unfold y0p Qb OK X8 fa dx zW o7 Vk VC uB sN V9 sB j8 o7 qQ o7 VK hJ dF gO mJ Bi dI;obtain⟨⟨h1,h2,h3⟩,ht,hr⟩:i.p.small/\vU i.fh:=h;have si:vU i.fh:=⟨ht,hr⟩
 refine⟨i.p,?_⟩;simp only[gy,y8]
 (repeat'(first|exact rfl|exact trivial|assumption|apply aw|refineλ(_:Unit) (_:True)=>?_|refine ap () ?_|omega|(dsimp only;omega)))
 have bad (hb:i.p.count=0\/(i.fh.length:Int)≠i.p.count\/i.inst<0\/(i.p.count:Int)<=i.inst):∃(o:Unit),aj zL (kX i 1)=[]/\True:=⟨(),by rw[kX,fc hb];rfl,trivial⟩
 refine Cv.dp.mk (λc1=>bad (.inl (by have c1:(i.p.count:Int)=0:=(by simpa using c1);omega))) λc1=>Cv.dp.mk (λc2=>bad (.inr (.inl (by simpa using c2)))) λc2=>zH (λc3=>bad oM) λc3=>zH (λc4=>bad oM) λc4=>⟨⟨i.p,i.inst⟩,?_⟩
 have c1:i.p.count≠0:=by
  have c1:¬(i.p.count:Int)=0:=(by simpa using c1)
  omega
 have c2:(i.fh.length:Int)=i.p.count:=by simpa using c2
 have c4:i.inst<(i.p.count:Int):=by
  have c4:¬i.inst>=(i.p.count:Int):=c4;omega
 have hc:=PC c1;have hm:=Vq hc;have e0:kX i 1=if(i.p.gj i.inst).2.2 then(yW i 1).map (aQ i 1)else jK i 1 (i.p.dt.length-(i.inst.toNat+1))++wH i 1 i.inst.toNat:=by
  rw[kX,eg (by omega)]
 obtain⟨k,hk⟩:∃k:Nat,i.inst=k:=⟨i.inst.toNat,oM⟩
 have hl:=dC hc (k:=k) oM;rw[<- hk]at hl
 (repeat'(first|exact rfl|exact trivial|assumption|apply aw|refineλ(_:Unit) (_:True)=>?_|refine ap () ?_|omega|(dsimp only;omega)))
 refine Cv.dp.mk (λc5=> ?_) (λc5=> ?_)
 ·have c5:(i.p.gj i.inst).2.2=au:=c5;rw[e0,fc c5];rcases hl with⟨_,l1,l2,l3,l4⟩|⟨l1,_⟩
  ·have yo:(yW i 1).length<=1:=Ps _ _ _ _;refine⟨1,rfl,oM,λ_ _=>⟨⟨⟨i.fh,[],(i.p.gj i.inst).2.1,(i.p.gj i.inst).1,au⟩,au,av⟩,ni ⟨rfl,⟨l3,Z9,l1,Z9,si,by simp⟩,λ_ _=>⟨0,rfl,rfl,rfl,λj=>j<=(yW i 1).length,λj=>(yW i 1).length-j,oM,?_⟩⟩⟩⟩;intro j hj;have hj:j<=(yW i 1).length:=hj;have hL:(aj (aQ i 1) (ak j (yW i 1))++am j (yW i 1)).length=(yW i 1).length:=by simp;omega
   refine zH (λgn=> ?_) (λgn=> ?_)
   ·have gn:(j:Int)<((yW i 1).length:Int):=gn;refine⟨⟨oM,by rw[hL];omega⟩,by rw[hL];omega,j+1,by rw[iq (by omega)];rfl,kp,?_,?_⟩
    ·exact z5e (i:=i) (s:=1) oM
    ·exact kp
   ·have gn:¬(j:Int)<((yW i 1).length:Int):=gn;obtain rfl:j=(yW i 1).length:=by omega
    rw[mo (lh _),ao,oJ];exact kp
  ·rw[c5]at l1;cases l1
 ·have c5:(i.p.gj i.inst).2.2=av:=c5;rw[e0,eg (by rw[c5];simp)];rcases hl with⟨l1,_⟩|⟨_,l2⟩
  ·rw[c5]at l1;cases l1
  have m6:=(jE hc).m6;have e1:i.inst.toNat=k:=by omega
  rw[e1];refine⟨0,by rw[iq (by omega)];omega,kp,rfl,λj=>j<=i.p.dt.length-(k+1),λj=>i.p.dt.length-(k+1)-j,oM,?_⟩;intro j hj;have hj:j<=i.p.dt.length-(k+1):=hj;have hq:=zGc i 1 j;refine zH (λgn=> ?_) (λgn=> ?_)
  ·obtain⟨b1,b2⟩:=mI hc (a:=k) (b:=k+1+j) oM oM;have eb:((k+1+j:Nat):Int)=i.inst+1+j:=by omega
   rw[eb,<- hk]at b1 b2;refine⟨⟨i.p,i.inst,i.inst+1+j⟩,?_⟩
   (repeat'(first|exact rfl|exact trivial|assumption|apply aw|refineλ(_:Unit) (_:True)=>?_|refine ap () ?_|omega|(dsimp only;omega)))
   refine⟨⟨⟨i.fh,jK i 1 j,(i.p.spread i.inst (i.inst+1+j)).1,i.inst+1+j,av⟩,av,av⟩,mn ⟨rfl,kp,rfl,⟨b1,Z9,Z9,Z9,si,Z9⟩,λ_ _=>⟨j+1,by rw[iq (by omega)];omega,kp,?_,?_⟩⟩⟩
   ·rw[jK,JI,yu];simp only[vi,LD,oJ];rfl
   ·exact kp
  ·obtain rfl:j=i.p.dt.length-(k+1):=by omega
   refine⟨0,rfl,kp,by rw[wH];simp,λj=>j<=k,λj=>k-j,oM,?_⟩;intro j hj;have hj:j<=k:=hj;have uf:=lF i 1 j;refine zH (λyb=> ?_) (λyb=> ?_)
   ·obtain⟨b1,b2⟩:=mI hc (a:=j) (b:=k) oM oM;rw[<- hk]at b1 b2;refine⟨⟨i.p,j,i.inst⟩,?_⟩
    (repeat'(first|exact rfl|exact trivial|assumption|apply aw|refineλ(_:Unit) (_:True)=>?_|refine ap () ?_|omega|(dsimp only;omega)))
    refine⟨1,rfl,oM,λ_ _=>⟨⟨⟨i.fh,jK i 1 (i.p.dt.length-(k+1))++wH i 1 j,(i.p.spread j i.inst).1,j,au⟩,au,av⟩,mn ⟨rfl,kp,rfl,⟨b1,Z9,Z9,Z9,si,by dsimp only;rw[iv];omega⟩,λ_ _=>⟨j+1,by rw[iq (by omega)];omega,kp,?_,?_⟩⟩⟩⟩
    ·rw[wH,JI,yu];simp only[vi,LD,oJ,iY];rfl
    ·exact kp
   ·obtain rfl:j=k:=by omega
    exact kp
def yXm:KX.ok Tryz.prog 122:=gu mixed (dw fW (dw Nx (dw zYd (dw zYc (dw z2t fg))))) 0 (λ_=>[]) (λi=>xBl i 1) [] Tryz.func122 xDu
def xCh (i:cV) (h:KW.dp i):y2b i:=by
 unfold y2b Qb OK X8 fa dx zW o7 rT VJ sH Vk VC uB j8 o7 qQ o7 VK hJ dF gO mJ Bi dI;obtain⟨⟨h1,h2,h3⟩,ht,hr⟩:i.p.small/\vU i.fh:=h;have si:vU i.fh:=⟨ht,hr⟩
 refine⟨i.p,?_⟩;simp only[gy,y8]
 (repeat'(first|exact rfl|exact trivial|assumption|apply aw|refineλ(_:Unit) (_:True)=>?_|refine ap () ?_|omega|(dsimp only;omega)))
 have bad (hb:i.p.count=0\/(i.fh.length:Int)≠i.p.count\/i.inst<0\/(i.p.count:Int)<=i.inst):∃(o:Unit),aj zL (kX i 2)=[]/\True:=⟨(),by rw[kX,fc hb];rfl,trivial⟩
 refine Cv.dp.mk (λc1=>bad (.inl (by have c1:(i.p.count:Int)=0:=(by simpa using c1);omega))) λc1=>Cv.dp.mk (λc2=>bad (.inr (.inl (by simpa using c2)))) λc2=>zH (λc3=>bad oM) λc3=>zH (λc4=>bad oM) λc4=>⟨⟨i.p,i.inst⟩,?_⟩
 have c1:i.p.count≠0:=by
  have c1:¬(i.p.count:Int)=0:=(by simpa using c1)
  omega
 have c2:(i.fh.length:Int)=i.p.count:=by simpa using c2
 have c4:i.inst<(i.p.count:Int):=by
  have c4:¬i.inst>=(i.p.count:Int):=c4;omega
 have hc:=PC c1;have hm:=Vq hc;have e0:kX i 2=if(i.p.gj i.inst).2.2 then(yW i 2).map (aQ i 2)else jK i 2 (i.p.dt.length-(i.inst.toNat+1))++wH i 2 i.inst.toNat:=by
  rw[kX,eg (by omega)]
 obtain⟨k,hk⟩:∃k:Nat,i.inst=k:=⟨i.inst.toNat,oM⟩
 have hl:=dC hc (k:=k) oM;rw[<- hk]at hl
 (repeat'(first|exact rfl|exact trivial|assumption|apply aw|refineλ(_:Unit) (_:True)=>?_|refine ap () ?_|omega|(dsimp only;omega)))
 refine Cv.dp.mk (λc5=> ?_) (λc5=> ?_)
 ·have c5:(i.p.gj i.inst).2.2=au:=c5;rw[e0,fc c5];rcases hl with⟨_,l1,l2,l3,l4⟩|⟨l1,_⟩
  ·have yo:(yW i 2).length<=1:=Ps _ _ _ _;refine⟨2,rfl,oM,λ_ _=>⟨⟨⟨i.fh,[],(i.p.gj i.inst).2.1,(i.p.gj i.inst).1,au⟩,av,au⟩,ni ⟨rfl,⟨l3,Z9,l1,Z9,si,by simp⟩,λ_ _=>⟨0,rfl,rfl,rfl,λj=>j<=(yW i 2).length,λj=>(yW i 2).length-j,oM,?_⟩⟩⟩⟩;intro j hj;have hj:j<=(yW i 2).length:=hj;have hL:(aj (aQ i 2) (ak j (yW i 2))++am j (yW i 2)).length=(yW i 2).length:=by simp;omega
   refine zH (λgn=> ?_) (λgn=> ?_)
   ·have gn:(j:Int)<((yW i 2).length:Int):=gn;refine⟨⟨oM,by rw[hL];omega⟩,by rw[hL];omega,j+1,by rw[iq (by omega)];rfl,kp,?_,?_⟩
    ·exact z5e (i:=i) (s:=2) oM
    ·exact kp
   ·have gn:¬(j:Int)<((yW i 2).length:Int):=gn;obtain rfl:j=(yW i 2).length:=by omega
    rw[mo (lh _),ao,oJ];exact kp
  ·rw[c5]at l1;cases l1
 ·have c5:(i.p.gj i.inst).2.2=av:=c5;rw[e0,eg (by rw[c5];simp)];rcases hl with⟨l1,_⟩|⟨_,l2⟩
  ·rw[c5]at l1;cases l1
  have m6:=(jE hc).m6;have e1:i.inst.toNat=k:=by omega
  rw[e1];refine⟨0,by rw[iq (by omega)];omega,kp,rfl,λj=>j<=i.p.dt.length-(k+1),λj=>i.p.dt.length-(k+1)-j,oM,?_⟩;intro j hj;have hj:j<=i.p.dt.length-(k+1):=hj;have hq:=zGc i 2 j;refine zH (λgn=> ?_) (λgn=> ?_)
  ·obtain⟨b1,b2⟩:=mI hc (a:=k) (b:=k+1+j) oM oM;have eb:((k+1+j:Nat):Int)=i.inst+1+j:=by omega
   rw[eb,<- hk]at b1 b2;refine⟨⟨i.p,i.inst,i.inst+1+j⟩,?_⟩
   (repeat'(first|exact rfl|exact trivial|assumption|apply aw|refineλ(_:Unit) (_:True)=>?_|refine ap () ?_|omega|(dsimp only;omega)))
   refine⟨⟨⟨i.fh,jK i 2 j,(i.p.spread i.inst (i.inst+1+j)).1,i.inst+1+j,av⟩,au,au⟩,mn ⟨rfl,kp,rfl,⟨b1,Z9,Z9,Z9,si,Z9⟩,λ_ _=>⟨j+1,by rw[iq (by omega)];omega,kp,?_,?_⟩⟩⟩
   ·rw[jK,JI,yu];simp only[vi,LD,oJ];rfl
   ·exact kp
  ·obtain rfl:j=i.p.dt.length-(k+1):=by omega
   refine⟨0,rfl,kp,by rw[wH];simp,λj=>j<=k,λj=>k-j,oM,?_⟩;intro j hj;have hj:j<=k:=hj;have uf:=lF i 2 j;refine zH (λyb=> ?_) (λyb=> ?_)
   ·obtain⟨b1,b2⟩:=mI hc (a:=j) (b:=k) oM oM;rw[<- hk]at b1 b2;refine⟨⟨i.p,j,i.inst⟩,?_⟩
    (repeat'(first|exact rfl|exact trivial|assumption|apply aw|refineλ(_:Unit) (_:True)=>?_|refine ap () ?_|omega|(dsimp only;omega)))
    refine⟨2,rfl,oM,λ_ _=>⟨⟨⟨i.fh,jK i 2 (i.p.dt.length-(k+1))++wH i 2 j,(i.p.spread j i.inst).1,j,au⟩,av,au⟩,mn ⟨rfl,kp,rfl,⟨b1,Z9,Z9,Z9,si,by dsimp only;rw[iv];omega⟩,λ_ _=>⟨j+1,by rw[iq (by omega)];omega,kp,?_,?_⟩⟩⟩⟩
    ·rw[wH,JI,yu];simp only[vi,LD,oJ,iY];rfl
    ·exact kp
   ·obtain rfl:j=k:=by omega
    exact kp
def yXy:KW.ok Tryz.prog 122:=gu mixed (dw fW (dw Nx (dw zYd (dw zYc (dw z2t fg))))) 0 (λ_=>[]) (λi=>xBl i 2) [] Tryz.func122 xCh
def yRy:aaZ.ok Tryz.prog 122:=λj=>match j with
 |⟨i,av⟩=>yXm i
 |⟨i,au⟩=>yXy i
def ZF:DO.ok Tryz.prog 62:=gu mixed (dw yRy (dw Pt fg)) 0 (λ_=>[]) (λj=>yZg j) [] Tryz.func62 yXg
def zAr (i:cV) (s:Int):(xN i s).length<=100:=vz (Ij _ _) (Vg i s)
structure iD where
 p:ff
 s:gv
 used:List Int
def zX (l:List Int):List (ay×List D):=l.map λx=>(.int .i64 x,[.v (.bool au)])
def yO (m:iD):Nat->fj
 |0=> .cells [sV m.p.code,.own 3,zB m.p.tick,zB m.p.low,zB m.p.high,zB m.p.wide,zB m.p.gi,zB m.p.top,zB m.p.least,zB m.p.part,.own 4,.nm 1 0,.mp 2] 137
 |1=>zF m.s
 |2=> .map (zX m.used)
 |3=> .kg 1 (iE m.p.dt)
 |4=> .kg 1 (iE m.p.settle)
 |_=> .gone
def kG (m:iD):fj:= .ra iD 5 yO m
def Kt:fy where
 ι:=ff
 pat:=λp=>[nk p]
 pre:=λ_=>[]
 dp:=λp=>p.small
 alts:=λp=>[{o:=Unit,res:=λ_=> .iZ [.nm 0 0,zB 0],post:=λ_=>[kG ⟨p,nU p,[]⟩],rel:=λ_=>p.check=0},{o:=Unit,res:=λ_=> .iZ [.d (.v (.pointer ar)),zB p.check],post:=λ_=>[],rel:=λ_=>p.check≠0}]
def Gk:fy:=fi iD (λ_=>[.nm 0 0]) (λm=>[kG m]) (λm=>m.s.small) (λ_=> .nm 1 0) (λm=>[kG m,zF m.s])
def zMe (a:ff) (b:ff):Prop:=True/\(0+(iE a.settle).length)*(8:Nat)<=(140737488355328:Nat)/\((dx (dl ((0:Int))/\Qc a (zF (nU a)=zF (nU b)/\zX []=[]/\iE a.dt=[]++iE a.dt/\iE a.settle=[]++iE a.settle/\a.check=0)))\/(dx (False)))
def zLi (a:ff) (b:ff):Prop:=True/\True/\(0+(iE a.dt).length)*(8:Nat)<=(140737488355328:Nat)/\zMe a b
def zMa (a:ff):Prop:=True/\(0+(iE a.settle).length)*(8:Nat)<=(140737488355328:Nat)/\((dx (dl ((0:Int))/\Qc a (False)))\/(dx (False)))
def zLu (a:ff):Prop:=True/\True/\(0+(iE a.dt).length)*(8:Nat)<=(140737488355328:Nat)/\zMa a
def y2c (p:ff):Prop:=
 ∃(a:ff),Qb a p ((zW a)/\(∀(b:Unit),a.check=0->(True/\True/\(Mc p (zMe p a))/\zLi p a)/\True/\True/\zLi p a)/\∀(b:Unit),a.check≠0->dp (a.check !=0) ((dx (False))\/(dx (True/\p.check=a.check/\(p.check=0->False)))) ((True/\True/\(Mc p (zMa p))/\zLu p)/\True/\True/\zLu p))
def y4b (m:iD):Prop:=
 ∃(i:gv),zF i=zF m.s/\(i.ei.length<=1000000/\∀(b:dq),b∈i.ei->(b.a.du.length<=1000000/\b.a.dy.length<=1000000)/\b.fm.length<=1000000/\b.ej.length<=1000000/\b.spare.length<=1000000)/\∀(o:Unit),True->∃(o:Unit),dl (sb m.p.code)/\dl m.p.tick/\dl m.p.low/\dl m.p.high/\dl m.p.wide/\dl m.p.gi/\dl m.p.top/\dl m.p.least/\dl m.p.part/\zF m.s=zF i/\dl (zX m.used)/\dl (fj.kg 1 (iE m.p.dt))/\dl (fj.kg 1 (iE m.p.settle))/\zF m.s=zF i/\True
def G6:Gk.ok Tryz.prog 17:=gu (V:=y4b) mixed (dw Pz fg) 0 (λ_=>[]) (λ_=>[]) [0] Tryz.func17 λ(m:iD) h=>by
 obtain⟨h1,h2⟩:m.s.small:=h;refine⟨m.s,rfl,⟨h1,h2⟩,λ_ _=>⟨(),?_⟩⟩;exact kp
def xDy (p:ff) (h:Kt.dp p):y2c p:=by
 unfold y2c Qb Mc dx zLu zMa Qc dx zLi zMe Qc dx zW o7;obtain⟨h1,h2,h3⟩:p.small:=h;refine⟨p,?_⟩;simp only[y8]
 (repeat'(first|exact rfl|exact trivial|assumption|apply aw|refineλ(_:Unit) (_:True)=>?_|refine ap () ?_|omega|(dsimp only;omega)))
 ·intro _ c
  (repeat'(first|exact rfl|exact trivial|assumption|apply aw|refineλ(_:Unit) (_:True)=>?_|refine ap () ?_|omega|(dsimp only;omega)))
  all_goals(refine .inl ⟨(),?_⟩;(repeat'(first|exact rfl|exact trivial|assumption|apply aw|refineλ(_:Unit) (_:True)=>?_|refine ap () ?_|omega|(dsimp only;omega))))
 ·intro _ c;refine Cv.dp.mk (λe=> .inr ⟨(),trivial,kp,c⟩) (λe=>absurd (by simpa using e) c)
def yWm:Kt.ok Tryz.prog 127:=gu mixed (dw yZa fg) 0 (λ_=>[]) (λ_=>[]) [] Tryz.func127 xDy
def D1:fy:=fi (List Int) (λl=>[iV l]) (λ_=>[]) (λl=>l.length<=1000000) (λl=>iV l) (λ_=>[])
structure qu where
 n:Int
 lo:Int
 hi:Int
def zG (n lo hi:Int):Int:=lo+n % (hi-lo+1)
def AT:fy:=fi qu (λi=>[zB i.n,zB i.lo,zB i.hi]) (λ_=>[]) (λi=>gr i.n/\-1000000<=i.lo/\i.lo<=i.hi/\i.hi<=1000000) (λi=>zB (zG i.n i.lo i.hi)) (λ_=>[])
def cQ (gi:Int):ff:=⟨[67,76],[320,321,323],5,0,1000,200,gi,4,2,40,[500,505,490]⟩
def MC:fy:=fi Int (λn=>[zB n]) (λ_=>[]) (λ_=>True) (λn=>nk (cQ n)) (λ_=>[])
def yZb (l:List Int):Prop:=
 ∀(b:Bool),(b=au->iE l=[])->dp b (∃(o:Unit),iE l=[]/\True) ((0+(iE l).length)*(8:Nat)<=(140737488355328:Nat)/\∃(o:Unit),iE l=[]++iE l/\True)
def yJn (l:List Int):Prop:=
 ∀(b:Bool),(b=au->iE l=[])->dp b (∃(o:Unit),iE l=[]/\True) ((0+(iE l).length)*(8:Nat)<=(140737488355328:Nat)/\∃(o:Unit),iE l=[]++iE l/\True)
def pR (a:qu):=(ab.wrap (ab.wrap (a.hi-a.lo)+1))
def yFv (i:qu):Prop:=
 ab=ab/\ab.wrap (ab.wrap (i.hi-i.lo)+1)≠0/\dp (decide (i.n.tmod (pR i)<0)) (dx (zG i.n i.lo i.hi=ab.wrap (i.lo+ab.wrap (ab.wrap (ab.wrap (i.n.tmod (pR i)+i.hi)-i.lo)+1))/\True)) (dx (zG i.n i.lo i.hi=ab.wrap (i.lo+i.n.tmod (pR i))/\True))
@[reducible] def X7 (a:Int)(R:Prop):Prop:=(5:Int)=(5:Int)/\(0:Int)=(0:Int)/\(1000:Int)=(1000:Int)/\(200:Int)=(200:Int)/\a=a/\(4:Int)=(4:Int)/\(2:Int)=(2:Int)/\(40:Int)=(40:Int)/\R
def ySl (n:Int):Prop:=
 dx (sb [(67:UInt8),(76:UInt8)]=ByteArray.mk #[(67:UInt8),(76:UInt8)]/\iE [(320:Int),(321:Int),(323:Int)]=[[dI 320],[dI 321],[dI 323]]/\X7 n (iE [(500:Int),(505:Int),(490:Int)]=[[dI 500],[dI 505],[dI 490]]/\True))
def yHy:D1.ok Tryz.prog 45:=gu (V:=yZb) mixed fg 0 (λ_=>[]) (λ_=>[]) [] Tryz.func45 λ(l:List Int) h=>by
 have h:l.length<=1000000:=h;exactλb hb=>Cv.dp.mk (λe=>⟨(),hb e,trivial⟩) (λ_=>⟨by rw[nh,y8];omega,(),rfl,trivial⟩)
def z4s:D1.ok Tryz.prog 46:=gu (V:=yJn) mixed fg 0 (λ_=>[]) (λ_=>[]) [] Tryz.func46 λ(l:List Int) h=>by
 have h:l.length<=1000000:=h;exactλb hb=>Cv.dp.mk (λe=>⟨(),hb e,trivial⟩) (λ_=>⟨by rw[nh,y8];omega,(),rfl,trivial⟩)
def ySj:MC.ok Tryz.prog 67:=gu (V:=ySl) mixed fg 0 (λ_=>[]) (λ_=>[]) [] Tryz.func67 λ(n:Int) _=>by
 unfold ySl X7 dx dI;exact kp
def yYa (i:qu) (h:AT.dp i):yFv i:=by
 obtain⟨⟨a1,a2⟩,a3,a4,a5⟩:gr i.n/\-1000000<=i.lo/\i.lo<=i.hi/\i.hi<=1000000:=h;unfold yFv dx pR;rw[iq (x:=i.hi-i.lo) (by omega),iq (x:=i.hi-i.lo+1) (by omega)];obtain⟨d,hd⟩:∃d:Int,i.hi-i.lo+1=d:=⟨_,rfl⟩
 rw[hd];have h1:i.n.tmod d=if 0<=i.n then i.n % d else-((-i.n) % d):=by
  split
  ·rename_i h;rw[bg h]
  ·rename_i h;have:i.n= -(-i.n):=by omega
   conv=>lhs;rw[this]
   rw[Int.neg_tmod,bg (by omega)]
 have qc:=NY i.n (show d≠0 by omega);have my:=Re i.n (show 0<d by omega);have Dr:=NY (-i.n) (show d≠0 by omega);have XW:=Re (-i.n) (show 0<d by omega);have key:i.n.tmod d<0->i.n % d=i.n.tmod d+d:=λMn=>by
  have:=Int.emod_eq_of_lt (a:=i.n.tmod d+d) (b:=d) (by rw[h1]at Mn ⊢;split at Mn<;>split<;>omega) oM;rw[<- this,Int.add_emod_right];have e:=Int.tmod_add_mul_tdiv i.n d
  conv=>lhs;rw[<- e]
  rw[Xp]
 have aao:¬i.n.tmod d<0->i.n % d=i.n.tmod d:=λMn=>by
  have gn:i.n.tmod d<d:=by rw[h1];split<;>omega
  have:=Int.emod_eq_of_lt (a:=i.n.tmod d) (b:=d) oM gn;rw[<- this];have e:=Int.tmod_add_mul_tdiv i.n d
  conv=>lhs;rw[<- e]
  rw[Xp]
 refine⟨rfl,oM,zH (λc=>⟨(),?_,trivial⟩) (λc=>⟨(),?_,trivial⟩)⟩
 ·have k:=key c;rw[zG,hd,k];rw[iq (x:=i.n.tmod d+i.hi) (by omega),iq (x:=i.n.tmod d+i.hi-i.lo) (by omega),iq (x:=i.n.tmod d+i.hi-i.lo+1) (by omega),iq (by omega)];omega
 ·have k:=aao c;rw[zG,hd,k,iq (by omega)]
def sy:AT.ok Tryz.prog 33:=gu mixed fg 0 (λ_=>[]) (λ_=>[]) [] Tryz.func33 yYa
def Cy (l:List (Int×Int)) (k:Int):Option Int:=(l.find? λx=>decide (x.1=k)).map (·.2)
def ySn (l:List (Int×Int)) (k:Int):∀p∈yY l,lr (be ab k) p.1=au:=by
 intro p hp;obtain⟨x,_,rfl⟩:=oe.1 hp;rfl
def sY (k:Int):∀l:List (Int×Int),jH (be ab k) (yY l)=(Cy l k).map λv=>[D.v (.int .i64 v)]
 |[]=>rfl
 |(a,v)::l=>by
  have ih:=sY k l;show(bif (xa .i64 .i64 && decide (k=a))then _ else jH _ (yY l))=_;by_cases h:k=a
  ·subst h;simp[Cy,xa]
  ·have h':¬a=k:=λe=>h e.symm
   rw[show(xa .i64 .i64 && decide (k=a))=av by simp[h],cond_false,ih];simp[Cy,LA,h']
structure fv where
 kind:Int
 id:Int
 inst:Int
 side:Int
 dm:Int
 dr:Int
 left:Int
 pd:Int
 deriving DecidableEq
@[reducible] def xHq (r:fv):V:= .agg [zB r.kind,zB r.id,zB r.inst,zB r.side,zB r.dm,zB r.dr,zB r.left,zB r.pd]
def x9 (r:fv):List D:=[.v (.int .i64 r.kind),.v (.int .i64 r.id),.v (.int .i64 r.inst),.v (.int .i64 r.side),.v (.int .i64 r.dm),.v (.int .i64 r.dr),.v (.int .i64 r.left),.v (.int .i64 r.pd)]
def Ju (k v:Int):List (Int×Int)->List (Int×Int)
 |[]=>[(k,v)]
 |(a,b)::l=>if k=a then(a,v)::l else(a,b)::Ju k v l
def Lf (k:Int):List (Int×Int)->List (Int×Int)
 |[]=>[]
 |(a,b)::l=>if k=a then l else(a,b)::Lf k l
def bj (t:Nat):gm:={ι:=Bool,du:=λb=>[(t,yL b)],rows:=λ_=>[]}
def ij (t:Nat):gm:={ι:=Int,du:=λn=>[(t,zB n)],rows:=λ_=>[]}
def cX (l:List (Int×Int)) (k:Int):∀(p:ay×List D),p∈yY l->lr (be ab k) p.1=au:=λp hp=>ySn l k p hp
def z6u (k v:Int):∀l,u7 (be ab k) [D.v (.int .i64 v)] (yY l)=yY (Ju k v l)
 |[]=>rfl
 |(a,b)::l=>by
  have ih:=z6u k v l;show(bif (xa .i64 .i64 && decide (k=a))then _ else _::u7 _ _ (yY l))=_;rw[ih,Ju];by_cases h:k=a
  ·subst h;simp[xa,yY]
  ·simp[h,yY]
def z2p (k:Int):∀l,CA (be ab k) (yY l)=yY (Lf k l)
 |[]=>rfl
 |(a,b)::l=>by
  have ih:=z2p k l;show(bif (xa .i64 .i64 && decide (k=a))then yY l else _::CA _ (yY l))=_;rw[ih,Lf];by_cases h:k=a
  ·subst h;simp[xa]
  ·simp[h,yY]
def y4p (l:List (Int×Int)) (k:Int):jH (be ab k) (yY l)=aq [D.v (.int .i64 ((Cy l k).getD 0))]/\(Cy l k).isSome=au\/jH (be ab k) (yY l)=ar/\[D.v (.int .i64 ((Cy l k).getD 0))]=[D.v (.int .i64 0)]/\(Cy l k).isSome=av:=by
 rw[sY];cases Cy l k with
 |none=>exact .inr ⟨rfl,rfl,rfl⟩
 |some v=>exact .inl ⟨rfl,rfl⟩
def z3s (a b:Int):(a==b)=decide (a=b):=by
 by_cases h:a=b
 ·subst h;simp
 ·simp[h]
def z4z (n:Int):(cQ n).small:=⟨by simp[cQ],by simp[cQ],by simp[cQ]⟩
def y3 {n lo hi:Int} (h:lo<=hi):lo<=zG n lo hi/\zG n lo hi<=hi:=by
 rw[zG];have h1:=NY n (show hi-lo+1≠0 by omega);have h2:=Re n (show 0<hi-lo+1 by omega);omega
open Go Go.RowKit Cv
def VX {P:az} {dT sT ty e sz oC:Nat} {z:Array ay} (hi:vS P dT=aq (e,sz,oC,z)) {w:ax} {g o dLen dCap b so sLen sCap n:Nat} {cur src:List ay} {T T':TypeId} {fr:Nat×Nat}
 (hg:w.heap[g]? =aq (.cells cur.toArray T (0,0))) (hs:w.heap[b]? =aq (.cells src.toArray T' fr)) (hn:Nat.min sLen dLen=n) (h1:so+n*sz<=src.length) (h2:o+n*sz<=cur.length)
 (Eu:∀v∈(src.drop so).take (n*sz),v.oh=au):
 g7 P (ae #[dT,sT] ty #[.slice (aq ⟨g,o,ar⟩) dLen dCap,.slice (aq ⟨b,so,ar⟩) sLen sCap]) w (.int .i64 n) (World.iT w g (.cells (kj cur o ((src.drop so).take (n*sz))).toArray T (0,0))):=by
 obtain⟨i,zv,q1,q2,rfl,rfl,q5,rfl⟩:=jF hi;have hl:((src.drop so).take (n*i.size)).length=n*i.size:=by rw[ng,o8];omega
 have kr:=vA (P:=P) ((src.drop so).take (n*i.size)) 0 o cur w hg (by rw[hl];omega) Eu;simp only[Fw]at kr;unfold g7 ae;simp only[Bc,CC,Bd,bind,pure,run_bind,Sem.bind,Sem.run,Cv.run_underlying q1,Cv.run_sizeOf q2,Builtin.lenOf,hn,af,fE hs h1,kr];rfl
def Hp.apart {k:Ko} {w:ax} {b c:Nat} {o o':Obj} {L:List HP} (H:Hp k w (pt b o::pt c o'::L)):b≠c:=by
 obtain⟨hk,hs,hh⟩:=H;cases hh with
 |cons ha iU hd hr=>
  cases hr with
  |cons hb KD Aw xo=>
   intro e;subst e;have:=hd _ iS b;rw[show _=one b o from ha,show _=one b o' from hb]at this;simp[one]at this
def y6b (P:az) (tS tI sz fO fR:Nat) (s:Option ba) (sn sk:Nat) (i:Int) (v:Option ba) (vn vk:Nat) (w:ax) (R:Ending->ax->Prop):Prop:=
tr s sn sk (aq i) ar sz λa1 na1 ka1=>
dp (((vn:Int):Int)==0) (
R (.returned (.slice s sn sk)) w) (
dp ((i:Int)==(sn:Int)) (
∃(a2:Option ba) (na2 ka2:Nat),∃w3:ax,g7 P (ag #[tS,tS] tS #[.slice s sn sk,.slice v vn vk]) w (.slice a2 na2 ka2) w3/\
R (.returned (.slice a2 na2 ka2)) w3) (
dp (decide ((ab.wrap ((sn:Int)+(vn:Int)):Int)>(sk:Int))) (
tr s sn sk ar (aq i) sz λa4 na4 ka4=>
∃(a5:Option ba) (Im JS:Nat),∃w6:ax,g7 P (ag #[tS,tI] tS #[.slice a4 na4 ka4,.int .i64 (ab.wrap (ab.wrap ((sn:Int)+(vn:Int))-i))]) w (.slice a5 Im JS) w6/\
tr a5 Im JS (aq i) ar sz λa7 na7 ka7=>
∃x8:Int,∃w9:ax,g7 P (ae #[tS,tS] tI #[.slice a7 na7 ka7,.slice v vn vk]) w6 (.int .i64 x8) w9/\
Xb w9 λw10=>
tr a5 Im JS (aq (ab.wrap (i+(vn:Int)))) ar sz λa11 aak aaw=>
tr s sn sk (aq i) ar sz λa12 aaj aav=>
∃x13:Int,∃w14:ax,g7 P (ae #[tS,tS] tI #[.slice a11 aak aaw,.slice a12 aaj aav]) w10 (.int .i64 x13) w14/\
R (.returned (.slice a5 Im JS)) w14) (
tr s sn sk ar (aq (ab.wrap ((sn:Int)+(vn:Int)))) sz λJ7 BK BL=>
tr J7 BK BL (aq (ab.wrap (i+(vn:Int)))) ar sz λa16 aai aau=>
∃c17:Bool,∃w18:ax,Cv.Ext P fO #[.slice v vn vk,.slice a16 aai aau] w (.bool c17) w18/\
dp (!c17) (
Xb w18 λw19=>
tr J7 BK BL (aq (ab.wrap (i+(vn:Int)))) ar sz λa20 aah aat=>
tr J7 BK BL (aq i) ar sz λa21 aag aas=>
∃x22:Int,∃w23:ax,g7 P (ae #[tS,tS] tI #[.slice a20 aah aat,.slice a21 aag aas]) w19 (.int .i64 x22) w23/\
tr J7 BK BL (aq i) ar sz λa24 aaf aar=>
∃x25:Int,∃w26:ax,g7 P (ae #[tS,tS] tI #[.slice a24 aaf aar,.slice v vn vk]) w23 (.int .i64 x25) w26/\
R (.returned (.slice J7 BK BL)) w26) (
tr J7 BK BL (aq (sn:Int)) ar sz λa27 aae aaq=>
∃x28:Int,∃w29:ax,g7 P (ae #[tS,tS] tI #[.slice a27 aae aaq,.slice v vn vk]) w18 (.int .i64 x28) w29/\
tr J7 BK BL (aq i) ar sz λa30 aad aap=>
Calls P fR #[.slice a30 aad aap,.int .i64 (vn:Int)] w29 λe32 w31=>e32= .returned (.tuple #[])/\
R (.returned (.slice J7 BK BL)) w31))))
def yJt {α:Type} {l m:Nat} {xs r ys:List α} (hl:l<=xs.length) (hy:ys.length=m) (hr:m<=r.length):
 ((xs++r).take (l+m)++xs.drop l++(xs++r).drop (l+m+(xs.drop l).length)).take l++ys++((xs++r).take (l+m)++xs.drop l++(xs++r).drop (l+m+(xs.drop l).length)).drop (l+ys.length)=(xs.take l++ys++xs.drop l)++r.drop m:=by
 have e1:(xs++r).drop (l+m+(xs.drop l).length)=r.drop m:=by
  rw[o8,show l+m+(xs.length-l)=xs.length+m by omega,LF];simp
 have e2:((xs++r).take (l+m)++xs.drop l++r.drop m).take l=xs.take l:=by
  rw[iY,yw (by rw[ng,iv];omega),List.take_take,Fy (by omega),yw hl]
 have e3:((xs++r).take (l+m)++xs.drop l++r.drop m).drop (l+ys.length)=xs.drop l++r.drop m:=by
  have:((xs++r).take (l+m)).length=l+m:=by rw[ng,iv];omega
  rw[iY,hy,LF,this,JF,Ea,Ik (by omega),xi]
 rw[e1,e2,e3];simp
def Ys (A Z Y:List ay):kj (A++Z) A.length Y=A++Y++Z.drop Y.length:=by
 simp only[kj];rw[Lz,LF];simp
def Np {b o n c i:Nat} (h:c≠i):(if c=i then(aq ⟨b,o,ar⟩:Option ba)else(aq ⟨b,o,ar⟩:Option ba).map (·.add n))=aq ⟨b,o+n,ar⟩:=by
 rw[eg h,we,uR]
def z1v (P:az) (fO:Nat):Prop:=∀(w:ax) (va sb so la ca lb cb:Nat) (c c':Array ay) (T T':TypeId),va≠sb->w.heap[va]?=aq (.cells c T (0,0))->w.heap[sb]?=aq (.cells c' T' (0,0))->c'.size≠0->
 Cv.Ext P fO #[.slice (aq ⟨va,0,ar⟩) la ca,.slice (aq ⟨sb,so,ar⟩) lb cb] w (.bool av) w
def z2j {P : Program} {fO tS tB e sz oC : Nat} {z : Array Value} {fn : Func} (hf : P.funcs[fO]? = some fn) (BT : (fn.name == "runtime.NumGoroutine") = false) (hb : fn.body.isNone = true) (hn : Extern.findNext fn = none) (he : Extern.find fn = some (Extern.SlicesOverlaps.overlaps #[tS, tS] #[tB]))
 (hi:vS P tS=aq (e,sz,oC,z)):z1v P fO:=by
 obtain⟨i,zv,q1,q2,rfl,rfl,q5,rfl⟩:=jF hi;intro w va sb so la ca lb cb c c' T T' jr h1 h2 h3;unfold Cv.Ext;rw[run_callFunc_extern hf BT hb hn he,Lib.run_overlaps_apart w tS tB e q1 i.size (λw=>Cv.run_sizeOf q2 w) ⟨va,0,ar⟩ ⟨sb,so,ar⟩ la ca lb cb jr T T' c.size c'.size (by simp[World.shape?,h1]) (by simp[World.shape?,h2]) h3 (by simp[World.frozen?,h1]) (by simp[World.frozen?,h1])];rfl
def xHh {P:az} {tS tI e sz oC fO fR:Nat} {z:Array ay} (hi:vS P tS=aq (e,sz,oC,z)) (hz:z.size=sz) (EY:0<oC) (pf:0<sz) (h2:Ls P tS=au) (Is:P.underlying tI=aq (.int .i64)) (hov:z1v P fO)
 {k:Ko} {w:ax} {L:List HP} {s v:Option ba} {sn sk vn vk i:Nat} {xs ys:List ay} (H:Hp k w (oq e sz s sn sk xs::oq e sz v vn vk ys::L)) (h1:∀u∈xs,u.oh=au) (hy:∀u∈ys,u.oh=au) (wk:i<=sn) (hv:0<vn)
 (hb:(sn+vn)*oC<=140737488355328):
 y6b P tS tI sz fO fR s sn sk i v vn vk w λen w'=>∃a kk,en= .returned (.slice a (sn+vn) kk)/\Hp k w' (oq e sz a (sn+vn) kk (xs.take (i*sz)++ys++xs.drop (i*sz))::oq e sz v vn vk ys::L):=by
 obtain⟨CG,Iw⟩:=H.len;obtain⟨Dn,hvk⟩:=H.swap.len;have hnm:sn+vn<=140737488355328:=vz (Nat.le_mul_of_pos_right _ EY) hb;have w1:ab.wrap ((sn:Int)+(vn:Int))=((sn+vn:Nat):Int):=by rw[Cv.wrap_i64 (by omega) (by omega)];simp
 have w2:ab.wrap ((i:Int)+(vn:Int))=((i+vn:Nat):Int):=by rw[Cv.wrap_i64 (by omega) (by omega)];simp
 have w3:ab.wrap (((sn+vn:Nat):Int)-(i:Int))=((sn+vn-i:Nat):Int):=by rw[Cv.wrap_i64 (by omega) (by omega)];omega
 have hle:i*sz<=xs.length:=by rw[CG];exact xj _ wk
 have Ir:(xs.take (i*sz)).length=i*sz:=by rw[ng];omega
 have LY:(xs.drop (i*sz)).length=(sn-i)*sz:=by rw[o8,CG,Nat.sub_mul]
 have CO:(i+vn)*sz=i*sz+vn*sz:=zp _ _ _;have KC:(sn+vn)*sz=i*sz+vn*sz+(sn-i)*sz:=by rw[<- zp,<- zp];congr 1;omega
 have IT:(xs.take (i*sz)++ys++xs.drop (i*sz)).length=(sn+vn)*sz:=by
  rw[iv,iv,Ir,Dn,LY,KC]
 unfold y6b;simp only[tr,w1,w2,w3,om];refine⟨⟨oM,oM,Iw⟩,Cv.dp.mk (λc=>absurd c (by simp;omega)) λ_=>Cv.dp.mk (λc=> ?_) λc=>Cv.dp.mk (λhc=> ?_) λhc=> ?_⟩
 ·have c:i=sn:=by have:(i:Int)=(sn:Int):=by simpa using c
                  omega
  subst c;obtain⟨a',c',w',r1,r2⟩:=H.append (rt:=tS) hi h2 (x:= .slice v vn vk) (m:=vn) (ys:=ys) (.inl ⟨v,vk,rfl,H.swap.IK⟩) hy hz EY hb;refine⟨a',_,c',w',r1,a',c',rfl,?_⟩;rw[mo (by omega),Ik (by omega),oJ];exact r2
 ·have c:i<sn:=by have:¬(i:Int)=(sn:Int):=by simpa using c
                  omega
  have hc:sk<sn+vn:=by have:=qp hc;omega
  obtain⟨inf,zv,q1,q2,q3,q4,q5,q6⟩:=jF hi;subst q3 q4 q6;rcases H.oD with⟨_,e0,_⟩|⟨b,r,rfl,g1,g2,g3,H0⟩
  ·omega
  rcases H0.swap.oD with⟨_,e0,_⟩|⟨vb,rv,rfl,g4,g5,g6,H1⟩
  ·omega
  have hold:(af inf.size i (.slice (aq ⟨b,0,ar⟩) i sk)).run P w.drew= .ok (xs.take (i*inf.size)).toArray w.drew:=by
   have Sk:=(H1.drew).swap.get;have:=fE (P:=P) (o:=0) (n:=i*inf.size) Sk (by rw[iv];omega);unfold af;rw[this,Ea,yw hle]
  have T5:=zRb (need:=sn+vn) (cap:=sk) oM;have aa4:=xj inf.bytes T5;have e2:2*(sn+vn)*inf.bytes=2*((sn+vn)*inf.bytes):=by rw[Nat.mul_assoc]
  have hkb:(sn+vn-i)*inf.bytes<=(sn+vn)*inf.bytes:=xj _ oM;have Sa:=Lib.run_append_grow_zeros (P:=P) w tS tI tS e inf zv .i64 .i64 q1 Is q2 q5 (aq ⟨b,0,ar⟩) i sk (xs.take (i*inf.size)) hold (sn+vn-i) oM pf oM oM oM (by rw[show i+(sn+vn-i)=sn+vn by omega];omega);rw[show i+(sn+vn-i)=sn+vn by omega]at Sa;have hG:sn+vn<=grownCap w (sn+vn) sk e:=grownCap_ge w (sn+vn) sk e;generalize grownCap w (sn+vn) sk e=G at Sa hG;have F3:(xs.take (i*inf.size)).toArray++ac zv.cells (sn+vn-i)++ac zv.cells (G-(sn+vn))=(xs.take (i*inf.size)++((ac zv.cells (sn+vn-i)).toList++(ac zv.cells (G-(sn+vn))).toList)).toArray:=by
   apply Array.ext';simp
  rw[F3]at Sa;have XX:((ac zv.cells (sn+vn-i)).toList++(ac zv.cells (G-(sn+vn))).toList).length=(sn+vn-i)*inf.size+(G-(sn+vn))*inf.size:=by
   rw[iv,JP,JP,bc,bc,hz]
  generalize (ac zv.cells (sn+vn-i)).toList++(ac zv.cells (G-(sn+vn))).toList=Z at Sa XX;have hZ2:(sn+vn-i)*inf.size=vn*inf.size+(sn-i)*inf.size:=by rw[<- zp];congr 1;omega
  have H2:=(H1.drew).new (.cells (xs.take (i*inf.size)++Z).toArray e);have hB:w.drew.heap.size=w.heap.size:=rfl;rw[hB]at H2;have CI:=VX (P:=P) (sT:=tS) (ty:=tI) hi (g:=w.heap.size) (o:=0+i*inf.size) (dLen:=sn+vn-i) (dCap:=G-i) (b:=vb) (so:=0) (sLen:=vn) (sCap:=vk) (n:=vn) H2.get H2.swap.get (Fy oM) (by rw[iv];omega) (by rw[iv,Ir,XX];omega) (by
   rw[Ea,yw (by omega),mo (by omega)];exact hy)
  rw[Ea,yw (by omega),mo (show ys.length<=vn*inf.size by omega),nh]at CI;have es1:kj (xs.take (i*inf.size)++Z) (i*inf.size) ys=xs.take (i*inf.size)++ys++Z.drop ys.length:=by
   have:=Ys (xs.take (i*inf.size)) Z ys;rwa [Ir]at this
  rw[es1]at CI;have H3:=(H2.yx (.cells (xs.take (i*inf.size)++ys++Z.drop ys.length).toArray e)).drew;have Sc:(xs++r).drop (i*inf.size)=xs.drop (i*inf.size)++r:=Hw hle;have Ch:=VX (P:=P) (sT:=tS) (ty:=tI) hi (g:=w.heap.size) (o:=0+(i+vn)*inf.size) (dLen:=sn+vn-(i+vn)) (dCap:=G-(i+vn)) (b:=b) (so:=0+i*inf.size) (sLen:=sn-i) (sCap:=sk-i) (n:=sn-i) H3.get H3.swap.drop.swap.get (Fy oM) (by rw[iv,CG,nh,<- zp];exact vz (xj _ oM) (Nat.le_add_right _ _)) (by
   rw[iv,iv,Ir,Dn,o8,XX];omega) (by
   rw[nh,Sc,yw (by omega),mo (by omega)];exactλu hu=>h1 u (JQ hu))
  rw[nh,nh,Sc,yw (by omega),mo (show(xs.drop (i*inf.size)).length<=(sn-i)*inf.size by omega)]at Ch;have es2:kj (xs.take (i*inf.size)++ys++Z.drop ys.length) ((i+vn)*inf.size) (xs.drop (i*inf.size))=xs.take (i*inf.size)++ys++xs.drop (i*inf.size)++(Z.drop ys.length).drop (xs.drop (i*inf.size)).length:=by
   have:=Ys (xs.take (i*inf.size)++ys) (Z.drop ys.length) (xs.drop (i*inf.size));rwa [show(xs.take (i*inf.size)++ys).length=(i+vn)*inf.size by rw[iv,Ir,Dn,CO]]at this
  rw[es2]at Ch;refine⟨⟨oM,oM⟩,_,_,_,_,Sa,?_⟩;rw[Np (show G≠i by omega),nh];refine⟨⟨oM,oM,hG⟩,_,_,CI,?_⟩;rintro _ rfl;rw[Np (show G≠i+vn by omega),Np (show sk≠i by omega),nh,nh];refine⟨⟨oM,oM,hG⟩,⟨oM,oM,Iw⟩,_,_,Ch,_,_,rfl,?_⟩;have H4:=H3.yx (.cells (xs.take (i*inf.size)++ys++xs.drop (i*inf.size)++(Z.drop ys.length).drop (xs.drop (i*inf.size)).length).toArray e);have H5:=H4.AE (n:=sn+vn) (c:=G) (sz:=inf.size) IT (by
   rw[iv,IT,o8,o8,XX,Dn,LY];have:G*inf.size=(sn+vn)*inf.size+(G-(sn+vn))*inf.size:=by rw[<- zp];congr 1;omega
   omega) hG
  have H6:=H5.swap.AE (n:=vn) (c:=vk) (sz:=inf.size) g4 g5 g6;exact(H6.swap.perm (List.Perm.trans ((List.Perm.swap _ _ _).cons _) (List.Perm.swap _ _ _))).drop
 ·have c:i<sn:=by have:¬(i:Int)=(sn:Int):=by simpa using c
                  omega
  have hc:sn+vn<=sk:=by have:=LG hc;omega
  rcases H.oD with⟨_,e0,_⟩|⟨b,r,rfl,g1,g2,g3,H0⟩
  ·omega
  rcases H0.swap.oD with⟨_,e0,_⟩|⟨vb,rv,rfl,g4,g5,g6,H1⟩
  ·omega
  have RM:vn*sz<=r.length:=by
   have e1:(sn+vn)*sz<=sk*sz:=xj _ hc;rw[iv,g1]at g2;rw[zp]at e1;omega
  have H2:=H1.swap;have jr:vb≠b:=Hp.apart H1;have Sc:(xs++r).drop (i*sz)=xs.drop (i*sz)++r:=Hw hle;have hex:=hov w vb b (0+(i+vn)*sz) vn vk (sn+vn-(i+vn)) (sk-(i+vn)) (ys++rv).toArray (xs++r).toArray e e jr H1.get H2.get (by
   rw[JL,iv,g1];have:=Nat.mul_pos (show 0<sn by omega) pf;omega)
  have H3:=H2.drew;have CI:=VX (P:=P) (sT:=tS) (ty:=tI) hi (g:=b) (o:=0+(i+vn)*sz) (dLen:=sn+vn-(i+vn)) (dCap:=sk-(i+vn)) (b:=b) (so:=0+i*sz) (sLen:=sn+vn-i) (sCap:=sk-i) (n:=sn-i) H3.get H3.get (by rw[show sn+vn-(i+vn)=sn-i by omega];exact Nat.min_eq_right oM) (by
   rw[iv,g1,nh,<- zp];exact vz (xj _ oM) (Nat.le_add_right _ _)) (by
   rw[iv,g1,nh,<- zp,show i+vn+(sn-i)=sn+vn by omega,zp];omega) (by
   rw[nh,Sc,yw (by omega),mo (by omega)];exactλu hu=>h1 u (JQ hu))
  rw[nh,nh,Sc,yw (by omega),mo (show(xs.drop (i*sz)).length<=(sn-i)*sz by omega)]at CI;have H4:=H3.yx (.cells (kj (xs++r) ((i+vn)*sz) (xs.drop (i*sz))).toArray e);have wm:(kj (xs++r) ((i+vn)*sz) (xs.drop (i*sz))).length=(xs++r).length:=by
   simp only[kj,iv,ng,LY];rw[o8,iv,g1,CO];have:sn*sz=i*sz+(sn-i)*sz:=by rw[<- zp];congr 1;omega
   omega
  have Ch:=VX (P:=P) (sT:=tS) (ty:=tI) hi (g:=b) (o:=0+i*sz) (dLen:=sn+vn-i) (dCap:=sk-i) (b:=vb) (so:=0) (sLen:=vn) (sCap:=vk) (n:=vn) H4.get H4.swap.get (Fy oM) (by rw[iv];omega) (by
   rw[wm,iv,nh];omega) (by
   rw[Ea,yw (by omega),mo (by omega)];exact hy)
  rw[Ea,yw (by omega),mo (show ys.length<=vn*sz by omega),nh]at Ch;have es:kj (kj (xs++r) ((i+vn)*sz) (xs.drop (i*sz))) (i*sz) ys=(xs.take (i*sz)++ys++xs.drop (i*sz))++r.drop (vn*sz):=by
   have:=yJt (l:=i*sz) (m:=vn*sz) (xs:=xs) (r:=r) (ys:=ys) hle Dn RM;simp only[kj,CO];exact this
  rw[es]at Ch;refine⟨⟨oM,oM⟩,⟨oM,oM,oM⟩,av,w,?_,Cv.dp.mk (λ_=> ?_) (λc=>absurd c Z8)⟩
  ·rw[Np (show sk≠i+vn by omega)];exact hex
  rintro _ rfl;rw[Np (show sk≠i+vn by omega),Np (show sk≠i by omega),nh,nh];refine⟨⟨oM,oM,oM⟩,⟨oM,oM,oM⟩,_,_,CI,⟨oM,oM,oM⟩,_,_,Ch,_,_,rfl,?_⟩;have H5:=H4.yx (.cells (xs.take (i*sz)++ys++xs.drop (i*sz)++r.drop (vn*sz)).toArray e);have H6:=H5.AE (n:=sn+vn) (c:=sk) (sz:=sz) IT (by
   rw[iv,IT,o8,<- g2,iv,g1,zp];omega) hc
  exact(H6.swap.AE (n:=vn) (c:=vk) (sz:=sz) g4 g5 g6).swap
structure Bp where
 ez:List (List D)
 el:List D
 i:Nat
def NS (e sz oC:Nat):fy where
 ι:=Bp
 pat:=λi=>[.own 0,.d (.v (.int .i64 i.i)),.own 1]
 pre:=λi=>[.own e sz i.ez,.own e sz [i.el]]
 dp:=λi=>i.i<=i.ez.length/\(i.ez.length+1)*oC<=140737488355328
 alts:=λi=>[{o:=Unit,res:=λ_=> .own 2,post:=λ_=>[.gone,.gone,.own e sz (i.ez.take i.i++i.el::i.ez.drop i.i)],rel:=λ_=>True}]
def AV {P:az} (hm:P.follows .mixedOrders=au) {tS tI e sz oC fI fO fR:Nat} {z:Array ay} {fn:Func} {c:Code} (hf:P.funcs[fI]? =aq fn) (hb:fn.body=aq c) (Ci:gD P fI=au) (oT:xl fn.ntmps c=au) (LX:okF [] c=au) (Mh:Nat.ble 3 fn.ntmps=au)
 (hi:vS P tS=aq (e,sz,oC,z)) (hz:z.size=sz) (EY:0<oC) (pf:0<sz) (h2:Ls P tS=au) (Is:P.underlying tI=aq (.int .i64)) (hov:z1v P fO)
 (heq:∀(s:Option ba) (sn sk:Nat) (i:Int) (v:Option ba) (vn vk:Nat) (w:ax) (R:Ending->ax->Prop),y6b P tS tI sz fO fR s sn sk i v vn vk w R=E8 P [] c (Wn P fn R) (gP [.slice s sn sk,.int .i64 i,.slice v vn vk]) w):
 (NS e sz oC).ok P fI:=by
 intro i hc k L E w ys R hv;obtain⟨c1,c2⟩:i.i<=i.ez.length/\(i.ez.length+1)*oC<=140737488355328:=hc;simp only[NS,gw,VR,DR]at hv;obtain⟨y0,_,rfl,⟨l0,e0,_⟩,y1,_,rfl,⟨rfl,_⟩,y2,_,rfl,⟨l2,e2,_⟩,rfl⟩:=hv;obtain⟨s,sk,xs,aab,g1,wg,hu,H⟩:=R.su (n:=0) (t:=e) (sz:=sz) (ez:=i.ez) rfl;rw[e0]at g1;cases g1;have oU:∃v vk zs,y2= .slice v 1 vk/\iy E.F i.el zs/\i.el.length=sz/\Hp k w (oq e sz s i.ez.length sk xs::oq e sz v 1 vk zs::fz E.F::L):=by
  obtain⟨hk,hs,hh⟩:=H;cases hh with
  |cons ha iU hd hr=>
   simp only[NS,gV,v8,jj,B9,ui,xi]at hr;cases hr with
   |cons my KD Aw xo=>
    rcases my with⟨q,_⟩|⟨⟨LQ,tc⟩,q1,q2⟩
    ·cases q
    ·simp only at q1;rw[e2]at q1;cases q1;simp only[fp]at q2;obtain⟨a,kk,zs,rfl,q3,q4,q5⟩:=q2;simp only[A9,List.flatten_nil,oJ]at q3;exact⟨a,kk,zs,rfl,q3,q4 _ iS,hk,_,.cons ha iU hd (.cons q5 KD Aw xo)⟩
 obtain⟨v,vk,zs,rfl,Oo,oV,H2⟩:=oU;have hv:=xHh (fR:=fR) (fO:=fO) hi hz EY pf h2 Is hov (i:=i.i) H2 wg.one Oo.one c1 oM c2;have wy:=zNz (args:=[.slice s i.ez.length sk,.int .i64 i.i,.slice v 1 vk]) hm hf hb [] oT LX Mh (heq s i.ez.length sk i.i v 1 vk w _) hv;refine nT Ci (wy.mono ?_);rintro en w' ⟨a,kk,rfl,H3⟩;have H4:Hp k w' (oq e sz a (i.ez.take i.i++i.el::i.ez.drop i.i).length kk (xs.take (i.i*sz)++zs++xs.drop (i.i*sz))::(([]:List (Nat×fj)).map (gz E)++fz E.F::L)):=by
  have:(i.ez.take i.i++i.el::i.ez.drop i.i).length=i.ez.length+1:=by
   rw[iv,iC,ng,o8];omega
  rw[this];exact H3.swap.drop
 obtain⟨E',r1,r2,r3⟩:=aH (nx:=2) R.nx (by
  rw[N6,A9,<- sM i.i hu,<- rX i.i hu,<- iY];exact((wg.take _).append Oo).append (wg.drop _)) (λx hx=>by
   rcases oK.1 hx with hx|hx
   ·exact hu x (N8 hx)
   ·rcases jq.1 hx with rfl|hx
    ·exact oV
    ·exact hu x (JQ hx)) H4
 have hl:(i.ez.take i.i++i.el::i.ez.drop i.i).length=i.ez.length+1:=by
  rw[iv,iC,ng,o8];omega
 rw[hl]at r3;refine⟨_,rfl,_,uc.2 rfl,(),trivial,E',r1,r3,⟨r2.nx,?_⟩⟩;have q1:=((@h9 k w' True _).2 ⟨trivial,r2.hp⟩).imp (B:=gz E' (1,.gone)) λx hx=> .inl ⟨rfl,hx.2⟩
 have q2:=((@h9 k w' True _).2 ⟨trivial,q1⟩).imp (B:=gz E' (0,.gone)) λx hx=> .inl ⟨rfl,hx.2⟩
 exact q2
end Sx
