/- Texts of ours. No condition. -/
import Derived.Test.YtgmmlhddihaocaaGreatF9
set_option linter.all false
open Sx.fj renaming ra->ab,cells->ac,kg->ae,own->af
open Go.IntKind renaming i64->ag,u64->aj,u32->ak,wrap->am,signed->ao,u8->ap
open Bool renaming false->aq,true->ar
open List renaming map->au,take->av,drop->aw,length->ax
open Go.Value renaming int->ay
open Option renaming some->az,none->ba
open Go.ByteArray renaming toList_eq->bc
open Nat renaming pow_le_pow_right->be
open ByteArray renaming mk->bg
open Int renaming mul_add->bo
namespace Sx
set_option maxRecDepth 100000
open Go Cv Go.Proofs
def zWp (id:Int) (U:List Int):∀p∈zX U,lr (ay ag id) p.1=ar:=by
 intro p hp;obtain⟨k,_,rfl⟩:=oe.1 hp;rfl
def zXy (id:Int):∀U:List Int,u7 (ay ag id) [D.v (.bool ar)] (zX U)=zX (Hk U id)
 |[]=>rfl
 |k::U=>by
  have ih:=zXy id U;have e:mB (ay ag id) (ay ag k)=decide (id=k):=by simp[mB,xa]
  show(bif mB (ay ag id) (ay ag k)then(ay ag k,[D.v (.bool ar)])::zX U else(ay ag k,[D.v (.bool ar)])::u7 (ay ag id) [D.v (.bool ar)] (zX U))=_;rw[e,ih];by_cases c:id=k
  ·rw[jk c,cond_true,Hk,fc (by rw[c];exact iS)];rfl
  ·rw[jt c,cond_false,Hk,Hk];have hm:id∈k::U↔id∈U:=by simp[c]
   by_cases d:id∈U
   ·rw[fc d,fc (hm.2 d)];rfl
   ·rw[eg d,eg (λx=>d (hm.1 x))];rfl
def zXg (id:Int):∀U:List Int,jH (ay ag id) (zX U)=if id∈U then az [D.v (.bool ar)]else ba
 |[]=>rfl
 |k::U=>by
  have ih:=zXg id U;have e:mB (ay ag id) (ay ag k)=decide (id=k):=by simp[mB,xa]
  show(bif mB (ay ag id) (ay ag k)then az [D.v (.bool ar)]else jH (ay ag id) (zX U))=_;rw[e,ih];by_cases c:id=k
  ·rw[jk c,cond_true,fc (by rw[c];exact iS)]
  ·rw[jt c,cond_false];have hm:id∈k::U↔id∈U:=by simp[c]
   by_cases d:id∈U
   ·rw[fc d,fc (hm.2 d)]
   ·rw[eg d,eg (λx=>d (hm.1 x))]
def yQi (id:Int) (U:List Int):jH (ay ag id) (zX U)=az [D.v (.bool (decide (id∈U)))]/\decide (id∈U)=ar\/jH (ay ag id) (zX U)=ba/\[D.v (.bool (decide (id∈U)))]=[D.v (.bool aq)]/\decide (id∈U)=aq:=by
 rw[zXg];by_cases c:id∈U
 ·rw[fc c,jk c];exact .inl ⟨rfl,rfl⟩
 ·rw[eg c,jt c];exact .inr ⟨rfl,rfl,rfl⟩
def z0m {p:ff} {inst:Int} {sd:Bool} {dm:Int}:∀(m:Nat) (q:Int) (B:List (List zK)),q.toNat<=m->uh p B->0<=inst/\inst<B.length->
 (∀t∈(vH p B inst sd dm q).steps,X5 t/\1<=t.dr)/\((vH p B inst sd dm q).steps.map (·.dr)).sum=q-(vH p B inst sd dm q).left
 |m,q,B,hm,h,hi=>by
  by_cases hq:q<=0
  ·rw[PF (.inl hq)];exact⟨λt ht=>(by cases ht),by simp⟩
  cases hs:m4 p B inst sd dm q with
  |none=>rw[PF (.inr hs)];exact⟨λt ht=>(by cases ht),by simp⟩
  |some x=>
   obtain⟨t,C⟩:=x;obtain⟨k1,k2⟩:=zYf h hs;have uf:=O6 oM hs;cases m with
   |zero=>omega
   |succ m=>
   obtain⟨i1,i2⟩:=z0m (p:=p) (inst:=inst) (sd:=sd) (dm:=dm) m (q-t.dr) C oM k1 (by rw[k2];exact hi);rw[YE (by omega) hs];refine⟨λu hu=> ?_,?_⟩
   ·rcases jq.1 hu with rfl|hu
    ·exact⟨yYi h hi hs,uf.1⟩
    ·exact i1 u hu
   ·dsimp only;rw[jj,rk,i2];omega
def y1o {α:Type} {f:α->List fv} (hf:∀x,(f x).length<=3):∀l:List α,(l.flatMap f).length<=3*l.length
 |[]=>lh _
 |x::l=>by
  have:=y1o hf l;have:=hf x;rw[vi,iv,iC];omega
def zWr (p:ff) (c:ie) (x:wS) (left:Int):(pN p c x left).length<=3*x.ig.length+3:=by
 rw[pN,iv];have:=y1o (λf=>YO p x (HW f)) x.ig;have:=YO p x ⟨3,c.id,c.inst,c.side,x.dm,x.dr,left,0⟩;omega
def Wt {l:List wS} (h:∀t∈l,X5 t/\1<=t.dr):(l.length:Int)<=(l.map (·.dr)).sum:=by
 induction l with
 |nil=>exact xq _
 |cons t l ih=>
  have:=ih λu hu=>h u (jc _ hu)
  have:=(h t iS).2;rw[jj,rk,iC];omega
def y7k (i:qo) (h:GJ.dp i):yTj i:=by
 obtain⟨m,p,B,U,c,X⟩:=i;have h':(m.fv p B U/\jb p B)/\((0<=c.inst/\c.inst<B.length)/\(1<=c.dr/\c.dr<=1000000)/\(c.side=1\/c.side=2))/\p.dm c.inst c.dm=0/\X=aP p B U c:=h;clear h;obtain⟨⟨⟨ep,hR,eu⟩,hB⟩,⟨⟨h0,h1⟩,hq,hs⟩,JX,hX⟩:=h';subst ep eu hX;have By:=hR.wf hB;obtain⟨k1,k2,k3⟩:=rI (inst:=c.inst) (sd:=decide (c.side=2)) (dm:=c.dm) _ c.dr B (lh _) By;have k3:=k3 oM;obtain⟨s1,s2⟩:=z0m (inst:=c.inst) (sd:=decide (c.side=2)) (dm:=c.dm) _ c.dr B (lh _) By ⟨h0,h1⟩;have hX:=VN m.p B m.used c;have Ci:=Pv hB.pc JX;unfold yTj Q0 Q6 Qa o7 Qd fa kK u6 zFj Q6 dI;dsimp only;rw[zXy,hX];refine⟨zWp _ _,⟨m.s,m.p,B,c.inst,decide (c.side=2),c.dm,c.dr⟩,rfl,f9 hs,rfl,rfl,rfl,⟨hR,hB,⟨h0,h1⟩,hq.1,hq.2⟩,λo ho=> ?_⟩;have er:np.r ⟨m.s,m.p,B,c.inst,decide (c.side=2),c.dm,c.dr⟩=vH m.p B c.inst (decide (c.side=2)) c.dm c.dr:=rfl;rw[er]at ho ⊢;clear hX er;generalize vH m.p B c.inst (decide (c.side=2)) c.dm c.dr=R at*;obtain⟨ts,lf,RB⟩:=R;dsimp only at*;have hlen:=Wt s1;have e4:(ts.map wX).length=ts.length:=gy ..;refine⟨⟨c.dr,0,[⟨1,c.id,c.inst,c.side,c.dm,c.dr,c.dr,0⟩]⟩,rfl,rfl,rfl,λj=>j.k<=ts.length/\j.left=lf+((ts.drop j.k).map (·.dr)).sum/\(⟨1,c.id,c.inst,c.side,c.dm,c.dr,c.dr,0⟩::nE m.p c ts c.dr)=j.out++nE m.p c (ts.drop j.k) j.left/\j.out.length<=1+1503*j.k,λj=>ts.length-j.k,⟨mi _,by dsimp only;rw[Ea,s2];omega,rfl,lh _⟩,?_⟩
 rintro⟨left,k,out⟩ ⟨j1,j2,j3,j4⟩;dsimp only at j1 j2 j3 j4 ⊢;have e5:(out.map x9).length=out.length:=gy ..;refine zH (λc1=> ?_) (λc1=> ?_)
 ·obtain⟨t,ht⟩:=z6 (l:=ts) (i:=k) oM;have hd:ts.drop k=t::ts.drop (k+1):=by rw[CD (by omega),(jf.1 ht).2]
  obtain⟨⟨t1,t2,t3⟩,t4⟩:=s1 t (ku ht);have EU:=Wt (l:=ts.drop (k+1)) λu hu=>s1 u (JQ hu)
  have hsk:((ts.drop k).map (·.dr)).sum<=(ts.map (·.dr)).sum:=by
   have:=Wt (l:=ts.take k) λu hu=>s1 u (N8 hu)
   have e:(ts.map (·.dr)).sum=((ts.take k).map (·.dr)).sum+((ts.drop k).map (·.dr)).sum:=by
    rw[<- NX,<- jl,Bb]
   omega
  rw[hd,jj,rk]at j2 hsk;rw[hd,nE]at j3;have RM:=zWr m.p c t (left-t.dr);have e6:((pN m.p c t (left-t.dr)).map x9).length=(pN m.p c t (left-t.dr)).length:=gy ..;have hw:ag.wrap (left-t.dr)=left-t.dr:=iq oM;refine⟨⟨oM,oM⟩,t.dm,t.dr,t.fx,t.ig.map y5,ju ht (by simp[wX]) rfl,?_⟩;rw[hw];refine⟨⟨⟨m.p,o,Hk m.used c.id⟩,c,t,left-t.dr⟩,iw (iw (oF (iJ ⟨rfl,⟨⟨hB.pc,hB.ps⟩,⟨Z9,Z9⟩,Z9,hs,λf hf=>(t2 f hf).1⟩,λ_ _=>⟨by dsimp only;rw[e5,e6];omega,⟨left-t.dr,k+1,out++pN m.p c t (left-t.dr)⟩,rfl,qy oM,by dsimp only;rw[jl],⟨Z9,Z9,by dsimp only;rw[j3,iY],by dsimp only;rw[iv];omega⟩,Z9,gg⟩⟩)))⟩
 have hk:k=ts.length:=by omega
 subst hk;rw[List.drop_of_length_le (lh _)]at j2 j3;rw[nE,oJ]at j3;rw[<- j3];rw[<- j3]at e5 j4;have hRB:=k1.ok;refine Cv.dp.mk (λe=> ?_) (λe=>Cv.dp.mk (λe2=> ?_) (λe2=> ?_))
 ·have e:lf=0:=by simpa using e
  rw[eg (by omega),eg (by omega),oJ];exact⟨⟨m.p,o,Hk m.used c.id⟩,iw (ni ⟨rfl,ho,rfl⟩)⟩
 ·have e:¬lf=0:=by simpa using e
  have e2:c.time=1:=by simpa using e2
  rw[eg (show ¬(lf≠0/\c.time≠1)by omega),fc (show lf≠0/\c.time=1 from⟨e,e2⟩),oJ];have ha:=(ho.add c.inst c.id (decide (c.side=2)) c.dm lf).1;rw[f9 hs]at ha;exact⟨⟨o,c.inst,c.id,decide (c.side=2),c.dm,lf⟩,rfl,rfl,f9 hs,rfl,rfl,rfl,ho.fit hRB,λ_ _=>⟨⟨m.p,(gv.iz ⟨o,c.inst,c.id,decide (c.side=2),c.dm,lf⟩).1,Hk m.used c.id⟩,iw (ni ⟨rfl,ha,rfl⟩)⟩⟩
 ·have e:¬lf=0:=by simpa using e
  have e2:¬c.time=1:=by simpa using e2
  rw[fc (show lf≠0/\c.time≠1 from⟨e,e2⟩),eg (show ¬(lf≠0/\c.time=1)by omega)];exact⟨by rw[e5];omega,⟨m.p,o,Hk m.used c.id⟩,iw (mn ⟨rfl,by rw[jl];rfl,rfl,ho,rfl⟩)⟩
def z6o:GJ.ok Tryz.prog 197:=gu mixed (dw yAn (dw ySm (dw yXo fg))) 0 (λ_=>[]) (λi=>y6r i) [] Tryz.func197 y7k
def zXi:Je.ok Tryz.prog 162:=gu (V:=yZc) mixed (dw U5 fg) 0 (λ_=>[]) (λ_=>[]) [] Tryz.func162 λ(i:DD) h=>by
 obtain⟨m,p,B,U,id,q,inst,o,X⟩:=i;have h':(m.fv p B U/\jb p B)/\X=gK B U id inst o:=h;clear h;obtain⟨⟨⟨ep,hR,eu⟩,hB⟩,hX⟩:=h';subst ep eu hX;have:=xF m.p;have:=hB.bl;exact⟨⟨m.s,m.p,B,id,o.dr⟩,rfl,rfl,rfl,⟨hR,Z9⟩,λo' ho=>⟨⟨m.p,o',m.used⟩,iw (ni ⟨rfl,ho,rfl⟩)⟩⟩
def zWg:I1.ok Tryz.prog 163:=gu (V:=yEa) mixed (dw U5 fg) 0 (λ_=>[]) (λ_=>[]) [] Tryz.func163 λ(i:DD) h=>by
 obtain⟨m,p,B,U,id,q,inst,o,X⟩:=i;have h':(m.fv p B U/\jb p B)/\gr (o.dr-q)/\X=mC B U id q inst o:=h;clear h;obtain⟨⟨⟨ep,hR,eu⟩,hB⟩,hw,hX⟩:=h';subst ep eu hX;have:=xF m.p;have:=hB.bl;have hw:=iq hw;unfold yEa QM Qa dI;dsimp only;rw[hw];exact⟨⟨m.s,m.p,B,id,q⟩,rfl,rfl,rfl,⟨hR,Z9⟩,λo' ho=>⟨⟨m.p,o',m.used⟩,iw (ni ⟨rfl,ho,rfl⟩)⟩⟩
def zWs {c:ie} (h:c.right=0):(if c.kind=1 then c.gf else if c.kind≠2/\jA c.dr=aq then 24 else if c.kind=4/\uJ c.dm=aq then 23 else 0)=0:=by
 rw[ie.right]at h;by_cases c1:c.kind<1\/4<c.kind
 ·rw[fc c1]at h;cases h
 rw[eg c1]at h;by_cases c2:c.id<1\/1099511627776<c.id
 ·rw[fc c2]at h;cases h
 rw[eg c2]at h;exact h
def zYk {c:ie} (h:c.right=0) (hk:c.kind=1):(c.side=1\/c.side=2)/\(1<=c.dr/\c.dr<=1000000)/\(0<=c.least/\c.least<=c.dr):=by
 have h:=zWs h;rw[fc hk,ie.gf]at h;by_cases c1:c.side≠1/\c.side≠2
 ·rw[fc c1]at h;cases h
 rw[eg c1]at h;by_cases c2:c.time<1\/3<c.time
 ·rw[fc c2]at h;cases h
 rw[eg c2]at h;cases c3:jA c.dr with
 |false=>rw[fc c3]at h;cases h
 |true=>
  rw[eg (by rw[c3];decide)]at h;by_cases c4:c.least<0\/c.dr<c.least
  ·rw[fc c4]at h;cases h
  simp only[jA,lj,tq]at c3;exact⟨oM,c3,oM⟩
def Z0 {c:ie} (h:c.right=0) (hk:¬c.kind=1) (oU:¬c.kind=2):1<=c.dr/\c.dr<=1000000:=by
 have h:=zWs h;rw[eg hk]at h;cases c3:jA c.dr with
 |false=>rw[fc ⟨oU,c3⟩]at h;cases h
 |true=>
  simp only[jA,lj,tq]at c3;exact c3
def y5p (i:qo) (h:Gu.dp i):yLm i:=by
 obtain⟨m,p,B,U,c,X⟩:=i;have h':(m.fv p B U/\jb p B)/\c.right=0/\c.kind=1/\X=rG p B U c:=h;clear h;obtain⟨⟨hM,hB⟩,hr,hkd,hX⟩:=h';obtain⟨ep,hR,eu⟩:=hM;subst ep eu;have hM:m.fv m.p B m.used:=⟨rfl,hR,rfl⟩
 obtain⟨hs,hq,hl⟩:=zYk hr hkd;have Ax:=hB.bl;have wm:=xF m.p;unfold yLm QM Qa Qb Qd fa kK lA eA QF Qa eX Qa fa zGu Qa fa zHn QM zGp zFx X9 zGw zHe X9 u6 qQ o7 dI;dsimp only;refine⟨⟨m.p,c.inst,c.dm⟩,iw (mn ⟨rfl,hB.ps,λ_ _=>Cv.dp.mk (λe=> ?_) (λe=> ?_)⟩)⟩
 ·have e:m.p.dm c.inst c.dm≠0:=by simpa using e
  have hx:X=⟨B,m.used,rD c (m.p.dm c.inst c.dm)⟩:=by rw[hX,rG,fc e]
  exact⟨⟨c,m.p.dm c.inst c.dm⟩,ni (iJ ⟨rfl,trivial,λ_ _=>⟨m,iw (mn ⟨rfl,by rw[hx];rfl,by rw[hx];exact hM⟩)⟩⟩)⟩
 have JX:m.p.dm c.inst c.dm=0:=by simpa using e
 have wk:=Zd JX;have hib:0<=c.inst/\c.inst<B.length:=by omega
 rw[rG,eg (by rw[JX];decide)]at hX;refine⟨0,λl=>l=c.LM,Cv.dp.mk (λe=>⟨c.dr,rfl,by rw[ie.LM,fc (by simpa using e)],gg⟩) (λe=>⟨c.least,rfl,by rw[ie.LM,eg (by simpa using e)],gg⟩),?_⟩;rintro _ rfl;refine⟨zWp _ _,_,_,yQi _ _,zH (λe=> ?_) (λe=> ?_)⟩
 ·have hx:X=⟨B,m.used,rD c 25⟩:=by rw[hX,fc e]
  exact⟨⟨c,25⟩,ni (iJ ⟨rfl,trivial,λ_ _=>⟨m,iw (mn ⟨rfl,by rw[hx];rfl,by rw[hx];exact hM⟩)⟩⟩)⟩
 rw[eg e]at hX;refine⟨⟨m.s,m.p,B,0,aq⟩,rfl,⟨hR,Z9⟩,λ_ _=>zH (λe=> ?_) (λe=> ?_)⟩
 ·have hx:X=⟨B,m.used,rD c 13⟩:=by rw[hX,fc (by dsimp only at e;omega)]
  exact⟨⟨c,13⟩,ni (iJ ⟨rfl,trivial,λ_ _=>⟨m,iw (mn ⟨rfl,by rw[hx];rfl,by rw[hx];exact hM⟩)⟩⟩)⟩
 rw[eg (by dsimp only at e;omega)]at hX;have oT:np.ok ⟨m.s,m.p,B,c.inst,decide (c.side=2),c.dm,c.dr⟩:=⟨hR,hB,hib,hq.1,hq.2⟩
 refine⟨ar,λb=>b=decide (0<c.LM/\c.dr-(vH m.p B c.inst (decide (c.side=2)) c.dm c.dr).left<c.LM),zH (λe=>⟨⟨m.s,m.p,B,c.inst,decide (c.side=2),c.dm,c.dr⟩,rfl,f9 hs,rfl,rfl,rfl,oT,λ_ _=>⟨_,rfl,decide_eq_decide.2 ⟨λx=>⟨e,x⟩,λx=>x.2⟩,gg⟩⟩) (λe=>⟨aq,rfl,(jt λx=>e x.1).symm,gg⟩),?_⟩;rintro _ rfl;refine zH (λe=> ?_) (λe=> ?_)
 ·have hx:X=⟨B,m.used,rD c 28⟩:=by rw[hX,fc e]
  exact⟨⟨c,28⟩,ni (iJ ⟨rfl,trivial,λ_ _=>⟨m,iw (mn ⟨rfl,by rw[hx];rfl,by rw[hx];exact hM⟩)⟩⟩)⟩
 rw[eg e]at hX;refine⟨ar,λb=>b=decide (c.time=1/\pB m.p B c.inst (decide (c.side=2)) c.dm c.dr=ar),Cv.dp.mk (λe=>⟨⟨m.s,m.p,B,c.inst,decide (c.side=2),c.dm,c.dr⟩,rfl,f9 hs,rfl,rfl,rfl,oT,λ_ _=>⟨_,rfl,?_,gg⟩⟩) (λe=>⟨aq,rfl,(jt λx=> ?_).symm,gg⟩),?_⟩
 ·have e:c.time=1:=by simpa using e
  dsimp only;cases hb:pB m.p B c.inst (decide (c.side=2)) c.dm c.dr with
  |true=>exact(jk ⟨e,rfl⟩).symm
  |false=>exact(jt λx=>by cases x.2).symm
 ·rw[x.1]at e;cases e
 rintro _ rfl;refine zH (λe=> ?_) (λe=> ?_)
 ·have hx:X=⟨B,m.used,rD c 23⟩:=by rw[hX,fc e]
  exact⟨⟨c,23⟩,ni (iJ ⟨rfl,trivial,λ_ _=>⟨m,iw (mn ⟨rfl,by rw[hx];rfl,by rw[hx];exact hM⟩)⟩⟩)⟩
 rw[eg e]at hX;exact⟨⟨m,m.p,B,m.used,c,X⟩,iw (iw (tg ⟨rfl,⟨⟨hM,hB⟩,⟨hib,hq,hs⟩,JX,hX⟩,λo ho=>⟨o,iw (ni ho)⟩⟩))⟩
def yQw:Gu.ok Tryz.prog 159:=gu mixed (dw Pt (dw z8w (dw yCc (dw yKm (dw z7d (dw z6o fg)))))) 0 (λ_=>y7m) (λ_=>[]) [] Tryz.func159 y5p
def z1m {p:ff} {B:List (List zK)} (h:uh p B) {id inst:Int} {o:zK} (hf:yA B id=(inst,o,ar)):(0<=inst/\inst<B.length)/\K2 o:=by
 rw[yA]at hf;split at hf
 ·cases hf
 ·rename_i k hk;obtain⟨L,hL,hh⟩:=fK hk;rw[zY hL]at hf;cases hf;have gn:=(jf.1 hL).1;obtain⟨o,ho,e⟩:=oe.1 (kh.1 hh);have hg:=lX (h.od k L hL).2.1 ho;rw[e]at hg;rw[hg];exact⟨oM,(h.od k L hL).1 o ho⟩
def zRf (p:ff) (c:ie):∀(l:List wS) (left:Int),(∀t∈l,X5 t/\1<=t.dr)->(nE p c l left).length<=1503*l.length
 |[],_,_=>lh _
 |t::l,left,h=>by
  have a:=zRf p c l (left-t.dr) λu hu=>h u (jc _ hu)
  have b:=zWr p c t (left-t.dr);have d:=(h t iS).1.2.2;rw[nE,iv,iC];omega
def zGo {p:ff} {B:List (List zK)} (h:uh p B) (U:List Int) {c:ie} (hi:0<=c.inst/\c.inst<B.length) (hq:1<=c.dr/\c.dr<=1000000):(aP p B U c).R.length<=1503000002:=by
 obtain⟨s1,s2⟩:=z0m (inst:=c.inst) (sd:=decide (c.side=2)) (dm:=c.dm) _ c.dr B (lh _) h hi;have k3:=(rI (inst:=c.inst) (sd:=decide (c.side=2)) (dm:=c.dm) _ c.dr B (lh _) h).2.2 oM;have:=Wt s1;have:=zRf p c _ c.dr s1;rw[VN];dsimp only;rw[iv,iC];split
 ·rw[iC,rn];omega
 ·rw[rn];omega
def yQb (i:NN) (h:BX.dp i):z5h i:=by
 obtain⟨m,p,B,U,c,inst,o,X⟩:=i;have h':m.fv p B U/\jb p B/\yA B c.id=(inst,o,ar)/\(1<=c.dr/\c.dr<=1000000)/\X=cF p B U c inst o:=h;clear h;obtain⟨hM,hB,hf,hq,hX⟩:=h';obtain⟨ep,hR,eu⟩:=hM;subst ep eu;have hM:m.fv m.p B m.used:=⟨rfl,hR,rfl⟩
 have By:=hR.wf hB;obtain⟨wk,HG⟩:=z1m By hf;have CH:=HG.s;have hoq:=HG.q;have Ax:=hB.bl;have wm:=xF m.p;unfold z5h QF QM Qa Qb Qd fa mA zCf QF QM Qa Qd fa kK dN Nv Q2 eO QM lA qQ o7;dsimp only;refine⟨⟨m.p,inst,c.dm⟩,iw (mn ⟨rfl,hB.ps,λ_ _=>Cv.dp.mk (λe=> ?_) (λe=> ?_)⟩)⟩
 ·have e:m.p.dm inst c.dm≠0:=by simpa using e
  have hx:X=⟨B,m.used,rD c (m.p.dm inst c.dm)⟩:=by rw[hX,cF,fc e]
  exact⟨⟨c,m.p.dm inst c.dm⟩,ni (iJ ⟨rfl,trivial,λ_ _=>⟨m,iw (mn ⟨rfl,by rw[hx];rfl,by rw[hx];exact hM⟩)⟩⟩)⟩
 have JX:m.p.dm inst c.dm=0:=by simpa using e
 rw[cF,eg (by rw[JX];decide)]at hX;have hw:ag.wrap (o.dr-c.dr)=o.dr-c.dr:=iq oM;rw[hw];refine(λhT=>Cv.dp.mk (λe1=>zH (λe2=> ?_) (λe2=>hT λx=>e2 x.2)) (λe1=>hT λx=>by rw[x.1]at e1;simp at e1)) (λ(hn:¬(c.dm=o.dm/\c.dr<=o.dr))=> ?_)
 ·have e1:c.dm=o.dm:=by simpa using e1
  rw[fc ⟨e1,e2⟩]at hX;exact⟨⟨m,m.p,B,m.used,c.id,o.dr-c.dr,inst,o,X⟩,iw (iw (mn ⟨rfl,⟨⟨hM,hB⟩,⟨Z9,Z9⟩,hX⟩,λo' ho=>⟨o',iw (ni ho)⟩⟩))⟩
 rw[eg hn]at hX;have hBt:=hB.take c.id o.dr;refine⟨m.s,rfl,hR.small hB,λ_ _=>⟨⟨m.s,m.p,B,c.id,o.dr⟩,rfl,rfl,rfl,⟨hR,Z9⟩,λo' oG=>⟨⟨o',m.p,(jG B c.id o.dr).1,inst,decide (o.side=2),c.dm,c.dr⟩,rfl,f9 CH,rfl,rfl,rfl,⟨oG,hBt,by dsimp only;rw[sP];exact wk,hq.1,hq.2⟩,λ_ _=>Cv.dp.mk (λe=> ?_) (λe=> ?_)⟩⟩⟩
 ·have hx:X=⟨B,m.used,rD c 23⟩:=by rw[hX,fc e]
  exact⟨⟨c,23⟩,ni (iJ ⟨rfl,trivial,λ_ _=>⟨m,iw (mn ⟨rfl,by rw[hx];rfl,by rw[hx];exact hM⟩)⟩⟩)⟩
 rw[eg (by rw[e];decide)]at hX;refine⟨⟨m,m.p,B,m.used,c.id,0,inst,o,gK B m.used c.id inst o⟩,iw (iw (iJ ⟨rfl,⟨⟨hM,hB⟩,rfl⟩,λo1 ho1=>⟨⟨o1,m.p,(jG B c.id o.dr).1,m.used,⟨1,c.id,inst,o.side,c.dm,c.dr,0,1,[]⟩,aP m.p (jG B c.id o.dr).1 m.used ⟨1,c.id,inst,o.side,c.dm,c.dr,0,1,[]⟩⟩,iw (iw (tg ⟨rfl,⟨⟨ho1,hBt⟩,⟨by dsimp only;rw[sP];exact wk,hq,CH⟩,JX,rfl⟩,λo2 Oz=>⟨?_,o2,rfl,rfl,rfl,rfl,rfl,rfl,rfl,rfl,rfl,rfl,rfl,rfl,rfl,?_,?_⟩⟩))⟩⟩))⟩
 ·have:=zGo (By.take c.id o.dr) m.used (c:=⟨1,c.id,inst,o.side,c.dm,c.dr,0,1,[]⟩) (by dsimp only;rw[sP];exact wk) hq;dsimp only;rw[gy,gy];have e1:(gK B m.used c.id inst o).R.length=1:=rfl;omega
 ·rw[hX,<- jl];rfl
 ·rw[hX];exact Oz
def z7u:BX.ok Tryz.prog 161:=gu mixed (dw Pt (dw z8w (dw Pz (dw U5 (dw z7d (dw zXi (dw zWg (dw z6o fg)))))))) 0 (λ_=>[]) (λ_=>[]) [] Tryz.func161 yQb
def vdo (i:qo) (h:doC.dp i):Vdo i:=by
 obtain⟨m,p,B,U,c,X⟩:=i;have h':(m.fv p B U/\jb p B)/\c.label.length<=140737488355328/\gr c.dr/\X=Bg p B U c:=h;clear h;obtain⟨⟨hM,hB⟩,hlb,hqr,hX⟩:=h';obtain⟨ep,hR,eu⟩:=hM;subst ep eu;have hM:m.fv m.p B m.used:=⟨rfl,hR,rfl⟩
 have By:=hR.wf hB;have Ax:=hB.bl;have wm:=xF m.p;unfold Vdo QF Qa Qd fa eA QF Qa yUh QF QX Qa Qd fa mA yAv QF QX Qa z0h QF z0d QF Qa;dsimp only;refine⟨c,iw ⟨rfl,hlb,λ_ _=>Cv.dp.mk (λe=> ?_) (λe=> ?_)⟩⟩
 ·have e:c.right≠0:=by simpa using e
  have hx:X=⟨B,m.used,rD c c.right⟩:=by rw[hX,Bg,fc e]
  exact⟨⟨c,c.right⟩,ni (iJ ⟨rfl,trivial,λ_ _=>⟨m,iw (mn ⟨rfl,by rw[hx];rfl,by rw[hx];exact hM⟩)⟩⟩)⟩
 have hr:c.right=0:=by simpa using e
 rw[Bg,eg (by rw[hr];decide)]at hX;refine Cv.dp.mk (λe=> ?_) (λe=> ?_)
 ·have e:c.kind=1:=by simpa using e
  rw[fc e]at hX;exact⟨⟨m,m.p,B,m.used,c,X⟩,iw (iw (tg ⟨rfl,⟨⟨hM,hB⟩,hr,e,hX⟩,λo ho=>⟨o,iw (ni ho)⟩⟩))⟩
 have hk:¬c.kind=1:=by simpa using e
 rw[eg hk]at hX;refine(λhT=>⟨hT,rfl,trivial,hT⟩) ?_;refine⟨⟨m.s,m.p,B,c.id,0⟩,rfl,rfl,⟨hR,Z9⟩,λ_ _=>Cv.dp.mk (λe=> ?_) (λe=> ?_)⟩
 ·have e:(yA B c.id).2.2=aq:=by simpa using e
  have hx:X=⟨B,m.used,rD c 26⟩:=by rw[hX,fc e]
  exact⟨⟨c,26⟩,ni (iJ ⟨rfl,trivial,λ_ _=>⟨m,iw (mn ⟨rfl,by rw[hx];rfl,by rw[hx];exact hM⟩)⟩⟩)⟩
 have e:(yA B c.id).2.2=ar:=by simpa using e
 rw[eg (by rw[e];decide)]at hX;dsimp only;have hf:yA B c.id=((yA B c.id).1,(yA B c.id).2.1,ar):=by rw[<- e]
 generalize (yA B c.id).1=inst at*;generalize (yA B c.id).2.1=o at*;obtain⟨wk,HG⟩:=z1m By hf;have hoq:=HG.q;refine Cv.dp.mk (λe4=> ?_) (λe4=>Cv.dp.mk (λe2=> ?_) (λe2=>zH (λe3=> ?_) (λe3=> ?_)))
 ·have e4:c.kind=4:=by simpa using e4
  rw[fc e4]at hX;exact⟨⟨m,m.p,B,m.used,c,inst,o,X⟩,iw (iw (iw (iJ ⟨rfl,⟨hM,hB,hf,Z0 hr hk (by rw[e4];decide),hX⟩,λo' ho=>⟨o',iw (ni ho)⟩⟩)))⟩
 all_goals
  have e4:¬c.kind=4:=by simpa using e4
  rw[eg e4]at hX
 ·have e2:c.kind=2:=by simpa using e2
  rw[fc (.inl e2)]at hX;exact⟨⟨m,m.p,B,m.used,c.id,0,inst,o,X⟩,iw (iw (iJ ⟨rfl,⟨⟨hM,hB⟩,hX⟩,λo' ho=>⟨o',iw (ni ho)⟩⟩))⟩
 ·rw[fc (.inr (by omega))]at hX;exact⟨⟨m,m.p,B,m.used,c.id,0,inst,o,X⟩,iw (iw (iJ ⟨rfl,⟨⟨hM,hB⟩,hX⟩,λo' ho=>⟨o',iw (ni ho)⟩⟩))⟩
 ·have e2:¬c.kind=2:=by simpa using e2
  have hq:=Z0 hr hk e2;rw[eg (by omega)]at hX;exact⟨⟨m,m.p,B,m.used,c.id,c.dr,inst,o,X⟩,iw (iw (mn ⟨rfl,⟨⟨hM,hB⟩,⟨Z9,Z9⟩,hX⟩,λo' ho=>⟨o',iw (ni ho)⟩⟩))⟩
def xCd:doC.ok Tryz.prog 111:=gu mixed (dw Zu (dw z8w (dw yOe (dw yQw (dw z7u (dw zXi (dw zWg fg))))))) 0 (λ_=>[]) (λ_=>[]) [0] Tryz.func111 vdo
def zXr {p:ff} (hc:p.check=0):1<=p.count/\p.count<=21:=by
 have h1:=Vq hc;have h2:=(jE hc).m2;have h3:=xF p;omega
def yYb (c:ie):1<=uS c/\uS c<=4:=by
 have:=y3 (n:=c.kind) (lo:=0) (hi:=8) oM;rw[uS];split<;>omega
def yKe (t:zc):(xE t).kind=uS t.c:=by
 rw[xE];split<;>rfl
def yQz (t:zc):1<=(xE t).dr/\(xE t).dr<=12:=by
 have:=y3 (n:=t.c.dr) (lo:=0) (hi:=11) oM;have e:(xE t).dr=1+zG t.c.dr 0 11:=by rw[xE];split<;>rfl
 omega
def zHj (t:zc):(xE t).label=[]:=by
 rw[xE];split<;>rfl
def z3j (x:ff) (c:ie) (i:Int) (hk:uS c=1):let y:=xE ⟨ib x,c,i⟩
 (0<=y.inst/\y.inst<(ib x).count)/\(y.side=1\/y.side=2)/\(1<=y.time/\y.time<=3)/\(0<=y.least/\y.least<=y.dr)/\(-2000000<=y.dm/\y.dm<=2000000)/\(ib x).dm y.inst y.dm=0:=by
 have hc:=rC x;have hcb:=zXr hc;have ht:=U8 x;have wi:=y3 (n:=c.inst) (lo:=0) (hi:=((ib x).count:Int)-1) oM;have ws:=y3 (n:=c.side) (lo:=0) (hi:=1) oM;have wq:=y3 (n:=c.dr) (lo:=0) (hi:=11) oM;have wp:=y3 (n:=c.dm) (lo:=0) (hi:=9) oM;have ww:=y3 (n:=x.wide) (lo:=0) (hi:=60) oM;have wl:=y3 (n:=c.least) (lo:=0) (hi:=1+zG c.dr 0 11) oM;have hm:=Jp (a:=zV x) (b:=zG c.dm 0 9) (m:=zV x) (n:=9) oM wp;have hw:=Jp (a:=zV x) (b:=zG x.wide 0 60) (m:=zV x) (n:=60) oM ww;have hh:(y9 ⟨ib x,c,i⟩).kind=1:=hk;have e:xE ⟨ib x,c,i⟩={y9 ⟨ib x,c,i⟩with id:=i+1,time:=cM c,least:=bZ c (1+zG c.dr 0 11),dm:=if((ib x).gj (zG c.inst 0 ((ib x).count-1))).2.2=ar then zV x*zG c.dm 0 9-4*zV x else zV x*zG c.dm 0 9+8*zV x}:=by
  rw[xE,fc hh];rfl
 intro y;have ey:y=_:=e;rw[ey];have htm:1<=cM c/\cM c<=3:=by rw[cM];split;omega;split<;>omega
 have hle:0<=bZ c (1+zG c.dr 0 11)/\bZ c (1+zG c.dr 0 11)<=1+zG c.dr 0 11:=by rw[bZ];split<;>omega
 refine⟨⟨wi.1,by show zG c.inst 0 ((ib x).count-1)<_;omega⟩,by show 1+zG c.side 0 1=1\/1+zG c.side 0 1=2;omega,htm,hle,?_,?_⟩
 ·dsimp only;split<;>omega
 ·dsimp only;show(ib x).dm (zG c.inst 0 ((ib x).count-1)) _=0;obtain⟨k,oU⟩:∃k:Nat,zG c.inst 0 (((ib x).count:Int)-1)=k:=⟨(zG c.inst 0 (((ib x).count:Int)-1)).toNat,oM⟩
  rw[oU]at wi ⊢;have hkc:k<(ib x).count:=by omega
  have et:(ib x).tick=zV x:=rfl;have el:(ib x).low= -20*zV x:=rfl;have eh:(ib x).high=100*zV x:=rfl;have ew:(ib x).wide=zV x*(5+zG x.wide 0 60):=rfl;rw[bo]at ew;rw[ff.dm,eg (by omega),eg (by omega),et,el,eh,ew];rcases dC hc hkc with⟨h1,_⟩|⟨h1,h2⟩
  ·have LW:((ib x).dt.length:Int)<=k:=by
    rcases vh k (ib x).dt.length with y|y
    ·rw[ff.gj,eg (by omega),fc (by omega)]at h1;cases h1
    ·omega
   rw[fc h1,fc LW,fc LW,eg,eg (by omega)];have:zV x*zG c.dm 0 9-4*zV x=zV x*(zG c.dm 0 9-4):=by rw[Int.mul_sub,D7 4]
   rw[this,NH];decide
  ·have gn:¬((ib x).dt.length:Int)<=k:=by omega
   rw[eg (show ¬((ib x).gj k).2.2=ar by rw[h1];decide),eg gn,eg gn,eg,eg (by omega)];have:zV x*zG c.dm 0 9+8*zV x=zV x*(zG c.dm 0 9+8):=by rw[bo,D7 8]
   rw[this,NH];decide
def zTl (x:ff) (c:ie) (i:Int): -2000000<=(xE ⟨ib x,c,i⟩).dm/\(xE ⟨ib x,c,i⟩).dm<=2000000:=by
 have ht:=U8 x;have wp:=y3 (n:=c.dm) (lo:=0) (hi:=9) oM;have hm:=Jp (a:=zV x) (b:=zG c.dm 0 9) (m:=zV x) (n:=9) oM wp;have et:(ib x).tick=zV x:=rfl;by_cases h1:uS c=1
 ·obtain⟨_,_,_,_,h,_⟩:=z3j x c i h1;exact h
 ·have hh:¬(y9 ⟨ib x,c,i⟩).kind=1:=h1;have e:(xE ⟨ib x,c,i⟩).dm=if(y9 ⟨ib x,c,i⟩).kind=4 then zV x*zG c.dm 0 9+5*zV x else zV x*zG c.dm 0 9:=by rw[xE,eg hh];rfl
  rw[e];split<;>omega
def yCa (x:ff) (c:ie) (i id:Int) (Bf:1<=id/\id<=1099511627776):ie.right {xE ⟨ib x,c,i⟩with id:=id}=0:=by
 have hk:=yYb c;have hq:=yQz ⟨ib x,c,i⟩;have hp:=zTl x c i;have hcb:=zXr (rC x);rw[ie.right];dsimp only;rw[yKe];dsimp only;rw[eg (by omega),eg (by omega)];have q1:jA (xE ⟨ib x,c,i⟩).dr=ar:=by rw[jA,jk (by omega),jk (by omega)];rfl
 have q2:uJ (xE ⟨ib x,c,i⟩).dm=ar:=by rw[uJ,jk (by omega),jk (by omega)];rfl
 by_cases h1:uS c=1
 ·obtain⟨a1,a2,a3,a4,a5,a6⟩:=z3j x c i h1;rw[fc h1,ie.gf];dsimp only;rw[eg (by omega),eg (by omega),eg (by rw[q1];decide),eg (by omega),eg (by rw[zHj];simp),eg (by rw[q2];decide),eg (by omega)]
 ·rw[eg h1,eg (by rw[q1];simp),eg (by rw[q2];simp)]
def xHj {l:List ie} {k:Nat} {c:ie} (h:l[k]? =az c):zD (l.map zk) k 0 9=az [D.v (.int .i64 c.kind),.v (.int .i64 c.id),.v (.int .i64 c.inst),.v (.int .i64 c.side),.v (.int .i64 c.dm),.v (.int .i64 c.dr),.v (.int .i64 c.least),.v (.int .i64 c.time),.v (.string (sb c.label))]:=ju h (by simp[zk]) rfl
def Rz (p:ff):iD:=⟨p,nU p,[]⟩
def yVf (p:ff):(Rz p).fv p (List.replicate p.count []) []:=⟨rfl,yBr _,rfl⟩
def ki (l:List UInt8):Nat->fj
 |0=> .cells [.own 1] 222
 |1=> .own 5 1 (bE l)
 |_=> .gone
def Wr (l:List UInt8):fj:= .ra (List UInt8) 2 ki l
structure JE where
 l:List UInt8
 n:Int
 k:Nat
def SM:fy where
 ι:=JE
 pat:=λi=>[.nm 0 0,.d (.v (.int .u64 i.n)),.d (.v (.int .i64 i.k))]
 pre:=λi=>[Wr i.l]
 dp:=λi=>0<=i.n/\i.n<18446744073709551616/\i.l.length+i.k<=1099511627776
 alts:=λi=>[{o:=Unit,res:=λ_=> .iZ [],post:=λ_=>[Wr (i.l++le i.n i.k)],rel:=λ_=>True}]
def xFz (i:JE):List gm:=[{
 ι:=Nat,
 du:=λj=>[(0,.nm 0 0),(1,.d (.v (.int .u64 (i.n / 256 ^ j)))),(7,.d (.v (.int .i64 j)))],
 rows:=λj=>[ki (i.l++le i.n j) 0,ki (i.l++le i.n j) 1]}]
def xDz (i:JE):Prop:=
 ∃(a:Nat),i.n / (256:Int) ^ a=i.n/\(↑a:Int)=0/\bE (i.l++le i.n a)=bE i.l/\∃(b:Nat->Prop),∃(c:Nat->Nat),b a/\∀(d:Nat),b d->dp (decide ((↑d:Int)<(↑i.k:Int))) (((bE (i.l++le i.n d)).length+1)*(1:Nat)<=(140737488355328:Nat)/\(0:Int)<=(8:Int)/\∃(e:Nat),i.n / (256:Int) ^ e=aM aj (i.n / (256:Int) ^ d) 8/\(↑e:Int)=ag.wrap ((↑d:Int)+1)/\bE (i.l++le i.n e)=bE (i.l++le i.n d)++[[D.v (.int .u8 (ap.wrap (i.n / (256:Int) ^ d)))]]/\b e/\c e<c d/\True) (dx (bE (i.l++le i.n i.k)=bE (i.l++le i.n d)/\True))
def xGb (i:JE) (h:SM.dp i):xDz i:=by
 unfold xDz dx;obtain⟨h1,h2,h3⟩:=h;refine⟨0,by simp,rfl,by simp[le],λj=>j<=i.k,λj=>i.k-j,oM,λj hj=>zH (λgn=> ?_) (λgn=> ?_)⟩
 ·refine⟨?_,oM,j+1,?_,?_,?_,oM,Z9,trivial⟩
  ·rw[yV,iv,y7];omega
  ·have:=Pj .u64 (i.n / 256 ^ j) 8 Z8;rw[show((8:Nat):Int)=8 by rfl]at this;rw[this,Int.ediv_ediv_of_nonneg (Int.pow_nonneg (by omega)),Ig];rfl
  ·rw[iq (by omega)];rfl
  ·rw[le_succ,UT];simp[bE]
 ·obtain rfl:j=i.k:=by omega
  exact⟨(),rfl,trivial⟩
def z9k:SM.ok Tryz.prog 128:=gu mixed fg 0 (λ_=>[]) (λi=>xFz i) [0] Tryz.func128 xGb
@[reducible] def FD:Nat:=5
structure WN where
 l:List UInt8
 n:Int
@[reducible] def WN.ok (i:WN):Prop:=i.l.length+8<=1099511627776
def KT:fy:=fi WN (λi=>[.nm 0 0,zB i.n]) (λi=>[Wr i.l]) WN.ok (λ_=>pL) (λi=>[Wr (i.l++[iR i.n])])
def Kv:fy:=fi WN (λi=>[.nm 0 0,zB i.n]) (λi=>[Wr i.l]) WN.ok (λ_=>pL) (λi=>[Wr (i.l++le i.n 8)])
def SI:fy:=fi WN (λi=>[.nm 0 0,WQ i.n]) (λi=>[Wr i.l]) (λi=>i.l.length+8<=1099511627776/\0<=i.n/\i.n<4294967296) (λ_=>pL) (λi=>[Wr (i.l++le i.n 4)])
@[reducible] def y5c (t sz oC:Nat):fy:=fi (List (List D)) (λ_=>[.own 0]) (λl=>[.own t sz l]) (λl=>l.length*oC<=140737488355328) (λ_=> .own 1) (λl=>[.own t sz l,.own t sz l])
@[reducible] def y9v (sz oC:Nat):fy:=fi (List (List D)) (λl=>[ot sz l]) (λ_=>[]) (λl=>l.length*oC<=140737488355328) (λl=>ot sz l) (λ_=>[])
def sw:fy:=y5c FD 1 1
def sv:fy:=y9v 1 1
def TG:fy:=fi Unit (λ_=>[]) (λ_=>[]) (λ_=>True) (λ_=> .nm 0 0) (λ_=>[Wr []])
def Uf:fy:=fi (List UInt8) (λ_=>[.nm 0 0]) (λl=>[Wr l]) (λl=>l.length<=1099511627776) (λ_=> .own 1) (λl=>[Wr l,.own FD 1 (bE l)])
def z8z (c:Int):Int:=if 0<Cs .u32 c 1 then Cx .u32 (aM .u32 c 1) 3988292384 else aM .u32 c 1
def uK:Nat->Int->Int
 |0,c=>c
 |k+1,c=>z8z (uK k c)
def D3 (l:List UInt8):Int:=l.foldl (λc b=>uK 8 (Cx .u32 c b.toNat)) 4294967295
def dH (l:List UInt8):Int:=Cx .u32 4294967295 (D3 l)
def Ts:fy:=fi (List UInt8) (λl=>[ot 1 (bE l)]) (λ_=>[]) (λl=>l.length<=1099511627776) (λl=>WQ (dH l)) (λ_=>[])
def xHg (l:List UInt8):List gm:=[
 {ι:=Nat,du:=λi=>[(3,WQ (D3 (l.take i))),(9,zB i)],rows:=λ_=>[]},
 {ι:=Int×Nat,du:=λi=>[(3,WQ (uK i.2 i.1)),(17,zB i.2)],rows:=λ_=>[]}]
def iP (x:List UInt8×Bool):Nat->fj
 |0=> .cells [ot 1 (bE x.1),yL x.2] 292
 |_=> .gone
def Rd (l:List UInt8) (b:Bool):fj:= .ra (List UInt8×Bool) 1 iP (l,b)
def TH:fy:=fi (List UInt8) (λl=>[ot 1 (bE l)]) (λ_=>[]) (λl=>l.length<=1099511627776) (λ_=> .nm 0 0) (λl=>[Rd l aq])
structure RN where
 l:List UInt8
 b:Bool
 n:Nat
def RN.bad (i:RN):Bool:=i.b||decide (i.l.length<i.n)
def RN.iN (i:RN):List UInt8:=if i.bad then[]else i.l.take i.n
def RN.left (i:RN):List UInt8:=if i.bad then i.l else i.l.drop i.n
@[reducible] def RN.ok (i:RN):Prop:=i.n<=255/\i.l.length<=1099511627776
def TC:fy:=fi RN (λi=>[.nm 0 0,zB i.n]) (λi=>[Rd i.l i.b]) RN.ok (λi=>ot 1 (bE i.iN)) (λi=>[Rd i.left i.bad])
def yU:List UInt8->Int
 |[]=>0
 |b::l=>b.toNat+256*yU l
def Te:fy:=fi RN (λi=>[.nm 0 0,zB i.n]) (λi=>[Rd i.l i.b]) (λi=>i.n<=8/\i.l.length<=1099511627776) (λi=>A0 (yU i.iN)) (λi=>[Rd i.left i.bad])
def xDl (i:RN):List gm:=[{ι:=Nat,du:=λj=>[(5,A0 (yU (i.iN.take j))),(12,zB j)],rows:=λ_=>[]}]
structure RB where
 l:List UInt8
 b:Bool
def RB.n (i:RB) (k:Nat):RN:=⟨i.l,i.b,k⟩
def MM:fy:=fi RB (λi=>[.nm 0 0]) (λi=>[Rd i.l i.b]) (λi=>i.l.length<=1099511627776) (λi=>zB (yU (i.n 1).iN)) (λi=>[Rd (i.n 1).left (i.n 1).bad])
def MK:fy:=fi RB (λi=>[.nm 0 0]) (λi=>[Rd i.l i.b]) (λi=>i.l.length<=1099511627776) (λi=>zB (ag.wrap (yU (i.n 8).iN))) (λi=>[Rd (i.n 8).left (i.n 8).bad])
def TD:fy:=fi RB (λi=>[.nm 0 0]) (λi=>[Rd i.l i.b]) (λi=>i.l.length<=1099511627776) (λi=>zB (if i.b then 10 else if 0<i.l.length then 15 else 0)) (λi=>[Rd i.l i.b])
def mK (a:JE):Prop:=0<=a.n/\a.n<18446744073709551616/\a.l.length+a.k<=1099511627776
def y1s (i:WN):Prop:=
 ∃(a:JE),a.n=aj.wrap i.n/\(↑a.k:Int)=1/\ab (List UInt8) 2 ki a.l=Wr i.l/\(mK a)/\fa (dx (ab (List UInt8) 2 ki (i.l++[iR i.n])=ab (List UInt8) 2 ki (a.l++le a.n a.k)/\True))
def y0v (i:WN):Prop:=
 ∃(a:JE),a.n=aj.wrap i.n/\(↑a.k:Int)=8/\ab (List UInt8) 2 ki a.l=Wr i.l/\(mK a)/\fa (dx (ab (List UInt8) 2 ki (i.l++le i.n 8)=ab (List UInt8) 2 ki (a.l++le a.n a.k)/\True))
def xAn (i:WN):Prop:=
 ∃(a:JE),a.n=aj.wrap i.n/\(↑a.k:Int)=4/\ab (List UInt8) 2 ki a.l=Wr i.l/\(mK a)/\fa (dx (ab (List UInt8) 2 ki (i.l++le i.n 4)=ab (List UInt8) 2 ki (a.l++le a.n a.k)/\True))
def z5x (i:List (List D)):Prop:=
 ∀(b:Bool),(b=ar->i=[])->dp b (∃(o:Unit),i=i/\i=[]/\True) ((0+i.length)*(1:Nat)<=(140737488355328:Nat)/\∃(o:Unit),i=i/\i=[]++i/\True)
def yHt (i:List (List D)):z5x i=walk Tryz.prog ([]) 0 ([]) ([]) [] Tryz.f70 (Tryz.f70.body.getD .skip) (sw.pat i) (sw.pre i) (sw.alts i):=by kernel_rfl
def yIl (hG:zd Tryz.prog ([])) (h:∀(i:List (List D)),sw.dp i->z5x i):sw.ok Tryz.prog 70:=qY mixed ([]) hG 0 (λ(i:List (List D))=>[]) (λ(i:List (List D))=>[]) [] Tryz.func70 (by kernel_rfl) (by kernel_rfl) (by kernel_rfl) (λ_=>by kernel_rfl) (λ(i:List (List D)) hc=>Eq.mp (yHt i) (h i hc))
def z4b (i:List (List D)):Prop:=
 ∀(b:Bool),(b=ar->i=[])->dp b (∃(o:Unit),i=[]/\True) ((0+i.length)*(1:Nat)<=(140737488355328:Nat)/\∃(o:Unit),i=[]++i/\True)
def yJe (i:List (List D)):z4b i=walk Tryz.prog ([]) 0 ([]) ([]) [] Tryz.f70 (Tryz.f70.body.getD .skip) (sv.pat i) (sv.pre i) (sv.alts i):=by kernel_rfl
def yIy (hG:zd Tryz.prog ([])) (h:∀(i:List (List D)),sv.dp i->z4b i):sv.ok Tryz.prog 70:=qY mixed ([]) hG 0 (λ(i:List (List D))=>[]) (λ(i:List (List D))=>[]) [] Tryz.func70 (by kernel_rfl) (by kernel_rfl) (by kernel_rfl) (λ_=>by kernel_rfl) (λ(i:List (List D)) hc=>Eq.mp (yJe i) (h i hc))
def xEb (i:Unit):Prop:=
 ∃(o:Unit),bE []=[]/\True
def xBa (i:List UInt8):Prop:=
 ∃(gx:List (List D)),gx=bE i/\gx.length*(1:Nat)<=(140737488355328:Nat)/\∀(o:Unit),True->∃(o:Unit),bE i=gx/\bE i=gx/\True
def xCe (i:List UInt8):Prop:=
 ∃(a:Nat),D3 (av a i)=4294967295/\(↑a:Int)=0/\∃(b:Nat->Prop),∃(c:Nat->Nat),b a/\∀(d:Nat),b d->dp (decide ((↑d:Int)<(↑(bE i).length:Int))) ((0<=(↑d:Int)/\(↑d:Int)<(↑(bE i).length:Int))/\∃(e:Int),zD (bE i) (↑d:Int).toNat 0 1=az [D.v (.int .u8 e)]/\∃(f:Int×Nat),uK f.snd f.fst=Cx ak (D3 (av d i)) (ak.wrap e)/\(↑f.snd:Int)=0/\∃(g:Int×Nat->Prop),∃(h:Int×Nat->Nat),g f/\∀(j:Int×Nat),g j->dp (decide ((↑j.snd:Int)<8)) ((0:Int)<=(1:Int)/\dp (decide (Cs ak (uK j.snd j.fst) (1:Int)>(0:Int))) (∃(k:Int×Nat),uK k.snd k.fst=Cx ak (aM ak (uK j.snd j.fst) 1) 3988292384/\(↑k.snd:Int)=ag.wrap ((↑j.snd:Int)+1)/\g k/\h k<h j/\True) (∃(k:Int×Nat),uK k.snd k.fst=aM ak (uK j.snd j.fst) 1/\(↑k.snd:Int)=ag.wrap ((↑j.snd:Int)+1)/\g k/\h k<h j/\True)) (∃(k:Nat),D3 (av k i)=uK j.snd j.fst/\kI k d b c)) (dx (dH i=ak.wrap (↑(BitVec.ofInt ak.bits (if ak.signed=ar then(-1:Int)else ak.max) ^^^ BitVec.ofInt ak.bits (D3 (av d i))).toNat:Int)/\True))
def xBz (i:List UInt8):Prop:=
 ∃(gx:List (List D)),gx=bE i/\gx.length*(1:Nat)<=(140737488355328:Nat)/\∀(o:Unit),True->∃(o:Unit),bE i=gx/\aq=aq/\True
def xAj (i:RN):Prop:=
 dp i.b (∃(o:Unit),bE i.iN=[]/\bE i.left=bE i.l/\i.bad=ar/\True) (dp (decide ((↑i.n:Int)>(↑(bE i.l).length:Int))) (∃(o:Unit),bE i.iN=[]/\bE i.left=bE i.l/\i.bad=decide ((↑i.n:Int)>(↑(bE i.l).length:Int))/\True) ((0<=(↑i.n:Int)/\(↑i.n:Int)<=(↑(bE i.l).length:Int))/\(0<=(↑i.n:Int)/\(↑i.n:Int)<=(↑(bE i.l).length:Int))/\∃(o:Unit),bE i.iN=av (↑i.n:Int).toNat (bE i.l)/\bE i.left=aw (↑i.n:Int).toNat (bE i.l)/\i.bad=decide ((↑i.n:Int)>(↑(bE i.l).length:Int))/\True))
def UX (a:RN) (b:RN):Prop:=fa (∃(d:Nat),yU (av d a.iN)=0/\(↑d:Int)=0/\∃(e:Nat->Prop),∃(f:Nat->Nat),e d/\∀(g:Nat),e g->dp (decide ((↑g:Int)<(↑(bE b.iN).length:Int))) ((0<=(↑g:Int)/\(↑g:Int)<(↑(bE b.iN).length:Int))/\∃(h:Int),zD (bE b.iN) (↑g:Int).toNat 0 1=az [D.v (.int .u8 h)]/\0<=ag.wrap (8*(↑g:Int))/\∃(j:Nat),yU (av j a.iN)=HC aj (yU (av g a.iN)) (Jy aj (aj.wrap h) (ag.wrap (8*(↑g:Int))))/\QP j g e f (dl (ab (List UInt8×Bool) 1 iP (b.left,b.bad)))) (dx (yU a.iN=yU (av g a.iN)/\ab (List UInt8×Bool) 1 iP (a.left,a.bad)=ab (List UInt8×Bool) 1 iP (b.left,b.bad)/\True)))
def xBj (i:RN):Prop:=
 ∃(a:RN),(↑a.n:Int)=(↑i.n:Int)/\ab (List UInt8×Bool) 1 iP (a.l,a.b)=Rd i.l i.b/\(a.n<=255/\a.l.length<=1099511627776)/\UX i a
def y4g (i:RB):Prop:=
 ∃(gx:RN),(↑gx.n:Int)=1/\ab (List UInt8×Bool) 1 iP (gx.l,gx.b)=Rd i.l i.b/\(gx.n<=8/\gx.l.length<=1099511627776)/\∀(o:Unit),True->∃(o:Unit),yU (i.n 1).iN=ag.wrap (yU gx.iN)/\ab (List UInt8×Bool) 1 iP ((i.n 1).left,(i.n 1).bad)=ab (List UInt8×Bool) 1 iP (gx.left,gx.bad)/\True
def y8z (i:RB):Prop:=
 ∃(gx:RN),(↑gx.n:Int)=8/\ab (List UInt8×Bool) 1 iP (gx.l,gx.b)=Rd i.l i.b/\(gx.n<=8/\gx.l.length<=1099511627776)/\∀(o:Unit),True->∃(o:Unit),ag.wrap (yU (i.n 8).iN)=ag.wrap (yU gx.iN)/\ab (List UInt8×Bool) 1 iP ((i.n 8).left,(i.n 8).bad)=ab (List UInt8×Bool) 1 iP (gx.left,gx.bad)/\True
def xCo (i:RB):Prop:=
 dp i.b (∃(o:Unit),(if i.b=ar then(10:Int)else if 0<i.l.length then(15:Int)else(0:Int))=10/\dl (bE i.l)/\i.b=i.b/\True) (dp (decide ((↑(bE i.l).length:Int)>0)) (∃(o:Unit),(if i.b=ar then(10:Int)else if 0<i.l.length then(15:Int)else(0:Int))=15/\dl (bE i.l)/\i.b=i.b/\True) (∃(o:Unit),(if i.b=ar then(10:Int)else if 0<i.l.length then(15:Int)else(0:Int))=0/\dl (bE i.l)/\i.b=i.b/\True))
def y7l (k:Nat):∀n:Int,le (n % 256 ^ k) k=le n k:=by
 induction k with
 |zero=>intro n;rfl
 |succ k ih=>
  intro n;have hp:(0:Int)<256 ^ k:=Int.pow_pos oM;have h1:iR (n % 256 ^ (k+1))=iR n:=by
   unfold iR;rw[Ig,D7,Int.emod_emod_of_dvd n ⟨256 ^ k,rfl⟩]
  have h2:n % 256 ^ (k+1) / 256=n / 256 % 256 ^ k:=by
   have e:n=256*(n / 256)+n % 256:=(Int.mul_ediv_add_emod n 256).symm;have e2:n / 256=256 ^ k*(n / 256 / 256 ^ k)+n / 256 % 256 ^ k:=(Int.mul_ediv_add_emod _ _).symm;have hr:=NY (n / 256) (show(256:Int) ^ k≠0 by omega);have xo:=Re (n / 256) hp;have e3:n % 256 ^ (k+1)=256*(n / 256 % 256 ^ k)+n % 256:=by
    have:n=256 ^ (k+1)*(n / 256 / 256 ^ k)+(256*(n / 256 % 256 ^ k)+n % 256):=by
     rw[Ig,D7 (256 ^ k) 256,Int.mul_assoc,<- Int.add_assoc,<- bo,<- e2];exact e
    conv=>lhs;rw[this]
    rw[Int.add_comm,Xp,Int.emod_eq_of_lt]
    ·omega
    ·rw[Ig];omega
   rw[e3];omega
  rw[le,le,h1,h2,ih]
def yIm (n:Int):le (aj.wrap n) 8=le n 8:=y7l 8 n
def z9z (n:Int):iR (aj.wrap n)=iR n:=by
 have:aj.wrap n=n % 18446744073709551616:=rfl;unfold iR;rw[this,Int.emod_emod_of_dvd n ⟨72057594037927936,by decide⟩]
def mQ (n:Int):0<=aj.wrap n/\aj.wrap n<18446744073709551616:=by
 have:aj.wrap n=n % 18446744073709551616:=rfl;rw[this];omega
def xCn (i:WN) (h:KT.dp i):y1s i:=by
 unfold y1s fa dx mK;have h:i.l.length+8<=1099511627776:=h;exact⟨⟨i.l,aj.wrap i.n,1⟩,rfl,rfl,rfl,⟨(mQ _).1,(mQ _).2,Z9⟩,λ_ _=>⟨(),by simp only[le,z9z],trivial⟩⟩
def xFl (i:WN) (h:Kv.dp i):y0v i:=by
 unfold y0v fa dx mK;have h:i.l.length+8<=1099511627776:=h;exact⟨⟨i.l,aj.wrap i.n,8⟩,rfl,rfl,rfl,⟨(mQ _).1,(mQ _).2,Z9⟩,λ_ _=>⟨(),by simp only[yIm],trivial⟩⟩
def xGz (i:WN) (h:SI.dp i):xAn i:=by
 unfold xAn fa dx mK;obtain⟨h1,h2,h3⟩:=h;have e:aj.wrap i.n=i.n:=B7 oM;exact⟨⟨i.l,aj.wrap i.n,4⟩,rfl,rfl,rfl,⟨(mQ _).1,(mQ _).2,Z9⟩,λ_ _=>⟨(),by simp only[e],trivial⟩⟩
def Pq:KT.ok Tryz.prog 84:=gu mixed (dw z9k fg) 0 (λ_=>[]) (λ_=>[]) [] Tryz.func84 xCn
def UD:Kv.ok Tryz.prog 72:=gu mixed (dw z9k fg) 0 (λ_=>[]) (λ_=>[]) [] Tryz.func72 xFl
def yBn:SI.ok Tryz.prog 129:=gu mixed (dw z9k fg) 0 (λ_=>[]) (λ_=>[]) [] Tryz.func129 xGz
def zSb:sw.ok Tryz.prog 70:=yIl fg λi h=>λb hb=>
 Cv.dp.mk (λe=>⟨(),rfl,hb e,trivial⟩) (λ_=>⟨by rw[nh];exact h,(),rfl,rfl,trivial⟩)
def yBu:sv.ok Tryz.prog 70:=yIy fg λi h=>λb hb=>
 Cv.dp.mk (λe=>⟨(),hb e,trivial⟩) (λ_=>⟨by rw[nh];exact h,(),rfl,trivial⟩)
def Pd:TG.ok Tryz.prog 71:=gu (V:=xEb) mixed fg 0 (λ_=>[]) (λ_=>[]) [] Tryz.func71 λ(_:Unit) _=>⟨(),rfl,trivial⟩
def Ph:Uf.ok Tryz.prog 74:=gu (V:=xBa) mixed (dw zSb fg) 0 (λ_=>[]) (λ_=>[]) [0] Tryz.func74 λ(i:List UInt8) h=>by
 have h:i.length<=1099511627776:=h;exact⟨_,rfl,by rw[yV];omega,λ_ _=>⟨(),rfl,rfl,trivial⟩⟩
def Yp:TH.ok Tryz.prog 132:=gu (V:=xBz) mixed (dw yBu fg) 0 (λ_=>[]) (λ_=>[]) [] Tryz.func132 λ(i:List UInt8) h=>by
 have h:i.length<=1099511627776:=h;exact⟨_,rfl,by rw[yV];omega,λ_ _=>⟨(),rfl,rfl,trivial⟩⟩
def dB {l:List UInt8} {i:Nat} {b:UInt8} (h:l[i]? =az b):zD (bE l) i 0 1=az [.v (.int .u8 b.toNat)]:=by
 unfold zD bE;rw[rf,h];rfl
def yHw {l:List UInt8} {i:Nat} {b:UInt8} (h:l[i]? =az b):D3 (l.take (i+1))=uK 8 (Cx .u32 (D3 (l.take i)) b.toNat):=by
 unfold D3;rw[qx,h];simp[JK]
def xEe (b:UInt8):ak.wrap (b.toNat:Int)=b.toNat:=xEj (by have:=b.toNat_lt;omega)
def y1y (b:UInt8):aj.wrap (b.toNat:Int)=b.toNat:=B7 (by have:=b.toNat_lt;omega)
def xHo (i:List UInt8) (h:Ts.dp i):xCe i:=by
 unfold xCe dx kI QP;have h:i.length<=1099511627776:=h;refine⟨0,rfl,rfl,λj=>j<=i.length,λj=>i.length-j,Z9,λj hj=>zH (λgn=> ?_) (λgn=> ?_)⟩
 ·dsimp only at hj;rw[yV]at gn;obtain⟨b,hb⟩:∃b,i[j]? =az b:=⟨_,u' oM⟩
  refine⟨⟨oM,by rw[yV];omega⟩,b.toNat,dB hb,(Cx .u32 (D3 (i.take j)) b.toNat,0),?_,rfl,λx=>x.1=Cx .u32 (D3 (i.take j)) b.toNat/\x.2<=8,λx=>8-x.2,⟨rfl,Z9⟩,?_⟩
  ·simp only[uK,xEe]
  rintro⟨c,n⟩ ⟨h1,h2⟩;dsimp only at h1 h2;subst h1;refine zH (λhn=>⟨oM,zH (λhc=> ?_) (λhc=> ?_)⟩) (λhn=> ?_)
  ·refine⟨(Cx .u32 (D3 (i.take j)) b.toNat,n+1),?_,?_,⟨rfl,by dsimp only at hn ⊢;omega⟩,by dsimp only at hn ⊢;omega,trivial⟩
   ·simp only[uK,z8z];rw[fc hc]
   ·rw[iq (by dsimp only;omega)];rfl
  ·refine⟨(Cx .u32 (D3 (i.take j)) b.toNat,n+1),?_,?_,⟨rfl,by dsimp only at hn ⊢;omega⟩,by dsimp only at hn ⊢;omega,trivial⟩
   ·simp only[uK,z8z];rw[eg hc]
   ·rw[iq (by dsimp only;omega)];rfl
  ·dsimp only at hn;obtain rfl:n=8:=by omega
   refine⟨j+1,yHw hb,?_,Z9,Z9,trivial⟩;rw[iq (by omega)];rfl
 ·dsimp only at hj;rw[yV]at gn;refine⟨(),?_,trivial⟩;rw[mo (by omega)];rfl
def Uo:Ts.ok Tryz.prog 130:=gu mixed fg 0 (λ_=>[]) (λi=>xHg i) [] Tryz.func130 xHo
def yCs:TC.ok Tryz.prog 210:=gu (V:=xAj) mixed fg 0 (λ_=>[]) (λ_=>[]) [0] Tryz.func210 λ(i:RN) h=>by
 obtain⟨h1,h2⟩:=h;refine Cv.dp.mk (λe=> ?_) (λe=>zH (λgn=> ?_) (λgn=> ?_))
 ·have:i.bad=ar:=by simp[RN.bad,e]
  exact⟨(),by simp[RN.iN,this],by simp[RN.left,this],this,trivial⟩
 ·rw[yV]at gn;have:i.bad=ar:=by simp[RN.bad];right;omega
  exact⟨(),by simp[RN.iN,this],by simp[RN.left,this],by rw[this,yV];simp;omega,trivial⟩
 ·rw[yV]at gn;have:i.bad=aq:=by simp[RN.bad,e];omega
  rw[yV];exact⟨⟨oM,oM⟩,⟨oM,oM⟩,(),by simp[RN.iN,this,lQ],by simp[RN.left,this,eF],by rw[this];simp;omega,trivial⟩
def uX:∀l:List UInt8,0<=yU l/\yU l<256 ^ l.length
 |[]=>by simp[yU]
 |b::l=>by
  obtain⟨h1,h2⟩:=uX l;have:=b.toNat_lt;simp only[yU,iC,Ig];omega
def ZK (b:UInt8):∀l:List UInt8,yU (l++[b])=yU l+b.toNat*256 ^ l.length
 |[]=>by simp[yU]
 |c::l=>by
  simp only[ui,yU,ZK b l,iC,Ig,bo];rw[D7 (256 ^ l.length) 256,<- Int.mul_assoc,<- Int.mul_assoc,D7 256 (b.toNat:Int)];omega
def z5g {x b j:Nat} (hx:x<256 ^ j) (hb:b<256) (hj:j<8):HC .u64 x (Jy .u64 b ((8*j:Nat):Int))=((x+b*256 ^ j:Nat):Int):=by
 have hp:256 ^ j=2 ^ (8*j):=by rw[Nat.pow_mul]
 have hle:256 ^ (j+1)<=256 ^ 8:=be oM oM;have abc:x+b*256 ^ j<256 ^ (j+1):=by
  rw[Nat.pow_succ];have:b*256 ^ j<=255*256 ^ j:=xj _ oM;omega
 have h8:(256:Nat) ^ 8=18446744073709551616:=by decide
 rw[<- yYg,<- y9f];have e1:y4j .u64 (b:Int) ((8*j:Nat):Int)=((b*256 ^ j:Nat):Int):=by
  show wr .u64 (Int.ofNat (b*2 ^ (Nat.min (8*j) 64)))=_;rw[show Nat.min (8*j) 64=8*j from Fy (by omega),<- hp,W4];exact B7 (by show(0:Int)<=((b*256 ^ j:Nat):Int)/\((b*256 ^ j:Nat):Int)<_;omega)
 rw[e1];show wr .u64 (Int.ofNat (Nat.lor (x % 18446744073709551616) ((b*256 ^ j) % 18446744073709551616)))=_;rw[Nat.mod_eq_of_lt (by omega),Nat.mod_eq_of_lt (by omega)];have e2:Nat.lor x (b*256 ^ j)=x+b*256 ^ j:=by
  show x|||(b*256 ^ j)=_
  rw[hp]at hx ⊢;rw[Nat.or_comm,<- Nat.shiftLeft_eq,<- Nat.shiftLeft_add_eq_or_of_lt hx,Ih]
 rw[e2,W4];exact B7 (by show(0:Int)<=((x+b*256 ^ j:Nat):Int)/\((x+b*256 ^ j:Nat):Int)<_;omega)
def Lc (i:RN):i.iN.length<=i.n:=by
 unfold RN.iN;split
 ·simp
 ·rw[ng];omega
def xAt (i:RN) (h:Te.dp i):xBj i:=by
 unfold xBj UX QP fa dx;obtain⟨h1,h2⟩:=h;refine⟨i,rfl,rfl,⟨oM,h2⟩,λ_ _=>⟨0,rfl,rfl,λj=>j<=i.iN.length,λj=>i.iN.length-j,Z9,λj hj=>zH (λgn=> ?_) (λgn=> ?_)⟩⟩
 ·dsimp only at hj;have hl:=Lc i;rw[yV]at gn ⊢;obtain⟨b,hb⟩:∃b,i.iN[j]? =az b:=⟨_,u' oM⟩
  have e8:ag.wrap (8*(j:Int))=8*j:=iq oM;refine⟨⟨oM,oM⟩,b.toNat,dB hb,by rw[e8];omega,j+1,?_,?_,Z9,Z9,rfl⟩
  ·rw[e8,y1y,qx,hb];simp only[Cb];rw[ZK];obtain⟨r1,r2⟩:=uX (i.iN.take j);rw[ng,Fy (by omega)]at r2 ⊢;obtain⟨x,hx⟩:∃x:Nat,yU (i.iN.take j)=x:=⟨(yU (i.iN.take j)).toNat,oM⟩
   rw[hx]at r2 ⊢;have:=z5g (x:=x) (b:=b.toNat) (j:=j) (by exact_mod_cast r2) b.toNat_lt oM;rw[show(8*(j:Int))=((8*j:Nat):Int)by simp,this];simp
  ·rw[iq (by omega)];rfl
 ·dsimp only at hj;rw[yV]at gn;exact⟨(),by rw[mo (by omega)],rfl,trivial⟩
def yAb:Te.ok Tryz.prog 179:=gu mixed (dw yCs fg) 0 (λ_=>[]) (λi=>xDl i) [] Tryz.func179 xAt
def Vu:MM.ok Tryz.prog 140:=gu (V:=y4g) mixed (dw yAb fg) 0 (λ_=>[]) (λ_=>[]) [] Tryz.func140 λ(i:RB) h=>by
 have hl:=Lc (i.n 1);have hr:=uX (i.n 1).iN;have h0:(256:Int) ^ (i.n 1).iN.length<=256 ^ 1:=by
  have:(256:Nat) ^ (i.n 1).iN.length<=256 ^ 1:=be oM hl
  exact_mod_cast this
 exact⟨i.n 1,rfl,rfl,⟨by show 1<=8;omega,h⟩,λ_ _=>⟨(),(iq oM).symm,rfl,trivial⟩⟩
def YD:MK.ok Tryz.prog 133:=gu (V:=y8z) mixed (dw yAb fg) 0 (λ_=>[]) (λ_=>[]) [] Tryz.func133 λ(i:RB) h=>by
 exact⟨i.n 8,rfl,rfl,⟨by show 8<=8;omega,h⟩,λ_ _=>⟨(),rfl,rfl,trivial⟩⟩
def yCj:TD.ok Tryz.prog 141:=gu (V:=xCo) mixed fg 0 (λ_=>[]) (λ_=>[]) [0] Tryz.func141 λ(i:RB) h=>by
 refine Cv.dp.mk (λe=>⟨(),by rw[fc e],rfl,rfl,trivial⟩) (λe=>zH (λgn=>⟨(),?_,rfl,rfl,trivial⟩) (λgn=>⟨(),?_,rfl,rfl,trivial⟩))
 ·rw[yV]at gn;rw[eg (by simp[e]),fc (by omega)]
 ·rw[yV]at gn;rw[eg (by simp[e]),eg (by omega)]
open Classical
structure Sd where
 levels:List Lv
 imp:Lv
 has:Bool
@[reducible] def Vw:=List (Sd×Sd)
def zA (b:Sd×Sd):List D:=[.ro 3 (b.1.levels.map ic),.v (.int .i64 b.1.imp.dm),.v (.int .i64 b.1.imp.dr),.v (.int .i64 b.1.imp.count),.v (.bool b.1.has),
 .ro 3 (b.2.levels.map ic),.v (.int .i64 b.2.imp.dm),.v (.int .i64 b.2.imp.dr),.v (.int .i64 b.2.imp.count),.v (.bool b.2.has)]
def Of (s:Sd):V:= .agg [ot 3 (s.levels.map ic),zB s.imp.dm,zB s.imp.dr,zB s.imp.count,yL s.has]
def zw (v:Vw):V:= .agg [ot 10 (v.map zA)]
def xH (side x y:Int):Bool:=if side=1 then decide (y<x)else decide (x<y)
structure I3 where
 side:Int
 x:Int
 y:Int
def Jf:fy:=fi I3 (λi=>[zB i.side,zB i.x,zB i.y]) (λ_=>[]) (λ_=>True) (λi=>yL (xH i.side i.x i.y)) (λ_=>[])
def vx (side:Int) (l:List Lv) (i:Nat):Prop:=∀a,l[i]?=az a->1<=a.dr/\1<=a.count/\∀j b,i=j+1->l[j]?=az b->xH side b.dm a.dm=ar
def oa (side:Int) (s:Sd):Prop:=(∀i,vx side s.levels i)/\s.levels.length<=255/\(s.has=ar->1<=s.imp.dr/\1<=s.imp.count)/\(s.has=aq->s.imp=⟨0,0,0⟩)
def wF (v:Vw):Prop:=(∀b∈v,oa 1 b.1/\oa 2 b.2)/\v.length<=255
noncomputable def wL (side:Int) (s:Sd):Bool:=decide (oa side s)
noncomputable def fJ (v:Vw):Bool:=decide (wF v)
structure Mb where
 side:Int
 s:Sd
noncomputable def DI:fy:=fi Mb (λi=>[zB i.side,Of i.s]) (λ_=>[]) (λi=>i.s.levels.length<=1099511627776) (λi=>yL (wL i.side i.s)) (λ_=>[])
def yYl:List gm:=[{ι:=Nat,du:=λj=>[(10,zB j)],rows:=λ_=>[]}]
@[reducible] def xX (v:Vw):Prop:=v.length<=1099511627776/\∀b∈v,b.1.levels.length<=1099511627776/\b.2.levels.length<=1099511627776
noncomputable def DL:fy:=fi Vw (λv=>[zw v]) (λ_=>[]) xX (λv=>yL (fJ v)) (λ_=>[])
def yZu:List gm:=[{ι:=Nat,du:=λj=>[(8,zB j)],rows:=λ_=>[]}]
def qF (l:Lv):List UInt8:=le l.dm 8++le l.dr 8++le l.count 8
structure Lh where
 l:List UInt8
 v:Lv
def TE:fy:=fi Lh (λi=>[.nm 0 0,RC i.v]) (λi=>[Wr i.l]) (λi=>i.l.length+24<=1099511627776) (λ_=>pL) (λi=>[Wr (i.l++qF i.v)])
def rN (s:Sd):List UInt8:=[iR s.levels.length]++s.levels.flatMap qF++(if s.has then[iR 1]++qF s.imp else[iR 0])
def kC (b:Sd×Sd):List UInt8:=rN b.1++rN b.2
def kR (v:Vw) (seq:Int):List UInt8:=le seq 8++[iR v.length]++v.flatMap kC
noncomputable def xW (v:Vw) (seq:Int):List UInt8:=if wF v then kR v seq++le (dH (kR v seq)) 4 else[]
noncomputable def O0 (v:Vw):Int:=if wF v then 0 else 12
structure Hj where
 v:Vw
 seq:Int
noncomputable def To:fy:=fi Hj (λi=>[zw i.v,zB i.seq]) (λ_=>[]) (λi=>xX i.v) (λi=> .iZ [ot 1 (bE (xW i.v i.seq)),zB (O0 i.v)]) (λ_=>[])
def xGj (i:Hj):List gm:=[
 {ι:=Nat,du:=λj=>[(6,.nm 0 0),(28,zB j)],rows:=λj=>[Wr (le i.seq 8++[iR i.v.length]++(i.v.take j).flatMap kC)]},
 {ι:=Unit,du:=λ_=>[],rows:=λ_=>[],un:=3},
 {ι:=List UInt8×List Lv×Nat,du:=λx=>[(6,.nm 0 0),(44,zB x.2.2)],rows:=λx=>[Wr (x.1++(x.2.1.take x.2.2).flatMap qF)]}]
def yWb (i:I3):Prop:=
 dp (i.side==1) (∃(o:Unit),xH i.side i.x i.y=decide (i.x>i.y)/\True) (∃(o:Unit),xH i.side i.x i.y=decide (i.x<i.y)/\True)
def zAq (a:Nat) (b:Nat->Prop) (c:Nat->Nat) (d:Mb):Prop:=∃(e:Nat),QP e a b c (dl (ac [V.own 0,V.d (dI d.s.imp.dm),V.d (dI d.s.imp.dr),V.d (dI d.s.imp.count),V.d (D.v (.bool d.s.has))] 179)/\dl (ae 3 (au ic d.s.levels)))
def f8 (a:Mb):=(↑(au ic a.s.levels).length:Int)
def yGz (i:Mb):Prop:=
 ∃(a:Nat),(↑a:Int)=0/\∃(b:Nat->Prop),∃(c:Nat->Nat),b a/\∀(d:Nat),b d->dp (decide ((↑d:Int)<(f8 i))) ((0<=(↑d:Int)/\(↑d:Int)<(f8 i))/\∃(e:Int),∃(f:Int),∃(g:Int),zD (au ic i.s.levels) (↑d:Int).toNat 0 3=az [dI e,dI f,dI g]/\dp (decide (f<1)) (dx (wL i.side i.s=aq/\True)) (dp (decide (g<1)) (dx (wL i.side i.s=aq/\True)) (dp (decide ((↑d:Int)>0)) ((0<=ag.wrap ((↑d:Int)-1)/\ag.wrap ((↑d:Int)-1)<(f8 i))/\∃(h:Int),zD (au ic i.s.levels) (ag.wrap ((↑d:Int)-1)).toNat 0 1=az [dI h]/\∃(j:I3),j.side=i.side/\j.x=h/\j.y=e/\True/\fa (dp (!xH j.side j.x j.y) (dx (wL i.side i.s=aq/\True)) (zAq d b c i))) (zAq d b c i)))) (dp (!i.s.has) (dp (decide ((f8 i)<=255)) (dx (wL i.side i.s=(i.s.imp.dm==0 && (i.s.imp.dr==0 && (i.s.imp.count==0 && ar)))/\True)) (dx (wL i.side i.s=aq/\True))) (dp (decide ((f8 i)<=255)) (dp (decide (i.s.imp.dr>=1)) (dx (wL i.side i.s=decide (i.s.imp.count>=1)/\True)) (dx (wL i.side i.s=aq/\True))) (dx (wL i.side i.s=aq/\True))))
def dM (a:Nat) (b:Vw):Prop:=0<=(↑a:Int)/\(↑a:Int)<(↑(au zA b).length:Int)
@[reducible] def QO (a:Sd)(b:List (List D))(c d e:Int)(f:Bool)(R:Prop):Prop:=au ic a.levels=b/\a.imp.dm=c/\a.imp.dr=d/\a.imp.count=e/\a.has=f/\R
def yCv (i:Vw):Prop:=
 ∃(a:Nat),(↑a:Int)=0/\∃(b:Nat->Prop),∃(c:Nat->Nat),b a/\∀(d:Nat),b d->dp (decide ((↑d:Int)<(↑(au zA i).length:Int))) ((dM d i)/\∃(e:List (List D)),∃(f:Int),∃(g:Int),∃(h:Int),∃(j:Bool),∃(k:List (List D)),∃(l:Int),∃(m:Int),∃(n:Int),∃(p:Bool),zD (au zA i) (↑d:Int).toNat 0 10=az [D.ro 3 e,dI f,dI g,dI h,D.v (.bool j),D.ro 3 k,dI l,dI m,dI n,D.v (.bool p)]/\∃(q:Mb),q.side=1/\QO q.s e f g h j (q.s.levels.length<=1099511627776/\fa (dp (!wL q.side q.s) (dx (fJ i=aq/\True)) (∃(s:Mb),s.side=2/\QO s.s k l m n p (s.s.levels.length<=1099511627776/\fa (dp (!wL s.side s.s) (dx (fJ i=aq/\True)) (∃(u:Nat),QP u d b c (dl (ac [V.own 0] 89)/\dl (ae 10 (au zA i)))))))))) (dx (fJ i=decide ((↑(au zA i).length:Int)<=255)/\True))
def xBo (i:Lh):Prop:=
 ∃(gx:WN),gx.n=i.v.dm/\ab (List UInt8) 2 ki gx.l=Wr i.l/\gx.ok/\∀(o:Unit),True->∃(ma:WN),ma.n=i.v.dr/\ab (List UInt8) 2 ki ma.l=ab (List UInt8) 2 ki (gx.l++le gx.n 8)/\ma.ok/\∀(o:Unit),True->∃(me:WN),me.n=i.v.count/\ab (List UInt8) 2 ki me.l=ab (List UInt8) 2 ki (ma.l++le ma.n 8)/\me.ok/\∀(o:Unit),True->∃(o:Unit),ab (List UInt8) 2 ki (i.l++qF i.v)=ab (List UInt8) 2 ki (me.l++le me.n 8)/\True
def Za (a:Hj):Prop:=ac [V.own 0] 89=ac [V.own 0] 89/\dl (ae 10 (au zA a.v))
def YV (a:Nat->Prop) (b:Nat) (c:Nat->Nat) (d:Nat) (e:Hj):Prop:=a b/\c b<c d/\Za e
def sR (a:Hj) (b:Nat):=(le a.seq 8++[iR (↑(ax a.v):Int)]++List.flatMap kC (av b a.v))
def uZ (a:List UInt8×List Lv×Nat):=(a.fst++List.flatMap qF (av a.snd.snd a.snd.fst))
def z0z (a:Int) (b:Int) (c:Int) (d:Bool) (e:List (List D)) (f:List (List D)) (g:Int) (h:Int) (j:Int) (k:Bool) (l:Hj):Prop:=ac [V.own 5,V.d (dI a),V.d (dI b),V.d (dI c),V.d (D.v (.bool d))] 179=ac [V.own 5,V.d (dI a),V.d (dI b),V.d (dI c),V.d (D.v (.bool d))] 179/\dl (ae 3 e)/\dl (ae 3 f)/\dl (ac [V.own 5,V.d (dI a),V.d (dI b),V.d (dI c),V.d (D.v (.bool d)),V.own 6,V.d (dI g),V.d (dI h),V.d (dI j),V.d (D.v (.bool k))] 180)/\Za l
@[reducible] def OJ (a:WN)(b:List UInt8×List Lv×Nat)(R:Prop):Prop:=ab (List UInt8) 2 ki a.l=ab (List UInt8) 2 ki (uZ b)/\a.ok/\R
def Yr (a:WN) (b:List (List D)) (c:Int) (d:Int) (e:Int) (f:Bool) (g:Int) (h:Int) (j:Int) (k:Bool) (l:List (List D)) (m:Hj) (n:Nat) (p:Nat->Prop) (q:Nat->Nat):Prop:=a.ok/\fa (∃(s:List UInt8×List Lv×Nat),(↑s.snd.snd:Int)=0/\ab (List UInt8) 2 ki (uZ s)=ab (List UInt8) 2 ki (a.l++[iR a.n])/\∃(t:List UInt8×List Lv×Nat->Prop),∃(u:List UInt8×List Lv×Nat->Nat),t s/\∀(v:List UInt8×List Lv×Nat),t v->dp (decide ((↑v.snd.snd:Int)<(↑b.length:Int))) ((0<=(↑v.snd.snd:Int)/\(↑v.snd.snd:Int)<(↑b.length:Int))/\∃(w:Int),∃(x:Int),∃(y:Int),zD b (↑v.snd.snd:Int).toNat 0 3=az [dI w,dI x,dI y]/\∃(z:Lh),z.v.dm=w/\z.v.dr=x/\z.v.count=y/\ab (List UInt8) 2 ki z.l=ab (List UInt8) 2 ki (uZ v)/\z.l.length+(24:Nat)<=(1099511627776:Nat)/\fa (∃(og:List UInt8×List Lv×Nat),(↑og.snd.snd:Int)=ag.wrap ((↑v.snd.snd:Int)+1)/\ab (List UInt8) 2 ki (uZ og)=ab (List UInt8) 2 ki (z.l++qF z.v)/\t og/\u og<u v/\dl (ac [V.own 6,V.d (dI c),V.d (dI d),V.d (dI e),V.d (D.v (.bool f))] 179)/\z0z g h j k b l c d e f m)) (dp (!f) (∃(w:WN),w.n=0/\OJ w v (fa (∃(y:Nat),(↑y:Int)=ag.wrap ((↑n:Int)+1)/\ab (List UInt8) 2 ki (sR m y)=ab (List UInt8) 2 ki (w.l++[iR w.n])/\YV p y q n m))) (∃(w:WN),w.n=1/\OJ w v (fa (∃(y:Lh),y.v.dm=c/\y.v.dr=d/\y.v.count=e/\ab (List UInt8) 2 ki y.l=ab (List UInt8) 2 ki (w.l++[iR w.n])/\y.l.length+(24:Nat)<=(1099511627776:Nat)/\fa (∃(ow:Nat),(↑ow:Int)=ag.wrap ((↑n:Int)+1)/\ab (List UInt8) 2 ki (sR m ow)=ab (List UInt8) 2 ki (y.l++qF y.v)/\YV p ow q n m))))))
def qK (a:Sd×Sd):Prop:=a.fst.levels.length<=1099511627776/\a.snd.levels.length<=1099511627776
def rK (a:Vw):Prop:=ax a<=1099511627776/\∀(b:Sd×Sd),b∈a->qK b
@[reducible] def DA (a b:WN)(R:Prop):Prop:=ab (List UInt8) 2 ki a.l=ab (List UInt8) 2 ki (b.l++le b.n 8)/\a.ok/\R
@[reducible] def OI (a:WN)(R:Prop):Prop:=ab (List UInt8) 2 ki a.l=ab (List UInt8) 2 ki []/\a.ok/\R
def xEu (i:Hj):Prop:=
 ∃(a:Vw),au zA a=au zA i.v/\(rK a)/\fa (dp (!fJ a) (dx (bE (xW i.v i.seq)=[]/\O0 i.v=12/\True)) (dx (True/\fa (∃(e:WN),e.n=i.seq/\OI e (fa (∃(g:WN),g.n=(↑(au zA i.v).length:Int)/\DA g e (fa (∃(j:Nat),(↑j:Int)=0/\ab (List UInt8) 2 ki (sR i j)=ab (List UInt8) 2 ki (g.l++[iR g.n])/\∃(k:Nat->Prop),∃(l:Nat->Nat),k j/\∀(m:Nat),k m->dp (decide ((↑m:Int)<(↑(au zA i.v).length:Int))) ((0<=(↑m:Int)/\(↑m:Int)<(↑(au zA i.v).length:Int))/\∃(n:List (List D)),∃(p:Int),∃(q:Int),∃(r:Int),∃(s:Bool),∃(t:List (List D)),∃(u:Int),∃(v:Int),∃(w:Int),∃(x:Bool),zD (au zA i.v) (↑m:Int).toNat 0 10=az [D.ro 3 n,dI p,dI q,dI r,D.v (.bool s),D.ro 3 t,dI u,dI v,dI w,D.v (.bool x)]/\∃(y:WN),y.n=(↑n.length:Int)/\ab (List UInt8) 2 ki y.l=ab (List UInt8) 2 ki (sR i m)/\y.ok/\fa (∃(ow:List UInt8×List Lv×Nat),(↑ow.snd.snd:Int)=0/\ab (List UInt8) 2 ki (uZ ow)=ab (List UInt8) 2 ki (y.l++[iR y.n])/\∃(og:List UInt8×List Lv×Nat->Prop),∃(iW:List UInt8×List Lv×Nat->Nat),og ow/\∀(qh:List UInt8×List Lv×Nat),og qh->dp (decide ((↑qh.snd.snd:Int)<(↑n.length:Int))) ((0<=(↑qh.snd.snd:Int)/\(↑qh.snd.snd:Int)<(↑n.length:Int))/\∃(jg:Int),∃(mq:Int),∃(oW:Int),zD n (↑qh.snd.snd:Int).toNat 0 3=az [dI jg,dI mq,dI oW]/\∃(qt:Lh),qt.v.dm=jg/\qt.v.dr=mq/\qt.v.count=oW/\ab (List UInt8) 2 ki qt.l=ab (List UInt8) 2 ki (uZ qh)/\qt.l.length+(24:Nat)<=(1099511627776:Nat)/\fa (∃(lk:List UInt8×List Lv×Nat),(↑lk.snd.snd:Int)=ag.wrap ((↑qh.snd.snd:Int)+1)/\ab (List UInt8) 2 ki (uZ lk)=ab (List UInt8) 2 ki (qt.l++qF qt.v)/\og lk/\iW lk<iW qh/\z0z p q r s t n u v w x i)) (dp (!s) (∃(jg:WN),jg.n=0/\OJ jg qh (fa (∃(oW:WN),oW.n=(↑t.length:Int)/\ab (List UInt8) 2 ki oW.l=ab (List UInt8) 2 ki (jg.l++[iR jg.n])/\Yr oW t u v w x p q r s n i m k l))) (∃(jg:WN),jg.n=1/\OJ jg qh (fa (∃(oW:Lh),oW.v.dm=p/\oW.v.dr=q/\oW.v.count=r/\ab (List UInt8) 2 ki oW.l=ab (List UInt8) 2 ki (jg.l++[iR jg.n])/\oW.l.length+(24:Nat)<=(1099511627776:Nat)/\fa (∃(mz:WN),mz.n=(↑t.length:Int)/\ab (List UInt8) 2 ki mz.l=ab (List UInt8) 2 ki (oW.l++qF oW.v)/\Yr mz t u v w x p q r s n i m k l))))))) (∃(n:List UInt8),ab (List UInt8) 2 ki n=ab (List UInt8) 2 ki (sR i m)/\n.length<=1099511627776/\fa (∃(q:List UInt8),bE q=bE n/\q.length<=1099511627776/\fa (∃(s:WN),s.n=dH q/\ab (List UInt8) 2 ki s.l=ab (List UInt8) 2 ki n/\(s.l.length+(8:Nat)<=(1099511627776:Nat)/\0<=s.n/\s.n<4294967296)/\fa (∃(u:List UInt8),ab (List UInt8) 2 ki u=ab (List UInt8) 2 ki (s.l++le s.n 4)/\u.length<=1099511627776/\fa (dx (bE (xW i.v i.seq)=bE u/\O0 i.v=0/\True))))))))))))))
def NQ {α:Type} {f:α->List D} {l:List α} {i n:Nat} {x:α} (h:l[i]? =az x) (hn:(f x).length=n):zD (l.map f) i 0 n=az (f x):=by
 unfold zD;rw[rf,h];simp only[we,nh,hn,Nat.ble_eq_true_of_le (lh n),cond_true,Ea];rw[<- hn,mo (lh _)]
def xAi {α:Type} {f:α->List D} {l:List α} {i g n:Nat} {x:α} {r:List D} (h:l[i]? =az x) (hn:g+n<=(f x).length) (hr:((f x).drop g).take n=r):zD (l.map f) i g n=az r:=by
 unfold zD;rw[rf,h];simp only[we,Nat.ble_eq_true_of_le hn,cond_true,hr]
def getD {α:Type} {l:List α} {i:Nat} (h:i<l.length):∃x,l[i]? =az x:=⟨_,u' h⟩
def ZR:Jf.ok Tryz.prog 187:=gu (V:=yWb) mixed fg 0 (λ_=>[]) (λ_=>[]) [] Tryz.func187 λ(i:I3) _=>by
 refine Cv.dp.mk (λe=>⟨(),?_,trivial⟩) (λe=>⟨(),?_,trivial⟩)
 ·have e:i.side=1:=by simpa using e
  simp[xH,e]
 ·have e:i.side≠1:=by simpa using e
  simp[xH,e]
def Og {side:Int} {s:Sd} (h:¬oa side s):wL side s=aq:=jt h
def vx.of {side:Int} {l:List Lv} {i:Nat} {x:Lv} (hx:l[i]? =az x) (h1:1<=x.dr) (h2:1<=x.count) (h3:∀j b,i=j+1->l[j]? =az b->xH side b.dm x.dm=ar):vx side l i:=by
 intro a ha;rw[hx]at ha;cases ha;exact⟨h1,h2,h3⟩
def yUx (i:Mb) (h:DI.dp i):yGz i:=by
 unfold yGz fa dx f8 zAq QP dI;have h:i.s.levels.length<=1099511627776:=h;refine⟨0,rfl,λj=>j<=i.s.levels.length/\∀k,k<j->vx i.side i.s.levels k,λj=>i.s.levels.length-j,⟨oM,by intro k hk;omega⟩,λj hj=>zH (λgn=> ?_) (λgn=> ?_)⟩
 ·obtain⟨hj1,HI⟩:=hj;rw[gy]at gn ⊢;obtain⟨x,hx⟩:=getD (l:=i.s.levels) (i:=j) oM;have w1:ag.wrap ((j:Int)+1)=((j+1:Nat):Int):=by rw[iq (by omega)];rfl
  have next:vx i.side i.s.levels j->(λj=>j<=i.s.levels.length/\∀k,k<j->vx i.side i.s.levels k) (j+1):=λhl=>⟨oM,λk hk=>by
   rcases vh k j with h'|h'
   ·exact HI k h'
   ·obtain rfl:k=j:=by omega
    exact hl⟩
  refine⟨⟨oM,oM⟩,x.dm,x.dr,x.count,NQ hx rfl,zH (λhq=> ?_) (λhq=>zH (λhc=> ?_) (λhc=>zH (λhp=> ?_) (λhp=> ?_)))⟩
  ·exact⟨(),Og λhr=>by have:=(hr.1 j x hx).1;omega,trivial⟩
  ·exact⟨(),Og λhr=>by have:=(hr.1 j x hx).2.1;omega,trivial⟩
  ·have w0:ag.wrap ((j:Int)-1)=((j-1:Nat):Int):=by rw[iq (by omega)];omega
   obtain⟨y,hy⟩:=getD (l:=i.s.levels) (i:=j-1) oM;refine⟨⟨by rw[w0];omega,by rw[w0];omega⟩,y.dm,by rw[w0];exact xAi (n:=1) hy (by show 0+0+1<=3;omega) rfl,⟨i.side,y.dm,x.dm⟩,rfl,rfl,rfl,trivial,λ_ _=> ?_⟩;refine Cv.dp.mk (λhb=>⟨(),Og λhr=> ?_,trivial⟩) (λhb=>⟨j+1,w1.symm,next (vx.of hx oM oM ?_),Z9,gg⟩)
   ·have:=(hr.1 j x hx).2.2 (j-1) y oM hy;simp only[De]at hb;rw[hb]at this;cases this
   ·intro k b hk Ay;obtain rfl:k=j-1:=by omega
    rw[hy]at Ay;cases Ay;simpa using hb
  ·exact⟨j+1,w1.symm,next (vx.of hx oM oM λk b hk _=>by omega),Z9,gg⟩
 ·obtain⟨hj1,HI⟩:=hj;rw[gy]at gn ⊢;obtain rfl:j=i.s.levels.length:=by omega
  have tf:∀k,vx i.side i.s.levels k:=λk=>by
   rcases vh k i.s.levels.length with h'|h'
   ·exact HI k h'
   ·intro a ha;rw[ud h']at ha;cases ha
  refine Cv.dp.mk (λhh=>zH (λhl=>⟨(),?_,trivial⟩) (λhl=>⟨(),Og λhr=>by have:=hr.2.1;omega,trivial⟩))
   (λhh=>zH (λhl=>zH (λhq=>⟨(),?_,trivial⟩) (λhq=>⟨(),Og λhr=> ?_,trivial⟩)) (λhl=>⟨(),Og λhr=>by have:=hr.2.1;omega,trivial⟩))
  ·have hh:i.s.has=aq:=by simpa using hh
   rw[Dc];simp only[wL,tq,lj,Hr,and_true];constructor
   ·intro hr;have:=hr.2.2.2 hh;rw[this];exact⟨rfl,rfl,rfl⟩
   ·rintro⟨e1,e2,e3⟩;refine⟨tf,oM,(λhc=>by rw[hh]at hc;cases hc),λ_=> ?_⟩;cases hi:i.s.imp;rw[hi]at e1 e2 e3;simp_all
  ·have hh:i.s.has=ar:=by simpa using hh
   rw[Dc];simp only[wL,tq];exact⟨λhr=>(hr.2.2.1 hh).2,λhc=>⟨tf,oM,λ_=>⟨hq,hc⟩,λhc=>by rw[hh]at hc;cases hc⟩⟩
  ·have hh:i.s.has=ar:=by simpa using hh
   have:=(hr.2.2.1 hh).1;omega
def yIv:DI.ok Tryz.prog 182:=gu mixed (dw ZR fg) 0 (λ_=>[]) (λ_=>yYl) [] Tryz.func182 yUx
def vwF {v:Vw} (h:¬wF v):fJ v=aq:=jt h
def yUz (v:Vw) (h:DL.dp v):yCv v:=by
 unfold yCv QO QP fa dx dM dI;obtain⟨h1,h2⟩:xX v:=h;refine⟨0,rfl,λj=>j<=v.length/\∀k b,k<j->v[k]? =az b->oa 1 b.1/\oa 2 b.2,λj=>v.length-j,⟨oM,by intro k b hk;omega⟩,λj hj=>zH (λgn=> ?_) (λgn=> ?_)⟩
 ·obtain⟨hj1,HI⟩:=hj;rw[gy]at gn ⊢;obtain⟨x,hx⟩:=getD (l:=v) (i:=j) oM;have hm:=ku hx;have w1:ag.wrap ((j:Int)+1)=((j+1:Nat):Int):=by rw[iq (by omega)];rfl
  refine⟨⟨oM,oM⟩,_,_,_,_,_,_,_,_,_,_,NQ hx rfl,⟨1,x.1⟩,rfl,rfl,rfl,rfl,rfl,rfl,(h2 x hm).1,λ_ _=>Cv.dp.mk (λhb=> ?_) (λhb=>⟨⟨2,x.2⟩,tg ⟨rfl,(h2 x hm).2,λ_ _=>Cv.dp.mk (λmy=> ?_) (λmy=> ?_)⟩⟩)⟩
  ·refine⟨(),vwF λhr=> ?_,trivial⟩;simp only[De,wL,decide_eq_false_iff_not]at hb;exact hb (hr.1 x hm).1
  ·refine⟨(),vwF λhr=> ?_,trivial⟩;simp only[De,wL,decide_eq_false_iff_not]at my;exact my (hr.1 x hm).2
  ·simp only[Bool.not_eq_false',wL,tq]at hb my;refine⟨j+1,w1.symm,⟨oM,λk b hk Ay=> ?_⟩,Z9,gg⟩;rcases vh k j with h'|h'
   ·exact HI k b h' Ay
   ·obtain rfl:k=j:=by omega
    rw[hx]at Ay;cases Ay;exact⟨hb,my⟩
 ·obtain⟨hj1,HI⟩:=hj;rw[gy]at gn ⊢;obtain rfl:j=v.length:=by omega
  refine⟨(),?_,trivial⟩;rw[Dc];simp only[fJ,tq];constructor
  ·intro hr;have:=hr.2;omega
  ·intro hr;refine⟨λb hb=> ?_,oM⟩;obtain⟨k,hk⟩:=N7 hb;exact HI k b (jf.1 hk).1 hk
def zXc:DL.ok Tryz.prog 138:=gu mixed (dw yIv fg) 0 (λ_=>[]) (λ_=>yZu) [] Tryz.func138 yUz
def yZv:TE.ok Tryz.prog 139:=gu (V:=xBo) mixed (dw UD fg) 0 (λ_=>[]) (λ_=>[]) [] Tryz.func139 λ(i:Lh) h=>by
 have h:i.l.length+24<=1099511627776:=h;refine⟨⟨i.l,i.v.dm⟩,rfl,rfl,(show i.l.length+8<=1099511627776 by omega),λ_ _=>⟨⟨i.l++le i.v.dm 8,i.v.dr⟩,rfl,rfl,?_,λ_ _=>⟨⟨i.l++le i.v.dm 8++le i.v.dr 8,i.v.count⟩,rfl,rfl,?_,λ_ _=>⟨(),?_,trivial⟩⟩⟩⟩
 ·show _+8<=_;rw[iv,y7];omega
 ·show _+8<=_;rw[iv,iv,y7,y7];omega
 ·simp only[qF,iY]
def YR {α:Type} {f:α->List UInt8} {c:Nat}:∀{l:List α},(∀x∈l,(f x).length<=c)->(l.flatMap f).length<=c*l.length
 |[],_=>by simp
 |a::l,h=>by
  have h1:=h a (by simp);have h2:=YR (l:=l) λx hx=>h x (by simp[hx])
  simp only[vi,iv,iC,Nat.mul_add,Nat.mul_one];omega
def r9 {α β:Type} {f:α->List β} {l:List α} {k:Nat} {x:α} (h:l[k]? =az x):(l.take (k+1)).flatMap f=(l.take k).flatMap f++f x:=by
 rw[qx,h];simp
def zYa (l:Lv):(qF l).length=24:=by simp[qF,y7]
def lM (l:List Lv):(l.flatMap qF).length<=24*l.length:=YR λx _=>by rw[zYa];omega
def zMi {s:Sd} (h:s.levels.length<=255):(rN s).length<=6146:=by
 have:=lM s.levels;unfold rN;rw[iv,iv,Ba];split
 ·rw[iv,zYa,Ba];omega
 ·rw[Ba];omega
def oa.len {n:Int} {s:Sd} (h:oa n s):s.levels.length<=255:=h.2.1
def zOl {v:Vw} (h:wF v) (j:Nat):((v.take j).flatMap kC).length<=3134460:=by
 have h1:∀x∈v.take j,(kC x).length<=12292:=λx hx=>by
  have:=h.1 x (N8 hx);have a:=zMi this.1.len;have b:=zMi this.2.len;unfold kC;rw[iv];omega
 have h2:=YR h1;have h3:=h.2;rw[ng]at h2;omega
def yIt (n:Int):0<=ak.wrap n/\ak.wrap n<4294967296:=by
 have:ak.wrap n=n % 4294967296:=rfl;rw[this];omega
def pS (l:List UInt8):0<=dH l/\dH l<4294967296:=yIt _
def xGp (i:Hj) (h:To.dp i):xEu i:=by
 unfold xEu DA OJ OI fa dx rK qK Yr OJ fa z0z uZ sR YV Za dI;refine⟨i.v,rfl,h,λ_ _=>Cv.dp.mk (λe=> ?_) (λe=> ?_)⟩
 ·have hn:¬wF i.v:=by simpa[fJ]using e
  exact⟨(),by rw[xW,eg hn];rfl,by rw[O0,eg hn],trivial⟩
 have hr:wF i.v:=by simpa[fJ]using e
 have hB:∀j,(le i.seq 8++[iR i.v.length]++(i.v.take j).flatMap kC).length<=3134470:=λj=>by
  have:=zOl hr j;simp only[iv,y7,iC,rn];omega
 refine⟨(),trivial,λ_ _=>⟨⟨[],i.seq⟩,rfl,rfl,(show 0+8<=1099511627776 by omega),λ_ _=>⟨⟨le i.seq 8,i.v.length⟩,by rw[gy],rfl,(show(le i.seq 8).length+8<=1099511627776 by rw[y7];omega),λ_ _=>⟨0,rfl,by simp,λj=>j<=i.v.length,λj=>i.v.length-j,Z9,λj hj=>zH (λgn=> ?_) (λgn=> ?_)⟩⟩⟩⟩
 ·dsimp only at hj;rw[gy]at gn ⊢;obtain⟨x,hx⟩:=getD (l:=i.v) (i:=j) oM;have hm:=hr.1 x (ku hx);have l1:=hm.1.len;have l2:=hm.2.len;have hl:=hr.2;have w1:ag.wrap ((j:Int)+1)=((j+1:Nat):Int):=by rw[iq (by omega)];rfl
  have X0:=hB j;have Sn:le i.seq 8++[iR i.v.length]++(i.v.take (j+1)).flatMap kC=le i.seq 8++[iR i.v.length]++(i.v.take j).flatMap kC++kC x:=by
   rw[r9 hx];simp only[iY]
  generalize hb:le i.seq 8++[iR i.v.length]++(i.v.take j).flatMap kC=B at X0 Sn;have lv:∀(C:List UInt8) (l:List Lv) (k:Nat),C.length<=5000000->l.length<=255->((C++(l.take k).flatMap qF).length+24<=1099511627776):=λC l k hC hl=>by
   have:=lM (l.take k);rw[iv];rw[ng]at this;omega
  have lw:∀(k:Nat),k<255->ag.wrap ((k:Int)+1)=((k+1:Nat):Int):=λk hk=>by rw[iq (by omega)];rfl
  have le1:=lM x.1.levels;have le2:=lM x.2.levels;refine⟨⟨oM,oM⟩,_,_,_,_,_,_,_,_,_,_,NQ hx rfl,⟨B,x.1.levels.length⟩,by rw[gy],rfl,by show B.length+8<=_;omega,λ_ _=>⟨(B++[iR x.1.levels.length],x.1.levels,0),rfl,by simp,λy=>∃k,k<=x.1.levels.length/\y=(B++[iR x.1.levels.length],x.1.levels,k),λy=>x.1.levels.length-y.2.2,⟨0,oM,gg⟩,?_⟩⟩;rintro _ ⟨k,hk,rfl⟩;dsimp only;refine zH (λMr=> ?_) (λMr=> ?_)
  ·rw[gy]at Mr ⊢;obtain⟨y,hy⟩:=getD (l:=x.1.levels) (i:=k) oM;refine⟨⟨oM,oM⟩,_,_,_,NQ hy rfl,⟨_,y⟩,rfl,rfl,rfl,rfl,lv _ _ _ (by rw[iv];simp;omega) l1,λ_ _=>⟨(_,_,k+1),(lw k oM).symm,?_,⟨k+1,oM,gg⟩,Z9,gg⟩⟩;dsimp only;rw[r9 hy];simp only[iY]
  ·rw[gy]at Mr;obtain rfl:k=x.1.levels.length:=by omega
   rw[mo (lh _)];have e1:rN x.1=[iR x.1.levels.length]++x.1.levels.flatMap qF++(if x.1.has then[iR 1]++qF x.1.imp else[iR 0]):=rfl;have e2:rN x.2=[iR x.2.levels.length]++x.2.levels.flatMap qF++(if x.2.has then[iR 1]++qF x.2.imp else[iR 0]):=rfl;have bl:∀C:List UInt8,C=B++rN x.1->C.length<=4000000:=λC e=>by
    subst e;have:=zMi l1;rw[iv];omega
   refine Cv.dp.mk (λhh=> ?_) (λhh=> ?_)
   ·have hh:x.1.has=aq:=by simpa using hh
    rw[hh,eg (by simp)]at e1;refine⟨⟨B++[iR x.1.levels.length]++x.1.levels.flatMap qF,0⟩,rfl,rfl,(by dsimp only[WN.ok];simp only[iv,iC,rn];omega),λ_ _=> ?_⟩;have eC:B++[iR x.1.levels.length]++x.1.levels.flatMap qF++[iR 0]=B++rN x.1:=by rw[e1];simp only[iY]
    generalize B++[iR x.1.levels.length]++x.1.levels.flatMap qF++[iR 0]=C at eC
    (
    have hC:=bl C eC;refine⟨⟨C,x.2.levels.length⟩,by rw[gy],rfl,(show C.length+8<=1099511627776 by omega),λ_ _=>⟨(C++[iR x.2.levels.length],x.2.levels,0),rfl,by simp,λy=>∃k,k<=x.2.levels.length/\y=(C++[iR x.2.levels.length],x.2.levels,k),λy=>x.2.levels.length-y.2.2,⟨0,oM,gg⟩,?_⟩⟩;rintro _ ⟨k,hk,rfl⟩;dsimp only;refine zH (λyb=> ?_) (λyb=> ?_)
    ·rw[gy]at yb ⊢;obtain⟨y,hy⟩:=getD (l:=x.2.levels) (i:=k) oM;refine⟨⟨oM,oM⟩,_,_,_,NQ hy rfl,⟨_,y⟩,rfl,rfl,rfl,rfl,lv _ _ _ (by rw[iv];simp;omega) l2,λ_ _=>⟨(_,_,k+1),(lw k oM).symm,?_,⟨k+1,oM,gg⟩,Z9,gg⟩⟩;dsimp only;rw[r9 hy];simp only[iY]
    ·rw[gy]at yb;obtain rfl:k=x.2.levels.length:=by omega
     rw[mo (lh _)];refine Cv.dp.mk (λxv=> ?_) (λxv=> ?_)
     ·have xv:x.2.has=aq:=by simpa using xv
      rw[xv,eg (by simp)]at e2;refine⟨⟨C++[iR x.2.levels.length]++x.2.levels.flatMap qF,0⟩,rfl,rfl,(by dsimp only[WN.ok];simp only[iv,iC,rn];omega),λ_ _=>⟨j+1,w1.symm,?_,oM,oM,gg⟩⟩;rw[Sn,kC,<- iY,<- eC,e2];simp only[iY]
     ·have xv:x.2.has=ar:=by simpa using xv
      rw[xv,fc rfl]at e2;refine⟨⟨C++[iR x.2.levels.length]++x.2.levels.flatMap qF,1⟩,rfl,rfl,(by dsimp only[WN.ok];simp only[iv,iC,rn];omega),λ_ _=>⟨⟨_,x.2.imp⟩,rfl,rfl,rfl,rfl,(by simp only[iv,iC,rn];omega),λ_ _=>⟨j+1,w1.symm,?_,oM,oM,gg⟩⟩⟩;rw[Sn,kC,<- iY,<- eC,e2];simp only[iY])
   ·have hh:x.1.has=ar:=by simpa using hh
    rw[hh,fc rfl]at e1;refine⟨⟨B++[iR x.1.levels.length]++x.1.levels.flatMap qF,1⟩,rfl,rfl,(by dsimp only[WN.ok];simp only[iv,iC,rn];omega),λ_ _=>⟨⟨_,x.1.imp⟩,rfl,rfl,rfl,rfl,(by simp only[iv,iC,rn];omega),λ_ _=> ?_⟩⟩;have eC:B++[iR x.1.levels.length]++x.1.levels.flatMap qF++[iR 1]++qF x.1.imp=B++rN x.1:=by rw[e1];simp only[iY]
    generalize B++[iR x.1.levels.length]++x.1.levels.flatMap qF++[iR 1]++qF x.1.imp=C at eC
    (
    have hC:=bl C eC;refine⟨⟨C,x.2.levels.length⟩,by rw[gy],rfl,(show C.length+8<=1099511627776 by omega),λ_ _=>⟨(C++[iR x.2.levels.length],x.2.levels,0),rfl,by simp,λy=>∃k,k<=x.2.levels.length/\y=(C++[iR x.2.levels.length],x.2.levels,k),λy=>x.2.levels.length-y.2.2,⟨0,oM,gg⟩,?_⟩⟩;rintro _ ⟨k,hk,rfl⟩;dsimp only;refine zH (λyb=> ?_) (λyb=> ?_)
    ·rw[gy]at yb ⊢;obtain⟨y,hy⟩:=getD (l:=x.2.levels) (i:=k) oM;refine⟨⟨oM,oM⟩,_,_,_,NQ hy rfl,⟨_,y⟩,rfl,rfl,rfl,rfl,lv _ _ _ (by rw[iv];simp;omega) l2,λ_ _=>⟨(_,_,k+1),(lw k oM).symm,?_,⟨k+1,oM,gg⟩,Z9,gg⟩⟩;dsimp only;rw[r9 hy];simp only[iY]
    ·rw[gy]at yb;obtain rfl:k=x.2.levels.length:=by omega
     rw[mo (lh _)];refine Cv.dp.mk (λxv=> ?_) (λxv=> ?_)
     ·have xv:x.2.has=aq:=by simpa using xv
      rw[xv,eg (by simp)]at e2;refine⟨⟨C++[iR x.2.levels.length]++x.2.levels.flatMap qF,0⟩,rfl,rfl,(by dsimp only[WN.ok];simp only[iv,iC,rn];omega),λ_ _=>⟨j+1,w1.symm,?_,oM,oM,gg⟩⟩;rw[Sn,kC,<- iY,<- eC,e2];simp only[iY]
     ·have xv:x.2.has=ar:=by simpa using xv
      rw[xv,fc rfl]at e2;refine⟨⟨C++[iR x.2.levels.length]++x.2.levels.flatMap qF,1⟩,rfl,rfl,(by dsimp only[WN.ok];simp only[iv,iC,rn];omega),λ_ _=>⟨⟨_,x.2.imp⟩,rfl,rfl,rfl,rfl,(by simp only[iv,iC,rn];omega),λ_ _=>⟨j+1,w1.symm,?_,oM,oM,gg⟩⟩⟩;rw[Sn,kC,<- iY,<- eC,e2];simp only[iY])
 ·dsimp only at hj;rw[gy]at gn;obtain rfl:j=i.v.length:=by omega
  have X0:=hB i.v.length;rw[mo (lh _)]at X0 ⊢;have hc:=pS (kR i.v i.seq);have hl:(kR i.v i.seq).length<=3134470:=X0;have Dq:(kR i.v i.seq++le (dH (kR i.v i.seq)) 4).length<=1099511627776:=by rw[iv,y7];omega
  exact⟨kR i.v i.seq,rfl,oM,λ_ _=>⟨kR i.v i.seq,rfl,oM,λ_ _=>⟨⟨kR i.v i.seq,_⟩,rfl,rfl,⟨Z9,hc.1,hc.2⟩,λ_ _=>⟨_,rfl,Dq,λ_ _=>⟨(),by rw[xW,fc hr];rfl,by rw[O0,fc hr],trivial⟩⟩⟩⟩⟩
def y8c:To.ok Tryz.prog 83:=gu mixed (dw zXc (dw Pd (dw UD (dw Pq (dw yZv (dw Ph (dw Uo (dw yBn fg)))))))) 0 (λ_=>[]) (λi=>xGj i) [] Tryz.func83 xGp
def RB.byte (r:RB):Int×RB:=(yU (r.n 1).iN,⟨(r.n 1).left,(r.n 1).bad⟩)
def RB.fq (r:RB):Int×RB:=(ag.wrap (yU (r.n 8).iN),⟨(r.n 8).left,(r.n 8).bad⟩)
def RB.lv (r:RB):Lv×RB:=(⟨r.fq.1,r.fq.2.fq.1,r.fq.2.fq.2.fq.1⟩,r.fq.2.fq.2.fq.2)
def RB.zx (r:RB):Nat->List Lv×RB
 |0=>([],r)
 |k+1=>((r.zx k).1++[(r.zx k).2.lv.1],(r.zx k).2.lv.2)
def RB.part (r:RB):List Lv×RB:=r.byte.2.zx r.byte.1.toNat
def RB.side (r:RB):(Sd×Bool)×RB:=
 if r.part.2.byte.1=1 then((⟨r.part.1,r.part.2.byte.2.lv.1,ar⟩,ar),r.part.2.byte.2.lv.2)
 else((⟨r.part.1,⟨0,0,0⟩,aq⟩,decide (r.part.2.byte.1<=1)),r.part.2.byte.2)
def RB.views (r:RB):Nat->(Vw×Bool)×RB
 |0=>(([],ar),r)
 |k+1=>(((r.views k).1.1++[((r.views k).2.side.1.1,(r.views k).2.side.2.side.1.1)],(r.views k).1.2 && (r.views k).2.side.1.2 && (r.views k).2.side.2.side.1.2),(r.views k).2.side.2.side.2)
def RB.head (r:RB):Int×RB:=r.fq.2.byte
def RB.all (r:RB):(Vw×Bool)×RB:=r.head.2.views r.head.1.toNat
def RB.kq (r:RB):Int:=if r.b then 10 else if 0<r.l.length then 15 else 0
@[reducible] def Eh (r:RB):fj:=Rd r.l r.b
@[reducible] def RB.ok (i:RB):Prop:=i.l.length<=1099511627776
def TL:fy:=fi RB (λi=>[.nm 0 0]) (λi=>[Eh i]) RB.ok (λi=>RC i.lv.1) (λi=>[Eh i.lv.2])
def Kk:fy:=fi RB (λi=>[.nm 0 0]) (λi=>[Eh i]) RB.ok (λi=> .iZ [Of i.side.1.1,yL i.side.1.2]) (λi=>[Eh i.side.2])
def xAl (i:RB):List gm:=[{ι:=Nat,du:=λj=>[(0,.nm 0 0),(4,.nm 1 0),(8,zB j)],rows:=λj=>[Eh (i.byte.2.zx j).2,.cells [.own 2,zB 0,zB 0,zB 0,yL aq] 179,.own 177 3 ((i.byte.2.zx j).1.map ic)]}]
def rA (b:List UInt8):Prop:=4<=b.length/\le (dH (b.take (b.length-4))) 4=b.drop (b.length-4)
def yJ (b:List UInt8):RB:=⟨b.take (b.length-4),aq⟩
def aD (b:List UInt8):Prop:=(yJ b).all.1.2=ar/\(yJ b).all.2.kq=0/\wF (yJ b).all.1.1
noncomputable def bG (b:List UInt8):Vw:=if rA b/\aD b then(yJ b).all.1.1 else[]
noncomputable def pI (b:List UInt8):Int:=if rA b/\aD b then(yJ b).fq.1 else 0
noncomputable def lU (b:List UInt8):Int:=if rA b then if aD b then 0 else 12 else 14
noncomputable def Tq:fy:=fi (List UInt8) (λb=>[ot 1 (bE b)]) (λ_=>[]) (λb=>b.length<=1099511627776) (λb=> .iZ [zw (bG b),zB (pI b),zB (lU b)]) (λ_=>[])
def xIi (b:List UInt8):List gm:=[
 {ι:=Nat,du:=λj=>[(7,.nm 0 0),(9,.nm 1 0),(10,yL ((yJ b).head.2.views j).1.2),(44,zB j)],rows:=λj=>[Eh ((yJ b).head.2.views j).2,.cells [.own 2] 89,.own 180 10 (((yJ b).head.2.views j).1.1.map zA)]},
 {ι:=Unit,du:=λ_=>[],rows:=λ_=>[],un:=3}]
def xBr (i:RB):Prop:=
 ∃(gx:RB),ab (List UInt8×Bool) 1 iP (gx.l,gx.b)=Eh i/\gx.l.length<=1099511627776/\∀(o:Unit),True->∃(ma:RB),ab (List UInt8×Bool) 1 iP (ma.l,ma.b)=ab (List UInt8×Bool) 1 iP ((gx.n 8).left,(gx.n 8).bad)/\ma.l.length<=1099511627776/\∀(o:Unit),True->∃(me:RB),ab (List UInt8×Bool) 1 iP (me.l,me.b)=ab (List UInt8×Bool) 1 iP ((ma.n 8).left,(ma.n 8).bad)/\me.l.length<=1099511627776/\∀(o:Unit),True->∃(o:Unit),ag.wrap (yU (i.n 8).iN)=ag.wrap (yU (gx.n 8).iN)/\ag.wrap (yU ((RB.mk (i.n 8).left (i.n 8).bad).n 8).iN)=ag.wrap (yU (ma.n 8).iN)/\ag.wrap (yU ((RB.mk ((RB.mk (i.n 8).left (i.n 8).bad).n 8).left ((RB.mk (i.n 8).left (i.n 8).bad).n 8).bad).n 8).iN)=ag.wrap (yU (me.n 8).iN)/\ab (List UInt8×Bool) 1 iP (((RB.mk ((RB.mk (i.n 8).left (i.n 8).bad).n 8).left ((RB.mk (i.n 8).left (i.n 8).bad).n 8).bad).n 8).left,((RB.mk ((RB.mk (i.n 8).left (i.n 8).bad).n 8).left ((RB.mk (i.n 8).left (i.n 8).bad).n 8).bad).n 8).bad)=ab (List UInt8×Bool) 1 iP ((me.n 8).left,(me.n 8).bad)/\True
def sQ (a:RB):=((RB.mk (a.n 8).left (a.n 8).bad).n 8)
def mG (a:RB):=((RB.mk (sQ a).left (sQ a).bad).n 8)
def zLq (a:RB):=(yU (mG a).iN)
def qX (a:RB) (b:Nat):=((RB.mk (a.n 1).left (a.n 1).bad).zx b)
def xY (a:RB):=(yU (a.n 8).iN)
def y1w (i:RB):Prop:=
 ∃(a:RB),ab (List UInt8×Bool) 1 iP (a.l,a.b)=Eh i/\a.l.length<=1099511627776/\fa (∃(c:Nat),(↑c:Int)=0/\ab (List UInt8×Bool) 1 iP ((qX i c).snd.l,(qX i c).snd.b)=ab (List UInt8×Bool) 1 iP ((a.n 1).left,(a.n 1).bad)/\dl ((0:Int))/\dl ((0:Int))/\dl ((0:Int))/\aq=aq/\au ic (qX i c).fst=[]/\∃(d:Nat->Prop),∃(e:Nat->Nat),d c/\∀(f:Nat),d f->dp (decide ((↑f:Int)<yU (a.n 1).iN)) (∃(g:RB),ab (List UInt8×Bool) 1 iP (g.l,g.b)=ab (List UInt8×Bool) 1 iP ((qX i f).snd.l,(qX i f).snd.b)/\g.ok/\fa (True/\True/\((au ic (qX i f).fst).length+1)*(24:Nat)<=(140737488355328:Nat)/\∃(j:Nat),(↑j:Int)=ag.wrap ((↑f:Int)+1)/\ab (List UInt8×Bool) 1 iP ((qX i j).snd.l,(qX i j).snd.b)=ab (List UInt8×Bool) 1 iP ((mG g).left,(mG g).bad)/\dl ((0:Int))/\dl ((0:Int))/\dl ((0:Int))/\aq=aq/\au ic (qX i j).fst=au ic (qX i f).fst++[[dI (ag.wrap (xY g)),dI (ag.wrap (yU (sQ g).iN)),dI (ag.wrap (zLq g))]]/\d j/\e j<e f/\dl (ac (Sx.V.agg [V.d qN,V.d (dI 0),V.d (dI 0),V.d (dI 0),V.d (D.v (.bool aq))]).cl 179))) (∃(g:RB),ab (List UInt8×Bool) 1 iP (g.l,g.b)=ab (List UInt8×Bool) 1 iP ((qX i f).snd.l,(qX i f).snd.b)/\g.l.length<=1099511627776/\fa (dp (yU (g.n 1).iN==1) (∃(j:RB),ab (List UInt8×Bool) 1 iP (j.l,j.b)=ab (List UInt8×Bool) 1 iP ((g.n 1).left,(g.n 1).bad)/\j.ok/\fa (dx (au ic i.side.fst.fst.levels=au ic (qX i f).fst/\i.side.fst.fst.imp.dm=ag.wrap (xY j)/\i.side.fst.fst.imp.dr=ag.wrap (yU (sQ j).iN)/\i.side.fst.fst.imp.count=ag.wrap (zLq j)/\i.side.fst.fst.has=ar/\i.side.fst.snd=decide (yU (g.n 1).iN<=1)/\ab (List UInt8×Bool) 1 iP (i.side.snd.l,i.side.snd.b)=ab (List UInt8×Bool) 1 iP ((mG j).left,(mG j).bad)/\True))) (dx (au ic i.side.fst.fst.levels=au ic (qX i f).fst/\i.side.fst.fst.imp.dm=0/\i.side.fst.fst.imp.dr=0/\i.side.fst.fst.imp.count=0/\i.side.fst.fst.has=aq/\i.side.fst.snd=decide (yU (g.n 1).iN<=1)/\ab (List UInt8×Bool) 1 iP (i.side.snd.l,i.side.snd.b)=ab (List UInt8×Bool) 1 iP ((g.n 1).left,(g.n 1).bad)/\True)))))
def qE (a:List UInt8) (b:Nat):=((RB.mk ((RB.mk ((yJ a).n 8).left ((yJ a).n 8).bad).n 1).left ((RB.mk ((yJ a).n 8).left ((yJ a).n 8).bad).n 1).bad).views b)
def Zv (a:List UInt8) (b:Nat):=((au zA (qE a b).fst.fst).length+1)
def ob:=(Sx.V.agg [V.d qN])
def z2d (a:Nat) (b:Nat) (c:List UInt8) (d:RB) (e:RB) (f:Nat->Prop) (g:Nat->Nat) (h:List UInt8):Prop:=(↑a:Int)=ag.wrap ((↑b:Int)+1)/\ab (List UInt8×Bool) 1 iP ((qE c a).snd.l,(qE c a).snd.b)=ab (List UInt8×Bool) 1 iP (d.side.snd.l,d.side.snd.b)/\au zA (qE c a).fst.fst=au zA (qE c b).fst.fst++[[D.ro 3 (au ic e.side.fst.fst.levels),dI e.side.fst.fst.imp.dm,dI e.side.fst.fst.imp.dr,dI e.side.fst.fst.imp.count,D.v (.bool e.side.fst.fst.has),D.ro 3 (au ic d.side.fst.fst.levels),dI d.side.fst.fst.imp.dm,dI d.side.fst.fst.imp.dr,dI d.side.fst.fst.imp.count,D.v (.bool d.side.fst.fst.has)]]/\f a/\g a<g b/\dl (ab (List UInt8) 2 ki h)/\dl (af FD 1 (bE h))/\dl (ac ob.cl 89)
def z0y (a:List UInt8) (b:Nat) (c:RB) (d:RB) (e:Nat->Prop) (f:Nat->Nat) (g:List UInt8):Prop:=(Zv a b)*(112:Nat)<=(140737488355328:Nat)/\∃(h:Nat),(qE a h).fst.snd=aq/\z2d h b a c d e f g
def Vo (a:List UInt8):Prop:=0<=ag.wrap ((↑(bE a).length:Int)-4)/\ag.wrap ((↑(bE a).length:Int)-4)<=(↑(bE a).length:Int)
def Vd (a:List UInt8):Prop:=dx (au zA (bG a)=[]/\pI a=0/\lU a=12/\True)
def PB (a:List UInt8):=(ag.wrap ((↑(bE a).length:Int)-4))
def xFn (b:List UInt8):Prop:=
 dp (decide (ag.wrap ((↑(bE b).length:Int)-4)<0)) (dx (au zA (bG b)=[]/\pI b=0/\lU b=14/\True)) (dx (True/\fa ((Vo b)/\∃(d:List UInt8),bE d=av (PB b).toNat (bE b)/\d.length<=1099511627776/\fa (∃(f:WN),f.n=dH d/\ab (List UInt8) 2 ki f.l=ab (List UInt8) 2 ki []/\(f.l.length+(8:Nat)<=(1099511627776:Nat)/\0<=f.n/\f.n<4294967296)/\fa ((Vo b)/\∃(h:ByteArray),dl ((1:Nat))/\aw (PB b).toNat (bE b)=jZ h/\∃(j:List UInt8),ab (List UInt8) 2 ki j=ab (List UInt8) 2 ki (f.l++le f.n 4)/\j.length<=1099511627776/\fa ((∃(l:ByteArray),dl ((1:Nat))/\aw (PB b).toNat (bE b)=jZ l/\l=h)/\∃(l:ByteArray),dl ((1:Nat))/\bE j=jZ l/\dp (!l.toList==h.toList) (dx (au zA (bG b)=[]/\pI b=0/\lU b=14/\True)) ((Vo b)/\∃(m:List UInt8),bE m=av (PB b).toNat (bE b)/\m.length<=1099511627776/\fa (∃(p:RB),ab (List UInt8×Bool) 1 iP (p.l,p.b)=ab (List UInt8×Bool) 1 iP (m,aq)/\p.l.length<=1099511627776/\fa (∃(r:RB),ab (List UInt8×Bool) 1 iP (r.l,r.b)=ab (List UInt8×Bool) 1 iP ((p.n 8).left,(p.n 8).bad)/\r.l.length<=1099511627776/\fa (∃(t:Nat),(qE b t).fst.snd=ar/\(↑t:Int)=0/\ab (List UInt8×Bool) 1 iP ((qE b t).snd.l,(qE b t).snd.b)=ab (List UInt8×Bool) 1 iP ((r.n 1).left,(r.n 1).bad)/\au zA (qE b t).fst.fst=[]/\∃(u:Nat->Prop),∃(v:Nat->Nat),u t/\∀(w:Nat),u w->dp (decide ((↑w:Int)<yU (r.n 1).iN)) (∃(x:RB),ab (List UInt8×Bool) 1 iP (x.l,x.b)=ab (List UInt8×Bool) 1 iP ((qE b w).snd.l,(qE b w).snd.b)/\x.ok/\fa (dp (qE b w).fst.snd (∃(z:RB),ab (List UInt8×Bool) 1 iP (z.l,z.b)=ab (List UInt8×Bool) 1 iP (x.side.snd.l,x.side.snd.b)/\z.ok/\fa (dp x.side.fst.snd ((Zv b w)*(112:Nat)<=(140737488355328:Nat)/\∃(og:Nat),(qE b og).fst.snd=z.side.fst.snd/\z2d og w b z x u v j) (z0y b w z x u v j))) (∃(z:RB),ab (List UInt8×Bool) 1 iP (z.l,z.b)=ab (List UInt8×Bool) 1 iP (x.side.snd.l,x.side.snd.b)/\z.ok/\fa (z0y b w z x u v j)))) (dp (!(qE b w).fst.snd) (Vd b) (∃(x:RB),ab (List UInt8×Bool) 1 iP (x.l,x.b)=ab (List UInt8×Bool) 1 iP ((qE b w).snd.l,(qE b w).snd.b)/\x.l.length<=1099511627776/\fa (dp ((if x.b=ar then(10:Int)else if 0<x.l.length then(15:Int)else(0:Int)) !=0) (Vd b) (∃(z:Vw),au zA z=au zA (qE b w).fst.fst/\(rK z)/\fa (dp (!fJ z) (Vd b) (dx (au zA (bG b)=au zA (qE b w).fst.fst/\pI b=ag.wrap (xY p)/\lU b=0/\True)))))))))))))))))
def nC (i:RN):i.left.length<=i.l.length:=by
 unfold RN.left;split
 ·omega
 ·rw[o8];omega
def zHc (r:RB):0<=r.byte.1/\r.byte.1<=255:=by
 have hr:=uX (r.n 1).iN;have hl:=Lc (r.n 1);have h0:(256:Int) ^ (r.n 1).iN.length<=256 ^ 1:=by
  have:(256:Nat) ^ (r.n 1).iN.length<=256 ^ 1:=be oM hl
  exact_mod_cast this
 exact⟨hr.1,by show yU _<=255;omega⟩
def uL {r:RB} (h:r.ok):r.byte.2.ok:=vz (nC _) h
def kQ {r:RB} (h:r.ok):r.fq.2.ok:=vz (nC _) h
def y2o {r:RB} (h:r.ok):r.lv.2.ok:=kQ (kQ (kQ h))
def yBt {r:RB} (h:r.ok):∀k,(r.zx k).2.ok
 |0=>h
 |k+1=>y2o (yBt h k)
def Uz {r:RB} (h:r.ok):r.part.2.ok:=yBt (uL h) _
def UG {r:RB} (h:r.ok):r.side.2.ok:=by
 unfold RB.side;split
 ·exact y2o (uL (Uz h))
 ·exact uL (Uz h)
def YW {r:RB} (h:r.ok):∀k,(r.views k).2.ok
 |0=>h
 |k+1=>UG (UG (YW h k))
def Yy {r:RB}:∀k,(r.zx k).1.length=k
 |0=>rfl
 |k+1=>by show((r.zx k).1++[_]).length=_;rw[iv,Yy k];rfl
def z7g {r:RB}:r.side.1.1.levels.length<=255:=by
 have:r.part.1.length<=255:=by
  show(r.byte.2.zx r.byte.1.toNat).1.length<=255;rw[Yy];have:=zHc r;omega
 unfold RB.side;split<;>exact this
def ZI {r:RB}:∀k,(r.views k).1.1.length=k
 |0=>rfl
 |k+1=>by show((r.views k).1.1++[_]).length=_;rw[iv,ZI k];rfl
def zTx {r:RB}:∀k,∀b∈(r.views k).1.1,b.1.levels.length<=255/\b.2.levels.length<=255
 |0,b,h=>nomatch h
 |k+1,b,h=>by
  have h:b∈(r.views k).1.1++[_]:=h;rw[oK,uc]at h;rcases h with h|rfl
  ·exact zTx k b h
  ·exact⟨z7g,z7g⟩
def yYn:TL.ok Tryz.prog 190:=gu (V:=xBr) mixed (dw YD fg) 0 (λ_=>[]) (λ_=>[]) [] Tryz.func190 λ(i:RB) h=>
 ⟨i,rfl,h,λ_ _=>⟨i.fq.2,rfl,kQ h,λ_ _=>⟨i.fq.2.fq.2,rfl,kQ (kQ h),λ_ _=>⟨(),mn trivial⟩⟩⟩⟩
def wj {j:Nat} (h:j<=100000):((j+1:Nat):Int)=ag.wrap ((j:Int)+1):=by rw[iq (by omega)];rfl
def xDa (i:RB) (h:Kk.dp i):y1w i:=by
 unfold y1w fa dx xY qX zLq mG sQ qN dI;have hb:=zHc i;have hp:i.part=i.byte.2.zx i.byte.1.toNat:=rfl;refine⟨i,rfl,h,λ_ _=>⟨0,ni ⟨rfl,λj=>j<=i.byte.1.toNat,λj=>i.byte.1.toNat-j,mi _,λj hj=>zH (λgn=> ?_) (λgn=> ?_)⟩⟩⟩
 ·dsimp only at hj;have gn:(j:Int)<i.byte.1:=gn;refine⟨(i.byte.2.zx j).2,rfl,yBt (uL h) j,λ_ _=>⟨trivial,trivial,?_,j+1,wj oM,rfl,rfl,rfl,rfl,rfl,?_,by(first|omega|(dsimp only;omega)),by(first|omega|(dsimp only;omega)),gg⟩⟩
  ·rw[gy];show((i.byte.2.zx j).1.length+1)*24<=_;rw[Yy];omega
  ·show au ic (i.byte.2.zx (j+1)).1=_;show au ic ((i.byte.2.zx j).1++[(i.byte.2.zx j).2.lv.1])=_;rw[jl];rfl
 ·dsimp only at hj;have gn:¬(j:Int)<i.byte.1:=gn;obtain rfl:j=i.byte.1.toNat:=by omega
  refine⟨i.part.2,rfl,Uz h,λ_ _=>Cv.dp.mk (λe=> ?_) (λe=> ?_)⟩
  ·have e:i.part.2.byte.1=1:=by
    have e:(i.part.2.byte.1==1)=ar:=e;simpa using e
   have hs:i.side=((⟨i.part.1,i.part.2.byte.2.lv.1,ar⟩,ar),i.part.2.byte.2.lv.2):=fc e;refine⟨i.part.2.byte.2,rfl,uL (Uz h),λ_ _=>⟨(),?_⟩⟩;rw[hs];refine(mn ⟨rfl,?_,rfl,trivial⟩);show ar=decide (i.part.2.byte.1<=1);rw[e];rfl
  ·have e:¬i.part.2.byte.1=1:=by
    have e:(i.part.2.byte.1==1)=aq:=e;simpa using e
   have hs:i.side=((⟨i.part.1,⟨0,0,0⟩,aq⟩,decide (i.part.2.byte.1<=1)),i.part.2.byte.2):=eg e;refine⟨(),?_⟩;rw[hs];exact(oF trivial)
def yVb:Kk.ok Tryz.prog 146:=gu mixed (dw Vu (dw yYn fg)) 0 (λ_=>[]) (λi=>xAl i) [] Tryz.func146 xDa
def VL (l:List UInt8):bE l=jZ ⟨l.toArray⟩:=rfl
def yEq {b:List UInt8} (h:¬rA b):bG b=[]/\pI b=0/\lU b=14:=by
 refine⟨?_,?_,?_⟩
 ·rw[bG,eg λx=>h x.1]
 ·rw[pI,eg λx=>h x.1]
 ·rw[lU,eg h]
def yLs {b:List UInt8} (h:rA b) (h2:¬aD b):bG b=[]/\pI b=0/\lU b=12:=by
 refine⟨?_,?_,?_⟩
 ·rw[bG,eg λx=>h2 x.2]
 ·rw[pI,eg λx=>h2 x.2]
 ·rw[lU,fc h,eg h2]
def yLy {b:List UInt8} (h:rA b) (h2:aD b):bG b=(yJ b).all.1.1/\pI b=(yJ b).fq.1/\lU b=0:=by
 refine⟨?_,?_,?_⟩
 ·rw[bG,fc ⟨h,h2⟩]
 ·rw[pI,fc ⟨h,h2⟩]
 ·rw[lU,fc h,fc h2]
def xGo (b:List UInt8) (h:Tq.dp b):xFn b:=by
 have h:b.length<=1099511627776:=h;have e0:((bE b).length:Int)=b.length:=by rw[yV]
 have e1:ag.wrap (((bE b).length:Int)-4)=(b.length:Int)-4:=by rw[iq (by omega),e0]
 unfold xFn fa dx xY rK qK z0y z2d ob qN PB Vd dx Vo Zv qE dI;rw[e1,e0];refine zH (λgn=> ?_) (λgn=> ?_)
 ·obtain⟨a1,a2,a3⟩:=yEq (b:=b) λx=>by have:=x.1;omega
  exact⟨(),by rw[a1];rfl,a2,a3,trivial⟩
 have en:((b.length:Int)-4).toNat=b.length-4:=by omega
 rw[en,<- lQ,<- eF];have hc:=pS (b.take (b.length-4));have hx:(b.take (b.length-4)).length<=1099511627776:=by rw[ng];omega
 have hr:(yJ b).ok:=hx;have tf:(yJ b).head.2.ok:=uL (kQ hr);have hn:=zHc (yJ b).fq.2;refine⟨(),trivial,λ_ _=>⟨⟨oM,oM⟩,b.take (b.length-4),rfl,hx,λ_ _=>⟨⟨[],dH (b.take (b.length-4))⟩,rfl,rfl,⟨(show 0+8<=1099511627776 by omega),hc.1,hc.2⟩,λ_ _=>⟨⟨oM,oM⟩,_,rfl,VL _,le (dH (b.take (b.length-4))) 4,rfl,(by rw[y7];omega),λ_ _=>⟨⟨_,rfl,VL _,rfl⟩,_,rfl,VL _,Cv.dp.mk (λe=> ?_) (λe=> ?_)⟩⟩⟩⟩⟩
 ·rw[bc,bc]at e;obtain⟨a1,a2,a3⟩:=yEq (b:=b) λx=>by
   simp at e;exact e x.2
  exact⟨(),by rw[a1];rfl,a2,a3,trivial⟩
 rw[bc,bc]at e;have hs:rA b:=⟨oM,by simpa using e⟩
 refine⟨⟨oM,oM⟩,b.take (b.length-4),rfl,hx,λ_ _=>⟨yJ b,rfl,hr,λ_ _=>⟨(yJ b).fq.2,rfl,kQ hr,λ_ _=>⟨0,iJ ⟨rfl,λj=>j<=(yJ b).head.1.toNat,λj=>(yJ b).head.1.toNat-j,mi _,λj hj=>zH (λgn=> ?_) (λgn=> ?_)⟩⟩⟩⟩⟩
 ·dsimp only at hj;have gn:(j:Int)<(yJ b).head.1:=gn;have hn:0<=(yJ b).head.1/\(yJ b).head.1<=255:=hn;have o1:((yJ b).head.2.views j).2.ok:=YW tf j;have hl:((au zA ((yJ b).head.2.views j).1.1).length+1)*112<=140737488355328:=by rw[gy,ZI];omega
  have nb:((yJ b).head.2.views (j+1)).1.2=(((yJ b).head.2.views j).1.2 && ((yJ b).head.2.views j).2.side.1.2 && ((yJ b).head.2.views j).2.side.2.side.1.2):=rfl;have nl:au zA ((yJ b).head.2.views (j+1)).1.1=au zA ((yJ b).head.2.views j).1.1++[zA (((yJ b).head.2.views j).2.side.1.1,((yJ b).head.2.views j).2.side.2.side.1.1)]:=by
   show au zA (((yJ b).head.2.views j).1.1++[_])=_;rw[jl];rfl
  refine⟨((yJ b).head.2.views j).2,rfl,o1,λ_ _=>Cv.dp.mk (λf1=> ?_) (λf1=> ?_)⟩
  ·have f1:((yJ b).head.2.views j).1.2=ar:=f1;refine⟨((yJ b).head.2.views j).2.side.2,rfl,UG o1,λ_ _=>Cv.dp.mk (λf2=>⟨hl,j+1,?_,wj oM,rfl,nl,by(first|omega|(dsimp only;omega)),by(first|omega|(dsimp only;omega)),gg⟩) (λf2=>⟨hl,j+1,?_,wj oM,rfl,nl,by(first|omega|(dsimp only;omega)),by(first|omega|(dsimp only;omega)),gg⟩)⟩
   ·refine nb.trans ?_;rw[f1,f2];rfl
   ·refine nb.trans ?_;rw[f1,f2];rfl
  ·have f1:((yJ b).head.2.views j).1.2=aq:=f1;refine⟨((yJ b).head.2.views j).2.side.2,rfl,UG o1,λ_ _=>⟨hl,j+1,?_,wj oM,rfl,nl,by(first|omega|(dsimp only;omega)),by(first|omega|(dsimp only;omega)),gg⟩⟩;refine nb.trans ?_;rw[f1];rfl
 ·dsimp only at hj;have gn:¬(j:Int)<(yJ b).head.1:=gn;have hn:0<=(yJ b).head.1/\(yJ b).head.1<=255:=hn;obtain rfl:j=(yJ b).head.1.toNat:=by omega
  have no:∀h2:¬aD b,(∃(o:Unit),au zA (bG b)=[]/\pI b=0/\lU b=12/\True):=λh2=>by
   obtain⟨a1,a2,a3⟩:=yLs hs h2;exact⟨(),by rw[a1];rfl,a2,a3,trivial⟩
  refine Cv.dp.mk (λf=>no λx=> ?_) (λf=> ?_)
  ·have x1:((yJ b).head.2.views (yJ b).head.1.toNat).1.2=ar:=x.1;have f:(!((yJ b).head.2.views (yJ b).head.1.toNat).1.2)=ar:=f;rw[x1]at f;cases f
  have f:((yJ b).head.2.views (yJ b).head.1.toNat).1.2=ar:=by
   have f:(!((yJ b).head.2.views (yJ b).head.1.toNat).1.2)=aq:=f;simpa using f
  refine⟨(yJ b).all.2,rfl,YW tf _,λ_ _=>Cv.dp.mk (λg=>no λx=> ?_) (λg=> ?_)⟩
  ·have x2:(yJ b).all.2.kq=0:=x.2.1;have g:((yJ b).all.2.kq !=0)=ar:=g;rw[x2]at g;cases g
  have g:(yJ b).all.2.kq=0:=by
   have g:((yJ b).all.2.kq !=0)=aq:=g;simpa using g
  refine⟨(yJ b).all.1.1,rfl,⟨?_,?_⟩,λ_ _=>Cv.dp.mk (λq=>no λx=> ?_) (λq=> ?_)⟩
  ·show((yJ b).head.2.views (yJ b).head.1.toNat).1.1.length<=_;rw[ZI];omega
  ·intro y hy;have:=zTx (r:=(yJ b).head.2) _ y hy;omega
  ·have:=x.2.2;simp only[fJ,De,decide_eq_false_iff_not]at q;exact q this
  ·have q:wF (yJ b).all.1.1:=by simpa[fJ]using q
   obtain⟨a1,a2,a3⟩:=yLy hs ⟨f,g,q⟩;refine⟨(),?_,a2,a3,trivial⟩;rw[a1];rfl
def y6k:Tq.ok Tryz.prog 92:=gu mixed (dw Pd (dw Uo (dw yBn (dw Ph (dw Yp (dw YD (dw Vu (dw yVb (dw yCj (dw zXc fg)))))))))) 0 (λ_=>[]) (λb=>xIi b) [] Tryz.func92 xGo
def RB.text (r:RB):List UInt8×RB:=((r.byte.2.n r.byte.1.toNat).iN,⟨(r.byte.2.n r.byte.1.toNat).left,(r.byte.2.n r.byte.1.toNat).bad⟩)
def Fs (s:List UInt8):List UInt8:=iR (s.take 255).length::s.take 255
def ie.tail (c:ie):List UInt8:=
 if c.kind=1 then iR c.inst::iR c.side::iR c.time::(le c.dm 8++(le c.dr 8++(le c.least 8++Fs c.label)))
 else if c.kind=3 then le c.dr 8 else if c.kind=4 then le c.dm 8++le c.dr 8 else[]
def ie.enc (c:ie):List UInt8:=if c.right≠0 then[]else iR c.kind::(le c.id 8++c.tail)
def qH (k id:Int) (r:RB):ie×RB:=
 if k=1 then
  let a:=r.byte;let b:=a.2.byte;let t:=b.2.byte;let x:=t.2.fq;let y:=x.2.fq;let z:=y.2.fq;let w:=z.2.text
  (⟨k,id,a.1,b.1,x.1,y.1,z.1,t.1,w.1⟩,w.2)
 else if k=3 then(⟨k,id,0,0,0,r.fq.1,0,0,[]⟩,r.fq.2)
 else if k=4 then(⟨k,id,0,0,r.fq.1,r.fq.2.fq.1,0,0,[]⟩,r.fq.2.fq.2)
 else(⟨k,id,0,0,0,0,0,0,[]⟩,r)
def xR (b:List UInt8):ie×Int:=
 let k:=(RB.mk b aq).byte
 if k.1<1\/4<k.1 then(HV,31)else
 let x:=qH k.1 k.2.fq.1 k.2.fq.2
 if x.2.kq≠0 then(HV,12)else if x.1.right≠0 then(HV,x.1.right)else(x.1,0)
def ie.asks (c:ie):ie:=if c.kind=1 then c else if c.kind=2 then⟨2,c.id,0,0,0,0,0,0,[]⟩else if c.kind=3 then⟨3,c.id,0,0,0,c.dr,0,0,[]⟩else if c.kind=4 then⟨4,c.id,0,0,c.dm,c.dr,0,0,[]⟩else HV
def P4 (n:Int):((iR n).toNat:Int)=n % 256:=(UT n).symm
def jI (x:UInt8) (l:List UInt8):RB.byte ⟨x::l,aq⟩=((x.toNat:Int),⟨l,aq⟩):=by
 simp[RB.byte,RB.n,RN.iN,RN.left,RN.bad,yU]
def yGp (a l:List UInt8):(RN.mk (a++l) aq a.length).iN=a/\(RN.mk (a++l) aq a.length).left=l/\(RN.mk (a++l) aq a.length).bad=aq:=by
 have h:(RN.mk (a++l) aq a.length).bad=aq:=by simp[RN.bad]
 simp[RN.iN,RN.left,h]
def yNa (n:Int):yU (le n 8)=n % 18446744073709551616:=by
 simp only[le,yU,P4];omega
def uN {n:Int} (h:gr n) (l:List UInt8):RB.fq ⟨le n 8++l,aq⟩=(n,⟨l,aq⟩):=by
 have e:(RB.mk (le n 8++l) aq).n 8=RN.mk (le n 8++l) aq (le n 8).length:=by rw[y7];rfl
 obtain⟨h1,h2,h3⟩:=yGp (le n 8) l;rw[RB.fq,e,h1,h2,h3,yNa];obtain⟨ha,hb⟩:=h;have:ag.wrap (n % 18446744073709551616)=n:=by
  have e:=Cv.wrap_i64 ha hb;by_cases hn:0<=n
  ·rw[show n % 18446744073709551616=n by omega];exact e
  ·have:n % 18446744073709551616=n+18446744073709551616:=by omega
   rw[this];rw[am]at e ⊢;simp only[am,IntKind.bits,ao]at e ⊢;simp at e ⊢;omega
 rw[this]
def yTb {s:List UInt8} (h:s.length<=255) (l:List UInt8):RB.text ⟨Fs s++l,aq⟩=(s,⟨l,aq⟩):=by
 have ht:s.take 255=s:=mo h;have e:((iR (s.length:Int)).toNat:Int)=s.length:=by rw[P4];omega
 rw[Fs,ht,ui,RB.text,jI];dsimp only;rw[e];have e:(RB.mk (s++l) aq).n ((s.length:Int)).toNat=RN.mk (s++l) aq s.length:=rfl;obtain⟨h1,h2,h3⟩:=yGp s l;rw[e,h1,h2,h3]
def EL {n:Int} (h:0<=n/\n<=255):((iR n).toNat:Int)=n:=by rw[P4];omega
def yCi (s:List UInt8):∀(k p:Nat),s.length-p<=k->s.length-p<=4*(gW s p).length
 |0,p,h=>by rw[uP (by omega)];simp;omega
 |k+1,p,h=>by
  by_cases hp:p<s.length
  ·have hw:=aJ s hp;have h4:(Utf8.decode (sb s) p).2<=4:=by
    unfold Utf8.decode;simp only[UO,lj,tq]
    repeat' split
    all_goals simp
   rw[wG hp,iC];have:=yCi s k (p+(Utf8.decode (sb s) p).2) oM;omega
  ·rw[uP (by omega)];simp;omega
def yIx {s:List UInt8} (h:s=[]\/dU s=ar):s.length<=48:=by
 obtain rfl|h:=h
 ·simp
 ·simp only[dU,lj,tq]at h;have:=yCi s s.length 0 oM;rw[jO,gy]at h;omega
def tL {c:ie} (h:c.right=0):(1<=c.kind/\c.kind<=4)/\(1<=c.id/\c.id<=1099511627776)/\
 (c.kind≠2->1<=c.dr/\c.dr<=1000000)/\(c.kind=1\/c.kind=4->-2000000<=c.dm/\c.dm<=2000000)/\
 (c.kind=1->(c.side=1\/c.side=2)/\(1<=c.time/\c.time<=3)/\(0<=c.least/\c.least<=c.dr)/\(0<=c.inst/\c.inst<=255)/\c.label.length<=48):=by
 rw[ie.right]at h;split at h;·cases h
 split at h;·cases h
 rename_i h1 h2;refine⟨oM,oM,?_⟩;split at h
 ·rename_i hk;rw[ie.gf]at h
  iterate 7 (split at h;·cases h)
  rename_i a1 a2 a3 a4 a5 a6 a7;simp only[jA,Bool.not_eq_false,lj,tq]at a3;simp only[uJ,Bool.not_eq_false,lj,tq]at a6;refine⟨λ_=>a3,λ_=>a6,λ_=>⟨oM,oM,oM,oM,yIx ?_⟩⟩;by_cases hl:c.label=[]
  ·exact .inl hl
  ·exact .inr (by simpa[hl]using a5)
 ·rename_i hk;split at h;·cases h
  split at h;·cases h
  rename_i a1 a2;refine⟨λh2=> ?_,λh2=> ?_,λh2=>absurd h2 hk⟩
  ·simpa[h2,jA]using a1
  ·simpa[show c.kind=4 by omega,uJ]using a2
def yUd {n:Int} (h:gr n):RB.fq ⟨le n 8,aq⟩=(n,⟨[],aq⟩):=by
 have:=uN h [];rwa [oJ]at this
def yTt {s:List UInt8} (h:s.length<=255):RB.text ⟨Fs s,aq⟩=(s,⟨[],aq⟩):=by
 have:=yTb h [];rwa [oJ]at this
def yUw {c:ie} (h:c.right=0):qH c.kind c.id ⟨c.tail,aq⟩=(c.asks,⟨[],aq⟩):=by
 obtain⟨hk,hi,hq,hp,ho⟩:=tL h;rw[qH,ie.tail,ie.asks];by_cases h1:c.kind=1
 ·obtain⟨hs,ht,hl,hn,hb⟩:=ho h1;have hq:=hq oM;have hp:=hp (.inl h1);simp only[fc h1];rw[jI];dsimp only;rw[jI];dsimp only;rw[jI];dsimp only;rw[uN ⟨by omega,by omega⟩];dsimp only;rw[uN ⟨by omega,by omega⟩];dsimp only;rw[uN ⟨by omega,by omega⟩];dsimp only;rw[yTt (by omega),EL (by omega),EL (by omega),EL (by omega)]
 ·by_cases h3:c.kind=3
  ·have hq:=hq oM;simp only[h3,fc,eg,show ¬((3:Int)=1)by decide,show ¬((3:Int)=2)by decide,if_false,if_true];rw[yUd ⟨by omega,by omega⟩]
  ·by_cases h4:c.kind=4
   ·have hq:=hq oM;have hp:=hp (.inr h4);simp only[h4,show ¬((4:Int)=1)by decide,show ¬((4:Int)=2)by decide,show ¬((4:Int)=3)by decide,if_false,if_true];rw[uN ⟨by omega,by omega⟩];dsimp only;rw[yUd ⟨by omega,by omega⟩]
   ·have h2:c.kind=2:=by omega
    simp only[h2,show ¬((2:Int)=1)by decide,show ¬((2:Int)=4)by decide,show ¬((2:Int)=3)by decide,if_false,if_true]
def z9i {c:ie} (h:c.right=0):c.asks.right=0:=by
 obtain⟨hk,hi,hq,hp,ho⟩:=tL h;rw[ie.asks];split
 ·exact h
 split
 ·rw[ie.right];simp only[];repeat (first|rw[eg (by omega)]|rw[eg (by decide)]|rw[eg (by simp)])
 split
 ·have:=hq oM;rw[ie.right];simp only[];rw[eg (by decide),eg (by omega),eg (by decide),eg (by simp[jA];omega),eg (by simp)]
 split
 ·have:=hq oM;have:=hp (.inr oM);rw[ie.right];simp only[];rw[eg (by decide),eg (by omega),eg (by decide),eg (by simp[jA];omega),eg (by simp[uJ];omega)]
 ·omega
def yXz {c:ie} (h:c.right=0):xR c.enc=(c.asks,0):=by
 obtain⟨hk,hi,_⟩:=tL h;have e:c.enc=iR c.kind::(le c.id 8++c.tail):=by rw[ie.enc,eg (by simp[h])]
 rw[xR,e,jI];dsimp only;rw[EL (by omega),eg (by omega),uN ⟨by omega,by omega⟩];dsimp only;rw[yUw h];dsimp only;rw[eg (by simp[RB.kq]),eg (by rw[z9i h];simp)]
def MJ:fy:=fi RB (λi=>[.nm 0 0]) (λi=>[Eh i]) RB.ok (λi=>sV i.text.1) (λi=>[Eh i.text.2])
structure Sv where
 l:List UInt8
 s:List UInt8
def KS:fy:=fi (List UInt8) (λb=>[ot 1 (bE b)]) (λ_=>[]) (λb=>b.length<=1099511627776) (λb=> .iZ [C8 (xR b).1,zB (xR b).2]) (λ_=>[])
def xEn:List (Nat×gm):=[(12,bj 19),(26,{ι:=ie×RB,du:=λ_=>[(4,.nm 0 0),(5,.nm 1 0)],rows:=λx=>[Eh x.2,.cells x.1.cells 46],oZ:=λ_=>[(4,.nm 0 0),(5,.nm 1 0)],lu:=λx=>[Eh x.2,.cells x.1.cells 46]})]
def y9e (i:RB):Prop:=
 ∃(gx:RB),ab (List UInt8×Bool) 1 iP (gx.l,gx.b)=Eh i/\gx.l.length<=1099511627776/\∀(o:Unit),True->∃(ma:RN),(↑ma.n:Int)=yU (gx.n 1).iN/\ab (List UInt8×Bool) 1 iP (ma.l,ma.b)=ab (List UInt8×Bool) 1 iP ((gx.n 1).left,(gx.n 1).bad)/\(ma.n<=255/\ma.l.length<=1099511627776)/\∀(o:Unit),True->∃(b:ByteArray),dl ((1:Nat))/\bE ma.iN=jZ b/\∃(o:Unit),sb ((RB.mk (i.n 1).left (i.n 1).bad).n (yU (i.n 1).iN).toNat).iN=b/\ab (List UInt8×Bool) 1 iP (((RB.mk (i.n 1).left (i.n 1).bad).n (yU (i.n 1).iN).toNat).left,((RB.mk (i.n 1).left (i.n 1).bad).n (yU (i.n 1).iN).toNat).bad)=ab (List UInt8×Bool) 1 iP (ma.left,ma.bad)/\True
def zKw:Prop:=ac (Sx.V.agg [V.d (dI 0),V.d (dI 0),V.d (dI 0),V.d (dI 0),V.d (dI 0),V.d (dI 0),V.d (dI 0),V.d (dI 0),V.d jR]).cl 46=ac (Sx.V.agg [V.d (dI 0),V.d (dI 0),V.d (dI 0),V.d (dI 0),V.d (dI 0),V.d (dI 0),V.d (dI 0),V.d (dI 0),V.d jR]).cl 46
def Zz (a:Bool->Prop) (b:Bool) (c:RB):Prop:=a b/\dl (ac [V.d (dI (yU (c.n 1).iN)),V.d (dI 0),V.d (dI 0),V.d (dI 0),V.d (dI 0),V.d (dI 0),V.d (dI 0),V.d (dI 0),V.d jR] 46)/\dl (ab (List UInt8×Bool) 1 iP ((c.n 1).left,(c.n 1).bad))/\zKw
def zLm (a:ie×RB->Prop) (b:ie×RB):Prop:=a b/\zKw
def Z6 (a:ie×RB) (b:ie×RB) (c:ie×RB->Prop):Prop:=a.fst.least=b.fst.least/\a.fst.time=b.fst.time/\sb a.fst.label=sb b.fst.label/\zLm c a
def zLg (a:ie×RB) (b:RB) (c:ie×RB) (d:ie×RB->Prop):Prop:=a.fst.dr=ag.wrap (xY b)/\Z6 a c d
def V2 (a:RB):=((RB.mk (a.n 1).left (a.n 1).bad).n (yU (a.n 1).iN).toNat)
def y1i (b:List UInt8):Prop:=
 ∃(a:List UInt8),bE a=bE b/\a.length<=1099511627776/\fa (∃(d:RB),ab (List UInt8×Bool) 1 iP (d.l,d.b)=ab (List UInt8×Bool) 1 iP (a,aq)/\d.l.length<=1099511627776/\fa (∃(f:Bool),∃(g:Bool->Prop),dp (decide (yU (d.n 1).iN<1)) (∃(h:Bool),h=ar/\Zz g h d) (∃(h:Bool),h=decide (yU (d.n 1).iN>4)/\Zz g h d)/\∀(h:Bool),g h->dp h (dx ((xR b).fst.kind=0/\(xR b).fst.id=0/\(xR b).fst.inst=0/\(xR b).fst.side=0/\(xR b).fst.dm=0/\(xR b).fst.dr=0/\(xR b).fst.least=0/\(xR b).fst.time=0/\sb (xR b).fst.label=bg #[]/\(xR b).snd=31/\True)) (∃(j:RB),ab (List UInt8×Bool) 1 iP (j.l,j.b)=ab (List UInt8×Bool) 1 iP ((d.n 1).left,(d.n 1).bad)/\j.l.length<=1099511627776/\fa (∃(l:ie×RB),ab (List UInt8×Bool) 1 iP (l.snd.l,l.snd.b)=ab (List UInt8×Bool) 1 iP ((j.n 8).left,(j.n 8).bad)/\l.fst.kind=yU (d.n 1).iN/\l.fst.id=ag.wrap (xY j)/\l.fst.inst=0/\l.fst.side=0/\l.fst.dm=0/\l.fst.dr=0/\l.fst.least=0/\l.fst.time=0/\sb l.fst.label=bg #[]/\∃(m:ie×RB->Prop),dp (l.fst.kind==1) (∃(n:RB),ab (List UInt8×Bool) 1 iP (n.l,n.b)=ab (List UInt8×Bool) 1 iP (l.snd.l,l.snd.b)/\n.l.length<=1099511627776/\fa (∃(q:RB),ab (List UInt8×Bool) 1 iP (q.l,q.b)=ab (List UInt8×Bool) 1 iP ((n.n 1).left,(n.n 1).bad)/\q.l.length<=1099511627776/\fa (∃(s:RB),ab (List UInt8×Bool) 1 iP (s.l,s.b)=ab (List UInt8×Bool) 1 iP ((q.n 1).left,(q.n 1).bad)/\s.l.length<=1099511627776/\fa (∃(u:RB),ab (List UInt8×Bool) 1 iP (u.l,u.b)=ab (List UInt8×Bool) 1 iP ((s.n 1).left,(s.n 1).bad)/\u.l.length<=1099511627776/\fa (∃(w:RB),ab (List UInt8×Bool) 1 iP (w.l,w.b)=ab (List UInt8×Bool) 1 iP ((u.n 8).left,(u.n 8).bad)/\w.l.length<=1099511627776/\fa (∃(y:RB),ab (List UInt8×Bool) 1 iP (y.l,y.b)=ab (List UInt8×Bool) 1 iP ((w.n 8).left,(w.n 8).bad)/\y.l.length<=1099511627776/\fa (∃(ow:RB),ab (List UInt8×Bool) 1 iP (ow.l,ow.b)=ab (List UInt8×Bool) 1 iP ((y.n 8).left,(y.n 8).bad)/\ow.ok/\fa (∃(iW:ie×RB),ab (List UInt8×Bool) 1 iP (iW.snd.l,iW.snd.b)=ab (List UInt8×Bool) 1 iP ((V2 ow).left,(V2 ow).bad)/\iW.fst.kind=l.fst.kind/\iW.fst.id=l.fst.id/\iW.fst.inst=yU (n.n 1).iN/\iW.fst.side=yU (q.n 1).iN/\iW.fst.dm=ag.wrap (xY u)/\iW.fst.dr=ag.wrap (xY w)/\iW.fst.least=ag.wrap (xY y)/\iW.fst.time=yU (s.n 1).iN/\sb iW.fst.label=sb (V2 ow).iN/\zLm m iW)))))))) (dp (l.fst.kind==3) (∃(n:RB),ab (List UInt8×Bool) 1 iP (n.l,n.b)=ab (List UInt8×Bool) 1 iP (l.snd.l,l.snd.b)/\n.l.length<=1099511627776/\fa (∃(q:ie×RB),ab (List UInt8×Bool) 1 iP (q.snd.l,q.snd.b)=ab (List UInt8×Bool) 1 iP ((n.n 8).left,(n.n 8).bad)/\q.fst.kind=l.fst.kind/\q.fst.id=l.fst.id/\q.fst.inst=l.fst.inst/\q.fst.side=l.fst.side/\q.fst.dm=l.fst.dm/\zLg q n l m)) (dp (l.fst.kind==4) (∃(n:RB),ab (List UInt8×Bool) 1 iP (n.l,n.b)=ab (List UInt8×Bool) 1 iP (l.snd.l,l.snd.b)/\n.l.length<=1099511627776/\fa (∃(q:RB),ab (List UInt8×Bool) 1 iP (q.l,q.b)=ab (List UInt8×Bool) 1 iP ((n.n 8).left,(n.n 8).bad)/\q.l.length<=1099511627776/\fa (∃(s:ie×RB),ab (List UInt8×Bool) 1 iP (s.snd.l,s.snd.b)=ab (List UInt8×Bool) 1 iP ((q.n 8).left,(q.n 8).bad)/\s.fst.kind=l.fst.kind/\s.fst.id=l.fst.id/\s.fst.inst=l.fst.inst/\s.fst.side=l.fst.side/\s.fst.dm=ag.wrap (xY n)/\zLg s q l m))) (∃(n:ie×RB),ab (List UInt8×Bool) 1 iP (n.snd.l,n.snd.b)=ab (List UInt8×Bool) 1 iP (l.snd.l,l.snd.b)/\n.fst.kind=l.fst.kind/\n.fst.id=l.fst.id/\n.fst.inst=l.fst.inst/\n.fst.side=l.fst.side/\n.fst.dm=l.fst.dm/\n.fst.dr=l.fst.dr/\Z6 n l m)))/\∀(n:ie×RB),m n->∃(p:RB),ab (List UInt8×Bool) 1 iP (p.l,p.b)=ab (List UInt8×Bool) 1 iP (n.snd.l,n.snd.b)/\p.l.length<=1099511627776/\fa (dp ((if p.b=ar then(10:Int)else if 0<p.l.length then(15:Int)else(0:Int)) !=0) (dx ((xR b).fst.kind=0/\(xR b).fst.id=0/\(xR b).fst.inst=0/\(xR b).fst.side=0/\(xR b).fst.dm=0/\(xR b).fst.dr=0/\(xR b).fst.least=0/\(xR b).fst.time=0/\sb (xR b).fst.label=bg #[]/\(xR b).snd=12/\True)) (∃(r:ie),r.kind=n.fst.kind/\r.id=n.fst.id/\r.inst=n.fst.inst/\r.side=n.fst.side/\r.dm=n.fst.dm/\r.dr=n.fst.dr/\r.least=n.fst.least/\r.time=n.fst.time/\sb r.label=sb n.fst.label/\r.label.length<=140737488355328/\fa (dp (r.right !=0) (dx ((xR b).fst.kind=0/\(xR b).fst.id=0/\(xR b).fst.inst=0/\(xR b).fst.side=0/\(xR b).fst.dm=0/\(xR b).fst.dr=0/\(xR b).fst.least=0/\(xR b).fst.time=0/\sb (xR b).fst.label=bg #[]/\(xR b).snd=r.right/\True)) (dx ((xR b).fst.kind=n.fst.kind/\(xR b).fst.id=n.fst.id/\(xR b).fst.inst=n.fst.inst/\(xR b).fst.side=n.fst.side/\(xR b).fst.dm=n.fst.dm/\(xR b).fst.dr=n.fst.dr/\(xR b).fst.least=n.fst.least/\(xR b).fst.time=n.fst.time/\sb (xR b).fst.label=sb n.fst.label/\(xR b).snd=0/\True)))))))))
def z6j (r:RB):0<=r.byte.1/\r.byte.1<=255:=by
 have h:=uX (r.n 1).iN;have hl:(r.n 1).iN.length<=1:=Lc (r.n 1);show 0<=yU (r.n 1).iN/\yU (r.n 1).iN<=255;obtain e|e:(r.n 1).iN.length=0\/(r.n 1).iN.length=1:=by omega
 ·rw[e]at h;omega
 ·rw[e]at h;omega
def y0g {r:RB} (h:r.ok):r.text.2.ok:=vz (nC _) (vz (nC _) h)
def yMx:MJ.ok Tryz.prog 192:=gu (V:=y9e) mixed (dw Vu (dw yCs fg)) 0 (λ_=>[]) (λ_=>[]) [] Tryz.func192 λ(i:RB) h=>by
 have h:i.l.length<=1099511627776:=h;have hb:=z6j i;exact⟨i,rfl,h,λ_ _=>⟨⟨(i.n 1).left,(i.n 1).bad,i.byte.1.toNat⟩,by dsimp only;exact Int.toNat_of_nonneg hb.1,rfl,⟨Z9,vz (nC _) h⟩,λ_ _=>⟨_,rfl,VL _,(),rfl,rfl,trivial⟩⟩⟩
def y1f {k id:Int} {r:RB} (h:r.ok):(qH k id r).2.ok/\(qH k id r).1.label.length<=255:=by
 rw[qH];split
 ·have h6:=kQ (kQ (kQ (uL (uL (uL h)))));refine⟨y0g h6,?_⟩;show(RB.text (r.byte.2.byte.2.byte.2.fq.2.fq.2.fq.2)).1.length<=255;generalize r.byte.2.byte.2.byte.2.fq.2.fq.2.fq.2=q;have:=z6j q;have:(q.text.1).length<=q.byte.1.toNat:=Lc _;omega
 split
 ·exact⟨kQ h,mi _⟩
 split
 ·exact⟨kQ (kQ h),mi _⟩
 ·exact⟨h,mi _⟩
def xCu (b:List UInt8) (h:KS.dp b):y1i b:=by
 have h:b.length<=1099511627776:=h;obtain⟨r0,hr⟩:∃r0,r0=RB.mk b aq:=⟨_,rfl⟩
 have HF:r0.ok:=by rw[hr];exact h
 have oU:=uL HF;have Iy:=kQ oU;have ur:xR b=if r0.byte.1<1\/4<r0.byte.1 then(HV,31)else if(qH r0.byte.1 r0.byte.2.fq.1 r0.byte.2.fq.2).2.kq≠0 then(HV,12)else if(qH r0.byte.1 r0.byte.2.fq.1 r0.byte.2.fq.2).1.right≠0 then(HV,(qH r0.byte.1 r0.byte.2.fq.1 r0.byte.2.fq.2).1.right)else((qH r0.byte.1 r0.byte.2.fq.1 r0.byte.2.fq.2).1,0):=by
  rw[hr];rfl
 unfold y1i fa dx Zz V2 zLg xY Z6 zLm zKw jR dI;generalize xR b=X at ur ⊢;refine⟨b,rfl,h,λ_ _=>⟨r0,by rw[hr],HF,λ_ _=>⟨ar,λx=>x=decide (r0.byte.1<1\/4<r0.byte.1),zH (λe=>⟨ar,rfl,(jk (.inl e)).symm,gg⟩) (λe=>⟨_,rfl,decide_eq_decide.2 ⟨.inr,λx=>x.resolve_left e⟩,gg⟩),?_⟩⟩⟩;rintro _ rfl;refine zH (λe=> ?_) (λe=> ?_)
 ·rw[ur,fc e];exact⟨(),oF (iJ trivial)⟩
 rw[eg e]at ur;generalize hk:r0.byte.1=k at ur;refine⟨r0.byte.2,rfl,oU,λ_ _=>⟨(⟨r0.byte.1,r0.byte.2.fq.1,0,0,0,0,0,0,[]⟩,r0.byte.2.fq.2),ni (iJ ⟨rfl,λx=>x=qH r0.byte.1 r0.byte.2.fq.1 r0.byte.2.fq.2,?_,?_⟩)⟩⟩
 ·generalize r0.byte.2.fq.2=r2 at*;generalize r0.byte.2.fq.1=id at*;rw[hk];refine Cv.dp.mk (λe=> ?_) (λe1=>Cv.dp.mk (λe=> ?_) (λe3=>Cv.dp.mk (λe=> ?_) (λe4=> ?_)))
  ·have e:k=1:=by simpa using e
   have h1:=uL Iy;have h2:=uL h1;have h3:=uL h2;have h4:=kQ h3;have h5:=kQ h4;have h6:=kQ h5;exact⟨r2,rfl,Iy,λ_ _=>⟨_,rfl,h1,λ_ _=>⟨_,rfl,h2,λ_ _=>⟨_,rfl,h3,λ_ _=>⟨_,rfl,h4,λ_ _=>⟨_,rfl,h5,λ_ _=>⟨_,rfl,h6,λ_ _=>⟨qH k id r2,by rw[qH,fc e];rfl,by rw[qH,fc e],by rw[qH,fc e],by rw[qH,fc e];rfl,by rw[qH,fc e];rfl,by rw[qH,fc e];rfl,by rw[qH,fc e];rfl,by rw[qH,fc e];rfl,by rw[qH,fc e];rfl,by rw[qH,fc e];rfl,rfl,gg⟩⟩⟩⟩⟩⟩⟩⟩
  ·have e1:¬k=1:=by simpa using e1
   have e:k=3:=by simpa using e
   have hd:qH k id r2=(⟨k,id,0,0,0,r2.fq.1,0,0,[]⟩,r2.fq.2):=by rw[qH,eg e1,fc e]
   exact⟨r2,rfl,Iy,λ_ _=>⟨(⟨k,id,0,0,0,r2.fq.1,0,0,[]⟩,r2.fq.2),ni (iJ ⟨rfl,hd.symm,gg⟩)⟩⟩
  ·have e1:¬k=1:=by simpa using e1
   have e3:¬k=3:=by simpa using e3
   have e:k=4:=by simpa using e
   have hd:qH k id r2=(⟨k,id,0,0,r2.fq.1,r2.fq.2.fq.1,0,0,[]⟩,r2.fq.2.fq.2):=by rw[qH,eg e1,eg e3,fc e]
   exact⟨r2,rfl,Iy,λ_ _=>⟨_,rfl,kQ Iy,λ_ _=>⟨(⟨k,id,0,0,r2.fq.1,r2.fq.2.fq.1,0,0,[]⟩,r2.fq.2.fq.2),ni (iJ ⟨rfl,hd.symm,gg⟩)⟩⟩⟩
  ·have e1:¬k=1:=by simpa using e1
   have e3:¬k=3:=by simpa using e3
   have e4:¬k=4:=by simpa using e4
   have hd:qH k id r2=(⟨k,id,0,0,0,0,0,0,[]⟩,r2):=by rw[qH,eg e1,eg e3,eg e4]
   exact⟨(⟨k,id,0,0,0,0,0,0,[]⟩,r2),ni (iJ ⟨rfl,hd.symm,gg⟩)⟩
 ·rintro x hx;obtain⟨o1,o2⟩:=y1f (k:=r0.byte.1) (id:=r0.byte.2.fq.1) Iy;rw[<- hx]at o1 o2;rw[<- hk,<- hx]at ur;obtain⟨c,q⟩:=x;refine⟨q,rfl,o1,λ_ _=>Cv.dp.mk (λe=> ?_) (λe=>⟨c,iw ⟨rfl,vz o2 Z8,λ_ _=>Cv.dp.mk (λe2=> ?_) (λe2=> ?_)⟩⟩)⟩
  ·have e:q.kq≠0:=by simpa[RB.kq]using e
   rw[ur,fc e];exact⟨(),oF (iJ trivial)⟩
  ·have e:¬q.kq≠0:=by simpa[RB.kq]using e
   have e2:c.right≠0:=by simpa using e2
   rw[ur,eg e,fc e2];exact⟨(),oF (iJ trivial)⟩
  ·have e:¬q.kq≠0:=by simpa[RB.kq]using e
   have e2:¬c.right≠0:=by simpa using e2
   rw[ur,eg e,eg e2];exact⟨(),oF (iJ trivial)⟩
def yVa:KS.ok Tryz.prog 156:=gu mixed (dw Yp (dw Vu (dw YD (dw yMx (dw yCj (dw Zu fg)))))) 0 (λ_=>xEn) (λ_=>[]) [] Tryz.func156 xCu
structure gh where
 seq:Int
 inst:Int
 side:Int
 dm:Int
 dr:Int
 count:Int
 fx:Bool
 deriving DecidableEq
def D2:gh:=⟨0,0,0,0,0,0,aq⟩
def gh.raw (m:gh):Prop:=gr m.seq/\gr m.dm/\gr m.dr/\gr m.count
def gh.form (m:gh):Int:=if m.inst<0\/255<m.inst\/(m.side≠1/\m.side≠2)then 12 else 0
def gh.body (m:gh):List UInt8:=le m.seq 8++(iR m.inst::iR m.side::(le m.dm 8++(le m.dr 8++(le m.count 8++[iR (if m.fx then 1 else 0)]))))
def gh.enc (m:gh):List UInt8:=if m.form≠0 then[]else m.body
def cP (b:List UInt8):gh×Int×RB:=
 let s:=(RB.mk b aq).fq;let i:=s.2.byte;let d:=i.2.byte;let p:=d.2.fq;let q:=p.2.fq;let c:=q.2.fq;let n:=c.2.byte
 (⟨s.1,i.1,d.1,p.1,q.1,c.1,decide (n.1=1)⟩,n.1,n.2)
def xL (b:List UInt8):gh×Int:=if(cP b).2.2.kq≠0\/1<(cP b).2.1\/((cP b).1.side≠1/\(cP b).1.side≠2)then(D2,12)else((cP b).1,0)
def yNo (m:gh):m.body.length=35:=by simp[gh.body,y7]
def yDu {m:gh} (h:m.form=0):(0<=m.inst/\m.inst<=255)/\(m.side=1\/m.side=2):=by
 rw[gh.form]at h;split at h
 ·cases h
 ·omega
def yJl {m:gh} (h:m.form=0) (hr:m.raw):cP m.body=(m,if m.fx then 1 else 0,⟨[],aq⟩):=by
 obtain⟨h1,h2,h3,h4⟩:=hr;obtain⟨f1,f2⟩:=yDu h;have hn:(0:Int)<=(if m.fx then 1 else 0)/\(if m.fx then 1 else 0)<=(255:Int):=by split<;>omega
 rw[cP,gh.body,uN h1];dsimp only;rw[jI];dsimp only;rw[jI];dsimp only;rw[uN h2];dsimp only;rw[uN h3];dsimp only;rw[uN h4];dsimp only;rw[jI];dsimp only;rw[EL (by omega),EL (by omega),EL hn];cases m with
 |mk a b c d e f g=>cases g<;>rfl
def yOm {m:gh} (h:m.form=0) (hr:m.raw):xL m.enc=(m,0):=by
 have e:m.enc=m.body:=by rw[gh.enc,eg (by simp[h])]
 obtain⟨f1,f2⟩:=yDu h;rw[xL,e,yJl h hr,eg];dsimp only;rintro(g|g|g)
 ·exact g rfl
 ·split at g<;>omega
 ·omega
def yVj:∀l:List UInt8,0<=yU l/\yU l<256 ^ l.length
 |[]=>by simp[yU]
 |b::l=>by
  have h:=yVj l;have hb:=b.toNat_lt;rw[yU,iC,Ig];omega
def ySb (b:UInt8) (n:Int):iR (b.toNat+256*n)=b:=by
 apply UInt8.toNat.inj;have h1:=P4 (b.toNat+256*n);have:=b.toNat_lt;omega
def yEo:∀l:List UInt8,le (yU l) l.length=l
 |[]=>rfl
 |b::l=>by
  have h:=b.toNat_lt;simp only[yU,iC,le,ySb];rw[show((b.toNat:Int)+256*yU l) / 256=yU l by omega,yEo l]
def yXl {a b:Int} (h:a % 256=b % 256):iR a=iR b:=by rw[iR,iR,h]
def yCq:∀(k:Nat) {a b:Int},a % 256 ^ k=b % 256 ^ k->le a k=le b k
 |0,_,_,_=>rfl
 |k+1,a,b,h=>by
  have hp:(0:Int)<256 ^ k:=Int.pow_pos oM;rw[Ig]at h;have hd:((256:Int) ^ k*256)∣(a-b):=Int.dvd_of_emod_eq_zero (by rw[Int.sub_emod,h,Int.sub_self];rfl);obtain⟨t,ht⟩:=hd;have h1:a % 256=b % 256:=by
   have:a-b=256*(256 ^ k*t):=by rw[ht,D7 (256 ^ k) 256,Int.mul_assoc]
   generalize (256:Int) ^ k*t=u at this;omega
  have h2:a / 256=b / 256+256 ^ k*t:=by
   have:a-b=256*(256 ^ k*t):=by rw[ht,D7 (256 ^ k) 256,Int.mul_assoc]
   generalize (256:Int) ^ k*t=u at this ⊢;omega
  rw[le,le,yXl h1,yCq k (a:=a / 256) (b:=b / 256) (by rw[h2,Xp])]
def ySw (n:Int):ag.wrap n % 18446744073709551616=n % 18446744073709551616:=by
 rw[am];simp only[IntKind.bits,ao];simp;omega
def VE {r:RB} (h:r.fq.2.b=aq):r.b=aq/\r.l=le r.fq.1 8++r.fq.2.l:=by
 have hb:(r.n 8).bad=aq:=h;have hr:r.b=aq:=by
  rw[RN.bad,Hu]at hb;exact hb.1
 have hl:8<=r.l.length:=by
  rw[RN.bad,Hu,decide_eq_false_iff_not]at hb;have:=hb.2;have:¬r.l.length<8:=this;omega
 refine⟨hr,?_⟩;have e1:r.fq.1=ag.wrap (yU (r.l.take 8)):=by
  rw[RB.fq];dsimp only;rw[RN.iN,hb];rfl
 have e2:r.fq.2.l=r.l.drop 8:=by
  rw[RB.fq];dsimp only;rw[RN.left,hb];rfl
 have hlen:(r.l.take 8).length=8:=by rw[ng];omega
 have e3:le (ag.wrap (yU (r.l.take 8))) 8=r.l.take 8:=by
  rw[yCq 8 (b:=yU (r.l.take 8)) (ySw _)];have:=yEo (r.l.take 8);rwa [hlen]at this
 rw[e1,e2,e3,Bb]
def zLv {r:RB} (h:r.byte.2.b=aq):r.b=aq/\r.l=iR r.byte.1::r.byte.2.l/\0<=r.byte.1/\r.byte.1<=255:=by
 have hb:(r.n 1).bad=aq:=h;have hr:r.b=aq:=by
  rw[RN.bad,Hu]at hb;exact hb.1
 obtain⟨l,b⟩:=r;cases hr;cases l with
 |nil=>cases hb
 |cons x l=>
  rw[jI];have:=x.toNat_lt;have e:=ySb x 0;rw[Int.mul_zero,Int.add_zero]at e;dsimp only;exact⟨rfl,by rw[e],oM,oM⟩
def Vc (r:RB):gr r.fq.1:=by
 have:gr (ag.wrap (yU (r.n 8).iN)):=by
  rw[gr,am];simp only[IntKind.bits,ao];simp;omega
 exact this
def yPk {x:List UInt8} (h:(xL x).2=0):(xL x).1.form=0/\(xL x).1.raw/\(xL x).1.enc=x:=by
 rw[xL]at h ⊢;split at h
 ·cases h
 rename_i hc;rw[eg hc];dsimp only;have h1:(cP x).2.2.kq=0:=by
  by_cases e:(cP x).2.2.kq=0
  ·exact e
  ·exact absurd (.inl e) hc
 have hb:(cP x).2.2.b=aq:=by
  rw[RB.kq]at h1;split at h1
  ·cases h1
  ·rename_i e;simpa using e
 have hl:(cP x).2.2.l=[]:=by
  rw[RB.kq,hb]at h1;split at h1
  ·rename_i e;cases e
  ·split at h1
   ·cases h1
   ·rename_i e;exact xu oM
 have h2:(cP x).2.1<=1:=by
  by_cases e:1<(cP x).2.1
  ·exact absurd (.inr (.inl e)) hc
  ·omega
 have h3:(cP x).1.side=1\/(cP x).1.side=2:=by
  by_cases e:(cP x).1.side=1\/(cP x).1.side=2
  ·exact e
  ·exact absurd (.inr (.inr oM)) hc
 rw[cP]at hb hl h2 h3 ⊢;dsimp only at hb hl h2 h3 ⊢;generalize hs:(RB.mk x aq).fq=s at*;generalize hi:s.2.byte=i at*;generalize hd:i.2.byte=d at*;generalize hp:d.2.fq=p at*;generalize hq:p.2.fq=q at*;generalize BA:q.2.fq=c at*;generalize hn:c.2.byte=n at*;obtain⟨b7,l7,n0,n1⟩:=zLv (r:=c.2) (by rw[hn];exact hb);obtain⟨b6,l6⟩:=VE (r:=q.2) (by rw[BA];exact b7);obtain⟨b5,l5⟩:=VE (r:=p.2) (by rw[hq];exact b6);obtain⟨b4,l4⟩:=VE (r:=d.2) (by rw[hp];exact b5);obtain⟨b3,l3,d0,d1⟩:=zLv (r:=i.2) (by rw[hd];exact b4);obtain⟨b2,l2,i0,i1⟩:=zLv (r:=s.2) (by rw[hi];exact b3);obtain⟨b1,l1⟩:=VE (r:=RB.mk x aq) (by rw[hs];exact b2);have r1:=Vc (RB.mk x aq);have r2:=Vc d.2;have r3:=Vc p.2;have r4:=Vc q.2;rw[hn]at l7 n0 n1;rw[BA]at l6 r4;rw[hq]at l5 r3;rw[hp]at l4 r2;rw[hd]at l3 d0 d1;rw[hi]at l2 i0 i1;rw[hs]at l1 r1;have hf:(⟨s.1,i.1,d.1,p.1,q.1,c.1,decide (n.1=1)⟩:gh).form=0:=by
  rw[gh.form,eg];dsimp only;omega
 refine⟨hf,⟨r1,r2,r3,r4⟩,?_⟩;have hnn:(if decide (n.1=1)=ar then 1 else 0)=n.1:=by
  by_cases e:n.1=1
  ·rw[e];rfl
  ·have:n.1=0:=by omega
   rw[this];rfl
 rw[gh.enc,eg (by rw[hf];simp),gh.body];dsimp only;have l1:x=le s.1 8++s.2.l:=l1;rw[hnn,l1,l2,l3,l4,l5,l6,l7,hl]
deriving instance DecidableEq for Lv
def cN (s:Int) (L:List Lv):Prop:=L.Pairwise λa b=>je s a.dm b.dm=ar
def wz (L:List Lv) (p:Int):Option Lv:=L.find? λl=>decide (l.dm=p)
def mD (s:Int):List Lv->Lv->List Lv
 |[],m=>if 0<m.dr then[m]else[]
 |x::L,m=>if x.dm=m.dm then(if m.dr=0 then L else m::L)else if je s m.dm x.dm=ar then(if 0<m.dr then m::x::L else x::L)else x::mD s L m
def x7 (s:Int):Nat->List Lv->List Lv->List Lv
 |0,_,_=>[]
 |k+1,[],[]=>[]
 |k+1,x::X,[]=>⟨x.dm,0,0⟩::x7 s k X []
 |k+1,[],y::Y=>y::x7 s k [] Y
 |k+1,x::X,y::Y=>if je s x.dm y.dm=ar then⟨x.dm,0,0⟩::x7 s k X (y::Y)else if je s y.dm x.dm=ar then y::x7 s k (x::X) Y else(if x=y then[]else[y])++x7 s k X Y
def tG {s x y z:Int} (h:je s x y=ar) (h2:je s y z=ar):je s x z=ar:=by
 rw[je]at h h2 ⊢;split
 ·rename_i e;rw[fc e]at h h2;have:=qp h;have:=qp h2;exact jk oM
 ·rename_i e;rw[eg e]at h h2;have:=qp h;have:=qp h2;exact jk oM
def bX {s x y:Int} (h:je s x y=ar):x≠y:=by
 rintro rfl;rw[je]at h;split at h<;>simp at h
def UK {s x y:Int} (h:je s x y=aq) (jr:x≠y):je s y x=ar:=by
 rw[je]at h ⊢;split
 ·rename_i e;rw[fc e]at h;have:=LG h;exact jk oM
 ·rename_i e;rw[eg e]at h;have:=LG h;exact jk oM
def eI {s p:Int} {L:List Lv} (h:∀l∈L,je s p l.dm=ar):wz L p=ba:=by
 rw[wz,List.find?_eq_none];intro l hl;have:=bX (h l hl);simp;omega
def kB (x:Lv) (L:List Lv) (p:Int):wz (x::L) p=if x.dm=p then az x else wz L p:=by
 rw[wz,LA,wz];by_cases h:x.dm=p<;>simp[h]
def yGs {s:Int} {m:Lv}:∀{L:List Lv} {l:Lv},l∈mD s L m->l=m\/l∈L
 |[],l,h=>by
  rw[mD]at h;split at h
  ·exact .inl (uc.1 h)
  ·cases h
 |x::L,l,h=>by
  rw[mD]at h;split at h
  ·split at h
   ·exact .inr (jc _ h)
   ·rcases jq.1 h with h|h
    ·exact .inl h
    ·exact .inr (jc _ h)
  split at h
  ·split at h
   ·rcases jq.1 h with h|h
    ·exact .inl h
    ·exact .inr h
   ·exact .inr h
  ·rcases jq.1 h with h|h
   ·exact .inr (h▸iS)
   ·rcases yGs h with h|h
    ·exact .inl h
    ·exact .inr (jc _ h)
def UL {s:Int} {m:Lv}:∀{L:List Lv},cN s L->cN s (mD s L m)
 |[],_=>by
  rw[mD];split
  ·exact List.pairwise_singleton _ _
  ·exact List.Pairwise.nil
 |x::L,h=>by
  have h':=h;rw[cN,yt]at h;rw[mD];split
  ·rename_i e;split
   ·exact h.2
   ·exact yt.2 ⟨λl hl=>by rw[<- e];exact h.1 l hl,h.2⟩
  rename_i jr;split
  ·rename_i hb;split
   ·refine yt.2 ⟨λl hl=> ?_,h'⟩;rcases jq.1 hl with rfl|hl
    ·exact hb
    ·exact tG hb (h.1 l hl)
   ·exact h'
  ·rename_i hb;refine yt.2 ⟨λl hl=> ?_,UL h.2⟩;rcases yGs hl with rfl|hl
   ·exact UK (by simpa using hb) (λe=>jr e.symm)
   ·exact h.1 l hl
def yAu {s:Int} {m:Lv} (hm:0<=m.dr):∀{L:List Lv},cN s L->∀p,wz (mD s L m) p=if p=m.dm then(if m.dr=0 then ba else az m)else wz L p
 |[],_,p=>by
  rw[mD];by_cases h0:m.dr=0
  ·rw[eg (by omega),fc h0];split<;>rfl
  ·rw[fc (by omega),eg h0,kB];by_cases e:m.dm=p
   ·rw[fc e,fc e.symm]
   ·rw[eg e,eg (λh=>e h.symm)]
 |x::L,h,p=>by
  have h':=h;rw[cN,yt]at h;rw[mD];by_cases hx:x.dm=m.dm
  ·rw[fc hx];have hn:wz L m.dm=ba:=eI (s:=s) λl hl=>by rw[<- hx];exact h.1 l hl
   by_cases h0:m.dr=0
   ·rw[fc h0,fc h0,kB];by_cases e:p=m.dm
    ·rw[fc e,e,hn]
    ·rw[eg e,eg (by omega)]
   ·rw[eg h0,eg h0,kB,kB];by_cases e:p=m.dm
    ·rw[fc e,fc e.symm]
    ·rw[eg e,eg (λh=>e h.symm),eg (by omega)]
  rw[eg hx];by_cases hb:je s m.dm x.dm=ar
  ·rw[fc hb];have hn:wz (x::L) m.dm=ba:=eI (s:=s) λl hl=>by
    rcases jq.1 hl with rfl|hl
    ·exact hb
    ·exact tG hb (h.1 l hl)
   by_cases h0:m.dr=0
   ·rw[eg (by omega),fc h0];by_cases e:p=m.dm
    ·rw[fc e,e,hn]
    ·rw[eg e]
   ·rw[fc (by omega),eg h0,kB];by_cases e:p=m.dm
    ·rw[fc e,fc e.symm]
    ·rw[eg e,eg (λh=>e h.symm)]
  ·rw[eg hb,kB,kB,yAu hm h.2 p];by_cases e:x.dm=p
   ·rw[fc e,fc e,eg (by omega)]
   ·rw[eg e,eg e]
def yQy {s:Int}:∀{A B:List Lv},cN s A->cN s B->(∀p,wz A p=wz B p)->A=B
 |[],[],_,_,_=>rfl
 |[],b::B,_,_,h=>by have:=h b.dm;rw[kB,fc rfl]at this;cases this
 |a::A,[],_,_,h=>by have:=h a.dm;rw[kB,fc rfl]at this;cases this
 |a::A,b::B,hA,hB,h=>by
  rw[cN,yt]at hA hB;have key:a.dm=b.dm:=by
   by_cases e:a.dm=b.dm
   ·exact e
   ·exfalso;by_cases hb:je s a.dm b.dm=ar
    ·have:=h a.dm;rw[kB,fc rfl,eI (s:=s) λl hl=>by
      rcases jq.1 hl with rfl|hl
      ·exact hb
      ·exact tG hb (hB.1 l hl)]at this
     cases this
    ·have hb:=UK (by simpa using hb) e;have:=h b.dm;rw[kB (x:=b),fc rfl,eI (s:=s) λl hl=>by
      rcases jq.1 hl with rfl|hl
      ·exact hb
      ·exact tG hb (hA.1 l hl)]at this
     cases this
  have Ds:a=b:=by
   have:=h a.dm;rw[kB,fc rfl,kB,fc key.symm]at this;exact Option.some.inj this
  subst Ds;rw[yQy hA.2 hB.2 λp=> ?_];have:=h p;rw[kB,kB]at this;by_cases e:a.dm=p
  ·rw[<- e,eI (s:=s) hA.1,eI (s:=s) hB.1]
  ·rwa [eg e,eg e]at this
def bT {s:Int}:∀(k:Nat) (X Y:List Lv),∀m∈x7 s k X Y,m.dm∈X.map (·.dm)\/m.dm∈Y.map (·.dm)
 |0,_,_,m,h=>by cases h
 |k+1,[],[],m,h=>by cases h
 |k+1,x::X,[],m,h=>by
  rw[x7]at h;rcases jq.1 h with rfl|h
  ·exact .inl iS
  ·rcases bT k X [] m h with h|h
   ·exact .inl (jc _ h)
   ·exact .inr h
 |k+1,[],y::Y,m,h=>by
  rw[x7]at h;rcases jq.1 h with rfl|h
  ·exact .inr iS
  ·rcases bT k [] Y m h with h|h
   ·exact .inl h
   ·exact .inr (jc _ h)
 |k+1,x::X,y::Y,m,h=>by
  rw[x7]at h;split at h
  ·rcases jq.1 h with rfl|h
   ·exact .inl iS
   ·rcases bT k X (y::Y) m h with h|h
    ·exact .inl (jc _ h)
    ·exact .inr h
  split at h
  ·rcases jq.1 h with rfl|h
   ·exact .inr iS
   ·rcases bT k (x::X) Y m h with h|h
    ·exact .inl h
    ·exact .inr (jc _ h)
  ·rcases oK.1 h with h|h
   ·split at h
    ·cases h
    ·rw[uc]at h;subst h;exact .inr iS
   ·rcases bT k X Y m h with h|h
    ·exact .inl (jc _ h)
    ·exact .inr (jc _ h)
def Rw (m:Lv):Option Lv:=if m.dr=0 then ba else az m
structure DH (M A B:List Lv):Prop where
 q:∀m∈M,0<=m.dr
 t:∀m∈M,Rw m=wz B m.dm
 n:(M.map (·.dm)).Nodup
 e:∀p,p∉M.map (·.dm)->wz A p=wz B p
def P2 (L:List Lv):Prop:=∀l∈L,1<=l.dr
def z1k {m:Lv} (h:1<=m.dr):Rw m=az m:=by rw[Rw,eg (by omega)]
def DH.cons {M A B:List Lv} {m:Lv} {A' B':List Lv} (h:DH M A B) (hq:0<=m.dr) (ht:Rw m=wz B' m.dm) (hn:m.dm∉M.map (·.dm))
 (hA:∀p,p≠m.dm->wz A' p=wz A p) (hB:∀p,p≠m.dm->wz B' p=wz B p):DH (m::M) A' B':=by
 refine⟨λx hx=> ?_,λx hx=> ?_,?_,λp hp=> ?_⟩
 ·rcases jq.1 hx with rfl|hx
  ·exact hq
  ·exact h.q x hx
 ·rcases jq.1 hx with rfl|hx
  ·exact ht
  ·rw[hB _ λe=>hn (e▸rz hx)];exact h.t x hx
 ·rw[jj,yk];exact⟨hn,h.n⟩
 ·rw[jj,jq,not_or]at hp;rw[hA p hp.1,hB p hp.1];exact h.e p hp.2
def aW {x:Lv} {L:List Lv} {p:Int} (h:p≠x.dm):wz (x::L) p=wz L p:=by rw[kB,eg λe=>h e.symm]
def Nu {s:Int}:∀(k:Nat) (X Y:List Lv),X.length+Y.length<=k->cN s X->cN s Y->P2 Y->DH (x7 s k X Y) X Y
 |0,x::X,_,h,_,_,_=>absurd h (by simp)
 |0,[],y::Y,h,_,_,_=>absurd h (by simp)
 |0,[],[],_,_,_,_=>⟨λ_ h=>(Fz h).elim,λ_ h=>(Fz h).elim,NV,λ_ _=>rfl⟩
 |k+1,[],[],_,_,_,_=>⟨λ_ h=>(Fz h).elim,λ_ h=>(Fz h).elim,NV,λ_ _=>rfl⟩
 |k+1,x::X,[],hk,hX,hY,hp=>by
  have hX':=hX;rw[cN,yt]at hX;have ih:=Nu (s:=s) k X [] (by simp at hk ⊢;omega) hX.2 hY hp;rw[x7];refine ih.cons (xq _) rfl (λh=> ?_) (λp h=>aW h) λ_ _=>rfl
  obtain⟨m,hm,e⟩:=oe.1 h;rcases bT k X [] m hm with h|h
  ·obtain⟨l,hl,e2⟩:=oe.1 h;exact bX (hX.1 l hl) (by rw[e2,e])
  ·cases h
 |k+1,[],y::Y,hk,hX,hY,hp=>by
  rw[cN,yt]at hY;have ih:=Nu (s:=s) k [] Y (by simp at hk ⊢;omega) hX hY.2 λl hl=>hp l (jc _ hl)
  have hy:=hp y iS;rw[x7];refine ih.cons oM (by rw[z1k hy,kB,fc rfl]) (λh=> ?_) (λ_ _=>rfl) λp h=>aW h
  obtain⟨m,hm,e⟩:=oe.1 h;rcases bT k [] Y m hm with h|h
  ·cases h
  ·obtain⟨l,hl,e2⟩:=oe.1 h;exact bX (hY.1 l hl) (by rw[e2,e])
 |k+1,x::X,y::Y,hk,hX,hY,hp=>by
  have hX':=hX;have hY':=hY;rw[cN,yt]at hX hY;have hpY:P2 Y:=λl hl=>hp l (jc _ hl)
  have hy:=hp y iS;simp only[iC]at hk;rw[x7];by_cases h1:je s x.dm y.dm=ar
  ·rw[fc h1];have hb:∀l∈y::Y,je s x.dm l.dm=ar:=λl hl=>by
    rcases jq.1 hl with rfl|hl
    ·exact h1
    ·exact tG h1 (hY.1 l hl)
   have ih:=Nu (s:=s) k X (y::Y) (by rw[iC];omega) hX.2 hY' hp;refine ih.cons (xq _) ?_ (λh=> ?_) (λp h=>aW h) λ_ _=>rfl
   ·exact(eI hb).symm
   ·obtain⟨m,hm,e⟩:=oe.1 h;rcases bT k X (y::Y) m hm with h|h
    ·obtain⟨l,hl,e2⟩:=oe.1 h;exact bX (hX.1 l hl) (by rw[e2,e])
    ·obtain⟨l,hl,e2⟩:=oe.1 h;exact bX (hb l hl) (by rw[e2,e])
  rw[eg h1];by_cases h2:je s y.dm x.dm=ar
  ·rw[fc h2];have hb:∀l∈x::X,je s y.dm l.dm=ar:=λl hl=>by
    rcases jq.1 hl with rfl|hl
    ·exact h2
    ·exact tG h2 (hX.1 l hl)
   have ih:=Nu (s:=s) k (x::X) Y (by rw[iC];omega) hX' hY.2 hpY;refine ih.cons oM (by rw[z1k hy,kB,fc rfl]) (λh=> ?_) (λ_ _=>rfl) λp h=>aW h
   obtain⟨m,hm,e⟩:=oe.1 h;rcases bT k (x::X) Y m hm with h|h
   ·obtain⟨l,hl,e2⟩:=oe.1 h;exact bX (hb l hl) (by rw[e2,e])
   ·obtain⟨l,hl,e2⟩:=oe.1 h;exact bX (hY.1 l hl) (by rw[e2,e])
  rw[eg h2];have he:x.dm=y.dm:=by
   by_cases e:x.dm=y.dm
   ·exact e
   ·exact absurd (UK (by simpa using h1) e) h2
  have ih:=Nu (s:=s) k X Y oM hX.2 hY.2 hpY;have FN:y.dm∉(x7 s k X Y).map (·.dm):=λh=>by
   obtain⟨m,hm,e⟩:=oe.1 h;rcases bT k X Y m hm with h|h
   ·obtain⟨l,hl,e2⟩:=oe.1 h;exact bX (hX.1 l hl) (by rw[e2,e,he])
   ·obtain⟨l,hl,e2⟩:=oe.1 h;exact bX (hY.1 l hl) (by rw[e2,e])
  by_cases e:x=y
  ·rw[fc e,xi];subst e;refine⟨ih.q,λm hm=> ?_,ih.n,λp hpn=> ?_⟩
   ·rw[aW λe=>FN (e▸rz hm)];exact ih.t m hm
   ·by_cases ep:p=x.dm
    ·rw[ep,kB,fc rfl,kB,fc rfl]
    ·rw[aW ep,aW ep];exact ih.e p hpn
  ·rw[eg e,List.singleton_append];exact ih.cons oM (by rw[z1k hy,kB,fc rfl]) FN (λp h=>aW (by rw[he];exact h)) λp h=>aW h
def yGb {s:Int}:∀(M:List Lv) {L:List Lv},cN s L->(∀m∈M,0<=m.dr)->(M.map (·.dm)).Nodup->
 cN s (M.foldl (mD s) L)/\(∀m∈M,wz (M.foldl (mD s) L) m.dm=Rw m)/\∀p,p∉M.map (·.dm)->wz (M.foldl (mD s) L) p=wz L p
 |[],L,h,_,_=>⟨h,λ_ hm=>(Fz hm).elim,λ_ _=>rfl⟩
 |m::M,L,h,hq,hn=>by
  rw[jj,yk]at hn;have h0:=hq m iS;obtain⟨a,b,c⟩:=yGb M (L:=mD s L m) (UL h) (λx hx=>hq x (jc _ hx)) hn.2;rw[A7];refine⟨a,λx hx=> ?_,λp hp=> ?_⟩
  ·rcases jq.1 hx with rfl|hx
   ·rw[c _ hn.1,yAu h0 h,fc rfl];rfl
   ·exact b x hx
  ·rw[jj,jq,not_or]at hp;rw[c p hp.2,yAu h0 h,eg hp.1]
def z8m {s:Int} {A B M:List Lv} (hA:cN s A) (hB:cN s B) (hp:P2 B) {k:Nat} (hk:A.length+B.length<=k) (hM:M.Perm (x7 s k A B)):M.foldl (mD s) A=B:=by
 have d:=Nu (s:=s) k A B hk hA hB hp;have hpm:=hM.map (·.dm)
 obtain⟨a,b,c⟩:=yGb (s:=s) M hA (λm hm=>d.q m (hM.mem_iff.1 hm)) (hpm.nodup_iff.2 d.n);refine yQy a hB λp=> ?_
 by_cases h:p∈M.map (·.dm)
 ·obtain⟨m,hm,rfl⟩:=oe.1 h;rw[b m hm];exact d.t m (hM.mem_iff.1 hm)
 ·rw[c p h];exact d.e p λh2=>h (hpm.mem_iff.2 h2)
def zWj {s:Int}:∀(k:Nat) (A:List Lv),x7 s k A A=[]
 |0,_=>rfl
 |k+1,[]=>rfl
 |k+1,x::A=>by
  rw[x7];have:je s x.dm x.dm=aq:=by rw[je];split<;>simp
  rw[eg (by rw[this];decide),eg (by rw[this];decide),fc rfl,zWj k A];rfl
def jQ (s:Int) (L:List Lv) (m:Lv):List Lv:=match L.findIdx? λy=>decide (y.dm=m.dm)with
 |some n=>if m.dr=0 then L.eraseIdx n else L.set n m
 |none=>if 0<m.dr then L.take ((L.findIdx? λy=>je s m.dm y.dm).getD L.length)++m::L.drop ((L.findIdx? λy=>je s m.dm y.dm).getD L.length)else L
def zWh {s:Int} {m:Lv} (hq:0<=m.dr):∀{L:List Lv},cN s L->jQ s L m=mD s L m
 |[],_=>by
  rw[jQ,mD,List.findIdx?_nil];dsimp only;split<;>rfl
 |x::L,h=>by
  rw[cN,yt]at h;have ih:=zWh hq h.2;rw[mD];by_cases hx:x.dm=m.dm
  ·rw[fc hx,jQ,JM,fc (by simp[hx])];dsimp only;split<;>rfl
  rw[eg hx];by_cases hb:je s m.dm x.dm=ar
  ·have hn:(x::L).findIdx? (λy=>decide (y.dm=m.dm))=ba:=by
    rw[N9];intro l hl;rcases jq.1 hl with rfl|hl
    ·exact jt hx
    ·have:=bX (tG hb (h.1 l hl));exact jt λe=>this e.symm
   rw[fc hb,jQ,hn];dsimp only;rw[JM,fc hb];rfl
  ·have e1:(x::L).findIdx? (λy=>decide (y.dm=m.dm))=(L.findIdx? λy=>decide (y.dm=m.dm)).map (·+1):=by
    rw[JM,eg (by simp[hx])]
   have e2:(x::L).findIdx? (λy=>je s m.dm y.dm)=(L.findIdx? λy=>je s m.dm y.dm).map (·+1):=by
    rw[JM,eg hb]
   rw[eg hb,<- ih,jQ,jQ,e1,e2];cases L.findIdx? (λy=>decide (y.dm=m.dm))with
   |some n=>
    dsimp only[Option.map];split<;>rfl
   |none=>
    dsimp only[Option.map];split
    ·cases L.findIdx? (λy=>je s m.dm y.dm)<;>rfl
    ·rfl
end Sx
