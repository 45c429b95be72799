/- Texts of ours, one behind the other: a walk that the kernel reckons, and contracts of functions. No condition. -/
import Derived.Test.YtpgpnnncaidcjaaGreatA4
namespace Sx
set_option linter.unusedVariables false
set_option linter.unusedSimpArgs false
set_option maxRecDepth 100000
open Go Cv Go.Proofs
theorem zZq {l:List Quote} {q:Quote} (s:Int) (h:l[0]? =some q):(z5 (l.take (max 0 1)) s).1=q:=by
 cases l with
 |nil=>simp at h
 |cons a l=>simp at h;subst h;rfl
theorem zYt {l:List Quote} {j:Nat} {q:Quote} (s:Int) (h:l[j]? =some q):
 (z5 (l.take (max (j+1) 1)) s).1=if btr s q.price (z5 (l.take (max j 1)) s).1.price then q else(z5 (l.take (max j 1)) s).1:=by
 cases l with
 |nil=>simp at h
 |cons a l=>
  cases j with
  |zero=>simp at h;subst h;simp[z5]
  |succ m=>
   simp only[yUc]at h
   rw[show max (m+1+1) 1=(m+1)+1 by omega,show max (m+1) 1=m+1 by omega,yUb,yUb,yUm,h]
   simp only[z5,yWz,yYm]
   rfl
theorem z5h {l:List Quote} (s:Int) (h:l≠[]):(z5 l s).2=true:=by
 cases l with
 |nil=>exact absurd rfl h
 |cons a l=>rfl
theorem yNu (i:BsI) (h:bestQC.cnd i):yDe i:=by
 obtain⟨hs,hl⟩:(i.s=1∨i.s=2)∧i.l.length≤1000000:=h
 unfold yDe zMa z8 lG bQ zAb dI
 simp only[ySm]
 refine Cv.cnd.mk (fun c=> ?_) (fun c=> ?_)
 ·have e:i.l=[]:=yTs (by have:(i.l.length:Int)=0:=(by simpa using c);omega)
  rw[e];exact kp
 have h0:0<i.l.length:=by
  rcases Nat.eq_zero_or_pos i.l.length with h|h
  ·rw[h]at c;exact absurd c (by decide)
  ·exact h
 have hne:i.l≠[]:=by intro e;rw[e]at h0;simp at h0
 have two:=z5h i.s hne
 obtain⟨q,hq⟩:=z9 h0
 have b0:=zZq i.s hq
 have fin:(z5 (i.l.take (max i.l.length 1)) i.s).1=(z5 i.l i.s).1:=by
  rw[yTe (by omega)]
 have step:∀j:Nat,j<i.l.length→∀x:Quote,i.l[j]? =some x→(btr i.s x.price (z5 (i.l.take (max j 1)) i.s).1.price=true→(z5 (i.l.take (max (j+1) 1)) i.s).1=x)∧(btr i.s x.price (z5 (i.l.take (max j 1)) i.s).1.price=false→(z5 (i.l.take (max (j+1) 1)) i.s).1=(z5 (i.l.take (max j 1)) i.s).1):=fun j hj x hx=>by
  have:=zYt i.s hx
  constructor
  ·intro e;rw[this,ySk e]
  ·intro e;rw[this,ySj (by rw[e];simp)]
 refine Cv.cnd.mk (fun c1=>Cv.cnd.mk (fun c2=> ?_) (fun c2=> ?_)) (fun c1=> ?_)
 ·exfalso
  have c1:i.s≠1:=by simpa using c1
  have c2:i.s≠2:=by simpa using c2
  omega
 all_goals
  refine⟨⟨by omega,by omega⟩,q.price,q.qty,q.a.inst,q.a.side,q.b.inst,q.b.side,elA hq (by simp[zK]) rfl,0,?_⟩
  rw[b0]
  (repeat'(first|exact rfl|exact trivial|assumption|apply And.intro|refine fun(_:Unit) (_:True)=>?_|refine Exists.intro () ?_|omega|(dsimp only;omega)))
  refine⟨fun j=>j≤i.l.length,fun j=>i.l.length-j,by omega,fun j hj=>zL (fun hlt=> ?_) (fun hlt=> ?_)⟩
  ·have hj':j<i.l.length:=by omega
   obtain⟨x,hx⟩:=z9 hj'
   obtain⟨st,sf⟩:=step j hj' x hx
   refine⟨⟨by omega,by omega⟩,x.price,x.qty,x.a.inst,x.a.side,x.b.inst,x.b.side,elA hx (by simp[zK]) rfl,⟨i.s,x.price,_⟩,rfl,rfl,rfl,trivial,fun _ _=>Cv.cnd.mk (fun e=>⟨j+1,by rw[w64 (by omega)];rfl,?_⟩) (fun e=>⟨j+1,by rw[w64 (by omega)];rfl,?_⟩)⟩
   ·rw[st e];exact kp
   ·rw[sf e];exact kp
  ·have hj:j≤i.l.length:=hj
   obtain rfl:j=i.l.length:=by omega
   rw[fin,two];exact kp
theorem zVx:bestQC.ok Tryz.prog 66:=okw mixed (gokc z0g gok0) 0 (fun _=>[]) (fun i=>yLm i) [] Tryz.func66 yNu
theorem zDb (tops:List Top) (a b:Leg) (less:Bool):(mkq tops a b less).length≤1:=by
 unfold mkq
 dsimp only
 split<;>split<;>simp
theorem zRq {α:Type} {f:Nat→List α} (h:∀k,(f k).length≤1):∀n,((List.range n).flatMap f).length≤n
 |0=>by simp
 |n+1=>by
  rw[yXj,yUh,ySr]
  have:=zRq h n
  have:=h n
  simp only[yUa,yXx,yTl]
  omega
theorem zAk (i:dH) (s:Int) (k:Nat):(kA i s k).length≤k:=zRq (fun _=>zDb _ _ _ _) k
theorem pW (i:dH) (s:Int) (k:Nat):(kB i s k).length≤k:=zRq (fun _=>zDb _ _ _ _) k
theorem zCv (i:dH) (s:Int):(qC i s).length≤100:=by
 unfold qC
 split
 ·simp
 ·rename_i h
  have hc:=xQ i.p
  have m6:=(qM (sI (p:=i.p) (by omega))).m6
  split
  ·rw[ySm]
   have:=zDb i.tops ⟨(i.p.legs i.inst).2.1,3-s⟩ ⟨(i.p.legs i.inst).1,s⟩ true
   have e:(yN i s).length≤1:=this
   omega
  ·rw[ySr]
   have h1:=zAk i s (i.p.months.length-(i.inst.toNat+1))
   have h2:=pW i s i.inst.toNat
   omega
theorem yEo (j:sS) (h:quotesC.cnd j):z2g j:=by
 unfold z2g lQ gX jA kJ j0 x9 dI
 obtain⟨hp,ht,hr⟩:j.i.p.small∧jU j.i.tops:=h
 obtain⟨h1,h2,h3⟩:=hp
 have hl:=zCv j.i (zB j.s)
 refine⟨j,?_⟩
 simp only[ySm]
 (repeat'(first|exact rfl|exact trivial|assumption|apply And.intro|refine fun(_:Unit) (_:True)=>?_|refine Exists.intro () ?_|omega|(dsimp only;omega)))
 refine⟨0,rfl,rfl,fun k=>k≤(qC j.i (zB j.s)).length,fun k=>(qC j.i (zB j.s)).length-k,by omega,fun k hk=>zL (fun hlt=> ?_) (fun hlt=> ?_)⟩
 ·have hk':k<(qC j.i (zB j.s)).length:=by omega
  obtain⟨q,hq⟩:=z9 hk'
  have hf:(List.filter (fun q=>decide (j.i.p.price j.i.inst q.price=0)) (List.take k (qC j.i (zB j.s)))).length≤100:=by
   have:=yVp (fun q:Quote=>decide (j.i.p.price j.i.inst q.price=0)) (List.take k (qC j.i (zB j.s)))
   rw[yTi]at this
   omega
  refine⟨⟨by omega,by omega⟩,q.price,q.qty,q.a.inst,q.a.side,q.b.inst,q.b.side,elA hq (by simp[zK]) rfl,⟨j.i.p,j.i.inst,q.price⟩,?_⟩
  (repeat'(first|exact rfl|exact trivial|assumption|apply And.intro|refine fun(_:Unit) (_:True)=>?_|refine Exists.intro () ?_|omega|(dsimp only;omega)))
  refine Cv.cnd.mk (fun c=>⟨by omega,k+1,by rw[w64 (by omega)];rfl,?_⟩) (fun c=>⟨k+1,by rw[w64 (by omega)];rfl,?_⟩)
  ·have c:j.i.p.price j.i.inst q.price=0:=by simpa using c
   rw[yUm,hq,yWz,yWk,yVq (by simpa using c),ySv]
   exact kp
  ·have c:¬j.i.p.price j.i.inst q.price=0:=by simpa using c
   rw[yUm,hq,yWz,yWk,yVr (by simpa using c),List.filter_nil,yTl]
   exact kp
 ·have hk:k≤(qC j.i (zB j.s)).length:=hk
  obtain rfl:k=(qC j.i (zB j.s)).length:=by omega
  rw[yTe (yTj _)]
  exact kp
open Go Cv Go.Proofs
theorem z4z:∀n≤6,∀a<n,∀b<n,a<b→0≤(yI n a:Int)+b-a-1∧(yI n a:Int)+b-a-1<((n+n*(n-1) / 2:Nat):Int):=by decide
theorem gU {p:Prd} (hc:p.check=0) {a b:Nat} (hab:a<b) (hb:b<p.months.length):0≤(p.spread a b).1∧(p.spread a b).1<p.count:=by
 have m6:=(qM hc).m6
 have:=z4z p.months.length m6 a (by omega) b hb hab
 rw[Prd.spread,ySj (by omega),Prd.count,ySk hc]
 simpa using this
theorem yHq:∀n≤6,∀k<n+n*(n-1) / 2,n≤k→(kF n k n 0).2.2=true∧0≤(kF n k n 0).1∧(kF n k n 0).1<n∧0≤(kF n k n 0).2.1∧(kF n k n 0).2.1<n:=by decide
theorem vO {p:Prd} (hc:p.check=0) {k:Nat} (hk:k<p.count):((p.legs k).2.2=true∧0≤(p.legs k).1∧(p.legs k).1<p.months.length∧0≤(p.legs k).2.1∧(p.legs k).2.1<p.months.length)∨((p.legs k).2.2=false∧k<p.months.length):=by
 have m6:=(qM hc).m6
 have hk':=hk
 rw[Prd.count,ySk hc]at hk'
 by_cases h:k<p.months.length
 ·right
  rw[Prd.legs,ySj (by omega),ySk (by omega)]
  exact⟨rfl,h⟩
 ·left
  rw[Prd.legs,ySj (by omega),ySj (by omega)]
  exact yHq p.months.length m6 k hk' (by omega)
theorem dW {p:Prd} (hc:p.check=0):p.months.length≤p.count:=by
 rw[Prd.count,ySk hc];omega
theorem zTn {i:dH} {s:Int} {k:Nat} (hk:k<(yN i s).length):List.map zK (List.map (fU i s) (List.take (k+1) (yN i s))++List.drop (k+1) (yN i s))=
 yB (List.map zK (List.map (fU i s) (List.take k (yN i s))++List.drop k (yN i s))) k (0+2) [D.v (.int .i64 (i.p.legs i.inst).1),D.v (.int .i64 s),D.v (.int .i64 (i.p.legs i.inst).2.1),D.v (.int .i64 (3-s))]:=by
 obtain⟨q,hq⟩:=z9 hk
 rw[zQc (a:=List.map zK (List.map (fU i s) (List.take k (yN i s)))) (b:=List.map zK (List.drop (k+1) (yN i s))) (x:=zK q) (y:=zK (fU i s q)) (by
  rw[ySv,yVd hk,(ySl.1 hq).2,ySs]) (by simp;omega) rfl]
 rw[yUm,hq,yWz,ySv,ySv,ySv,ySs,yWh,ySs,yWh,ySw]
 rfl
theorem yOg (i:dH) (h:all1C.cnd i):yIy i:=by
 unfold yIy zS zCc zBr mI wO mE tE mT qX x9 sX vY gV j0 dI
 obtain⟨⟨h1,h2,h3⟩,ht,hr⟩:i.p.small∧jU i.tops:=h
 have hto:jU i.tops:=⟨ht,hr⟩
 refine⟨i.p,?_⟩
 simp only[ySm,yX]
 (repeat'(first|exact rfl|exact trivial|assumption|apply And.intro|refine fun(_:Unit) (_:True)=>?_|refine Exists.intro () ?_|omega|(dsimp only;omega)))
 have bad (hb:i.p.count=0∨(i.tops.length:Int)≠i.p.count∨i.inst<0∨(i.p.count:Int)≤i.inst):∃(o:Unit),List.map zK (qC i 1)=[]∧True:=⟨(),by rw[qC,ySk hb];rfl,trivial⟩
 refine Cv.cnd.mk (fun c1=>bad (.inl (by have c1:(i.p.count:Int)=0:=(by simpa using c1);omega))) fun c1=>Cv.cnd.mk (fun c2=>bad (.inr (.inl (by simpa using c2)))) fun c2=>zL (fun c3=>bad (by omega)) fun c3=>zL (fun c4=>bad (by omega)) fun c4=>⟨⟨i.p,i.inst⟩,?_⟩
 have c1:i.p.count≠0:=by
  have c1:¬(i.p.count:Int)=0:=(by simpa using c1)
  omega
 have c2:(i.tops.length:Int)=i.p.count:=by simpa using c2
 have c4:i.inst<(i.p.count:Int):=by
  have c4:¬i.inst≥(i.p.count:Int):=c4
  omega
 have hc:=sI c1
 have hm:=dW hc
 have e0:qC i 1=if(i.p.legs i.inst).2.2 then(yN i 1).map (fU i 1)else kA i 1 (i.p.months.length-(i.inst.toNat+1))++kB i 1 i.inst.toNat:=by
  rw[qC,ySj (by omega)]
 obtain⟨k,hk⟩:∃k:Nat,i.inst=k:=⟨i.inst.toNat,by omega⟩
 have hl:=vO hc (k:=k) (by omega)
 rw[← hk]at hl
 (repeat'(first|exact rfl|exact trivial|assumption|apply And.intro|refine fun(_:Unit) (_:True)=>?_|refine Exists.intro () ?_|omega|(dsimp only;omega)))
 refine Cv.cnd.mk (fun c5=> ?_) (fun c5=> ?_)
 ·have c5:(i.p.legs i.inst).2.2=true:=c5
  rw[e0,ySk c5]
  rcases hl with⟨_,l1,l2,l3,l4⟩|⟨l1,_⟩
  ·have hsl:(yN i 1).length≤1:=zDb _ _ _ _
   refine⟨1,rfl,by omega,fun _ _=>⟨⟨⟨i.tops,[],(i.p.legs i.inst).2.1,(i.p.legs i.inst).1,true⟩,true,false⟩,rfl,rfl,rfl,rfl,rfl,rfl,rfl,⟨l3,by dsimp only;omega,l1,by dsimp only;omega,hto,by simp⟩,fun _ _=>⟨0,rfl,rfl,rfl,fun j=>j≤(yN i 1).length,fun j=>(yN i 1).length-j,by omega,?_⟩⟩⟩
   intro j hj
   have hj:j≤(yN i 1).length:=hj
   have hL:(List.map (fU i 1) (List.take j (yN i 1))++List.drop j (yN i 1)).length=(yN i 1).length:=by simp;omega
   refine zL (fun hlt=> ?_) (fun hlt=> ?_)
   ·have hlt:(j:Int)<((yN i 1).length:Int):=hlt
    refine⟨⟨by omega,by rw[hL];omega⟩,by rw[hL];omega,j+1,by rw[w64 (by omega)];rfl,kp,?_,?_⟩
    ·exact zTn (i:=i) (s:=1) (by omega)
    ·exact kp
   ·have hlt:¬(j:Int)<((yN i 1).length:Int):=hlt
    obtain rfl:j=(yN i 1).length:=by omega
    rw[yTe (yTj _),List.drop_length,yTl]
    exact kp
  ·rw[c5]at l1;cases l1
 ·have c5:(i.p.legs i.inst).2.2=false:=c5
  rw[e0,ySj (by rw[c5];simp)]
  rcases hl with⟨l1,_⟩|⟨_,l2⟩
  ·rw[c5]at l1;cases l1
  have m6:=(qM hc).m6
  have e1:i.inst.toNat=k:=by omega
  rw[e1]
  refine⟨0,by rw[w64 (by omega)];omega,kp,rfl,fun j=>j≤i.p.months.length-(k+1),fun j=>i.p.months.length-(k+1)-j,by omega,?_⟩
  intro j hj
  have hj:j≤i.p.months.length-(k+1):=hj
  have hq:=zAk i 1 j
  refine zL (fun hlt=> ?_) (fun hlt=> ?_)
  ·obtain⟨b1,b2⟩:=gU hc (a:=k) (b:=k+1+j) (by omega) (by omega)
   have eb:((k+1+j:Nat):Int)=i.inst+1+j:=by omega
   rw[eb,← hk]at b1 b2
   refine⟨⟨i.p,i.inst,i.inst+1+j⟩,?_⟩
   (repeat'(first|exact rfl|exact trivial|assumption|apply And.intro|refine fun(_:Unit) (_:True)=>?_|refine Exists.intro () ?_|omega|(dsimp only;omega)))
   refine⟨⟨⟨i.tops,kA i 1 j,(i.p.spread i.inst (i.inst+1+j)).1,i.inst+1+j,false⟩,false,false⟩,rfl,rfl,rfl,rfl,rfl,kp,rfl,⟨b1,by dsimp only;omega,by dsimp only;omega,by dsimp only;omega,hto,by dsimp only;omega⟩,fun _ _=>⟨j+1,by rw[w64 (by omega)];omega,kp,?_,?_⟩⟩
   ·rw[kA,yXj,yUh]
    simp only[yUa,yXx,yTl]
    rfl
   ·exact kp
  ·obtain rfl:j=i.p.months.length-(k+1):=by omega
   refine⟨0,rfl,kp,by rw[kB];simp,fun j=>j≤k,fun j=>k-j,by omega,?_⟩
   intro j hj
   have hj:j≤k:=hj
   have hq2:=pW i 1 j
   refine zL (fun hlt2=> ?_) (fun hlt2=> ?_)
   ·obtain⟨b1,b2⟩:=gU hc (a:=j) (b:=k) (by omega) (by omega)
    rw[← hk]at b1 b2
    refine⟨⟨i.p,j,i.inst⟩,?_⟩
    (repeat'(first|exact rfl|exact trivial|assumption|apply And.intro|refine fun(_:Unit) (_:True)=>?_|refine Exists.intro () ?_|omega|(dsimp only;omega)))
    refine⟨1,rfl,by omega,fun _ _=>⟨⟨⟨i.tops,kA i 1 (i.p.months.length-(k+1))++kB i 1 j,(i.p.spread j i.inst).1,j,true⟩,true,false⟩,rfl,rfl,rfl,rfl,rfl,kp,rfl,⟨b1,by dsimp only;omega,by dsimp only;omega,by dsimp only;omega,hto,by dsimp only;rw[ySr];omega⟩,fun _ _=>⟨j+1,by rw[w64 (by omega)];omega,kp,?_,?_⟩⟩⟩
    ·rw[kB,yXj,yUh]
     simp only[yUa,yXx,yTl,ySw]
     rfl
    ·exact kp
   ·obtain rfl:j=k:=by omega
    exact kp
theorem yFl:all1C.ok Tryz.prog 25:=okw mixed (gokc bF (gokc pB (gokc zPc (gokc zNs (gokc zXu gok0))))) 0 (fun _=>[]) (fun i=>yPy i 1) [] Tryz.func25 yOg
theorem yPd (i:dH) (h:all2C.cnd i):yIc i:=by
 unfold yIc zS mG tR mV zCc zBr mI wO qX x9 sX vY gV j0 dI
 obtain⟨⟨h1,h2,h3⟩,ht,hr⟩:i.p.small∧jU i.tops:=h
 have hto:jU i.tops:=⟨ht,hr⟩
 refine⟨i.p,?_⟩
 simp only[ySm,yX]
 (repeat'(first|exact rfl|exact trivial|assumption|apply And.intro|refine fun(_:Unit) (_:True)=>?_|refine Exists.intro () ?_|omega|(dsimp only;omega)))
 have bad (hb:i.p.count=0∨(i.tops.length:Int)≠i.p.count∨i.inst<0∨(i.p.count:Int)≤i.inst):∃(o:Unit),List.map zK (qC i 2)=[]∧True:=⟨(),by rw[qC,ySk hb];rfl,trivial⟩
 refine Cv.cnd.mk (fun c1=>bad (.inl (by have c1:(i.p.count:Int)=0:=(by simpa using c1);omega))) fun c1=>Cv.cnd.mk (fun c2=>bad (.inr (.inl (by simpa using c2)))) fun c2=>zL (fun c3=>bad (by omega)) fun c3=>zL (fun c4=>bad (by omega)) fun c4=>⟨⟨i.p,i.inst⟩,?_⟩
 have c1:i.p.count≠0:=by
  have c1:¬(i.p.count:Int)=0:=(by simpa using c1)
  omega
 have c2:(i.tops.length:Int)=i.p.count:=by simpa using c2
 have c4:i.inst<(i.p.count:Int):=by
  have c4:¬i.inst≥(i.p.count:Int):=c4
  omega
 have hc:=sI c1
 have hm:=dW hc
 have e0:qC i 2=if(i.p.legs i.inst).2.2 then(yN i 2).map (fU i 2)else kA i 2 (i.p.months.length-(i.inst.toNat+1))++kB i 2 i.inst.toNat:=by
  rw[qC,ySj (by omega)]
 obtain⟨k,hk⟩:∃k:Nat,i.inst=k:=⟨i.inst.toNat,by omega⟩
 have hl:=vO hc (k:=k) (by omega)
 rw[← hk]at hl
 (repeat'(first|exact rfl|exact trivial|assumption|apply And.intro|refine fun(_:Unit) (_:True)=>?_|refine Exists.intro () ?_|omega|(dsimp only;omega)))
 refine Cv.cnd.mk (fun c5=> ?_) (fun c5=> ?_)
 ·have c5:(i.p.legs i.inst).2.2=true:=c5
  rw[e0,ySk c5]
  rcases hl with⟨_,l1,l2,l3,l4⟩|⟨l1,_⟩
  ·have hsl:(yN i 2).length≤1:=zDb _ _ _ _
   refine⟨2,rfl,by omega,fun _ _=>⟨⟨⟨i.tops,[],(i.p.legs i.inst).2.1,(i.p.legs i.inst).1,true⟩,false,true⟩,rfl,rfl,rfl,rfl,rfl,rfl,rfl,⟨l3,by dsimp only;omega,l1,by dsimp only;omega,hto,by simp⟩,fun _ _=>⟨0,rfl,rfl,rfl,fun j=>j≤(yN i 2).length,fun j=>(yN i 2).length-j,by omega,?_⟩⟩⟩
   intro j hj
   have hj:j≤(yN i 2).length:=hj
   have hL:(List.map (fU i 2) (List.take j (yN i 2))++List.drop j (yN i 2)).length=(yN i 2).length:=by simp;omega
   refine zL (fun hlt=> ?_) (fun hlt=> ?_)
   ·have hlt:(j:Int)<((yN i 2).length:Int):=hlt
    refine⟨⟨by omega,by rw[hL];omega⟩,by rw[hL];omega,j+1,by rw[w64 (by omega)];rfl,kp,?_,?_⟩
    ·exact zTn (i:=i) (s:=2) (by omega)
    ·exact kp
   ·have hlt:¬(j:Int)<((yN i 2).length:Int):=hlt
    obtain rfl:j=(yN i 2).length:=by omega
    rw[yTe (yTj _),List.drop_length,yTl]
    exact kp
  ·rw[c5]at l1;cases l1
 ·have c5:(i.p.legs i.inst).2.2=false:=c5
  rw[e0,ySj (by rw[c5];simp)]
  rcases hl with⟨l1,_⟩|⟨_,l2⟩
  ·rw[c5]at l1;cases l1
  have m6:=(qM hc).m6
  have e1:i.inst.toNat=k:=by omega
  rw[e1]
  refine⟨0,by rw[w64 (by omega)];omega,kp,rfl,fun j=>j≤i.p.months.length-(k+1),fun j=>i.p.months.length-(k+1)-j,by omega,?_⟩
  intro j hj
  have hj:j≤i.p.months.length-(k+1):=hj
  have hq:=zAk i 2 j
  refine zL (fun hlt=> ?_) (fun hlt=> ?_)
  ·obtain⟨b1,b2⟩:=gU hc (a:=k) (b:=k+1+j) (by omega) (by omega)
   have eb:((k+1+j:Nat):Int)=i.inst+1+j:=by omega
   rw[eb,← hk]at b1 b2
   refine⟨⟨i.p,i.inst,i.inst+1+j⟩,?_⟩
   (repeat'(first|exact rfl|exact trivial|assumption|apply And.intro|refine fun(_:Unit) (_:True)=>?_|refine Exists.intro () ?_|omega|(dsimp only;omega)))
   refine⟨⟨⟨i.tops,kA i 2 j,(i.p.spread i.inst (i.inst+1+j)).1,i.inst+1+j,false⟩,true,true⟩,rfl,rfl,rfl,rfl,rfl,kp,rfl,⟨b1,by dsimp only;omega,by dsimp only;omega,by dsimp only;omega,hto,by dsimp only;omega⟩,fun _ _=>⟨j+1,by rw[w64 (by omega)];omega,kp,?_,?_⟩⟩
   ·rw[kA,yXj,yUh]
    simp only[yUa,yXx,yTl]
    rfl
   ·exact kp
  ·obtain rfl:j=i.p.months.length-(k+1):=by omega
   refine⟨0,rfl,kp,by rw[kB];simp,fun j=>j≤k,fun j=>k-j,by omega,?_⟩
   intro j hj
   have hj:j≤k:=hj
   have hq2:=pW i 2 j
   refine zL (fun hlt2=> ?_) (fun hlt2=> ?_)
   ·obtain⟨b1,b2⟩:=gU hc (a:=j) (b:=k) (by omega) (by omega)
    rw[← hk]at b1 b2
    refine⟨⟨i.p,j,i.inst⟩,?_⟩
    (repeat'(first|exact rfl|exact trivial|assumption|apply And.intro|refine fun(_:Unit) (_:True)=>?_|refine Exists.intro () ?_|omega|(dsimp only;omega)))
    refine⟨2,rfl,by omega,fun _ _=>⟨⟨⟨i.tops,kA i 2 (i.p.months.length-(k+1))++kB i 2 j,(i.p.spread j i.inst).1,j,true⟩,false,true⟩,rfl,rfl,rfl,rfl,rfl,kp,rfl,⟨b1,by dsimp only;omega,by dsimp only;omega,by dsimp only;omega,hto,by dsimp only;rw[ySr];omega⟩,fun _ _=>⟨j+1,by rw[w64 (by omega)];omega,kp,?_,?_⟩⟩⟩
    ·rw[kB,yXj,yUh]
     simp only[yUa,yXx,yTl,ySw]
     rfl
    ·exact kp
   ·obtain rfl:j=k:=by omega
    exact kp
theorem yFx:all2C.ok Tryz.prog 25:=okw mixed (gokc bF (gokc pB (gokc zPc (gokc zNs (gokc zXu gok0))))) 0 (fun _=>[]) (fun i=>yPy i 2) [] Tryz.func25 yPd
theorem z9j:allC.ok Tryz.prog 25:=fun j=>match j with
 |⟨i,false⟩=>yFl i
 |⟨i,true⟩=>yFx i
theorem zOy:quotesC.ok Tryz.prog 67:=okw mixed (gokc z9j (gokc sQ gok0)) 0 (fun _=>[]) (fun j=>yFd j) [] Tryz.func67 yEo
open Go Cv Go.Proofs
structure BkI where
 p:Prd
 s:MSt
def crossB (x y:Int) (b:Bool):Bool:=b && decide (y≤x)
def cJ (t:Top):Bool:=crossB t.p1 t.p2 (t.has1 && t.has2)
def vA (p:Prd) (tops:List Top) (n:Nat):Bool:=
 let x:=tops.getD n top0
 let buy:=z5 (yF ⟨p,tops,n⟩ 1) 1
 let sell:=z5 (yF ⟨p,tops,n⟩ 2) 2
 crossB x.p1 sell.1.price (x.has1 && sell.2)||crossB buy.1.price x.p2 (x.has2 && buy.2)
def x6 (p:Prd) (tops:List Top):Int:=
 if p.check≠0 then 1 else if(List.range tops.length).any (fun n=>cJ (tops.getD n top0))then 23 else if(List.range tops.length).any (vA p tops)then 21 else 0
def booksC:Con:=con1 BkI (fun i=>[prdV i.p,.nm 0 0]) (fun i=>[zE i.s]) (fun i=>i.p.small∧i.s.cntOk∧jU i.s.tops) (fun i=>zA (x6 i.p i.s.tops)) (fun i=>[zE i.s])
def yLw (i:BkI):List SAnn:=[
 {ι:=Nat,slots:=fun j=>[(25,zA j)],rows:=fun _=>[]},
 {ι:=Nat,slots:=fun j=>[(5,.own 0),(45,.own 0),(47,zA j)],rows:=fun _=>[.fro 6 (i.s.tops.map zU)]}]
def booksNilC:Con:=con1 Prd (fun p=>[prdV p,.d (.v (.pointer none))]) (fun _=>[]) (fun p=>p.small) (fun _=>zA 1) (fun _=>[])
open Go Cv Go.Proofs
def zEs (a:BkI):Prop:=Sx.AObj.cells [V.d (D.v (Value.string (sb a.p.code))),V.own 1,V.d (dI a.p.tick),V.d (dI a.p.low),V.d (dI a.p.high),V.d (dI a.p.wide),V.d (dI a.p.rule),V.d (dI a.p.top),V.d (dI a.p.least),V.d (dI a.p.part),V.own ((1:Nat)+(1:Nat))] 29=Sx.AObj.cells [V.d (D.v (Value.string (sb a.p.code))),V.own 1,V.d (dI a.p.tick),V.d (dI a.p.low),V.d (dI a.p.high),V.d (dI a.p.wide),V.d (dI a.p.rule),V.d (dI a.p.top),V.d (dI a.p.least),V.d (dI a.p.part),V.own ((1:Nat)+(1:Nat))] 29∧AObj.fro 1 (iE a.p.settle)=AObj.fro 1 (iE a.p.settle)∧AObj.fro 1 (iE a.p.months)=AObj.fro 1 (iE a.p.months)
def zFm (a:CrI) (b:BkI) (c:MSt) (d:Nat) (e:Nat→Prop) (f:Nat→Nat):Prop:=True∧∀(g:Unit),True→cnd (a.b && decide (a.y≤a.x)) (∃(h:Unit),x6 b.p b.s.tops=21∧zE b.s=zE c∧True) (∃(h:Nat),(↑h:Int)=IntKind.i64.wrap ((↑d:Int)+1)∧AObj.fro 6 (List.map zU b.s.tops)=AObj.fro 6 (List.map zU b.s.tops)∧e h∧f h<f d∧zE c=zE c∧zEs b)
def zEn (a:CrI) (b:BkI) (c:MSt) (d:Bool) (e:BsI) (f:Int) (g:Nat) (h:Nat→Prop) (j:Nat→Nat):Prop:=True∧∀(k:Unit),True→cnd (a.b && decide (a.y≤a.x)) (∃(l:Unit),x6 b.p b.s.tops=21∧zE b.s=zE c∧True) (cnd d (∃(l:CrI),l.x=(z5 e.l e.s).fst.price∧l.y=f∧l.b=(z5 e.l e.s).snd∧zFm l b c g h j) (∃(l:CrI),l.x=(z5 e.l e.s).fst.price∧l.y=f∧l.b=false∧zFm l b c g h j))
def zEx (a:CrI) (b:BkI) (c:MSt) (d:Nat) (e:Nat→Prop) (f:Nat→Nat):Prop:=True∧∀(g:Unit),True→cnd (a.b && decide (a.y≤a.x)) (∃(h:Unit),x6 b.p b.s.tops=23∧zE b.s=zE c∧True) (∃(h:Nat),(↑h:Int)=IntKind.i64.wrap ((↑d:Int)+1)∧e h∧f h<f d∧zE c=zE c∧AObj.own 55 6 (List.map zU c.tops)=AObj.own 55 6 (List.map zU c.tops)∧zEs b)
def gD (a:MSt):Prop:=a.books.length≤1000000∧∀(b:Book),b∈a.books→∀(c:fF),c∈b.a.queues→x7 c
def z9l (i:BkI):Prop:=
 ∃(a:Prd),sb a.code=sb i.p.code∧iE a.months=iE i.p.months∧a.tick=i.p.tick∧a.low=i.p.low∧a.high=i.p.high∧a.wide=i.p.wide∧a.rule=i.p.rule∧a.top=i.p.top∧a.least=i.p.least∧a.part=i.p.part∧iE a.settle=iE i.p.settle∧(zS a)∧∀(b:Unit),True→cnd (a.check !=0) (∃(c:Unit),x6 i.p i.s.tops=1∧zE i.s=zE i.s∧True) (∃(c:MSt),zE c=zE i.s∧(gD c)∧∀(d:Unit),True→∃(e:Nat),(↑e:Int)=0∧∃(f:Nat→Prop),∃(g:Nat→Nat),f e∧∀(h:Nat),f h→cnd (decide ((↑h:Int)<(↑(List.map zU c.tops).length:Int))) ((0≤(↑h:Int)∧(↑h:Int)<(↑(List.map zU c.tops).length:Int))∧∃(j:Bool),∃(k:Bool),∃(l:Int),∃(m:Int),∃(n:Int),∃(p:Int),zF (List.map zU c.tops) (↑h:Int).toNat 0 6=some [D.v (.bool j),D.v (.bool k),dI l,dI m,dI n,dI p]∧cnd j (∃(q:CrI),q.x=l∧q.y=m∧q.b=k∧zEx q i c h f g) (∃(q:CrI),q.x=l∧q.y=m∧q.b=false∧zEx q i c h f g)) (∃(j:Nat),(↑j:Int)=0∧List.map zU i.s.tops=List.map zU c.tops∧∃(k:Nat→Prop),∃(l:Nat→Nat),k j∧∀(m:Nat),k m→cnd (decide ((↑m:Int)<(↑(List.map zU c.tops).length:Int))) ((0≤(↑m:Int)∧(↑m:Int)<(↑(List.map zU i.s.tops).length:Int))∧∃(n:Bool),∃(p:Bool),∃(q:Int),∃(r:Int),∃(s:Int),∃(t:Int),zF (List.map zU i.s.tops) (↑m:Int).toNat 0 6=some [D.v (.bool n),D.v (.bool p),dI q,dI r,dI s,dI t]∧∃(u:sS),sb u.i.p.code=sb i.p.code∧iE u.i.p.months=iE i.p.months∧u.i.p.tick=i.p.tick∧u.i.p.low=i.p.low∧u.i.p.high=i.p.high∧u.i.p.wide=i.p.wide∧u.i.p.rule=i.p.rule∧u.i.p.top=i.p.top∧u.i.p.least=i.p.least∧u.i.p.part=i.p.part∧iE u.i.p.settle=iE i.p.settle∧List.map zU u.i.tops=List.map zU i.s.tops∧u.i.inst=(↑m:Int)∧zB u.s=1∧(kJ u)∧∀(v:Unit),True→∃(w:BsI),List.map zK w.l=List.map zK (yF u.i (zB u.s))∧w.s=1∧((w.s=1∨w.s=2)∧w.l.length≤1000000)∧∀(x:Unit),True→∃(y:sS),sb y.i.p.code=sb i.p.code∧iE y.i.p.months=iE i.p.months∧y.i.p.tick=i.p.tick∧y.i.p.low=i.p.low∧y.i.p.high=i.p.high∧y.i.p.wide=i.p.wide∧y.i.p.rule=i.p.rule∧y.i.p.top=i.p.top∧y.i.p.least=i.p.least∧y.i.p.part=i.p.part∧iE y.i.p.settle=iE i.p.settle∧List.map zU y.i.tops=List.map zU i.s.tops∧y.i.inst=(↑m:Int)∧zB y.s=2∧(kJ y)∧∀(z:Unit),True→∃(a_1:BsI),List.map zK a_1.l=List.map zK (yF y.i (zB y.s))∧a_1.s=2∧((a_1.s=1∨a_1.s=2)∧a_1.l.length≤1000000)∧∀(a_2:Unit),True→cnd n (∃(a_3:CrI),a_3.x=q∧a_3.y=(z5 a_1.l a_1.s).fst.price∧a_3.b=(z5 a_1.l a_1.s).snd∧zEn a_3 i c p w r m k l) (∃(a_3:CrI),a_3.x=q∧a_3.y=(z5 a_1.l a_1.s).fst.price∧a_3.b=false∧zEn a_3 i c p w r m k l)) (∃(n:Unit),x6 i.p i.s.tops=0∧zE i.s=zE c∧True)))
def z6z (p:Prd):Prop:=
 ∃(i:Prd),sb i.code=sb p.code∧iE i.months=iE p.months∧i.tick=p.tick∧i.low=p.low∧i.high=p.high∧i.wide=p.wide∧i.rule=p.rule∧i.top=p.top∧i.least=p.least∧i.part=p.part∧iE i.settle=iE p.settle∧(i.code.length≤1099511627776∧i.months.length≤1099511627776∧i.settle.length≤1099511627776)∧∀(o:Unit),True→cnd (i.check !=0) (∃(o:Unit),(1:Int)=(1:Int)∧True) (∃(o:Unit),(1:Int)=(1:Int)∧True)
open Go Cv Go.Proofs
theorem zCw {n k:Nat} {f:Nat→Bool} (hk:k<n) (h:f k=true):(List.range n).any f=true:=by
 rw[yYh];exact⟨k,by simpa using hk,h⟩
theorem mH {n:Nat} {f:Nat→Bool} (h:∀k<n,f k=false):(List.range n).any f=false:=by
 rw[yXn];intro k hk;simp[h k (by simpa using hk)]
theorem zGz (i:dH) (s:Int):(yF i s).length≤100:=yVg (yVp _ _) (zCv i s)
theorem yNo (i:BkI) (h:booksC.cnd i):z9l i:=by
 unfold z9l kJ j0 zS zEx zEn zFm zEs gD x7 dI
 obtain⟨⟨h1,h2,h3⟩,⟨hb1,hb2⟩,⟨ht1,ht2⟩⟩:i.p.small∧i.s.cntOk∧jU i.s.tops:=h
 refine⟨i.p,?_⟩
 simp only[ySm]
 (repeat'(first|exact rfl|exact trivial|assumption|apply And.intro|refine fun(_:Unit) (_:True)=>?_|refine Exists.intro () ?_|omega|(dsimp only;omega)))
 refine Cv.cnd.mk (fun c=>⟨(),by rw[x6,ySk (by simpa using c)],kp,trivial⟩) fun c=>⟨i.s,?_⟩
 (repeat'(first|exact rfl|exact trivial|assumption|apply And.intro|refine fun(_:Unit) (_:True)=>?_|refine Exists.intro () ?_|omega|(dsimp only;omega)))
 have c:i.p.check=0:=by simpa using c
 generalize hT:i.s.tops=T at*
 have e0:x6 i.p T=if(List.range T.length).any (fun n=>cJ (T.getD n top0))then 23 else if(List.range T.length).any (vA i.p T)then 21 else 0:=by
  rw[x6,ySj (by simp[c])]
 refine⟨0,rfl,fun j=>j≤T.length∧∀k<j,cJ (T.getD k top0)=false,fun j=>T.length-j,⟨by omega,fun k hk=>by omega⟩,?_⟩
 rintro j ⟨g1,g2⟩
 refine zL (fun hlt=> ?_) (fun hlt=> ?_)
 ·have hj:j<T.length:=by omega
  obtain⟨t,ht⟩:=z9 hj
  have hg:T.getD j top0=t:=by rw[ySn,ht];rfl
  have bad (e:cJ t=true):x6 i.p T=23:=by
   rw[e0,ySk (zCw hj (by rw[hg];exact e))]
  have good (e:cJ t=false):∀k<j+1,cJ (T.getD k top0)=false:=fun k hk=>by
   rcases yUu k j with h|h
   ·exact g2 k h
   ·obtain rfl:k=j:=by omega
    rw[hg];exact e
  refine⟨⟨by omega,by omega⟩,t.has1,t.has2,t.p1,t.p2,t.q1,t.q2,elA ht (by simp[zU]) rfl,Cv.cnd.mk (fun b1=>⟨⟨t.p1,t.p2,t.has2⟩,rfl,rfl,rfl,trivial,fun _ _=> ?_⟩) (fun b1=>⟨⟨t.p1,t.p2,false⟩,rfl,rfl,rfl,trivial,fun _ _=> ?_⟩)⟩
  ·have ec:cJ t=(t.has2 && decide (t.p2≤t.p1)):=by
    have b1:t.has1=true:=b1
    rw[cJ,crossB,b1,yTr]
   refine Cv.cnd.mk (fun e=>⟨(),bad (by rw[ec];exact e),kp,trivial⟩) (fun e=>⟨j+1,by rw[w64 (by omega)];rfl,⟨by omega,good (by rw[ec];exact e)⟩,by(first|omega|(dsimp only;omega)),kp⟩)
  ·have ec:cJ t=false:=by
    have b1:t.has1=false:=b1
    rw[cJ,crossB,b1,yUe,yUe]
   refine Cv.cnd.mk (fun e=>absurd e (by simp)) (fun e=>⟨j+1,by rw[w64 (by omega)];rfl,⟨by omega,good ec⟩,by(first|omega|(dsimp only;omega)),kp⟩)
 ·obtain rfl:j=T.length:=by omega
  have e1:x6 i.p T=if(List.range T.length).any (vA i.p T)then 21 else 0:=by
   rw[e0,ySj (by rw[mH g2];simp)]
  refine⟨0,rfl,kp,fun j=>j≤T.length∧∀k<j,vA i.p T k=false,fun j=>T.length-j,⟨by omega,fun k hk=>by omega⟩,?_⟩
  rintro j ⟨f1,f2⟩
  refine zL (fun hlt2=> ?_) (fun hlt2=> ?_)
  ·have hj:j<T.length:=by omega
   obtain⟨t,ht⟩:=z9 hj
   have hg:T.getD j top0=t:=by rw[ySn,ht];rfl
   have em:vA i.p T j=(crossB t.p1 (z5 (yF ⟨i.p,T,j⟩ 2) 2).1.price (t.has1 && (z5 (yF ⟨i.p,T,j⟩ 2) 2).2)||crossB (z5 (yF ⟨i.p,T,j⟩ 1) 1).1.price t.p2 (t.has2 && (z5 (yF ⟨i.p,T,j⟩ 1) 1).2)):=by
    simp only[vA,hg]
   have q1:=zGz ⟨i.p,T,j⟩ 1
   have q2:=zGz ⟨i.p,T,j⟩ 2
   have bad (e:vA i.p T j=true):x6 i.p T=21:=by
    rw[e1,ySk (zCw hj e)]
   have good (e:vA i.p T j=false):∀k<j+1,vA i.p T k=false:=fun k hk=>by
    rcases yUu k j with h|h
    ·exact f2 k h
    ·obtain rfl:k=j:=by omega
     exact e
   refine⟨⟨by omega,by omega⟩,t.has1,t.has2,t.p1,t.p2,t.q1,t.q2,elA ht (by simp[zU]) rfl,⟨⟨i.p,T,j⟩,false⟩,?_⟩
   (repeat'(first|exact rfl|exact trivial|assumption|apply And.intro|refine fun(_:Unit) (_:True)=>?_|refine Exists.intro () ?_|omega|(dsimp only;omega)))
   refine⟨⟨yF ⟨i.p,T,j⟩ 1,1⟩,?_⟩
   (repeat'(first|exact rfl|exact trivial|assumption|apply And.intro|refine fun(_:Unit) (_:True)=>?_|refine Exists.intro () ?_|omega|(dsimp only;omega)))
   refine⟨⟨⟨i.p,T,j⟩,true⟩,?_⟩
   (repeat'(first|exact rfl|exact trivial|assumption|apply And.intro|refine fun(_:Unit) (_:True)=>?_|refine Exists.intro () ?_|omega|(dsimp only;omega)))
   refine⟨⟨yF ⟨i.p,T,j⟩ 2,2⟩,?_⟩
   (repeat'(first|exact rfl|exact trivial|assumption|apply And.intro|refine fun(_:Unit) (_:True)=>?_|refine Exists.intro () ?_|omega|(dsimp only;omega)))
   have inner:crossB t.p1 (z5 (yF ⟨i.p,T,j⟩ 2) 2).1.price (t.has1 && (z5 (yF ⟨i.p,T,j⟩ 2) 2).2)=false→vA i.p T j=crossB (z5 (yF ⟨i.p,T,j⟩ 1) 1).1.price t.p2 (t.has2 && (z5 (yF ⟨i.p,T,j⟩ 1) 1).2):=fun e=>by rw[em,e,yVs]
   refine Cv.cnd.mk (fun b1=>⟨⟨t.p1,(z5 (yF ⟨i.p,T,j⟩ 2) 2).1.price,(z5 (yF ⟨i.p,T,j⟩ 2) 2).2⟩,rfl,rfl,rfl,trivial,fun _ _=>Cv.cnd.mk (fun e=> ?_) (fun e=> ?_)⟩) (fun b1=>⟨⟨t.p1,(z5 (yF ⟨i.p,T,j⟩ 2) 2).1.price,false⟩,rfl,rfl,rfl,trivial,fun _ _=>Cv.cnd.mk (fun e=> ?_) (fun e=> ?_)⟩)
   ·have b1:t.has1=true:=b1
    refine⟨(),bad ?_,kp,trivial⟩
    rw[em,b1,yTr,show crossB t.p1 (z5 (yF ⟨i.p,T,j⟩ 2) 2).1.price (z5 (yF ⟨i.p,T,j⟩ 2) 2).2=true from e,Bool.true_or]
   ·have b1:t.has1=true:=b1
    have eI:=inner (by rw[b1,yTr];exact e)
    refine Cv.cnd.mk (fun b2=>⟨⟨(z5 (yF ⟨i.p,T,j⟩ 1) 1).1.price,t.p2,(z5 (yF ⟨i.p,T,j⟩ 1) 1).2⟩,rfl,rfl,rfl,trivial,fun _ _=> ?_⟩) (fun b2=>⟨⟨(z5 (yF ⟨i.p,T,j⟩ 1) 1).1.price,t.p2,false⟩,rfl,rfl,rfl,trivial,fun _ _=> ?_⟩)
    ·have b2:t.has2=true:=b2
     rw[b2,yTr]at eI
     refine Cv.cnd.mk (fun e2=>⟨(),bad (by rw[eI];exact e2),kp,trivial⟩) (fun e2=>⟨j+1,by rw[w64 (by omega)];rfl,kp,⟨by omega,good (by rw[eI];exact e2)⟩,by(first|omega|(dsimp only;omega)),kp⟩)
    ·have b2:t.has2=false:=b2
     rw[b2,yUe]at eI
     refine Cv.cnd.mk (fun e2=>absurd e2 (by simp)) (fun e2=>⟨j+1,by rw[w64 (by omega)];rfl,kp,⟨by omega,good (by rw[eI];rfl)⟩,by(first|omega|(dsimp only;omega)),kp⟩)
   ·exact absurd e (by simp)
   ·have b1:t.has1=false:=b1
    have eI:=inner (by rw[b1,yUe];rfl)
    refine Cv.cnd.mk (fun b2=>⟨⟨(z5 (yF ⟨i.p,T,j⟩ 1) 1).1.price,t.p2,(z5 (yF ⟨i.p,T,j⟩ 1) 1).2⟩,rfl,rfl,rfl,trivial,fun _ _=> ?_⟩) (fun b2=>⟨⟨(z5 (yF ⟨i.p,T,j⟩ 1) 1).1.price,t.p2,false⟩,rfl,rfl,rfl,trivial,fun _ _=> ?_⟩)
    ·have b2:t.has2=true:=b2
     rw[b2,yTr]at eI
     refine Cv.cnd.mk (fun e2=>⟨(),bad (by rw[eI];exact e2),kp,trivial⟩) (fun e2=>⟨j+1,by rw[w64 (by omega)];rfl,kp,⟨by omega,good (by rw[eI];exact e2)⟩,by(first|omega|(dsimp only;omega)),kp⟩)
    ·have b2:t.has2=false:=b2
     rw[b2,yUe]at eI
     refine Cv.cnd.mk (fun e2=>absurd e2 (by simp)) (fun e2=>⟨j+1,by rw[w64 (by omega)];rfl,kp,⟨by omega,good (by rw[eI];rfl)⟩,by(first|omega|(dsimp only;omega)),kp⟩)
  ·obtain rfl:j=T.length:=by omega
   rw[e1,ySj (by rw[mH f2];simp)]
   exact kp
theorem books_ok:booksC.ok Tryz.prog 36:=okw mixed (gokc bP (gokc yHg (gokc z8c (gokc zOy (gokc zVx gok0))))) 0 (fun _=>[]) (fun i=>yLw i) [] Tryz.func36 yNo
theorem zUt:booksNilC.ok Tryz.prog 36:=okw (V:=z6z) mixed (gokc bP gok0) 0 (fun _=>[]) (fun _=>[]) [] Tryz.func36 fun(p:Prd) h=>by
 obtain⟨h1,h2,h3⟩:p.small:=h
 refine⟨p,?_⟩;(repeat'(first|exact rfl|exact trivial|assumption|apply And.intro|refine fun(_:Unit) (_:True)=>?_|refine Exists.intro () ?_|omega|(dsimp only;omega)))
 refine Cv.cnd.mk (fun c=> ?_) (fun c=> ?_)<;>exact kp
open Go Cv Go.Proofs
structure Mkt where
 p:Prd
 s:MSt
 used:List Int
def z6 (l:List Int):List (Value×List D):=l.map fun x=>(.int .i64 x,[.v (.bool true)])
def y7 (m:Mkt):Nat→AObj
 |0=> .cells [sV m.p.code,.own 3,zA m.p.tick,zA m.p.low,zA m.p.high,zA m.p.wide,zA m.p.rule,zA m.p.top,zA m.p.least,zA m.p.part,.own 4,.nm 1 0,.mp 2] 90
 |1=>zE m.s
 |2=> .map (z6 m.used)
 |3=> .fro 1 (iE m.p.months)
 |4=> .fro 1 (iE m.p.settle)
 |_=> .gone
def vH (m:Mkt):AObj:= .adt Mkt 5 y7 m
def newMC:Con where
 ι:=Prd
 pat:=fun p=>[prdV p]
 pre:=fun _=>[]
 cnd:=fun p=>p.small
 alts:=fun p=>[{o:=Unit,res:=fun _=> .tup [.nm 0 0,zA 0],post:=fun _=>[vH ⟨p,h9 p,[]⟩],rel:=fun _=>p.check=0},{o:=Unit,res:=fun _=> .tup [.d (.v (.pointer none)),zA p.check],post:=fun _=>[],rel:=fun _=>p.check≠0}]
def stateC:Con:=con1 Mkt (fun _=>[.nm 0 0]) (fun m=>[vH m]) (fun m=>m.s.small) (fun _=> .nm 1 0) (fun m=>[vH m,zE m.s])
open Go Cv Go.Proofs
def zDo (a:Prd) (b:Prd) (c:Unit):Prop:=True∧(0+(iE a.settle).length)*(8:Nat)≤(70368744177664:Nat)∧((∃(d:Unit),(0:Int)=(0:Int)∧sb a.code=sb a.code∧a.tick=a.tick∧a.low=a.low∧a.high=a.high∧a.wide=a.wide∧a.rule=a.rule∧a.top=a.top∧a.least=a.least∧a.part=a.part∧zE (h9 a)=zE (h9 b)∧z6 []=[]∧iE a.months=[]++iE a.months∧iE a.settle=[]++iE a.settle∧a.check=0)∨∃(c:Unit),False)
def zFn (a:Prd) (b:Prd) (c:Unit):Prop:=True∧True∧(0+(iE a.months).length)*(8:Nat)≤(70368744177664:Nat)∧zDo a b c
def zFe (a:Prd) (b:Unit):Prop:=True∧(0+(iE a.settle).length)*(8:Nat)≤(70368744177664:Nat)∧((∃(c:Unit),(0:Int)=(0:Int)∧sb a.code=sb a.code∧a.tick=a.tick∧a.low=a.low∧a.high=a.high∧a.wide=a.wide∧a.rule=a.rule∧a.top=a.top∧a.least=a.least∧a.part=a.part∧False)∨∃(b:Unit),False)
def zFy (a:Prd) (b:Unit):Prop:=True∧True∧(0+(iE a.months).length)*(8:Nat)≤(70368744177664:Nat)∧zFe a b
def yIx (p:Prd):Prop:=
 ∃(a:Prd),sb a.code=sb p.code∧iE a.months=iE p.months∧a.tick=p.tick∧a.low=p.low∧a.high=p.high∧a.wide=p.wide∧a.rule=p.rule∧a.top=p.top∧a.least=p.least∧a.part=p.part∧iE a.settle=iE p.settle∧(zS a)∧(∀(b:Unit),a.check=0→(True∧True∧((0+(iE p.months).length)*(8:Nat)≤(70368744177664:Nat)∧True∧zDo p a b)∧zFn p a b)∧True∧True∧zFn p a b)∧∀(b:Unit),a.check≠0→cnd (a.check !=0) (c8 b p a) ((True∧True∧((0+(iE p.months).length)*(8:Nat)≤(70368744177664:Nat)∧True∧zFe p b)∧zFy p b)∧True∧True∧zFy p b)
def yOe (m:Mkt):Prop:=
 ∃(i:MSt),zE i=zE m.s∧(i.books.length≤1000000∧∀(b:Book),b∈i.books→(b.a.slots.length≤1000000∧b.a.queues.length≤1000000)∧b.buys.length≤1000000∧b.sells.length≤1000000∧b.spare.length≤1000000)∧∀(o:Unit),True→∃(o:Unit),sb m.p.code=sb m.p.code∧m.p.tick=m.p.tick∧m.p.low=m.p.low∧m.p.high=m.p.high∧m.p.wide=m.p.wide∧m.p.rule=m.p.rule∧m.p.top=m.p.top∧m.p.least=m.p.least∧m.p.part=m.p.part∧zE m.s=zE i∧z6 m.used=z6 m.used∧AObj.fro 1 (iE m.p.months)=AObj.fro 1 (iE m.p.months)∧AObj.fro 1 (iE m.p.settle)=AObj.fro 1 (iE m.p.settle)∧zE m.s=zE i∧True
open Go Cv Go.Proofs
theorem state_ok:stateC.ok Tryz.prog 22:=okw (V:=yOe) mixed (gokc zCl gok0) 0 (fun _=>[]) (fun _=>[]) [0] Tryz.func22 fun(m:Mkt) h=>by
 obtain⟨h1,h2⟩:m.s.small:=h
 refine⟨m.s,rfl,⟨h1,h2⟩,fun _ _=>⟨(),?_⟩⟩
 exact kp
theorem yPo (p:Prd) (h:newMC.cnd p):yIx p:=by
 unfold yIx c8 zFy zFe zFn zDo zS
 obtain⟨h1,h2,h3⟩:p.small:=h
 refine⟨p,?_⟩
 simp only[yX]
 (repeat'(first|exact rfl|exact trivial|assumption|apply And.intro|refine fun(_:Unit) (_:True)=>?_|refine Exists.intro () ?_|omega|(dsimp only;omega)))
 ·intro _ c
  (repeat'(first|exact rfl|exact trivial|assumption|apply And.intro|refine fun(_:Unit) (_:True)=>?_|refine Exists.intro () ?_|omega|(dsimp only;omega)))
  all_goals(refine .inl ⟨(),?_⟩;(repeat'(first|exact rfl|exact trivial|assumption|apply And.intro|refine fun(_:Unit) (_:True)=>?_|refine Exists.intro () ?_|omega|(dsimp only;omega))))
 ·intro _ c
  refine Cv.cnd.mk (fun e=> .inr ⟨(),trivial,kp,c⟩) (fun e=>absurd (by simpa using e) c)
theorem newM_ok:newMC.ok Tryz.prog 10:=okw mixed (gokc yDz gok0) 0 (fun _=>[]) (fun _=>[]) [] Tryz.func10 yPo
open Go Cv Go.Proofs
structure Ledger where
 p:Prd
 left:List (Int×Int)
 inst:List (Int×Int)
 traded:List Int
 net:List Int
def yHa (l:Ledger):Nat→AObj
 |0=> .cells [sV l.p.code,.own 5,zA l.p.tick,zA l.p.low,zA l.p.high,zA l.p.wide,zA l.p.rule,zA l.p.top,zA l.p.least,zA l.p.part,.own 6,.mp 1,.mp 2,.own 3,.own 4] 124
 |1=> .map (zV l.left)
 |2=> .map (zV l.inst)
 |3=> .own 2 1 (iE l.traded)
 |4=> .own 2 1 (iE l.net)
 |5=> .fro 1 (iE l.p.months)
 |6=> .fro 1 (iE l.p.settle)
 |_=> .gone
def yE (l:Ledger):AObj:= .adt Ledger 7 yHa l
def qV (p:Prd):Ledger:=⟨p,[],[],List.replicate p.count 0,List.replicate p.count 0⟩
def clIntRC:Con:=con1 (List Int) (fun l=>[iV l]) (fun _=>[]) (fun l=>l.length≤1000000) (fun l=>iV l) (fun _=>[])
def newLC:Con where
 ι:=Prd
 pat:=fun p=>[prdV p]
 pre:=fun _=>[]
 cnd:=fun p=>p.small
 alts:=fun p=>[{o:=Unit,res:=fun _=> .tup [.nm 0 0,zA 0],post:=fun _=>[yE (qV p)],rel:=fun _=>p.check=0},{o:=Unit,res:=fun _=> .tup [.d (.v (.pointer none)),zA p.check],post:=fun _=>[],rel:=fun _=>p.check≠0}]
structure WiI where
 n:Int
 lo:Int
 hi:Int
def zJ (n lo hi:Int):Int:=lo+n % (hi-lo+1)
def withinC:Con:=con1 WiI (fun i=>[zA i.n,zA i.lo,zA i.hi]) (fun _=>[]) (fun i=>yZ i.n∧-1000000≤i.lo∧i.lo≤i.hi∧i.hi≤1000000) (fun i=>zA (zJ i.n i.lo i.hi)) (fun _=>[])
def uX (rule:Int):Prd:=⟨[67,76],[320,321,323],5,0,1000,200,rule,4,2,40,[500,505,490]⟩
def threeC:Con:=con1 Int (fun n=>[zA n]) (fun _=>[]) (fun _=>True) (fun n=>prdV (uX n)) (fun _=>[])
open Go Cv Go.Proofs
def yFb (l:List Int):Prop:=
 ∀(b:Bool),(b=true→iE l=[])→cnd b (∃(o:Unit),iE l=[]∧True) ((0+(iE l).length)*(8:Nat)≤(70368744177664:Nat)∧∃(o:Unit),iE l=[]++iE l∧True)
def z5o (l:List Int):Prop:=
 ∀(b:Bool),(b=true→iE l=[])→cnd b (∃(o:Unit),iE l=[]∧True) ((0+(iE l).length)*(8:Nat)≤(70368744177664:Nat)∧∃(o:Unit),iE l=[]++iE l∧True)
def dK (a:Prd):Prop:=0≤(↑a.count:Int)∧(↑a.count:Int)≤(↑a.count:Int)∧(↑a.count:Int)≤9223372036854775807∧(↑(8:Nat):Int)*(↑a.count:Int)≤2 ^ (48:Nat)
def jZ (a:Prd):Prop:=sb a.code=sb a.code∧True∧a.tick=a.tick∧a.low=a.low∧a.high=a.high∧a.wide=a.wide∧a.rule=a.rule∧a.top=a.top∧a.least=a.least∧a.part=a.part∧True∧True
def zKn (a:Prd) (b:Prd) (c:List Int) (d:List Int) (e:Unit):Prop:=(jZ a)∧((∃(f:Unit),(0:Int)=(0:Int)∧sb a.code=sb a.code∧a.tick=a.tick∧a.low=a.low∧a.high=a.high∧a.wide=a.wide∧a.rule=a.rule∧a.top=a.top∧a.least=a.least∧a.part=a.part∧zV []=[]∧zV []=[]∧iE (List.replicate a.count 0)=List.replicate (↑b.count:Int).toNat [dI 0]∧iE (List.replicate a.count 0)=List.replicate (↑b.count:Int).toNat [dI 0]∧AObj.fro 1 (iE a.months)=AObj.fro 1 (iE c)∧AObj.fro 1 (iE a.settle)=AObj.fro 1 (iE d)∧a.check=0)∨∃(e:Unit),False)
def zJv (a:Prd) (b:Prd) (c:List Int) (d:List Int) (e:Unit):Prop:=(jZ a)∧(dK b)∧zKn a b c d e
def zDg (a:Prd) (b:Prd) (c:List Int) (d:List Int) (e:Unit):Prop:=(jZ a)∧zKn a b c d e
def zCk (a:Prd) (b:Prd) (c:List Int) (d:List Int) (e:Unit):Prop:=(jZ a)∧(zJv a b c d e)∧(dK b)∧zDg a b c d e
def zMo (a:Prd) (b:Prd) (c:List Int) (d:List Int) (e:Unit):Prop:=(dK a)∧zCk b a c d e
def zKc (a:Prd) (b:Prd) (c:List Int) (d:List Int) (e:Unit):Prop:=(dK a)∧zJv b a c d e
def zRo (a:Prd) (b:Prd) (c:List Int) (d:List Int) (e:Unit):Prop:=(jZ a)∧((jZ a)∧(zKc b a c d e)∧zKc b a c d e)∧(zMo b a c d e)∧zMo b a c d e
def zSg (a:Prd) (b:Prd) (c:List Int) (d:List Int) (e:Unit):Prop:=(dK a)∧(jZ b)∧(zCk b a c d e)∧(zCk b a c d e)∧(dK a)∧(jZ b)∧(zDg b a c d e)∧zDg b a c d e
def yJi (p:Prd):Prop:=
 ∃(a:Prd),sb a.code=sb p.code∧iE a.months=iE p.months∧a.tick=p.tick∧a.low=p.low∧a.high=p.high∧a.wide=p.wide∧a.rule=p.rule∧a.top=p.top∧a.least=p.least∧a.part=p.part∧iE a.settle=iE p.settle∧(zS a)∧∀(b:Unit),True→cnd (a.check !=0) (c8 b p a) (∃(c:Prd),sb c.code=sb p.code∧iE c.months=iE p.months∧c.tick=p.tick∧c.low=p.low∧c.high=p.high∧c.wide=p.wide∧c.rule=p.rule∧c.top=p.top∧c.least=p.least∧c.part=p.part∧iE c.settle=iE p.settle∧(zS c)∧∀(d:Unit),True→∃(e:List Int),iE e=iE p.months∧e.length≤1000000∧∀(f:Unit),True→True∧∃(g:List Int),iE g=iE p.settle∧g.length≤1000000∧∀(h:Unit),True→(zRo p c e g h)∧(zRo p c e g h)∧(zSg c p e g h)∧zSg c p e g h)
def aO (a:WiI):=(IntKind.i64.wrap (IntKind.i64.wrap (a.hi-a.lo)+1))
def z0y (i:WiI):Prop:=
 IntKind.i64=IntKind.i64∧IntKind.i64.wrap (IntKind.i64.wrap (i.hi-i.lo)+1)≠0∧cnd (decide (i.n.tmod (aO i)<0)) (∃(a:Unit),zJ i.n i.lo i.hi=IntKind.i64.wrap (i.lo+IntKind.i64.wrap (IntKind.i64.wrap (IntKind.i64.wrap (i.n.tmod (aO i)+i.hi)-i.lo)+1))∧True) (∃(a:Unit),zJ i.n i.lo i.hi=IntKind.i64.wrap (i.lo+i.n.tmod (aO i))∧True)
def yBt (n:Int):Prop:=
 ∃(a:Unit),sb [(67:UInt8),(76:UInt8)]=ByteArray.mk #[(67:UInt8),(76:UInt8)]∧iE [(320:Int),(321:Int),(323:Int)]=[[dI 320],[dI 321],[dI 323]]∧(5:Int)=(5:Int)∧(0:Int)=(0:Int)∧(1000:Int)=(1000:Int)∧(200:Int)=(200:Int)∧n=n∧(4:Int)=(4:Int)∧(2:Int)=(2:Int)∧(40:Int)=(40:Int)∧iE [(500:Int),(505:Int),(490:Int)]=[[dI 500],[dI 505],[dI 490]]∧True
open Go Cv Go.Proofs
theorem z6g:clIntRC.ok Tryz.prog 58:=okw (V:=yFb) mixed gok0 0 (fun _=>[]) (fun _=>[]) [] Tryz.func58 fun(l:List Int) h=>by
 have h:l.length≤1000000:=h
 exact fun b hb=>Cv.cnd.mk (fun e=>⟨(),hb e,trivial⟩) (fun _=>⟨by rw[yTn,yX];omega,(),rfl,trivial⟩)
theorem zVj:clIntRC.ok Tryz.prog 59:=okw (V:=z5o) mixed gok0 0 (fun _=>[]) (fun _=>[]) [] Tryz.func59 fun(l:List Int) h=>by
 have h:l.length≤1000000:=h
 exact fun b hb=>Cv.cnd.mk (fun e=>⟨(),hb e,trivial⟩) (fun _=>⟨by rw[yTn,yX];omega,(),rfl,trivial⟩)
theorem yAz:threeC.ok Tryz.prog 11:=okw (V:=yBt) mixed gok0 0 (fun _=>[]) (fun _=>[]) [] Tryz.func11 fun(n:Int) _=>by
 unfold yBt dI;exact kp
theorem yHf (i:WiI) (h:withinC.cnd i):z0y i:=by
 obtain⟨⟨a1,a2⟩,a3,a4,a5⟩:yZ i.n∧-1000000≤i.lo∧i.lo≤i.hi∧i.hi≤1000000:=h
 unfold z0y aO
 rw[w64 (x:=i.hi-i.lo) (by omega),w64 (x:=i.hi-i.lo+1) (by omega)]
 obtain⟨d,hd⟩:∃d:Int,i.hi-i.lo+1=d:=⟨_,rfl⟩
 rw[hd]
 have h1:i.n.tmod d=if 0≤i.n then i.n % d else-((-i.n) % d):=by
  split
  ·rename_i h;rw[Int.tmod_eq_emod_of_nonneg h]
  ·rename_i h
   have:i.n= -(-i.n):=by omega
   conv=>lhs;rw[this]
   rw[Int.neg_tmod,Int.tmod_eq_emod_of_nonneg (by omega)]
 have hb1:=Int.emod_nonneg i.n (show d≠0 by omega)
 have hb2:=Int.emod_lt_of_pos i.n (show 0<d by omega)
 have hb3:=Int.emod_nonneg (-i.n) (show d≠0 by omega)
 have hb4:=Int.emod_lt_of_pos (-i.n) (show 0<d by omega)
 have key:i.n.tmod d<0→i.n % d=i.n.tmod d+d:=fun hneg=>by
  have:=Int.emod_eq_of_lt (a:=i.n.tmod d+d) (b:=d) (by rw[h1]at hneg ⊢;split at hneg<;>split<;>omega) (by omega)
  rw[← this,Int.add_emod_right]
  have e:=Int.tmod_add_mul_tdiv i.n d
  conv=>lhs;rw[← e]
  rw[Int.add_mul_emod_self_left]
 have key2:¬i.n.tmod d<0→i.n % d=i.n.tmod d:=fun hneg=>by
  have hlt:i.n.tmod d<d:=by rw[h1];split<;>omega
  have:=Int.emod_eq_of_lt (a:=i.n.tmod d) (b:=d) (by omega) hlt
  rw[← this]
  have e:=Int.tmod_add_mul_tdiv i.n d
  conv=>lhs;rw[← e]
  rw[Int.add_mul_emod_self_left]
 refine⟨rfl,by omega,zL (fun c=>⟨(),?_,trivial⟩) (fun c=>⟨(),?_,trivial⟩)⟩
 ·have k:=key c
  rw[zJ,hd,k]
  rw[w64 (x:=i.n.tmod d+i.hi) (by omega),w64 (x:=i.n.tmod d+i.hi-i.lo) (by omega),w64 (x:=i.n.tmod d+i.hi-i.lo+1) (by omega),w64 (by omega)]
  omega
 ·have k:=key2 c
  rw[zJ,hd,k,w64 (by omega)]
theorem zPo:withinC.ok Tryz.prog 12:=okw mixed gok0 0 (fun _=>[]) (fun _=>[]) [] Tryz.func12 yHf
theorem yQe (p:Prd) (h:newLC.cnd p):yJi p:=by
 unfold yJi c8 zSg zRo zKc zMo zCk zDg zJv zKn jZ dK zS dI
 obtain⟨h1,h2,h3⟩:p.small:=h
 have p48:(2:Int) ^ (48:Nat)=281474976710656:=by decide
 refine⟨p,?_⟩
 simp only[yX,p48]
 (repeat'(first|exact rfl|exact trivial|assumption|apply And.intro|refine fun(_:Unit) (_:True)=>?_|refine Exists.intro () ?_|omega|(dsimp only;omega)))
 refine Cv.cnd.mk (fun c=> .inr ⟨(),trivial,kp,by simpa using c⟩) fun c=> ?_
 have c:p.check=0:=by simpa using c
 have m6:=(qM c).m6
 have s1:=(qM c).s1
 have hc:=xQ p
 have er:iE (List.replicate p.count 0)=List.replicate p.count [D.v (.int .i64 0)]:=by rw[iE,yYa]
 refine⟨p,?_⟩
 (repeat'(first|exact rfl|exact trivial|assumption|apply And.intro|refine fun(_:Unit) (_:True)=>?_|refine Exists.intro () ?_|omega|(dsimp only;omega)))
 refine⟨p.months,?_⟩
 (repeat'(first|exact rfl|exact trivial|assumption|apply And.intro|refine fun(_:Unit) (_:True)=>?_|refine Exists.intro () ?_|omega|(dsimp only;omega)))
 refine⟨p.settle,?_⟩
 (repeat'(first|exact rfl|exact trivial|assumption|apply And.intro|refine fun(_:Unit) (_:True)=>?_|refine Exists.intro () ?_|omega|(dsimp only;omega)))
 all_goals(refine .inl ⟨(),?_⟩;(repeat'(first|exact rfl|exact trivial|assumption|apply And.intro|refine fun(_:Unit) (_:True)=>?_|refine Exists.intro () ?_|omega|(dsimp only;omega))))
 all_goals(simp only[qV,er,ySy])
theorem newL_ok:newLC.ok Tryz.prog 33:=okw mixed (gokc bP (gokc bF (gokc z6g (gokc zVj gok0)))) 0 (fun _=>[]) (fun _=>[]) [] Tryz.func33 yQe
open Go Cv Go.Proofs
structure LgN where
 l:Ledger
 n:Int
def qK (l:List (Int×Int)) (k:Int):Option Int:=(l.find? fun x=>decide (x.1=k)).map (·.2)
def Ledger.isB (l:Ledger) (n:Int):Bool:=decide (0≤n) && decide (n<l.traded.length)
def Ledger.at (l:Ledger) (v:List Int) (n:Int):Int:=if l.isB n then v.getD n.toNat 0 else 0
@[reducible] def Ledger.ok (l:Ledger):Prop:=l.traded.length≤1000000∧l.net.length=l.traded.length
def lnetC:Con:=con1 LgN (fun i=>[.nm 0 0,zA i.n]) (fun i=>[yE i.l]) (fun i=>i.l.ok) (fun i=>zA (i.l.at i.l.net i.n)) (fun i=>[yE i.l])
def lleftC:Con:=con1 LgN (fun i=>[.nm 0 0,zA i.n]) (fun i=>[yE i.l]) (fun _=>True) (fun i=> .tup [zA ((qK i.l.left i.n).getD 0),yP (qK i.l.left i.n).isSome]) (fun i=>[yE i.l])
open Go Cv Go.Proofs
def zFx (a:LgN):Prop:=sb a.l.p.code=sb a.l.p.code∧a.l.p.tick=a.l.p.tick∧a.l.p.low=a.l.p.low∧a.l.p.high=a.l.p.high∧a.l.p.wide=a.l.p.wide∧a.l.p.rule=a.l.p.rule∧a.l.p.top=a.l.p.top∧a.l.p.least=a.l.p.least∧a.l.p.part=a.l.p.part∧zV a.l.left=zV a.l.left∧zV a.l.inst=zV a.l.inst∧iE a.l.traded=iE a.l.traded∧iE a.l.net=iE a.l.net∧AObj.fro 1 (iE a.l.p.months)=AObj.fro 1 (iE a.l.p.months)∧AObj.fro 1 (iE a.l.p.settle)=AObj.fro 1 (iE a.l.p.settle)∧True
def zJz (a:LgN):Prop:=∃(b:Unit),a.l.at a.l.net a.n=0∧zFx a
def yIl (i:LgN):Prop:=
 cnd (decide (i.n≥0)) (cnd (!decide (i.n<(↑(iE i.l.traded).length:Int))) (zJz i) ((0≤i.n∧i.n<(↑(iE i.l.net).length:Int))∧∃(a:Int),zF (iE i.l.net) i.n.toNat 0 1=some [dI a]∧∃(b:Unit),i.l.at i.l.net i.n=a∧zFx i)) (zJz i)
def yNz (i:LgN):Prop:=
 (∀(p:Value×List D),p∈zV i.l.left→like (Value.int IntKind.i64 i.n) p.fst=true)∧∃(b:Bool),∃(n:Int),(j8 (Value.int IntKind.i64 i.n) (zV i.l.left)=some [D.v (.int .i64 n)]∧b=true∨j8 (Value.int IntKind.i64 i.n) (zV i.l.left)=none∧[D.v (.int .i64 n)]=[D.v (.int .i64 0)]∧b=false)∧∃(o:Unit),(qK i.l.left i.n).getD 0=n∧(qK i.l.left i.n).isSome=b∧sb i.l.p.code=sb i.l.p.code∧i.l.p.tick=i.l.p.tick∧i.l.p.low=i.l.p.low∧i.l.p.high=i.l.p.high∧i.l.p.wide=i.l.p.wide∧i.l.p.rule=i.l.p.rule∧i.l.p.top=i.l.p.top∧i.l.p.least=i.l.p.least∧i.l.p.part=i.l.p.part∧zV i.l.left=zV i.l.left∧zV i.l.inst=zV i.l.inst∧iE i.l.traded=iE i.l.traded∧iE i.l.net=iE i.l.net∧AObj.fro 1 (iE i.l.p.months)=AObj.fro 1 (iE i.l.p.months)∧AObj.fro 1 (iE i.l.p.settle)=AObj.fro 1 (iE i.l.p.settle)∧True
open Go Cv Go.Proofs
theorem zVe (l:List (Int×Int)) (k:Int):∀p∈zV l,like (Value.int IntKind.i64 k) p.1=true:=by
 intro p hp
 obtain⟨x,_,rfl⟩:=yTk.1 hp
 rfl
theorem bH (k:Int):∀l:List (Int×Int),j8 (Value.int IntKind.i64 k) (zV l)=(qK l k).map fun v=>[D.v (.int .i64 v)]
 |[]=>rfl
 |(a,v)::l=>by
  have ih:=bH k l
  show(bif (keq .i64 .i64 && decide (k=a))then _ else j8 _ (zV l))=_
  by_cases h:k=a
  ·subst h;simp[qK,keq]
  ·have h':¬a=k:=fun e=>h e.symm
   rw[show(keq .i64 .i64 && decide (k=a))=false by simp[h],cond_false,ih]
   simp[qK,yYl,h']
theorem lleft_ok:lleftC.ok Tryz.prog 35:=okw (V:=yNz) mixed gok0 0 (fun _=>[]) (fun _=>[]) [0] Tryz.func35 fun(i:LgN) _=>by
 refine⟨zVe _ _,(qK i.l.left i.n).isSome,(qK i.l.left i.n).getD 0,?_,?_⟩
 ·rw[bH]
  cases qK i.l.left i.n with
  |none=>exact .inr ⟨rfl,rfl,rfl⟩
  |some v=>exact .inl ⟨rfl,rfl⟩
 ·exact kp
theorem yQa (i:LgN) (h:lnetC.cnd i):yIl i:=by
 obtain⟨h1,h2⟩:i.l.ok:=h
 unfold yIl zJz zFx dI
 simp only[yX]
 refine zL (fun c=>Cv.cnd.mk (fun d=> ?_) (fun d=> ?_)) (fun c=> ?_)
 ·have d:¬i.n<(i.l.traded.length:Int):=by simpa using d
  rw[Ledger.at,Ledger.isB,ySu d]
  simp only[yXa,ySz,if_false];exact kp
 ·have d:i.n<(i.l.traded.length:Int):=by simpa using d
  obtain⟨v,hv⟩:=z9 (l:=i.l.net) (i:=i.n.toNat) (by omega)
  refine⟨⟨by omega,by omega⟩,v,elI hv,?_⟩
  rw[Ledger.at,Ledger.isB,yTd d,yTd (show 0≤i.n by omega),yTr,ySk rfl,ySn,hv]
  exact kp
 ·rw[Ledger.at,Ledger.isB,ySu (show ¬0≤i.n by omega)]
  simp only[yUe,ySz,if_false];exact kp
theorem z2u:lnetC.ok Tryz.prog 57:=okw mixed gok0 1 (fun _=>[]) (fun _=>[]) [0] Tryz.func57 yQa
open Go Cv Go.Proofs
structure Rep where
 kind:Int
 id:Int
 inst:Int
 side:Int
 price:Int
 qty:Int
 left:Int
 why:Int
 deriving DecidableEq
@[reducible] def yOl (r:Rep):V:= .agg [zA r.kind,zA r.id,zA r.inst,zA r.side,zA r.price,zA r.qty,zA r.left,zA r.why]
def yG (r:Rep):List D:=[.v (.int .i64 r.kind),.v (.int .i64 r.id),.v (.int .i64 r.inst),.v (.int .i64 r.side),.v (.int .i64 r.price),.v (.int .i64 r.qty),.v (.int .i64 r.left),.v (.int .i64 r.why)]
def fA (k v:Int):List (Int×Int)→List (Int×Int)
 |[]=>[(k,v)]
 |(a,b)::l=>if k=a then(a,v)::l else(a,b)::fA k v l
def zEb (k:Int):List (Int×Int)→List (Int×Int)
 |[]=>[]
 |(a,b)::l=>if k=a then l else(a,b)::zEb k l
def Ledger.acc (l:Ledger) (r:Rep):Ledger×Int:=
 if(qK l.left r.id).isSome=true then(l,25)else if r.qty<1∨r.qty≠r.left then(l,24)else({l with left:=fA r.id r.left l.left,inst:=fA r.id r.inst l.inst},0)
def Ledger.own (l:Ledger) (id:Int):Int:=(qK l.inst id).getD 0
def Ledger.legB (l:Ledger) (id inst:Int):Bool:=(qK l.inst id).isSome && ((l.p.legs (l.own id)).2.2 && (decide (inst=(l.p.legs (l.own id)).1)||decide (inst=(l.p.legs (l.own id)).2.1)))
def e8 (l:List Int) (n:Nat) (x:Int):List Int:=l.set n (IntKind.i64.wrap (l.getD n 0+x))
def zQm (l:List Int) (n:Nat) (x:Int):List Int:=l.set n (IntKind.i64.wrap (l.getD n 0-x))
def Ledger.trade (l:Ledger) (r:Rep):Ledger:={l with traded:=e8 l.traded r.inst.toNat r.qty,net:=if r.side=1 then e8 l.net r.inst.toNat r.qty else if r.side=2 then zQm l.net r.inst.toNat r.qty else l.net}
def Ledger.close (l:Ledger) (id n:Int):Ledger:={l with left:=if n=0 then zEb id (fA id n l.left)else fA id n l.left}
def Rep.badK (r:Rep):Bool:=decide (r.kind<1)||decide (r.kind>5)
def Ledger.isLeg (l:Ledger) (r:Rep):Bool:=decide (r.kind=3) && l.legB r.id r.inst
def Ledger.e1 (l:Ledger) (r:Rep):Bool:=decide (r.kind=3) && decide (r.inst≠l.own r.id)
def Rep.e2 (r:Rep) (left:Int):Bool:=decide (r.kind=3) && (decide (r.qty<1)||(decide (r.qty>left)||decide (r.left≠IntKind.i64.wrap (left-r.qty))))
def Rep.e3 (r:Rep) (left:Int):Bool:=decide (r.kind=4) && decide (r.qty≠left)
def Rep.e4 (r:Rep) (left:Int):Bool:=decide (r.kind=5) && (decide (r.qty<0)||(decide (r.qty≥left)||decide (r.left≠IntKind.i64.wrap (left-r.qty))))
def Ledger.done (l:Ledger) (r:Rep):Ledger:=
 if r.kind=3 then(l.trade r).close r.id r.left else if r.kind=4 then l.close r.id 0 else l.close r.id r.left
def Ledger.add (l:Ledger) (r:Rep):Ledger×Int:=
 if r.badK=true then(l,31)else if r.kind=2 then(l,0)else if l.isB r.inst=false then(l,20)else if r.kind=1 then l.acc r
 else if l.isLeg r=true then(if r.qty<1 then(l,24)else(l.trade r,0))
 else match qK l.left r.id with
  |none=>(l,26)
  |some left=>if l.e1 r=true then(l,20)else if r.e2 left=true then(l,24)else if r.e3 left=true then(l,24)else if r.e4 left=true then(l,24)else(l.done r,0)
structure LgR where
 l:Ledger
 r:Rep
@[reducible] def Ledger.fit (l:Ledger):Prop:=l.ok∧l.p.small
def laddC:Con:=con1 LgR (fun i=>[.nm 0 0,yOl i.r]) (fun i=>[yE i.l]) (fun i=>i.l.fit) (fun i=>zA (i.l.add i.r).2) (fun i=>[yE (i.l.add i.r).1])
def Ledger.addAll:Ledger→List Rep→Ledger×Int
 |l,[]=>(l,0)
 |l,r::t=>if(l.add r).2≠0 then l.add r else Ledger.addAll (l.add r).1 t
def xE (p:Prd) (l:List Rep):Int:=
 if p.check≠0 then p.check else if((qV p).addAll l).2≠0 then((qV p).addAll l).2 else if(List.range p.months.length).any (fun n=>decide (((qV p).addAll l).1.at ((qV p).addAll l).1.net n≠0))then 21 else 0
structure RpI where
 p:Prd
 l:List Rep
def reportsC:Con:=con1 RpI (fun i=>[prdV i.p,roV 8 (i.l.map yG)]) (fun _=>[]) (fun i=>i.p.small∧i.l.length≤1099511627776) (fun i=>zA (xE i.p i.l)) (fun _=>[])
def zXr (i:RpI):List SAnn:=[
 {ι:=Nat,slots:=fun j=>[(5,.nm 0 0),(21,zA j)],rows:=fun j=>[yE ((qV i.p).addAll (i.l.take j)).1]},
 {ι:=Nat,slots:=fun j=>[(35,zA j)],rows:=fun _=>[]}]
def known25C:Con:=con1 Unit (fun _=>[]) (fun _=>[]) (fun _=>True) (fun _=>yP true) (fun _=>[])
def bj (t:Nat):SAnn:={ι:=Bool,slots:=fun b=>[(t,yP b)],rows:=fun _=>[]}
def ij (t:Nat):SAnn:={ι:=Int,slots:=fun n=>[(t,zA n)],rows:=fun _=>[]}
def yPz:List (Nat×SAnn):=[(4,bj 7),(20,bj 20),(36,bj 43),(68,bj 63),(76,bj 79),(84,bj 103),(92,bj 113)]
open Go Cv Go.Proofs
def uY (a:Bool→Prop) (b:Bool) (c:LgR):Prop:=a b∧Sx.AObj.cells [V.d (dI c.r.kind),V.d (dI c.r.id),V.d (dI c.r.inst),V.d (dI c.r.side),V.d (dI c.r.price),V.d (dI c.r.qty),V.d (dI c.r.left),V.d (dI c.r.why)] 41=Sx.AObj.cells [V.d (dI c.r.kind),V.d (dI c.r.id),V.d (dI c.r.inst),V.d (dI c.r.side),V.d (dI c.r.price),V.d (dI c.r.qty),V.d (dI c.r.left),V.d (dI c.r.why)] 41∧Sx.AObj.cells (gC (jB 0 1 7) [sV c.l.p.code,V.own 5,zA c.l.p.tick,zA c.l.p.low,zA c.l.p.high,zA c.l.p.wide,zA c.l.p.rule,zA c.l.p.top,zA c.l.p.least,zA c.l.p.part,V.own 6,V.mp 1,V.mp 2,V.own 3,V.own 4]) (124:TypeId)=Sx.AObj.cells (gC (jB 0 1 7) [sV c.l.p.code,V.own 5,zA c.l.p.tick,zA c.l.p.low,zA c.l.p.high,zA c.l.p.wide,zA c.l.p.rule,zA c.l.p.top,zA c.l.p.least,zA c.l.p.part,V.own 6,V.mp 1,V.mp 2,V.own 3,V.own 4]) (124:TypeId)∧Sx.AObj.map (zV c.l.left)=Sx.AObj.map (zV c.l.left)∧Sx.AObj.map (zV c.l.inst)=Sx.AObj.map (zV c.l.inst)∧AObj.own 2 1 (iE c.l.traded)=AObj.own 2 1 (iE c.l.traded)∧AObj.own 2 1 (iE c.l.net)=AObj.own 2 1 (iE c.l.net)∧AObj.fro 1 (iE c.l.p.months)=AObj.fro 1 (iE c.l.p.months)∧AObj.fro 1 (iE c.l.p.settle)=AObj.fro 1 (iE c.l.p.settle)
def zJb (a:LgR) (b:Int) (c:Bool→Prop):Prop:=∃(d:Bool),d=(a.r.left !=IntKind.i64.wrap (b-a.r.qty))∧uY c d a
def cC (a:Bool→Prop) (b:LgR):Prop:=∃(c:Bool),c=false∧uY a c b
def aE (a:Bool→Prop) (b:LgR):Prop:=∃(c:Bool),c=true∧uY a c b
def eL (a:LgR):Prop:=AObj.fro 1 (iE (a.l.add a.r).fst.p.months)=AObj.fro 1 (iE a.l.p.months)∧AObj.fro 1 (iE (a.l.add a.r).fst.p.settle)=AObj.fro 1 (iE a.l.p.settle)∧True
def zEe (a:LgR):Prop:=iE (a.l.add a.r).fst.net=iE a.l.net∧eL a
def zFp (a:LgR):Prop:=iE (a.l.add a.r).fst.traded=iE a.l.traded∧zEe a
def mJ (a:LgR):Prop:=zV (a.l.add a.r).fst.inst=zV a.l.inst∧zFp a
def bR (a:LgR):Prop:=sb (a.l.add a.r).fst.p.code=sb a.l.p.code∧(a.l.add a.r).fst.p.tick=a.l.p.tick∧(a.l.add a.r).fst.p.low=a.l.p.low∧(a.l.add a.r).fst.p.high=a.l.p.high∧(a.l.add a.r).fst.p.wide=a.l.p.wide∧(a.l.add a.r).fst.p.rule=a.l.p.rule∧(a.l.add a.r).fst.p.top=a.l.p.top∧(a.l.add a.r).fst.p.least=a.l.p.least∧(a.l.add a.r).fst.p.part=a.l.p.part∧zV (a.l.add a.r).fst.left=zV a.l.left∧mJ a
def bY (a:LgR):Prop:=∃(b:Unit),(a.l.add a.r).snd=24∧bR a
def zJs (a:LgR):Prop:=∃(b:Unit),(a.l.add a.r).snd=20∧bR a
def tH (a:LgR) (b:Int) (c:Int):Prop:=zV (a.l.add a.r).fst.inst=zV a.l.inst∧iE (a.l.add a.r).fst.traded=yB (iE a.l.traded) a.r.inst.toNat 0 [dI (IntKind.i64.wrap (b+a.r.qty))]∧iE (a.l.add a.r).fst.net=yB (iE a.l.net) a.r.inst.toNat 0 [dI (IntKind.i64.wrap (c-a.r.qty))]∧eL a
def eE (a:LgR) (b:Int) (c:Int):Prop:=zV (a.l.add a.r).fst.inst=zV a.l.inst∧iE (a.l.add a.r).fst.traded=yB (iE a.l.traded) a.r.inst.toNat 0 [dI (IntKind.i64.wrap (b+a.r.qty))]∧iE (a.l.add a.r).fst.net=yB (iE a.l.net) a.r.inst.toNat 0 [dI (IntKind.i64.wrap (c+a.r.qty))]∧eL a
def tJ (a:LgR) (b:Int):Prop:=zV (a.l.add a.r).fst.inst=zV a.l.inst∧iE (a.l.add a.r).fst.traded=yB (iE a.l.traded) a.r.inst.toNat 0 [dI (IntKind.i64.wrap (b+a.r.qty))]∧zEe a
def eK (a:LgR) (b:Int) (c:Bool):Prop:=j8 (Value.int IntKind.i64 a.r.id) (zV a.l.left)=some [dI b]∧c=true∨j8 (Value.int IntKind.i64 a.r.id) (zV a.l.left)=none∧[dI b]=[dI 0]∧c=false
def eG (a:LgR) (b:Int) (c:Bool):Prop:=j8 (Value.int IntKind.i64 a.r.id) (zV a.l.inst)=some [dI b]∧c=true∨j8 (Value.int IntKind.i64 a.r.id) (zV a.l.inst)=none∧[dI b]=[dI 0]∧c=false
def mA (a:LgR):Prop:=∀(b:Value×List D),b∈jL (Value.int IntKind.i64 a.r.id) [dI a.r.left] (zV a.l.left)→like (Value.int IntKind.i64 a.r.id) b.fst=true
def v8 (a:LgR):Prop:=∀(b:Value×List D),b∈zV a.l.left→like (Value.int IntKind.i64 a.r.id) b.fst=true
def tL (a:LgR):Prop:=∀(b:Value×List D),b∈zV a.l.inst→like (Value.int IntKind.i64 a.r.id) b.fst=true
def aZ (a:LgR):Prop:=0≤a.r.inst∧a.r.inst<(↑(iE a.l.traded).length:Int)
def mW (a:LgR):=(jL (Value.int IntKind.i64 a.r.id) [dI a.r.left] (zV a.l.left))
def uF (a:LgR):=(↑(iE a.l.net).length:Int)
def yId (i:LgR):Prop:=
 ∃(a:Bool),∃(b:Bool→Prop),cnd (decide (i.r.kind<1)) (aE b i) (∃(c:Bool),c=decide (i.r.kind>5)∧uY b c i)∧∀(c:Bool),b c→cnd c (∃(d:Unit),(i.l.add i.r).snd=31∧bR i) (cnd (i.r.kind==2) (∃(d:Unit),(i.l.add i.r).snd=0∧bR i) (∃(d:Bool),∃(e:Bool→Prop),cnd (decide (i.r.inst≥0)) (∃(f:Bool),f=!decide (i.r.inst<(↑(iE i.l.traded).length:Int))∧uY e f i) (∃(f:Bool),f=!false∧uY e f i)∧∀(f:Bool),e f→cnd f (zJs i) (cnd (i.r.kind==1) ((v8 i)∧∃(g:Bool),∃(h:Int),(eK i h g)∧cnd g (∃(j:Unit),(i.l.add i.r).snd=25∧bR i) (cnd (decide (i.r.qty<1)) (bY i) (cnd (i.r.qty !=i.r.left) (bY i) ((v8 i)∧∃(j:Bool),∃(k:Int),(eK i k j)∧∀(l:Int),i.r.inst=i.r.inst∧i.r.left=i.r.left∧i.r.id=i.r.id∧l=l∧(∀(m:Value×List D),m∈jL (Value.int IntKind.i64 i.r.id) [dI k] (zV i.l.left)→like (Value.int IntKind.i64 i.r.id) m.fst=true)∧i.r.inst=i.r.inst∧i.r.id=i.r.id∧(tL i)∧∃(m:Bool),∃(n:Int),(eG i n m)∧∀(p:Int),i.r.inst=i.r.inst∧p=p∧(∀(q:Value×List D),q∈jL (Value.int IntKind.i64 i.r.id) [dI n] (zV i.l.inst)→like (Value.int IntKind.i64 i.r.id) q.fst=true)∧∃(q:Unit),(i.l.add i.r).snd=0∧sb (i.l.add i.r).fst.p.code=sb i.l.p.code∧(i.l.add i.r).fst.p.tick=i.l.p.tick∧(i.l.add i.r).fst.p.low=i.l.p.low∧(i.l.add i.r).fst.p.high=i.l.p.high∧(i.l.add i.r).fst.p.wide=i.l.p.wide∧(i.l.add i.r).fst.p.rule=i.l.p.rule∧(i.l.add i.r).fst.p.top=i.l.p.top∧(i.l.add i.r).fst.p.least=i.l.p.least∧(i.l.add i.r).fst.p.part=i.l.p.part∧zV (i.l.add i.r).fst.left=jL (Value.int IntKind.i64 i.r.id) [dI i.r.left] (jL (Value.int IntKind.i64 i.r.id) [dI k] (zV i.l.left))∧zV (i.l.add i.r).fst.inst=jL (Value.int IntKind.i64 i.r.id) [dI i.r.inst] (jL (Value.int IntKind.i64 i.r.id) [dI n] (zV i.l.inst))∧zFp i)))) (∃(g:Bool),∃(h:Bool→Prop),cnd (i.r.kind==3) ((tL i)∧∃(j:Bool),∃(k:Int),(eG i k j)∧∃(l:dP),sb l.p.code=sb i.l.p.code∧iE l.p.months=iE i.l.p.months∧l.p.tick=i.l.p.tick∧l.p.low=i.l.p.low∧l.p.high=i.l.p.high∧l.p.wide=i.l.p.wide∧l.p.rule=i.l.p.rule∧l.p.top=i.l.p.top∧l.p.least=i.l.p.least∧l.p.part=i.l.p.part∧iE l.p.settle=iE i.l.p.settle∧l.n=k∧(qX l)∧∀(m:Unit),True→cnd j (cnd (l.p.legs l.n).snd.snd (cnd (i.r.inst==(l.p.legs l.n).fst) (aE h i) (∃(n:Bool),n=(i.r.inst==(l.p.legs l.n).snd.fst)∧uY h n i)) (cC h i)) (cC h i)) (cC h i)∧∀(j:Bool),h j→cnd j (cnd (decide (i.r.qty<1)) (bY i) ((aZ i)∧∃(k:Int),zF (iE i.l.traded) i.r.inst.toNat 0 1=some [dI k]∧(aZ i)∧i.r.inst.toNat<(iE i.l.traded).length∧cnd (i.r.side==1) ((0≤i.r.inst∧i.r.inst<(uF i))∧∃(l:Int),zF (iE i.l.net) i.r.inst.toNat 0 1=some [dI l]∧(0≤i.r.inst∧i.r.inst<(uF i))∧i.r.inst.toNat<(iE i.l.net).length∧∃(m:Unit),(i.l.add i.r).snd=0∧sb (i.l.add i.r).fst.p.code=sb i.l.p.code∧(i.l.add i.r).fst.p.tick=i.l.p.tick∧(i.l.add i.r).fst.p.low=i.l.p.low∧(i.l.add i.r).fst.p.high=i.l.p.high∧(i.l.add i.r).fst.p.wide=i.l.p.wide∧(i.l.add i.r).fst.p.rule=i.l.p.rule∧(i.l.add i.r).fst.p.top=i.l.p.top∧(i.l.add i.r).fst.p.least=i.l.p.least∧(i.l.add i.r).fst.p.part=i.l.p.part∧zV (i.l.add i.r).fst.left=zV i.l.left∧eE i k l) (cnd (i.r.side==2) ((0≤i.r.inst∧i.r.inst<(uF i))∧∃(l:Int),zF (iE i.l.net) i.r.inst.toNat 0 1=some [dI l]∧(0≤i.r.inst∧i.r.inst<(uF i))∧i.r.inst.toNat<(iE i.l.net).length∧∃(m:Unit),(i.l.add i.r).snd=0∧sb (i.l.add i.r).fst.p.code=sb i.l.p.code∧(i.l.add i.r).fst.p.tick=i.l.p.tick∧(i.l.add i.r).fst.p.low=i.l.p.low∧(i.l.add i.r).fst.p.high=i.l.p.high∧(i.l.add i.r).fst.p.wide=i.l.p.wide∧(i.l.add i.r).fst.p.rule=i.l.p.rule∧(i.l.add i.r).fst.p.top=i.l.p.top∧(i.l.add i.r).fst.p.least=i.l.p.least∧(i.l.add i.r).fst.p.part=i.l.p.part∧zV (i.l.add i.r).fst.left=zV i.l.left∧tH i k l) (∃(l:Unit),(i.l.add i.r).snd=0∧sb (i.l.add i.r).fst.p.code=sb i.l.p.code∧(i.l.add i.r).fst.p.tick=i.l.p.tick∧(i.l.add i.r).fst.p.low=i.l.p.low∧(i.l.add i.r).fst.p.high=i.l.p.high∧(i.l.add i.r).fst.p.wide=i.l.p.wide∧(i.l.add i.r).fst.p.rule=i.l.p.rule∧(i.l.add i.r).fst.p.top=i.l.p.top∧(i.l.add i.r).fst.p.least=i.l.p.least∧(i.l.add i.r).fst.p.part=i.l.p.part∧zV (i.l.add i.r).fst.left=zV i.l.left∧tJ i k)))) ((v8 i)∧∃(k:Bool),∃(l:Int),(eK i l k)∧cnd (!k) (∃(m:Unit),(i.l.add i.r).snd=26∧bR i) (∃(m:Bool),∃(n:Bool→Prop),cnd (i.r.kind==3) ((tL i)∧∃(p:Bool),∃(q:Int),(eG i q p)∧∃(r:Bool),r=(i.r.inst !=q)∧uY n r i) (cC n i)∧∀(p:Bool),n p→cnd p (zJs i) (∃(q:Bool),∃(r:Bool→Prop),cnd (i.r.kind==3) (cnd (decide (i.r.qty<1)) (aE r i) (cnd (decide (i.r.qty>l)) (aE r i) (zJb i l r))) (cC r i)∧∀(s:Bool),r s→cnd s (bY i) (∃(t:Bool),∃(u:Bool→Prop),cnd (i.r.kind==4) (∃(v:Bool),v=(i.r.qty !=l)∧uY u v i) (cC u i)∧∀(v:Bool),u v→cnd v (bY i) (∃(w:Bool),∃(x:Bool→Prop),cnd (i.r.kind==5) (cnd (decide (i.r.qty<0)) (aE x i) (cnd (decide (i.r.qty≥l)) (aE x i) (zJb i l x))) (cC x i)∧∀(y:Bool),x y→cnd y (bY i) (cnd (i.r.kind==3) ((aZ i)∧∃(z:Int),zF (iE i.l.traded) i.r.inst.toNat 0 1=some [dI z]∧(aZ i)∧i.r.inst.toNat<(iE i.l.traded).length∧cnd (i.r.side==1) ((0≤i.r.inst∧i.r.inst<(uF i))∧∃(a_1:Int),zF (iE i.l.net) i.r.inst.toNat 0 1=some [dI a_1]∧(0≤i.r.inst∧i.r.inst<(uF i))∧i.r.inst.toNat<(iE i.l.net).length∧(v8 i)∧cnd (i.r.left==0) ((mA i)∧∃(a_2:Unit),(i.l.add i.r).snd=0∧sb (i.l.add i.r).fst.p.code=sb i.l.p.code∧(i.l.add i.r).fst.p.tick=i.l.p.tick∧(i.l.add i.r).fst.p.low=i.l.p.low∧(i.l.add i.r).fst.p.high=i.l.p.high∧(i.l.add i.r).fst.p.wide=i.l.p.wide∧(i.l.add i.r).fst.p.rule=i.l.p.rule∧(i.l.add i.r).fst.p.top=i.l.p.top∧(i.l.add i.r).fst.p.least=i.l.p.least∧(i.l.add i.r).fst.p.part=i.l.p.part∧zV (i.l.add i.r).fst.left=aU (Value.int IntKind.i64 i.r.id) (mW i)∧eE i z a_1) (∃(a_2:Unit),(i.l.add i.r).snd=0∧sb (i.l.add i.r).fst.p.code=sb i.l.p.code∧(i.l.add i.r).fst.p.tick=i.l.p.tick∧(i.l.add i.r).fst.p.low=i.l.p.low∧(i.l.add i.r).fst.p.high=i.l.p.high∧(i.l.add i.r).fst.p.wide=i.l.p.wide∧(i.l.add i.r).fst.p.rule=i.l.p.rule∧(i.l.add i.r).fst.p.top=i.l.p.top∧(i.l.add i.r).fst.p.least=i.l.p.least∧(i.l.add i.r).fst.p.part=i.l.p.part∧zV (i.l.add i.r).fst.left=jL (Value.int IntKind.i64 i.r.id) [dI i.r.left] (zV i.l.left)∧eE i z a_1)) (cnd (i.r.side==2) ((0≤i.r.inst∧i.r.inst<(uF i))∧∃(a_1:Int),zF (iE i.l.net) i.r.inst.toNat 0 1=some [dI a_1]∧(0≤i.r.inst∧i.r.inst<(uF i))∧i.r.inst.toNat<(iE i.l.net).length∧(v8 i)∧cnd (i.r.left==0) ((mA i)∧∃(a_2:Unit),(i.l.add i.r).snd=0∧sb (i.l.add i.r).fst.p.code=sb i.l.p.code∧(i.l.add i.r).fst.p.tick=i.l.p.tick∧(i.l.add i.r).fst.p.low=i.l.p.low∧(i.l.add i.r).fst.p.high=i.l.p.high∧(i.l.add i.r).fst.p.wide=i.l.p.wide∧(i.l.add i.r).fst.p.rule=i.l.p.rule∧(i.l.add i.r).fst.p.top=i.l.p.top∧(i.l.add i.r).fst.p.least=i.l.p.least∧(i.l.add i.r).fst.p.part=i.l.p.part∧zV (i.l.add i.r).fst.left=aU (Value.int IntKind.i64 i.r.id) (mW i)∧tH i z a_1) (∃(a_2:Unit),(i.l.add i.r).snd=0∧sb (i.l.add i.r).fst.p.code=sb i.l.p.code∧(i.l.add i.r).fst.p.tick=i.l.p.tick∧(i.l.add i.r).fst.p.low=i.l.p.low∧(i.l.add i.r).fst.p.high=i.l.p.high∧(i.l.add i.r).fst.p.wide=i.l.p.wide∧(i.l.add i.r).fst.p.rule=i.l.p.rule∧(i.l.add i.r).fst.p.top=i.l.p.top∧(i.l.add i.r).fst.p.least=i.l.p.least∧(i.l.add i.r).fst.p.part=i.l.p.part∧zV (i.l.add i.r).fst.left=jL (Value.int IntKind.i64 i.r.id) [dI i.r.left] (zV i.l.left)∧tH i z a_1)) ((v8 i)∧cnd (i.r.left==0) ((mA i)∧∃(a_1:Unit),(i.l.add i.r).snd=0∧sb (i.l.add i.r).fst.p.code=sb i.l.p.code∧(i.l.add i.r).fst.p.tick=i.l.p.tick∧(i.l.add i.r).fst.p.low=i.l.p.low∧(i.l.add i.r).fst.p.high=i.l.p.high∧(i.l.add i.r).fst.p.wide=i.l.p.wide∧(i.l.add i.r).fst.p.rule=i.l.p.rule∧(i.l.add i.r).fst.p.top=i.l.p.top∧(i.l.add i.r).fst.p.least=i.l.p.least∧(i.l.add i.r).fst.p.part=i.l.p.part∧zV (i.l.add i.r).fst.left=aU (Value.int IntKind.i64 i.r.id) (mW i)∧tJ i z) (∃(a_1:Unit),(i.l.add i.r).snd=0∧sb (i.l.add i.r).fst.p.code=sb i.l.p.code∧(i.l.add i.r).fst.p.tick=i.l.p.tick∧(i.l.add i.r).fst.p.low=i.l.p.low∧(i.l.add i.r).fst.p.high=i.l.p.high∧(i.l.add i.r).fst.p.wide=i.l.p.wide∧(i.l.add i.r).fst.p.rule=i.l.p.rule∧(i.l.add i.r).fst.p.top=i.l.p.top∧(i.l.add i.r).fst.p.least=i.l.p.least∧(i.l.add i.r).fst.p.part=i.l.p.part∧zV (i.l.add i.r).fst.left=jL (Value.int IntKind.i64 i.r.id) [dI i.r.left] (zV i.l.left)∧tJ i z)))) (cnd (i.r.kind==4) ((v8 i)∧(∀(z:Value×List D),z∈jL (Value.int IntKind.i64 i.r.id) [dI 0] (zV i.l.left)→like (Value.int IntKind.i64 i.r.id) z.fst=true)∧∃(z:Unit),(i.l.add i.r).snd=0∧sb (i.l.add i.r).fst.p.code=sb i.l.p.code∧(i.l.add i.r).fst.p.tick=i.l.p.tick∧(i.l.add i.r).fst.p.low=i.l.p.low∧(i.l.add i.r).fst.p.high=i.l.p.high∧(i.l.add i.r).fst.p.wide=i.l.p.wide∧(i.l.add i.r).fst.p.rule=i.l.p.rule∧(i.l.add i.r).fst.p.top=i.l.p.top∧(i.l.add i.r).fst.p.least=i.l.p.least∧(i.l.add i.r).fst.p.part=i.l.p.part∧zV (i.l.add i.r).fst.left=aU (Value.int IntKind.i64 i.r.id) (jL (Value.int IntKind.i64 i.r.id) [dI 0] (zV i.l.left))∧mJ i) ((v8 i)∧cnd (i.r.left==0) ((mA i)∧∃(z:Unit),(i.l.add i.r).snd=0∧sb (i.l.add i.r).fst.p.code=sb i.l.p.code∧(i.l.add i.r).fst.p.tick=i.l.p.tick∧(i.l.add i.r).fst.p.low=i.l.p.low∧(i.l.add i.r).fst.p.high=i.l.p.high∧(i.l.add i.r).fst.p.wide=i.l.p.wide∧(i.l.add i.r).fst.p.rule=i.l.p.rule∧(i.l.add i.r).fst.p.top=i.l.p.top∧(i.l.add i.r).fst.p.least=i.l.p.least∧(i.l.add i.r).fst.p.part=i.l.p.part∧zV (i.l.add i.r).fst.left=aU (Value.int IntKind.i64 i.r.id) (mW i)∧mJ i) (∃(z:Unit),(i.l.add i.r).snd=0∧sb (i.l.add i.r).fst.p.code=sb i.l.p.code∧(i.l.add i.r).fst.p.tick=i.l.p.tick∧(i.l.add i.r).fst.p.low=i.l.p.low∧(i.l.add i.r).fst.p.high=i.l.p.high∧(i.l.add i.r).fst.p.wide=i.l.p.wide∧(i.l.add i.r).fst.p.rule=i.l.p.rule∧(i.l.add i.r).fst.p.top=i.l.p.top∧(i.l.add i.r).fst.p.least=i.l.p.least∧(i.l.add i.r).fst.p.part=i.l.p.part∧zV (i.l.add i.r).fst.left=jL (Value.int IntKind.i64 i.r.id) [dI i.r.left] (zV i.l.left)∧mJ i)))))))))))))
def sF (a:RpI):Prop:=Sx.AObj.cells [V.d (D.v (Value.string (sb a.p.code))),V.own 0,V.d (dI a.p.tick),V.d (dI a.p.low),V.d (dI a.p.high),V.d (dI a.p.wide),V.d (dI a.p.rule),V.d (dI a.p.top),V.d (dI a.p.least),V.d (dI a.p.part),V.own ((0:Nat)+(1:Nat))] 29=Sx.AObj.cells [V.d (D.v (Value.string (sb a.p.code))),V.own 0,V.d (dI a.p.tick),V.d (dI a.p.low),V.d (dI a.p.high),V.d (dI a.p.wide),V.d (dI a.p.rule),V.d (dI a.p.top),V.d (dI a.p.least),V.d (dI a.p.part),V.own ((0:Nat)+(1:Nat))] 29∧AObj.fro 1 (iE a.p.settle)=AObj.fro 1 (iE a.p.settle)∧AObj.fro 1 (iE a.p.months)=AObj.fro 1 (iE a.p.months)
def uJ (a:LgR):Prop:=(a.l.traded.length≤1000000∧a.l.net.length=a.l.traded.length)∧a.l.p.code.length≤1099511627776∧a.l.p.months.length≤1099511627776∧a.l.p.settle.length≤1099511627776
def xV (a:RpI) (b:Nat):=((qV a.p).addAll (List.take b a.l))
def zUc (i:RpI):Prop:=
 ∃(a:Prd),sb a.code=sb i.p.code∧iE a.months=iE i.p.months∧a.tick=i.p.tick∧a.low=i.p.low∧a.high=i.p.high∧a.wide=i.p.wide∧a.rule=i.p.rule∧a.top=i.p.top∧a.least=i.p.least∧a.part=i.p.part∧iE a.settle=iE i.p.settle∧(zS a)∧(∀(b:Unit),a.check=0→∃(c:Nat),(↑c:Int)=0∧yE (xV i c).fst=yE (qV a)∧∃(d:Nat→Prop),∃(e:Nat→Nat),d c∧∀(f:Nat),d f→cnd (decide ((↑f:Int)<(↑(List.map yG i.l).length:Int))) ((0≤(↑f:Int)∧(↑f:Int)<(↑(List.map yG i.l).length:Int))∧∃(g:Int),∃(h:Int),∃(j:Int),∃(k:Int),∃(l:Int),∃(m:Int),∃(n:Int),∃(p:Int),zF (List.map yG i.l) (↑f:Int).toNat 0 8=some [dI g,dI h,dI j,dI k,dI l,dI m,dI n,dI p]∧∃(q:LgR),q.r.kind=g∧q.r.id=h∧q.r.inst=j∧q.r.side=k∧q.r.price=l∧q.r.qty=m∧q.r.left=n∧q.r.why=p∧yE q.l=yE (xV i f).fst∧(uJ q)∧∀(r:Unit),True→cnd ((q.l.add q.r).snd !=0) (∃(s:Unit),xE i.p i.l=(q.l.add q.r).snd∧True) (∃(s:Nat),(↑s:Int)=IntKind.i64.wrap ((↑f:Int)+1)∧yE (xV i s).fst=yE (q.l.add q.r).fst∧d s∧e s<e f∧sF i)) (∃(g:Nat),(↑g:Int)=0∧∃(h:Nat→Prop),∃(j:Nat→Nat),h g∧∀(k:Nat),h k→cnd (decide ((↑k:Int)<(↑(iE i.p.months).length:Int))) (∃(l:LgN),l.n=(↑k:Int)∧yE l.l=yE (xV i f).fst∧(l.l.traded.length≤1000000∧l.l.net.length=l.l.traded.length)∧∀(m:Unit),True→cnd (l.l.at l.l.net l.n !=0) (∃(n:Unit),xE i.p i.l=21∧True) (∃(n:Nat),(↑n:Int)=IntKind.i64.wrap ((↑k:Int)+1)∧h n∧j n<j k∧yE l.l=yE (xV i f).fst∧sF i)) (∃(l:Unit),xE i.p i.l=0∧True)))∧∀(b:Unit),a.check≠0→cnd (a.check !=0) (∃(c:Unit),xE i.p i.l=a.check∧True) (∃(c:Nat),False)
def cU (a:BkI):Prop:=(a.p.code.length≤1099511627776∧a.p.months.length≤1099511627776∧a.p.settle.length≤1099511627776)∧(a.s.books.length≤1000000∧∀(b:Book),b∈a.s.books→∀(c:fF),c∈b.a.queues→x7 c)∧a.s.tops.length≤1000000∧∀(b:Top),b∈a.s.tops→j0 b
def wG (a:Book):Prop:=(a.a.slots.length≤1000000∧a.a.queues.length≤1000000)∧a.buys.length≤1000000∧a.sells.length≤1000000∧a.spare.length≤1000000
def cT (a:Mkt):Prop:=a.s.books.length≤1000000∧∀(b:Book),b∈a.s.books→wG b
def fK (a:RpI):Prop:=(a.p.code.length≤1099511627776∧a.p.months.length≤1099511627776∧a.p.settle.length≤1099511627776)∧a.l.length≤1099511627776
def zWr (u:Unit):Prop:=
 ∃(a:Int),a=1∧True∧∀(b:Unit),True→∃(c:Prd),sb c.code=sb [(67:UInt8),(76:UInt8)]∧iE c.months=iE [(320:Int),(321:Int),(323:Int)]∧c.tick=5∧c.low=0∧c.high=1000∧c.wide=200∧c.rule=a∧c.top=4∧c.least=2∧c.part=40∧iE c.settle=iE [(500:Int),(505:Int),(490:Int)]∧(zS c)∧(∀(d:Unit),c.check=0→∃(e:RpI),sb e.p.code=sb [(67:UInt8),(76:UInt8)]∧iE e.p.months=iE [(320:Int),(321:Int),(323:Int)]∧e.p.tick=5∧e.p.low=0∧e.p.high=1000∧e.p.wide=200∧e.p.rule=a∧e.p.top=4∧e.p.least=2∧e.p.part=40∧iE e.p.settle=iE [(500:Int),(505:Int),(490:Int)]∧List.map yG e.l=[[dI 3,dI 1,dI 0,dI 1,dI 0,dI 1,dI 0,dI 0]]∧(fK e)∧∀(f:Unit),True→∃(g:RpI),sb g.p.code=sb [(67:UInt8),(76:UInt8)]∧iE g.p.months=iE [(320:Int),(321:Int),(323:Int)]∧g.p.tick=5∧g.p.low=0∧g.p.high=1000∧g.p.wide=200∧g.p.rule=a∧g.p.top=4∧g.p.least=2∧g.p.part=40∧iE g.p.settle=iE [(500:Int),(505:Int),(490:Int)]∧List.map yG g.l=[]∧(fK g)∧∀(h:Unit),True→cnd (xE g.p g.l==0) (cnd (xE e.p e.l==26) (∃(j:Mkt),vH j=vH (Mkt.mk c (h9 c) [])∧(cT j)∧∀(k:Unit),True→(sb [(67:UInt8),(76:UInt8)]=sb [(67:UInt8),(76:UInt8)]∧True∧(5:Int)=(5:Int)∧(0:Int)=(0:Int)∧(1000:Int)=(1000:Int)∧(200:Int)=(200:Int)∧a=a∧(4:Int)=(4:Int)∧(2:Int)=(2:Int)∧(40:Int)=(40:Int)∧True∧True)∧((∃(l:BkI),sb l.p.code=sb [(67:UInt8),(76:UInt8)]∧iE l.p.months=iE [(320:Int),(321:Int),(323:Int)]∧l.p.tick=5∧l.p.low=0∧l.p.high=1000∧l.p.wide=200∧l.p.rule=a∧l.p.top=4∧l.p.least=2∧l.p.part=40∧iE l.p.settle=iE [(500:Int),(505:Int),(490:Int)]∧zE l.s=zE j.s∧(cU l)∧∀(m:Unit),True→cnd (x6 l.p l.s.tops==0) ((∃(n:BkI),sb n.p.code=sb [(67:UInt8),(76:UInt8)]∧iE n.p.months=iE [(320:Int),(321:Int),(323:Int)]∧n.p.tick=5∧n.p.low=0∧n.p.high=1000∧n.p.wide=200∧n.p.rule=a∧n.p.top=4∧n.p.least=2∧n.p.part=40∧iE n.p.settle=iE [(500:Int),(505:Int),(490:Int)]∧False)∨∃(i_6:Prd),sb i_6.code=sb [(67:UInt8),(76:UInt8)]∧iE i_6.months=iE [(320:Int),(321:Int),(323:Int)]∧i_6.tick=5∧i_6.low=0∧i_6.high=1000∧i_6.wide=200∧i_6.rule=a∧i_6.top=4∧i_6.least=2∧i_6.part=40∧iE i_6.settle=iE [(500:Int),(505:Int),(490:Int)]∧True∧(i_6.code.length≤1099511627776∧i_6.months.length≤1099511627776∧i_6.settle.length≤1099511627776)∧∀(m:Unit),True→∃(m:Unit),true=((1:Int)==(1:Int))∧True) (∃(n:Unit),true=false∧True))∨∃(i_5:Prd),sb i_5.code=sb [(67:UInt8),(76:UInt8)]∧iE i_5.months=iE [(320:Int),(321:Int),(323:Int)]∧i_5.tick=5∧i_5.low=0∧i_5.high=1000∧i_5.wide=200∧i_5.rule=a∧i_5.top=4∧i_5.least=2∧i_5.part=40∧iE i_5.settle=iE [(500:Int),(505:Int),(490:Int)]∧False)) (∃(j:Unit),true=false∧True)) (∃(j:Unit),true=false∧True))∧∀(d:Unit),c.check≠0→∃(e:Unit),true=false∧True
open Go Cv Go.Proofs
theorem kL (l:List (Int×Int)) (k:Int):∀(p:Value×List D),p∈zV l→like (Value.int IntKind.i64 k) p.1=true:=fun p hp=>zVe l k p hp
theorem zIr (k v:Int):∀l,jL (Value.int IntKind.i64 k) [D.v (.int .i64 v)] (zV l)=zV (fA k v l)
 |[]=>rfl
 |(a,b)::l=>by
  have ih:=zIr k v l
  show(bif (keq .i64 .i64 && decide (k=a))then _ else _::jL _ _ (zV l))=_
  rw[ih,fA]
  by_cases h:k=a
  ·subst h;simp[keq,zV]
  ·simp[h,zV]
theorem zJk (k:Int):∀l,aU (Value.int IntKind.i64 k) (zV l)=zV (zEb k l)
 |[]=>rfl
 |(a,b)::l=>by
  have ih:=zJk k l
  show(bif (keq .i64 .i64 && decide (k=a))then zV l else _::aU _ (zV l))=_
  rw[ih,zEb]
  by_cases h:k=a
  ·subst h;simp[keq]
  ·simp[h,zV]
theorem zAq (l:List (Int×Int)) (k:Int):j8 (Value.int IntKind.i64 k) (zV l)=some [D.v (.int .i64 ((qK l k).getD 0))]∧(qK l k).isSome=true∨j8 (Value.int IntKind.i64 k) (zV l)=none∧[D.v (.int .i64 ((qK l k).getD 0))]=[D.v (.int .i64 0)]∧(qK l k).isSome=false:=by
 rw[bH]
 cases qK l k with
 |none=>exact .inr ⟨rfl,rfl,rfl⟩
 |some v=>exact .inl ⟨rfl,rfl⟩
theorem zOi (k v n:Int):∀l,fA k v (fA k n l)=fA k v l
 |[]=>by simp[fA]
 |(a,b)::l=>by
  have ih:=zOi k v n l
  by_cases h:k=a
  ·subst h;simp[fA]
  ·simp[fA,h,ih]
theorem zWt (x:Int):∀(l:List Int) (n:Nat),yB (iE l) n 0 [D.v (.int .i64 x)]=iE (l.set n x)
 |[],n=>by cases n<;>rfl
 |a::l,0=>rfl
 |a::l,n+1=>by
  have ih:=zWt x l n
  simp only[yB,iE,ySs,yWy,yWi]at ih ⊢
  rw[ih]
theorem eT {l:List Int} {n:Int} (h:0≤n∧n<(l.length:Int)):zF (iE l) n.toNat 0 1=some [D.v (.int .i64 (l.getD n.toNat 0))]:=by
 obtain⟨v,hv⟩:=z9 (l:=l) (i:=n.toNat) (by omega)
 rw[ySn,hv]
 exact elI hv
theorem zMp (a b:Int):(a==b)=decide (a=b):=by
 by_cases h:a=b
 ·subst h;simp
 ·simp[h]
theorem zCf (a b:Int):(a !=b)=decide (a≠b):=by
 by_cases h:a=b
 ·subst h;simp
 ·simp[h]
theorem yPt (i:LgR) (h:laddC.cnd i):yId i:=by
 obtain⟨⟨h1,h2⟩,hs⟩:i.l.fit:=h
 have lk:=kL i.l.left i.r.id
 have lk2:=kL i.l.inst i.r.id
 have lk3:=kL (fA i.r.id i.r.left i.l.left) i.r.id
 have lk4:=kL (fA i.r.id 0 i.l.left) i.r.id
 unfold yId zJs bY bR aE cC zJb uY uF mW aZ tL v8 mA eG eK mJ zFp tJ zEe eE tH eL qX dI
 simp only[yX,zIr,zJk,zWt]
 refine⟨true,fun b=>b=i.r.badK,Cv.cnd.mk (fun c=>⟨true,rfl,?_,by(repeat'(first|exact trivial|exact rfl|apply And.intro))⟩) (fun c=>⟨_,rfl,?_,by(repeat'(first|exact trivial|exact rfl|apply And.intro))⟩),fun b hb=> ?_⟩
 ·simp only[Rep.badK,c,Bool.true_or]
 ·simp only[Rep.badK,c,yVs]
 subst hb
 refine Cv.cnd.mk (fun hb=> ?_) (fun hb=> ?_)
 ·have ha:i.l.add i.r=(i.l,31):=by simp only[Ledger.add,hb,if_true]
  simp only[ha];exact kp
 refine Cv.cnd.mk (fun k2=> ?_) (fun k2=> ?_)
 ·have k2:i.r.kind=2:=by simpa using k2
  have ha:i.l.add i.r=(i.l,0):=by simp only[Ledger.add,hb,k2,if_true,ySz,if_false]
  simp only[ha];exact kp
 have k2:¬i.r.kind=2:=by simpa using k2
 refine⟨true,fun b=>b= !i.l.isB i.r.inst,Cv.cnd.mk (fun c=>⟨_,rfl,?_,by(repeat'(first|exact trivial|exact rfl|apply And.intro))⟩) (fun c=>⟨_,rfl,?_,by(repeat'(first|exact trivial|exact rfl|apply And.intro))⟩),fun b hb=> ?_⟩
 ·have c:0≤i.r.inst:=by simpa using c
  simp only[Ledger.isB,yTd c,yTr]
 ·have c:¬0≤i.r.inst:=by simpa using c
  simp only[Ledger.isB,ySu c,yUe]
 subst hb
 refine Cv.cnd.mk (fun hi=> ?_) (fun hi=> ?_)
 ·have hi:i.l.isB i.r.inst=false:=by simpa using hi
  have ha:i.l.add i.r=(i.l,20):=by simp only[Ledger.add,hb,k2,hi,if_true,ySz,if_false]
  simp only[ha];exact kp
 have hi:i.l.isB i.r.inst=true:=by simpa using hi
 have hin:0≤i.r.inst∧i.r.inst<(i.l.traded.length:Int):=by simpa[Ledger.isB]using hi
 have hin2:0≤i.r.inst∧i.r.inst<(i.l.net.length:Int):=by rw[h2];exact hin
 refine Cv.cnd.mk (fun k1=> ?_) (fun k1=> ?_)
 ·have k1:i.r.kind=1:=by simpa using k1
  have e0:i.l.add i.r=i.l.acc i.r:=by simp only[Ledger.add,hb,k1,hi,if_true,ySz,if_false,reduceCtorEq,show ¬(1:Int)=2 by decide,show ¬(true=false)by decide]
  refine⟨lk,(qK i.l.left i.r.id).isSome,(qK i.l.left i.r.id).getD 0,zAq _ _,Cv.cnd.mk (fun c=> ?_) (fun c=> ?_)⟩
  ·have ha:i.l.add i.r=(i.l,25):=by rw[e0,Ledger.acc,ySk c]
   simp only[ha];exact kp
  ·refine Cv.cnd.mk (fun d=> ?_) (fun d=> ?_)
   ·have d:i.r.qty<1:=by simpa using d
    have ha:i.l.add i.r=(i.l,24):=by rw[e0,Ledger.acc,ySj (by rw[c];decide),ySk (.inl d)]
    simp only[ha];exact kp
   have d:¬i.r.qty<1:=by simpa using d
   refine Cv.cnd.mk (fun e=> ?_) (fun e=> ?_)
   ·have e:i.r.qty≠i.r.left:=by simpa using e
    have ha:i.l.add i.r=(i.l,24):=by rw[e0,Ledger.acc,ySj (by rw[c];decide),ySk (.inr e)]
    simp only[ha];exact kp
   have e:i.r.qty=i.r.left:=by simpa using e
   have ha:i.l.add i.r=({i.l with left:=fA i.r.id i.r.left i.l.left,inst:=fA i.r.id i.r.inst i.l.inst},0):=by rw[e0,Ledger.acc,ySj (by rw[c];decide),ySj (by rintro(h|h);exact d h;exact h e)]
   refine⟨lk,(qK i.l.left i.r.id).isSome,(qK i.l.left i.r.id).getD 0,zAq _ _,fun x=>⟨trivial,trivial,trivial,trivial,kL _ _,trivial,trivial,lk2,(qK i.l.inst i.r.id).isSome,(qK i.l.inst i.r.id).getD 0,zAq _ _,fun y=>⟨trivial,trivial,kL _ _,?_⟩⟩⟩
   simp only[ha,zOi];exact kp
 have k1:¬i.r.kind=1:=by simpa using k1
 refine⟨true,fun b=>b=i.l.isLeg i.r,Cv.cnd.mk (fun k3=> ?_) (fun k3=>⟨_,rfl,?_,by(repeat'(first|exact trivial|exact rfl|apply And.intro))⟩),fun b hl=> ?_⟩
 ·have k3:i.r.kind=3:=by simpa using k3
  refine⟨lk2,(qK i.l.inst i.r.id).isSome,(qK i.l.inst i.r.id).getD 0,zAq _ _,⟨i.l.p,i.l.own i.r.id⟩,rfl,rfl,rfl,rfl,rfl,rfl,rfl,rfl,rfl,rfl,rfl,rfl,hs,fun _ _=> ?_⟩
  refine Cv.cnd.mk (fun c=>Cv.cnd.mk (fun d=>Cv.cnd.mk (fun e=>⟨_,rfl,?_,by(repeat'(first|exact trivial|exact rfl|apply And.intro))⟩) (fun e=>⟨_,rfl,?_,by(repeat'(first|exact trivial|exact rfl|apply And.intro))⟩)) (fun d=>⟨_,rfl,?_,by(repeat'(first|exact trivial|exact rfl|apply And.intro))⟩)) (fun c=>⟨_,rfl,?_,by(repeat'(first|exact trivial|exact rfl|apply And.intro))⟩)
  ·have e:i.r.inst=(i.l.p.legs (i.l.own i.r.id)).1:=by simpa using e
   have d:(i.l.p.legs (i.l.own i.r.id)).2.2=true:=d
   simp only[Ledger.isLeg,k3,Ledger.legB,c,d,yTd e,decide_true,yTr,Bool.true_or]
  ·have e:¬i.r.inst=(i.l.p.legs (i.l.own i.r.id)).1:=by simpa using e
   have d:(i.l.p.legs (i.l.own i.r.id)).2.2=true:=d
   simp only[Ledger.isLeg,k3,Ledger.legB,c,d,ySu e,decide_true,yTr,yVs]
   exact zMp _ _
  ·have d:(i.l.p.legs (i.l.own i.r.id)).2.2=false:=d
   simp only[Ledger.isLeg,k3,Ledger.legB,c,d,decide_true,yTr,yUe]
  ·simp only[Ledger.isLeg,k3,Ledger.legB,c,decide_true,yTr,yUe]
 ·have k3:¬i.r.kind=3:=by simpa using k3
  simp only[Ledger.isLeg,ySu k3,yUe]
 subst hl
 refine Cv.cnd.mk (fun hl=> ?_) (fun hl=> ?_)
 ·refine Cv.cnd.mk (fun c=> ?_) (fun c=> ?_)
  ·have c:i.r.qty<1:=by simpa using c
   have ha:i.l.add i.r=(i.l,24):=by simp only[Ledger.add,hb,k2,hi,k1,hl,c,if_true,ySz,if_false,Bool.true_eq_false]
   simp only[ha];exact kp
  have c:¬i.r.qty<1:=by simpa using c
  have ha:i.l.add i.r=(i.l.trade i.r,0):=by simp only[Ledger.add,hb,k2,hi,k1,hl,c,if_true,ySz,if_false,Bool.true_eq_false]
  refine⟨hin,_,eT hin,hin,by omega,Cv.cnd.mk (fun s1=>⟨hin2,_,eT hin2,hin2,by omega,?_⟩) (fun s1=>Cv.cnd.mk (fun s2=>⟨hin2,_,eT hin2,hin2,by omega,?_⟩) (fun s2=> ?_))⟩
  ·have s1:i.r.side=1:=by simpa using s1
   simp only[ha,Ledger.trade,e8,s1,if_true];exact kp
  ·have s1:¬i.r.side=1:=by simpa using s1
   have s2:i.r.side=2:=by simpa using s2
   simp only[ha,Ledger.trade,e8,zQm,s2,if_true,show ¬(2:Int)=1 by decide,if_false];exact kp
  ·have s1:¬i.r.side=1:=by simpa using s1
   have s2:¬i.r.side=2:=by simpa using s2
   simp only[ha,Ledger.trade,e8,s1,s2,if_false];exact kp
 refine⟨lk,(qK i.l.left i.r.id).isSome,(qK i.l.left i.r.id).getD 0,zAq _ _,Cv.cnd.mk (fun c=> ?_) (fun c=> ?_)⟩
 ·have c:qK i.l.left i.r.id=none:=by simpa using c
  have ha:i.l.add i.r=(i.l,26):=by simp only[Ledger.add,hb,k2,hi,k1,hl,c,if_true,ySz,if_false,Bool.true_eq_false]
  simp only[ha];exact kp
 obtain⟨left,hleft⟩:∃n,qK i.l.left i.r.id=some n:=yXk.1 (by simpa using c)
 have hadd:i.l.add i.r=if i.l.e1 i.r=true then(i.l,20)else if i.r.e2 left=true then(i.l,24)else if i.r.e3 left=true then(i.l,24)else if i.r.e4 left=true then(i.l,24)else(i.l.done i.r,0):=by
  simp only[Ledger.add,hb,k2,hi,k1,hl,hleft,ySz,if_false,Bool.true_eq_false]
 simp only[hleft,yUo]
 refine⟨true,fun b=>b=i.l.e1 i.r,Cv.cnd.mk (fun k3=>⟨lk2,(qK i.l.inst i.r.id).isSome,(qK i.l.inst i.r.id).getD 0,zAq _ _,_,rfl,?_,by(repeat'(first|exact trivial|exact rfl|apply And.intro))⟩) (fun k3=>⟨_,rfl,?_,by(repeat'(first|exact trivial|exact rfl|apply And.intro))⟩),fun b e1=> ?_⟩
 ·have k3:i.r.kind=3:=by simpa using k3
  simp only[Ledger.e1,k3,decide_true,yTr,Ledger.own]
  exact zCf _ _
 ·have k3:¬i.r.kind=3:=by simpa using k3
  simp only[Ledger.e1,ySu k3,yUe]
 subst e1
 refine Cv.cnd.mk (fun e1=> ?_) (fun e1=> ?_)
 ·have ha:i.l.add i.r=(i.l,20):=by rw[hadd,ySk e1]
  simp only[ha];exact kp
 have e1:¬i.l.e1 i.r=true:=by simpa using e1
 refine⟨true,fun b=>b=i.r.e2 left,Cv.cnd.mk (fun k3=>Cv.cnd.mk (fun c=>⟨_,rfl,?_,by(repeat'(first|exact trivial|exact rfl|apply And.intro))⟩) (fun c=>Cv.cnd.mk (fun d=>⟨_,rfl,?_,by(repeat'(first|exact trivial|exact rfl|apply And.intro))⟩) (fun d=>⟨_,rfl,?_,by(repeat'(first|exact trivial|exact rfl|apply And.intro))⟩))) (fun k3=>⟨_,rfl,?_,by(repeat'(first|exact trivial|exact rfl|apply And.intro))⟩),fun b e2=> ?_⟩
 ·have k3:i.r.kind=3:=by simpa using k3
  simp only[Rep.e2,k3,c,decide_true,yTr,Bool.true_or]
 ·have k3:i.r.kind=3:=by simpa using k3
  simp only[Rep.e2,k3,c,d,decide_true,yTr,Bool.true_or,yVs]
 ·have k3:i.r.kind=3:=by simpa using k3
  simp only[Rep.e2,k3,c,d,decide_true,yTr,yVs]
  exact zCf _ _
 ·have k3:¬i.r.kind=3:=by simpa using k3
  simp only[Rep.e2,ySu k3,yUe]
 subst e2
 refine Cv.cnd.mk (fun e2=> ?_) (fun e2=> ?_)
 ·have ha:i.l.add i.r=(i.l,24):=by rw[hadd,ySj e1,ySk e2]
  simp only[ha];exact kp
 have e2:¬i.r.e2 left=true:=by simpa using e2
 refine⟨true,fun b=>b=i.r.e3 left,Cv.cnd.mk (fun k3=>⟨_,rfl,?_,by(repeat'(first|exact trivial|exact rfl|apply And.intro))⟩) (fun k3=>⟨_,rfl,?_,by(repeat'(first|exact trivial|exact rfl|apply And.intro))⟩),fun b e3=> ?_⟩
 ·have k3:i.r.kind=4:=by simpa using k3
  simp only[Rep.e3,k3,decide_true,yTr]
  exact zCf _ _
 ·have k3:¬i.r.kind=4:=by simpa using k3
  simp only[Rep.e3,ySu k3,yUe]
 subst e3
 refine Cv.cnd.mk (fun e3=> ?_) (fun e3=> ?_)
 ·have ha:i.l.add i.r=(i.l,24):=by rw[hadd,ySj e1,ySj e2,ySk e3]
  simp only[ha];exact kp
 have e3:¬i.r.e3 left=true:=by simpa using e3
 refine⟨true,fun b=>b=i.r.e4 left,Cv.cnd.mk (fun k3=>Cv.cnd.mk (fun c=>⟨_,rfl,?_,by(repeat'(first|exact trivial|exact rfl|apply And.intro))⟩) (fun c=>Cv.cnd.mk (fun d=>⟨_,rfl,?_,by(repeat'(first|exact trivial|exact rfl|apply And.intro))⟩) (fun d=>⟨_,rfl,?_,by(repeat'(first|exact trivial|exact rfl|apply And.intro))⟩))) (fun k3=>⟨_,rfl,?_,by(repeat'(first|exact trivial|exact rfl|apply And.intro))⟩),fun b e4=> ?_⟩
 ·have k3:i.r.kind=5:=by simpa using k3
  simp only[Rep.e4,k3,c,decide_true,yTr,Bool.true_or]
 ·have k3:i.r.kind=5:=by simpa using k3
  simp only[Rep.e4,k3,c,d,decide_true,yTr,Bool.true_or,yVs]
 ·have k3:i.r.kind=5:=by simpa using k3
  simp only[Rep.e4,k3,c,d,decide_true,yTr,yVs]
  exact zCf _ _
 ·have k3:¬i.r.kind=5:=by simpa using k3
  simp only[Rep.e4,ySu k3,yUe]
 subst e4
 refine Cv.cnd.mk (fun e4=> ?_) (fun e4=> ?_)
 ·have ha:i.l.add i.r=(i.l,24):=by rw[hadd,ySj e1,ySj e2,ySj e3,ySk e4]
  simp only[ha];exact kp
 have e4:¬i.r.e4 left=true:=by simpa using e4
 have ha:i.l.add i.r=(i.l.done i.r,0):=by rw[hadd,ySj e1,ySj e2,ySj e3,ySj e4]
 clear hadd
 refine Cv.cnd.mk (fun k3=> ?_) (fun k3=> ?_)
 ·have k3:i.r.kind=3:=by simpa using k3
  have hd:i.l.done i.r=(i.l.trade i.r).close i.r.id i.r.left:=by rw[Ledger.done,ySk k3]
  rw[hd]at ha
  refine⟨hin,_,eT hin,hin,by omega,Cv.cnd.mk (fun s1=>⟨hin2,_,eT hin2,hin2,by omega,lk,Cv.cnd.mk (fun c=>⟨lk3,?_⟩) (fun c=> ?_)⟩) (fun s1=>Cv.cnd.mk (fun s2=>⟨hin2,_,eT hin2,hin2,by omega,lk,Cv.cnd.mk (fun c=>⟨lk3,?_⟩) (fun c=> ?_)⟩) (fun s2=>⟨lk,Cv.cnd.mk (fun c=>⟨lk3,?_⟩) (fun c=> ?_)⟩))⟩
  all_goals first|have s1:i.r.side=1:=(by simpa using s1)|have s1:¬i.r.side=1:=(by simpa using s1)
  all_goals first|have c:i.r.left=0:=(by simpa using c)|have c:¬i.r.left=0:=(by simpa using c)
  all_goals first|have s2:i.r.side=2:=(by simpa using s2)|have s2:¬i.r.side=2:=(by simpa using s2)|skip
  all_goals(simp only[ha,Ledger.close,Ledger.trade,e8,zQm,s1,c,if_true,if_false];(try simp only[s2,if_true,if_false]);(repeat'(first|exact rfl|exact trivial|assumption|apply And.intro|refine fun(_:Unit) (_:True)=>?_|refine Exists.intro () ?_|omega|(dsimp only;omega))))
 have k3:¬i.r.kind=3:=by simpa using k3
 refine Cv.cnd.mk (fun k4=> ?_) (fun k4=> ?_)
 ·have k4:i.r.kind=4:=by simpa using k4
  have hd:i.l.done i.r=i.l.close i.r.id 0:=by rw[Ledger.done,ySj k3,ySk k4]
  rw[hd]at ha
  simp only[ha,Ledger.close,if_true];exact kp
 have k4:¬i.r.kind=4:=by simpa using k4
 have hd:i.l.done i.r=i.l.close i.r.id i.r.left:=by rw[Ledger.done,ySj k3,ySj k4]
 rw[hd]at ha
 refine⟨lk,Cv.cnd.mk (fun c=>⟨lk3,?_⟩) (fun c=> ?_)⟩
 ·have c:i.r.left=0:=by simpa using c
  simp only[ha,Ledger.close,c,if_true];exact kp
 ·have c:¬i.r.left=0:=by simpa using c
  simp only[ha,Ledger.close,c,if_false];exact kp
theorem ladd_ok:laddC.ok Tryz.prog 34:=okw mixed (gokc pB gok0) 1 (fun _=>yPz) (fun _=>[]) [0] Tryz.func34 yPt
open Go Cv Go.Proofs
theorem zEm (l:List Int) (n:Nat) (x:Int):(e8 l n x).length=l.length:=by simp[e8]
theorem z4x (l:List Int) (n:Nat) (x:Int):(zQm l n x).length=l.length:=by simp[zQm]
theorem Ledger.trade_fit {l:Ledger} (h:l.fit) (r:Rep):(l.trade r).fit:=by
 obtain⟨⟨h1,h2⟩,h3⟩:=h
 refine⟨⟨by rw[Ledger.trade];dsimp only;rw[zEm];exact h1,?_⟩,h3⟩
 rw[Ledger.trade];dsimp only
 rw[zEm]
 split
 ·rw[zEm];exact h2
 ·split
  ·rw[z4x];exact h2
  ·exact h2
theorem Ledger.add_fit {l:Ledger} (h:l.fit) (r:Rep):(l.add r).1.fit:=by
 have ht:=Ledger.trade_fit h r
 unfold Ledger.add Ledger.acc
 repeat' split
 all_goals first|exact h|exact ht|skip
 all_goals(unfold Ledger.done Ledger.close;repeat' split)
 all_goals first|exact h|exact ht
theorem dE:∀{xs:List Rep} {l:Ledger},l.fit→(l.addAll xs).1.fit
 |[],l,h=>h
 |r::xs,l,h=>by
  rw[Ledger.addAll]
  split
  ·exact Ledger.add_fit h r
  ·exact dE (Ledger.add_fit h r)
theorem aD:∀(a b:List Rep) (l:Ledger),l.addAll (a++b)=if(l.addAll a).2≠0 then l.addAll a else(l.addAll a).1.addAll b
 |[],b,l=>by simp[Ledger.addAll]
 |r::a,b,l=>by
  rw[yTy,Ledger.addAll,Ledger.addAll]
  by_cases h:(l.add r).2=0
  ·simp only[h,ne_eq,not_true_eq_false,if_false]
   exact aD a b _
  ·rw[ySk h,ySk h,ySk h]
theorem zJj (r:Rep) (l:Ledger):l.addAll [r]=l.add r:=by
 rw[Ledger.addAll]
 split
 ·rfl
 ·rename_i h
  have h:(l.add r).2=0:=by simpa using h
  rw[Ledger.addAll,← h]
theorem gO {xs:List Rep} {j:Nat} {r:Rep} (hr:xs[j]? =some r) {l:Ledger} (h:(l.addAll (xs.take j)).2=0):l.addAll (xs.take (j+1))=(l.addAll (xs.take j)).1.add r:=by
 rw[yUm,hr,yWz,aD,ySj (by simp[h]),zJj]
theorem zGv {xs:List Rep} {j:Nat} {r:Rep} (hr:xs[j]? =some r) {l:Ledger} (h:(l.addAll (xs.take j)).2=0) (he:((l.addAll (xs.take j)).1.add r).2≠0):l.addAll xs=(l.addAll (xs.take j)).1.add r:=by
 have e:=gO hr h
 have e2:=aD (xs.take (j+1)) (xs.drop (j+1)) l
 rw[yUt]at e2
 rw[e2,ySk (by rw[e];exact he),e]
theorem zGh {p:Prd} (h:p.small):(qV p).fit:=by
 have:=xQ p
 exact⟨⟨by simp only[qV,yVb];omega,by simp only[qV,yVb]⟩,h⟩
theorem yJy {l:List Rep} {k:Nat} {r:Rep} (h:l[k]? =some r):zF (l.map yG) k 0 8=some [D.v (.int .i64 r.kind),.v (.int .i64 r.id),.v (.int .i64 r.inst),.v (.int .i64 r.side),.v (.int .i64 r.price),.v (.int .i64 r.qty),.v (.int .i64 r.left),.v (.int .i64 r.why)]:=elA h (by simp[yG]) rfl
theorem z7q (i:RpI) (h:reportsC.cnd i):zUc i:=by
 obtain⟨hs,hlen⟩:i.p.small∧i.l.length≤1099511627776:=h
 have hs':=hs
 obtain⟨h1,h2,h3⟩:=hs'
 unfold zUc sF xV uJ zS dI
 simp only[yX,ySm]
 refine⟨i.p,?_⟩
 (repeat'(first|exact rfl|exact trivial|assumption|apply And.intro|refine fun(_:Unit) (_:True)=>?_|refine Exists.intro () ?_|omega|(dsimp only;omega)))
 ·intro _ c
  have c:i.p.check=0:=c
  generalize hL:qV i.p=L
  have hf:L.fit:=hL▸zGh hs
  have e0:xE i.p i.l=if(L.addAll i.l).2≠0 then(L.addAll i.l).2 else if(List.range i.p.months.length).any (fun n=>decide ((L.addAll i.l).1.at (L.addAll i.l).1.net n≠0))then 21 else 0:=by
   rw[xE,ySj (by simp[c]),hL]
  refine⟨0,rfl,by rw[yXw];rfl,fun j=>j≤i.l.length∧(L.addAll (i.l.take j)).2=0,fun j=>i.l.length-j,⟨by omega,rfl⟩,?_⟩
  rintro j ⟨g1,g2⟩
  refine zL (fun hlt=> ?_) (fun hlt=> ?_)
  ·obtain⟨r,hr⟩:=z9 (l:=i.l) (i:=j) (by omega)
   refine⟨⟨by omega,by omega⟩,r.kind,r.id,r.inst,r.side,r.price,r.qty,r.left,r.why,yJy hr,⟨(L.addAll (i.l.take j)).1,r⟩,rfl,rfl,rfl,rfl,rfl,rfl,rfl,rfl,rfl,dE hf,fun _ _=> ?_⟩
   dsimp only
   refine Cv.cnd.mk (fun e=>⟨(),?_,trivial⟩) (fun e=>⟨j+1,?_,?_,⟨by omega,?_⟩,by omega,by(repeat'(first|exact trivial|exact rfl|apply And.intro))⟩)
   ·have e:((L.addAll (i.l.take j)).1.add r).2≠0:=by simpa using e
    rw[e0,zGv hr g2 e,ySk e]
   ·rw[w64 (by omega)];rfl
   ·rw[gO hr g2]
   ·rw[gO hr g2];simpa using e
  ·have ej:i.l.take j=i.l:=yTe (by omega)
   rw[ej]at g2 ⊢
   have hfit:=dE hf (xs:=i.l)
   generalize L.addAll i.l=X at*
   have e1:xE i.p i.l=if(List.range i.p.months.length).any (fun n=>decide (X.1.at X.1.net n≠0))then 21 else 0:=by
    rw[e0,ySj (by simp[g2])]
   refine⟨0,rfl,fun k=>k≤i.p.months.length∧∀m<k,X.1.at X.1.net m=0,fun k=>i.p.months.length-k,⟨by omega,fun m hm=>by omega⟩,?_⟩
   rintro k ⟨g3,g4⟩
   refine zL (fun hlt=>⟨⟨X.1,k⟩,rfl,rfl,hfit.1,fun _ _=> ?_⟩) (fun hlt=>⟨(),?_,trivial⟩)
   ·dsimp only
    refine Cv.cnd.mk (fun e=>⟨(),?_,trivial⟩) (fun e=>⟨k+1,?_,⟨by omega,fun m hm=> ?_⟩,by omega,rfl,by(repeat'(first|exact trivial|exact rfl|apply And.intro))⟩)
    ·rw[e1,ySk (zCw (k:=k) (by omega) (by simpa using e))]
    ·rw[w64 (by omega)];rfl
    ·rcases yUu m k with h|h
     ·exact g4 m h
     ·obtain rfl:m=k:=by omega
      simpa using e
   ·rw[e1,ySj (by
     rw[Bool.not_eq_true]
     exact mH fun m hm=>by simpa using g4 m (by omega))]
 ·intro _ c
  refine Cv.cnd.mk (fun e=>⟨(),?_,trivial⟩) (fun e=>absurd (by simpa using e) c)
  rw[xE,ySk c]
theorem zZj:reportsC.ok Tryz.prog 31:=okw mixed (gokc newL_ok (gokc ladd_ok (gokc z2u gok0))) 0 (fun _=>[]) (fun i=>zXr i) [] Tryz.func31 z7q
theorem zXb:(uX 1).check=0:=by decide+kernel
theorem cD (n:Int):(uX n).small:=⟨by simp[uX],by simp[uX],by simp[uX]⟩
theorem yCd (u:Unit) (h:known25C.cnd u):zWr u:=by
 unfold zWr fK cT wG cU x7 j0 zS dI
 refine⟨1,rfl,trivial,fun _ _=>⟨uX 1,rfl,rfl,rfl,rfl,rfl,rfl,rfl,rfl,rfl,rfl,rfl,cD 1,fun _ _=> ?_,fun _ c=>absurd zXb c⟩⟩
 refine⟨⟨uX 1,[⟨3,1,0,1,0,1,0,0⟩]⟩,rfl,rfl,rfl,rfl,rfl,rfl,rfl,rfl,rfl,rfl,rfl,rfl,⟨cD 1,by simp⟩,fun _ _=> ?_⟩
 refine⟨⟨uX 1,[]⟩,rfl,rfl,rfl,rfl,rfl,rfl,rfl,rfl,rfl,rfl,rfl,rfl,⟨cD 1,by simp⟩,fun _ _=> ?_⟩
 have r1:xE (uX 1) []=0:=by decide+kernel
 have r2:xE (uX 1) [⟨3,1,0,1,0,1,0,0⟩]=26:=by decide+kernel
 dsimp only
 rw[r1,r2]
 have hst:(h9 (uX 1)).small:=⟨by decide+kernel,by decide+kernel⟩
 have hcnt:(h9 (uX 1)).cntOk:=⟨by decide+kernel,by decide+kernel⟩
 have htop:jU (h9 (uX 1)).tops:=⟨by decide+kernel,by decide+kernel⟩
 have r3:x6 (uX 1) (h9 (uX 1)).tops=0:=by decide+kernel
 refine Cv.cnd.mk (fun _=>Cv.cnd.mk (fun _=>⟨⟨uX 1,h9 (uX 1),[]⟩,rfl,hst,fun _ _=>⟨by(repeat'(first|exact trivial|exact rfl|apply And.intro)),?_⟩⟩) (fun e=>absurd e (by decide))) (fun e=>absurd e (by decide))
 refine .inl ⟨⟨uX 1,h9 (uX 1)⟩,rfl,rfl,rfl,rfl,rfl,rfl,rfl,rfl,rfl,rfl,rfl,rfl,⟨cD 1,hcnt,htop⟩,fun _ _=> ?_⟩
 dsimp only
 rw[r3]
 refine Cv.cnd.mk (fun _=> .inr ⟨uX 1,rfl,rfl,rfl,rfl,rfl,rfl,rfl,rfl,rfl,rfl,rfl,trivial,cD 1,fun _ _=>⟨(),rfl,trivial⟩⟩) (fun e=>absurd e (by decide))
theorem known25_ok:known25C.ok Tryz.prog 32:=okw mixed (gokc yAz (gokc newM_ok (gokc zZj (gokc state_ok (gokc books_ok (gokc zUt gok0)))))) 0 (fun _=>[]) (fun _=>[]) [] Tryz.func32 yCd
theorem xO {n lo hi:Int} (h:lo≤hi):lo≤zJ n lo hi∧zJ n lo hi≤hi:=by
 rw[zJ]
 have h1:=Int.emod_nonneg n (show hi-lo+1≠0 by omega)
 have h2:=Int.emod_lt_of_pos n (show 0<hi-lo+1 by omega)
 omega
end Sx
