/- Texts of ours, one behind the other: a walk that the kernel reckons, and contracts of functions. No condition. -/
import Derived.Laws.AppendOwn
import Derived.Lib.AppendZerosOnto
import Derived.Lib.Overlaps
import Derived.Test.YthkofaanekmpmaaGreatZ4
namespace Sx
set_option linter.unusedVariables false
set_option linter.unusedSimpArgs false
set_option maxRecDepth 100000
open Go Cv Go.Proofs
theorem z1q {l:List Quote} {q:Quote} (s:Int) (h:l[0]? =some q):(zU (l.take (max 0 1)) s).1=q:=by
 cases l with
 |nil=>simp at h
 |cons a l=>simp at h;subst h;rfl
theorem z0d {l:List Quote} {j:Nat} {q:Quote} (s:Int) (h:l[j]? =some q):
 (zU (l.take (max (j+1) 1)) s).1=if btr s q.price (zU (l.take (max j 1)) s).1.price then q else(zU (l.take (max j 1)) s).1:=by
 cases l with
 |nil=>simp at h
 |cons a l=>
  cases j with
  |zero=>simp at h;subst h;simp[zU]
  |succ m=>
   simp only[yYp]at h
   rw[show max (m+1+1) 1=(m+1)+1 by omega,show max (m+1) 1=m+1 by omega,yYd,yYd,yXx,h]
   simp only[zU,yZx,y2u]
   rfl
theorem z7s {l:List Quote} (s:Int) (h:l≠[]):(zU l s).2=true:=by
 cases l with
 |nil=>exact absurd rfl h
 |cons a l=>rfl
theorem yPz (i:BsI) (h:bestQC.cnd i):yFj i:=by
 obtain⟨hs,hl⟩:(i.s=1∨i.s=2)∧i.l.length≤1000000:=h
 unfold yFj zEn yC zAw vM zAb dI
 simp only[yWu]
 refine Cv.cnd.mk (fun c=> ?_) (fun c=> ?_)
 ·have e:i.l=[]:=yXs (by have:(i.l.length:Int)=0:=(by simpa using c);omega)
  rw[e];exact kp
 have h0:0<i.l.length:=by
  rcases Nat.eq_zero_or_pos i.l.length with h|h
  ·rw[h]at c;exact absurd c (by decide)
  ·exact h
 have hne:i.l≠[]:=by intro e;rw[e]at h0;simp at h0
 have two:=z7s i.s hne
 obtain⟨q,hq⟩:=zW h0
 have b0:=z1q i.s hq
 have fin:(zU (i.l.take (max i.l.length 1)) i.s).1=(zU i.l i.s).1:=by
  rw[yXk (by omega)]
 have step:∀j:Nat,j<i.l.length→∀x:Quote,i.l[j]? =some x→(btr i.s x.price (zU (i.l.take (max j 1)) i.s).1.price=true→(zU (i.l.take (max (j+1) 1)) i.s).1=x)∧(btr i.s x.price (zU (i.l.take (max j 1)) i.s).1.price=false→(zU (i.l.take (max (j+1) 1)) i.s).1=(zU (i.l.take (max j 1)) i.s).1):=fun j hj x hx=>by
  have:=z0d i.s hx
  constructor
  ·intro e;rw[this,yWt e]
  ·intro e;rw[this,yWs (by rw[e];simp)]
 refine Cv.cnd.mk (fun c1=>Cv.cnd.mk (fun c2=> ?_) (fun c2=> ?_)) (fun c1=> ?_)
 ·exfalso
  have c1:i.s≠1:=by simpa using c1
  have c2:i.s≠2:=by simpa using c2
  omega
 all_goals
  refine⟨⟨by omega,by omega⟩,q.price,q.qty,q.a.inst,q.a.side,q.b.inst,q.b.side,elA hq (by simp[zL]) rfl,0,?_⟩
  rw[b0]
  (repeat'(first|exact rfl|exact trivial|assumption|apply And.intro|refine fun(_:Unit) (_:True)=>?_|refine Exists.intro () ?_|omega|(dsimp only;omega)))
  refine⟨fun j=>j≤i.l.length,fun j=>i.l.length-j,by omega,fun j hj=>zK (fun hlt=> ?_) (fun hlt=> ?_)⟩
  ·have hj':j<i.l.length:=by omega
   obtain⟨x,hx⟩:=zW hj'
   obtain⟨st,sf⟩:=step j hj' x hx
   refine⟨⟨by omega,by omega⟩,x.price,x.qty,x.a.inst,x.a.side,x.b.inst,x.b.side,elA hx (by simp[zL]) rfl,⟨i.s,x.price,_⟩,rfl,rfl,rfl,trivial,fun _ _=>Cv.cnd.mk (fun e=>⟨j+1,by rw[w64 (by omega)];rfl,?_⟩) (fun e=>⟨j+1,by rw[w64 (by omega)];rfl,?_⟩)⟩
   ·rw[st e];exact kp
   ·rw[sf e];exact kp
  ·have hj:j≤i.l.length:=hj
   obtain rfl:j=i.l.length:=by omega
   rw[fin,two];exact kp
theorem zVr:bestQC.ok Tryz.prog 159:=okw mixed (gokc z0r gok0) 0 (fun _=>[]) (fun i=>yMo i) [] Tryz.func159 yPz
theorem zCd (tops:List Top) (a b:Leg) (less:Bool):(mkq tops a b less).length≤1:=by
 unfold mkq
 dsimp only
 split<;>split<;>simp
theorem zSr {α:Type} {f:Nat→List α} (h:∀k,(f k).length≤1):∀n,((List.range n).flatMap f).length≤n
 |0=>by simp
 |n+1=>by
  rw[y1r,yYq,yWx]
  have:=zSr h n
  have:=h n
  simp only[yYm,y2a,yXp]
  omega
theorem zAj (i:fU) (s:Int) (k:Nat):(kH i s k).length≤k:=zSr (fun _=>zCd _ _ _ _) k
theorem nN (i:fU) (s:Int) (k:Nat):(jN i s k).length≤k:=zSr (fun _=>zCd _ _ _ _) k
theorem zCf (i:fU) (s:Int):(qU i s).length≤100:=by
 unfold qU
 split
 ·simp
 ·rename_i h
  have hc:=xP i.p
  have m6:=(jI (sL (p:=i.p) (by omega))).m6
  split
  ·rw[yWu]
   have:=zCd i.tops ⟨(i.p.legs i.inst).2.1,3-s⟩ ⟨(i.p.legs i.inst).1,s⟩ true
   have e:(yP i s).length≤1:=this
   omega
  ·rw[yWx]
   have h1:=zAj i s (i.p.months.length-(i.inst.toNat+1))
   have h2:=nN i s i.inst.toNat
   omega
theorem yIq (j:sU) (h:quotesC.cnd j):z2w j:=by
 unfold z2w zBb gL kT qT gA xU dI
 obtain⟨hp,ht,hr⟩:j.i.p.small∧wV j.i.tops:=h
 obtain⟨h1,h2,h3⟩:=hp
 have hl:=zCf j.i (zD j.s)
 refine⟨j,?_⟩
 simp only[yWu]
 (repeat'(first|exact rfl|exact trivial|assumption|apply And.intro|refine fun(_:Unit) (_:True)=>?_|refine Exists.intro () ?_|omega|(dsimp only;omega)))
 refine⟨0,rfl,rfl,fun k=>k≤(qU j.i (zD j.s)).length,fun k=>(qU j.i (zD j.s)).length-k,by omega,fun k hk=>zK (fun hlt=> ?_) (fun hlt=> ?_)⟩
 ·have hk':k<(qU j.i (zD j.s)).length:=by omega
  obtain⟨q,hq⟩:=zW hk'
  have hf:(List.filter (fun q=>decide (j.i.p.price j.i.inst q.price=0)) (List.take k (qU j.i (zD j.s)))).length≤100:=by
   have:=y0b (fun q:Quote=>decide (j.i.p.price j.i.inst q.price=0)) (List.take k (qU j.i (zD j.s)))
   rw[yXo]at this
   omega
  refine⟨⟨by omega,by omega⟩,q.price,q.qty,q.a.inst,q.a.side,q.b.inst,q.b.side,elA hq (by simp[zL]) rfl,⟨j.i.p,j.i.inst,q.price⟩,?_⟩
  (repeat'(first|exact rfl|exact trivial|assumption|apply And.intro|refine fun(_:Unit) (_:True)=>?_|refine Exists.intro () ?_|omega|(dsimp only;omega)))
  refine Cv.cnd.mk (fun c=>⟨by omega,k+1,by rw[w64 (by omega)];rfl,?_⟩) (fun c=>⟨k+1,by rw[w64 (by omega)];rfl,?_⟩)
  ·have c:j.i.p.price j.i.inst q.price=0:=by simpa using c
   rw[yXx,hq,yZx,y0p,y1u (by simpa using c),yXe]
   exact kp
  ·have c:¬j.i.p.price j.i.inst q.price=0:=by simpa using c
   rw[yXx,hq,yZx,y0p,y1v (by simpa using c),List.filter_nil,yXp]
   exact kp
 ·have hk:k≤(qU j.i (zD j.s)).length:=hk
  obtain rfl:k=(qU j.i (zD j.s)).length:=by omega
  rw[yXk (yYa _)]
  exact kp
open Go Cv Go.Proofs
theorem z8h:∀n≤6,∀a<n,∀b<n,a<b→0≤(yJ n a:Int)+b-a-1∧(yJ n a:Int)+b-a-1<((n+n*(n-1) / 2:Nat):Int):=by decide
theorem cJ {p:Prd} (hc:p.check=0) {a b:Nat} (hab:a<b) (hb:b<p.months.length):0≤(p.spread a b).1∧(p.spread a b).1<p.count:=by
 have m6:=(jI hc).m6
 have:=z8h p.months.length m6 a (by omega) b hb hab
 rw[Prd.spread,yWs (by omega),Prd.count,yWt hc]
 simpa using this
theorem yGz:∀n≤6,∀k<n+n*(n-1) / 2,n≤k→(qW n k n 0).2.2=true∧0≤(qW n k n 0).1∧(qW n k n 0).1<n∧0≤(qW n k n 0).2.1∧(qW n k n 0).2.1<n:=by decide
theorem dN {p:Prd} (hc:p.check=0) {k:Nat} (hk:k<p.count):((p.legs k).2.2=true∧0≤(p.legs k).1∧(p.legs k).1<p.months.length∧0≤(p.legs k).2.1∧(p.legs k).2.1<p.months.length)∨((p.legs k).2.2=false∧k<p.months.length):=by
 have m6:=(jI hc).m6
 have hk':=hk
 rw[Prd.count,yWt hc]at hk'
 by_cases h:k<p.months.length
 ·right
  rw[Prd.legs,yWs (by omega),yWt (by omega)]
  exact⟨rfl,h⟩
 ·left
  rw[Prd.legs,yWs (by omega),yWs (by omega)]
  exact yGz p.months.length m6 k hk' (by omega)
theorem zJv {p:Prd} (hc:p.check=0):p.months.length≤p.count:=by
 rw[Prd.count,yWt hc];omega
theorem zYa {i:fU} {s:Int} {k:Nat} (hk:k<(yP i s).length):List.map zL (List.map (dW i s) (List.take (k+1) (yP i s))++List.drop (k+1) (yP i s))=
 zH (List.map zL (List.map (dW i s) (List.take k (yP i s))++List.drop k (yP i s))) k (0+2) [D.v (.int .i64 (i.p.legs i.inst).1),D.v (.int .i64 s),D.v (.int .i64 (i.p.legs i.inst).2.1),D.v (.int .i64 (3-s))]:=by
 obtain⟨q,hq⟩:=zW hk
 rw[zPu (a:=List.map zL (List.map (dW i s) (List.take k (yP i s)))) (b:=List.map zL (List.drop (k+1) (yP i s))) (x:=zL q) (y:=zL (dW i s q)) (by
  rw[yXe,yZs hk,(yWv.1 hq).2,yXh]) (by simp;omega) rfl]
 rw[yXx,hq,yZx,yXe,yXe,yXe,yXh,y0n,yXh,y0n,yXc]
 rfl
theorem yUc (i:fU) (h:all1C.cnd i):yKv i:=by
 unfold yKv zY zEe zCq mA wO mX eB mG kM xU eD vP h9 gA dI
 obtain⟨⟨h1,h2,h3⟩,ht,hr⟩:i.p.small∧wV i.tops:=h
 have hto:wV i.tops:=⟨ht,hr⟩
 refine⟨i.p,?_⟩
 simp only[yWu,xC]
 (repeat'(first|exact rfl|exact trivial|assumption|apply And.intro|refine fun(_:Unit) (_:True)=>?_|refine Exists.intro () ?_|omega|(dsimp only;omega)))
 have bad (hb:i.p.count=0∨(i.tops.length:Int)≠i.p.count∨i.inst<0∨(i.p.count:Int)≤i.inst):∃(o:Unit),List.map zL (qU i 1)=[]∧True:=⟨(),by rw[qU,yWt hb];rfl,trivial⟩
 refine Cv.cnd.mk (fun c1=>bad (.inl (by have c1:(i.p.count:Int)=0:=(by simpa using c1);omega))) fun c1=>Cv.cnd.mk (fun c2=>bad (.inr (.inl (by simpa using c2)))) fun c2=>zK (fun c3=>bad (by omega)) fun c3=>zK (fun c4=>bad (by omega)) fun c4=>⟨⟨i.p,i.inst⟩,?_⟩
 have c1:i.p.count≠0:=by
  have c1:¬(i.p.count:Int)=0:=(by simpa using c1)
  omega
 have c2:(i.tops.length:Int)=i.p.count:=by simpa using c2
 have c4:i.inst<(i.p.count:Int):=by
  have c4:¬i.inst≥(i.p.count:Int):=c4
  omega
 have hc:=sL c1
 have hm:=zJv hc
 have e0:qU i 1=if(i.p.legs i.inst).2.2 then(yP i 1).map (dW i 1)else kH i 1 (i.p.months.length-(i.inst.toNat+1))++jN i 1 i.inst.toNat:=by
  rw[qU,yWs (by omega)]
 obtain⟨k,hk⟩:∃k:Nat,i.inst=k:=⟨i.inst.toNat,by omega⟩
 have hl:=dN hc (k:=k) (by omega)
 rw[← hk]at hl
 (repeat'(first|exact rfl|exact trivial|assumption|apply And.intro|refine fun(_:Unit) (_:True)=>?_|refine Exists.intro () ?_|omega|(dsimp only;omega)))
 refine Cv.cnd.mk (fun c5=> ?_) (fun c5=> ?_)
 ·have c5:(i.p.legs i.inst).2.2=true:=c5
  rw[e0,yWt c5]
  rcases hl with⟨_,l1,l2,l3,l4⟩|⟨l1,_⟩
  ·have hsl:(yP i 1).length≤1:=zCd _ _ _ _
   refine⟨1,rfl,by omega,fun _ _=>⟨⟨⟨i.tops,[],(i.p.legs i.inst).2.1,(i.p.legs i.inst).1,true⟩,true,false⟩,rfl,rfl,rfl,rfl,rfl,rfl,rfl,⟨l3,by dsimp only;omega,l1,by dsimp only;omega,hto,by simp⟩,fun _ _=>⟨0,rfl,rfl,rfl,fun j=>j≤(yP i 1).length,fun j=>(yP i 1).length-j,by omega,?_⟩⟩⟩
   intro j hj
   have hj:j≤(yP i 1).length:=hj
   have hL:(List.map (dW i 1) (List.take j (yP i 1))++List.drop j (yP i 1)).length=(yP i 1).length:=by simp;omega
   refine zK (fun hlt=> ?_) (fun hlt=> ?_)
   ·have hlt:(j:Int)<((yP i 1).length:Int):=hlt
    refine⟨⟨by omega,by rw[hL];omega⟩,by rw[hL];omega,j+1,by rw[w64 (by omega)];rfl,kp,?_,?_⟩
    ·exact zYa (i:=i) (s:=1) (by omega)
    ·exact kp
   ·have hlt:¬(j:Int)<((yP i 1).length:Int):=hlt
    obtain rfl:j=(yP i 1).length:=by omega
    rw[yXk (yYa _),List.drop_length,yXp]
    exact kp
  ·rw[c5]at l1;cases l1
 ·have c5:(i.p.legs i.inst).2.2=false:=c5
  rw[e0,yWs (by rw[c5];simp)]
  rcases hl with⟨l1,_⟩|⟨_,l2⟩
  ·rw[c5]at l1;cases l1
  have m6:=(jI hc).m6
  have e1:i.inst.toNat=k:=by omega
  rw[e1]
  refine⟨0,by rw[w64 (by omega)];omega,kp,rfl,fun j=>j≤i.p.months.length-(k+1),fun j=>i.p.months.length-(k+1)-j,by omega,?_⟩
  intro j hj
  have hj:j≤i.p.months.length-(k+1):=hj
  have hq:=zAj i 1 j
  refine zK (fun hlt=> ?_) (fun hlt=> ?_)
  ·obtain⟨b1,b2⟩:=cJ hc (a:=k) (b:=k+1+j) (by omega) (by omega)
   have eb:((k+1+j:Nat):Int)=i.inst+1+j:=by omega
   rw[eb,← hk]at b1 b2
   refine⟨⟨i.p,i.inst,i.inst+1+j⟩,?_⟩
   (repeat'(first|exact rfl|exact trivial|assumption|apply And.intro|refine fun(_:Unit) (_:True)=>?_|refine Exists.intro () ?_|omega|(dsimp only;omega)))
   refine⟨⟨⟨i.tops,kH i 1 j,(i.p.spread i.inst (i.inst+1+j)).1,i.inst+1+j,false⟩,false,false⟩,rfl,rfl,rfl,rfl,rfl,kp,rfl,⟨b1,by dsimp only;omega,by dsimp only;omega,by dsimp only;omega,hto,by dsimp only;omega⟩,fun _ _=>⟨j+1,by rw[w64 (by omega)];omega,kp,?_,?_⟩⟩
   ·rw[kH,y1r,yYq]
    simp only[yYm,y2a,yXp]
    rfl
   ·exact kp
  ·obtain rfl:j=i.p.months.length-(k+1):=by omega
   refine⟨0,rfl,kp,by rw[jN];simp,fun j=>j≤k,fun j=>k-j,by omega,?_⟩
   intro j hj
   have hj:j≤k:=hj
   have hq2:=nN i 1 j
   refine zK (fun hlt2=> ?_) (fun hlt2=> ?_)
   ·obtain⟨b1,b2⟩:=cJ hc (a:=j) (b:=k) (by omega) (by omega)
    rw[← hk]at b1 b2
    refine⟨⟨i.p,j,i.inst⟩,?_⟩
    (repeat'(first|exact rfl|exact trivial|assumption|apply And.intro|refine fun(_:Unit) (_:True)=>?_|refine Exists.intro () ?_|omega|(dsimp only;omega)))
    refine⟨1,rfl,by omega,fun _ _=>⟨⟨⟨i.tops,kH i 1 (i.p.months.length-(k+1))++jN i 1 j,(i.p.spread j i.inst).1,j,true⟩,true,false⟩,rfl,rfl,rfl,rfl,rfl,kp,rfl,⟨b1,by dsimp only;omega,by dsimp only;omega,by dsimp only;omega,hto,by dsimp only;rw[yWx];omega⟩,fun _ _=>⟨j+1,by rw[w64 (by omega)];omega,kp,?_,?_⟩⟩⟩
    ·rw[jN,y1r,yYq]
     simp only[yYm,y2a,yXp,yXc]
     rfl
    ·exact kp
   ·obtain rfl:j=k:=by omega
    exact kp
theorem yHr:all1C.ok Tryz.prog 160:=okw mixed (gokc cN (gokc lE (gokc zPf (gokc zOm (gokc zVw gok0))))) 0 (fun _=>[]) (fun i=>ySy i 1) [] Tryz.func160 yUc
theorem yTr (i:fU) (h:all2C.cnd i):yLz i:=by
 unfold yLz zY a6 tT m7 zEe zCq mA wO kM xU eD vP h9 gA dI
 obtain⟨⟨h1,h2,h3⟩,ht,hr⟩:i.p.small∧wV i.tops:=h
 have hto:wV i.tops:=⟨ht,hr⟩
 refine⟨i.p,?_⟩
 simp only[yWu,xC]
 (repeat'(first|exact rfl|exact trivial|assumption|apply And.intro|refine fun(_:Unit) (_:True)=>?_|refine Exists.intro () ?_|omega|(dsimp only;omega)))
 have bad (hb:i.p.count=0∨(i.tops.length:Int)≠i.p.count∨i.inst<0∨(i.p.count:Int)≤i.inst):∃(o:Unit),List.map zL (qU i 2)=[]∧True:=⟨(),by rw[qU,yWt hb];rfl,trivial⟩
 refine Cv.cnd.mk (fun c1=>bad (.inl (by have c1:(i.p.count:Int)=0:=(by simpa using c1);omega))) fun c1=>Cv.cnd.mk (fun c2=>bad (.inr (.inl (by simpa using c2)))) fun c2=>zK (fun c3=>bad (by omega)) fun c3=>zK (fun c4=>bad (by omega)) fun c4=>⟨⟨i.p,i.inst⟩,?_⟩
 have c1:i.p.count≠0:=by
  have c1:¬(i.p.count:Int)=0:=(by simpa using c1)
  omega
 have c2:(i.tops.length:Int)=i.p.count:=by simpa using c2
 have c4:i.inst<(i.p.count:Int):=by
  have c4:¬i.inst≥(i.p.count:Int):=c4
  omega
 have hc:=sL c1
 have hm:=zJv hc
 have e0:qU i 2=if(i.p.legs i.inst).2.2 then(yP i 2).map (dW i 2)else kH i 2 (i.p.months.length-(i.inst.toNat+1))++jN i 2 i.inst.toNat:=by
  rw[qU,yWs (by omega)]
 obtain⟨k,hk⟩:∃k:Nat,i.inst=k:=⟨i.inst.toNat,by omega⟩
 have hl:=dN hc (k:=k) (by omega)
 rw[← hk]at hl
 (repeat'(first|exact rfl|exact trivial|assumption|apply And.intro|refine fun(_:Unit) (_:True)=>?_|refine Exists.intro () ?_|omega|(dsimp only;omega)))
 refine Cv.cnd.mk (fun c5=> ?_) (fun c5=> ?_)
 ·have c5:(i.p.legs i.inst).2.2=true:=c5
  rw[e0,yWt c5]
  rcases hl with⟨_,l1,l2,l3,l4⟩|⟨l1,_⟩
  ·have hsl:(yP i 2).length≤1:=zCd _ _ _ _
   refine⟨2,rfl,by omega,fun _ _=>⟨⟨⟨i.tops,[],(i.p.legs i.inst).2.1,(i.p.legs i.inst).1,true⟩,false,true⟩,rfl,rfl,rfl,rfl,rfl,rfl,rfl,⟨l3,by dsimp only;omega,l1,by dsimp only;omega,hto,by simp⟩,fun _ _=>⟨0,rfl,rfl,rfl,fun j=>j≤(yP i 2).length,fun j=>(yP i 2).length-j,by omega,?_⟩⟩⟩
   intro j hj
   have hj:j≤(yP i 2).length:=hj
   have hL:(List.map (dW i 2) (List.take j (yP i 2))++List.drop j (yP i 2)).length=(yP i 2).length:=by simp;omega
   refine zK (fun hlt=> ?_) (fun hlt=> ?_)
   ·have hlt:(j:Int)<((yP i 2).length:Int):=hlt
    refine⟨⟨by omega,by rw[hL];omega⟩,by rw[hL];omega,j+1,by rw[w64 (by omega)];rfl,kp,?_,?_⟩
    ·exact zYa (i:=i) (s:=2) (by omega)
    ·exact kp
   ·have hlt:¬(j:Int)<((yP i 2).length:Int):=hlt
    obtain rfl:j=(yP i 2).length:=by omega
    rw[yXk (yYa _),List.drop_length,yXp]
    exact kp
  ·rw[c5]at l1;cases l1
 ·have c5:(i.p.legs i.inst).2.2=false:=c5
  rw[e0,yWs (by rw[c5];simp)]
  rcases hl with⟨l1,_⟩|⟨_,l2⟩
  ·rw[c5]at l1;cases l1
  have m6:=(jI hc).m6
  have e1:i.inst.toNat=k:=by omega
  rw[e1]
  refine⟨0,by rw[w64 (by omega)];omega,kp,rfl,fun j=>j≤i.p.months.length-(k+1),fun j=>i.p.months.length-(k+1)-j,by omega,?_⟩
  intro j hj
  have hj:j≤i.p.months.length-(k+1):=hj
  have hq:=zAj i 2 j
  refine zK (fun hlt=> ?_) (fun hlt=> ?_)
  ·obtain⟨b1,b2⟩:=cJ hc (a:=k) (b:=k+1+j) (by omega) (by omega)
   have eb:((k+1+j:Nat):Int)=i.inst+1+j:=by omega
   rw[eb,← hk]at b1 b2
   refine⟨⟨i.p,i.inst,i.inst+1+j⟩,?_⟩
   (repeat'(first|exact rfl|exact trivial|assumption|apply And.intro|refine fun(_:Unit) (_:True)=>?_|refine Exists.intro () ?_|omega|(dsimp only;omega)))
   refine⟨⟨⟨i.tops,kH i 2 j,(i.p.spread i.inst (i.inst+1+j)).1,i.inst+1+j,false⟩,true,true⟩,rfl,rfl,rfl,rfl,rfl,kp,rfl,⟨b1,by dsimp only;omega,by dsimp only;omega,by dsimp only;omega,hto,by dsimp only;omega⟩,fun _ _=>⟨j+1,by rw[w64 (by omega)];omega,kp,?_,?_⟩⟩
   ·rw[kH,y1r,yYq]
    simp only[yYm,y2a,yXp]
    rfl
   ·exact kp
  ·obtain rfl:j=i.p.months.length-(k+1):=by omega
   refine⟨0,rfl,kp,by rw[jN];simp,fun j=>j≤k,fun j=>k-j,by omega,?_⟩
   intro j hj
   have hj:j≤k:=hj
   have hq2:=nN i 2 j
   refine zK (fun hlt2=> ?_) (fun hlt2=> ?_)
   ·obtain⟨b1,b2⟩:=cJ hc (a:=j) (b:=k) (by omega) (by omega)
    rw[← hk]at b1 b2
    refine⟨⟨i.p,j,i.inst⟩,?_⟩
    (repeat'(first|exact rfl|exact trivial|assumption|apply And.intro|refine fun(_:Unit) (_:True)=>?_|refine Exists.intro () ?_|omega|(dsimp only;omega)))
    refine⟨2,rfl,by omega,fun _ _=>⟨⟨⟨i.tops,kH i 2 (i.p.months.length-(k+1))++jN i 2 j,(i.p.spread j i.inst).1,j,true⟩,false,true⟩,rfl,rfl,rfl,rfl,rfl,kp,rfl,⟨b1,by dsimp only;omega,by dsimp only;omega,by dsimp only;omega,hto,by dsimp only;rw[yWx];omega⟩,fun _ _=>⟨j+1,by rw[w64 (by omega)];omega,kp,?_,?_⟩⟩⟩
    ·rw[jN,y1r,yYq]
     simp only[yYm,y2a,yXp,yXc]
     rfl
    ·exact kp
   ·obtain rfl:j=k:=by omega
    exact kp
theorem yJc:all2C.ok Tryz.prog 160:=okw mixed (gokc cN (gokc lE (gokc zPf (gokc zOm (gokc zVw gok0))))) 0 (fun _=>[]) (fun i=>ySy i 2) [] Tryz.func160 yTr
theorem yDy:allC.ok Tryz.prog 160:=fun j=>match j with
 |⟨i,false⟩=>yHr i
 |⟨i,true⟩=>yJc i
theorem zOk:quotesC.ok Tryz.prog 109:=okw mixed (gokc yDy (gokc sD gok0)) 0 (fun _=>[]) (fun j=>yHt j) [] Tryz.func109 yIq
open Go Cv Go.Proofs
open Go Cv Go.Proofs
open Go Cv Go.Proofs
theorem zIa (i:fU) (s:Int):(xO i s).length≤100:=y0m (y0b _ _) (zCf i s)
open Go Cv Go.Proofs
structure Mkt where
 p:Prd
 s:MSt
 used:List Int
def yD (l:List Int):List (Value×List D):=l.map fun x=>(.int .i64 x,[.v (.bool true)])
def yZ (m:Mkt):Nat→AObj
 |0=> .cells [sV m.p.code,.own 3,zA m.p.tick,zA m.p.low,zA m.p.high,zA m.p.wide,zA m.p.rule,zA m.p.top,zA m.p.least,zA m.p.part,.own 4,.nm 1 0,.mp 2] 179
 |1=>zF m.s
 |2=> .map (yD m.used)
 |3=> .fro 1 (iE m.p.months)
 |4=> .fro 1 (iE m.p.settle)
 |_=> .gone
def g9 (m:Mkt):AObj:= .adt Mkt 5 yZ m
def newMC:Con where
 ι:=Prd
 pat:=fun p=>[prdV p]
 pre:=fun _=>[]
 cnd:=fun p=>p.small
 alts:=fun p=>[{o:=Unit,res:=fun _=> .tup [.nm 0 0,zA 0],post:=fun _=>[g9 ⟨p,aV p,[]⟩],rel:=fun _=>p.check=0},{o:=Unit,res:=fun _=> .tup [.d (.v (.pointer none)),zA p.check],post:=fun _=>[],rel:=fun _=>p.check≠0}]
def stateC:Con:=con1 Mkt (fun _=>[.nm 0 0]) (fun m=>[g9 m]) (fun m=>m.s.small) (fun _=> .nm 1 0) (fun m=>[g9 m,zF m.s])
open Go Cv Go.Proofs
def zFd (a:Prd) (b:Prd) (c:Unit):Prop:=True∧(0+(iE a.settle).length)*(8:Nat)≤(140737488355328:Nat)∧((∃(d:Unit),(0:Int)=(0:Int)∧sb a.code=sb a.code∧a.tick=a.tick∧a.low=a.low∧a.high=a.high∧a.wide=a.wide∧a.rule=a.rule∧a.top=a.top∧a.least=a.least∧a.part=a.part∧zF (aV a)=zF (aV b)∧yD []=[]∧iE a.months=[]++iE a.months∧iE a.settle=[]++iE a.settle∧a.check=0)∨∃(c:Unit),False)
def zFx (a:Prd) (b:Prd) (c:Unit):Prop:=True∧True∧(0+(iE a.months).length)*(8:Nat)≤(140737488355328:Nat)∧zFd a b c
def zEp (a:Prd) (b:Unit):Prop:=True∧(0+(iE a.settle).length)*(8:Nat)≤(140737488355328:Nat)∧((∃(c:Unit),(0:Int)=(0:Int)∧sb a.code=sb a.code∧a.tick=a.tick∧a.low=a.low∧a.high=a.high∧a.wide=a.wide∧a.rule=a.rule∧a.top=a.top∧a.least=a.least∧a.part=a.part∧False)∨∃(b:Unit),False)
def zEy (a:Prd) (b:Unit):Prop:=True∧True∧(0+(iE a.months).length)*(8:Nat)≤(140737488355328:Nat)∧zEp a b
def yMb (p:Prd):Prop:=
 ∃(a:Prd),sb a.code=sb p.code∧iE a.months=iE p.months∧a.tick=p.tick∧a.low=p.low∧a.high=p.high∧a.wide=p.wide∧a.rule=p.rule∧a.top=p.top∧a.least=p.least∧a.part=p.part∧iE a.settle=iE p.settle∧(zY a)∧(∀(b:Unit),a.check=0→(True∧True∧((0+(iE p.months).length)*(8:Nat)≤(140737488355328:Nat)∧True∧zFd p a b)∧zFx p a b)∧True∧True∧zFx p a b)∧∀(b:Unit),a.check≠0→cnd (a.check !=0) ((∃(c:Unit),False)∨∃(b:Unit),True∧p.check=a.check∧(p.check=0→False)) ((True∧True∧((0+(iE p.months).length)*(8:Nat)≤(140737488355328:Nat)∧True∧zEp p b)∧zEy p b)∧True∧True∧zEy p b)
def yRh (m:Mkt):Prop:=
 ∃(i:MSt),zF i=zF m.s∧(i.books.length≤1000000∧∀(b:Book),b∈i.books→(b.a.slots.length≤1000000∧b.a.queues.length≤1000000)∧b.buys.length≤1000000∧b.sells.length≤1000000∧b.spare.length≤1000000)∧∀(o:Unit),True→∃(o:Unit),sb m.p.code=sb m.p.code∧m.p.tick=m.p.tick∧m.p.low=m.p.low∧m.p.high=m.p.high∧m.p.wide=m.p.wide∧m.p.rule=m.p.rule∧m.p.top=m.p.top∧m.p.least=m.p.least∧m.p.part=m.p.part∧zF m.s=zF i∧yD m.used=yD m.used∧AObj.fro 1 (iE m.p.months)=AObj.fro 1 (iE m.p.months)∧AObj.fro 1 (iE m.p.settle)=AObj.fro 1 (iE m.p.settle)∧zF m.s=zF i∧True
open Go Cv Go.Proofs
theorem zUv:stateC.ok Tryz.prog 49:=okw (V:=yRh) mixed (gokc zEf gok0) 0 (fun _=>[]) (fun _=>[]) [0] Tryz.func49 fun(m:Mkt) h=>by
 obtain⟨h1,h2⟩:m.s.small:=h
 refine⟨m.s,rfl,⟨h1,h2⟩,fun _ _=>⟨(),?_⟩⟩
 exact kp
theorem yUh (p:Prd) (h:newMC.cnd p):yMb p:=by
 unfold yMb zEy zEp zFx zFd zY
 obtain⟨h1,h2,h3⟩:p.small:=h
 refine⟨p,?_⟩
 simp only[xC]
 (repeat'(first|exact rfl|exact trivial|assumption|apply And.intro|refine fun(_:Unit) (_:True)=>?_|refine Exists.intro () ?_|omega|(dsimp only;omega)))
 ·intro _ c
  (repeat'(first|exact rfl|exact trivial|assumption|apply And.intro|refine fun(_:Unit) (_:True)=>?_|refine Exists.intro () ?_|omega|(dsimp only;omega)))
  all_goals(refine .inl ⟨(),?_⟩;(repeat'(first|exact rfl|exact trivial|assumption|apply And.intro|refine fun(_:Unit) (_:True)=>?_|refine Exists.intro () ?_|omega|(dsimp only;omega))))
 ·intro _ c
  refine Cv.cnd.mk (fun e=> .inr ⟨(),trivial,kp,c⟩) (fun e=>absurd (by simpa using e) c)
theorem z5q:newMC.ok Tryz.prog 47:=okw mixed (gokc yHn gok0) 0 (fun _=>[]) (fun _=>[]) [] Tryz.func47 yUh
open Go Cv Go.Proofs
structure WiI where
 n:Int
 lo:Int
 hi:Int
def zI (n lo hi:Int):Int:=lo+n % (hi-lo+1)
def withinC:Con:=con1 WiI (fun i=>[zA i.n,zA i.lo,zA i.hi]) (fun _=>[]) (fun i=>i64r i.n∧-1000000≤i.lo∧i.lo≤i.hi∧i.hi≤1000000) (fun i=>zA (zI i.n i.lo i.hi)) (fun _=>[])
def jU (rule:Int):Prd:=⟨[67,76],[320,321,323],5,0,1000,200,rule,4,2,40,[500,505,490]⟩
def threeC:Con:=con1 Int (fun n=>[zA n]) (fun _=>[]) (fun _=>True) (fun n=>prdV (jU n)) (fun _=>[])
open Go Cv Go.Proofs
def aG (a:WiI):=(IntKind.i64.wrap (IntKind.i64.wrap (a.hi-a.lo)+1))
def z2m (i:WiI):Prop:=
 IntKind.i64=IntKind.i64∧IntKind.i64.wrap (IntKind.i64.wrap (i.hi-i.lo)+1)≠0∧cnd (decide (i.n.tmod (aG i)<0)) (∃(a:Unit),zI i.n i.lo i.hi=IntKind.i64.wrap (i.lo+IntKind.i64.wrap (IntKind.i64.wrap (IntKind.i64.wrap (i.n.tmod (aG i)+i.hi)-i.lo)+1))∧True) (∃(a:Unit),zI i.n i.lo i.hi=IntKind.i64.wrap (i.lo+i.n.tmod (aG i))∧True)
def yFd (n:Int):Prop:=
 ∃(a:Unit),sb [(67:UInt8),(76:UInt8)]=ByteArray.mk #[(67:UInt8),(76:UInt8)]∧iE [(320:Int),(321:Int),(323:Int)]=[[dI 320],[dI 321],[dI 323]]∧(5:Int)=(5:Int)∧(0:Int)=(0:Int)∧(1000:Int)=(1000:Int)∧(200:Int)=(200:Int)∧n=n∧(4:Int)=(4:Int)∧(2:Int)=(2:Int)∧(40:Int)=(40:Int)∧iE [(500:Int),(505:Int),(490:Int)]=[[dI 500],[dI 505],[dI 490]]∧True
open Go Cv Go.Proofs
theorem z8x:threeC.ok Tryz.prog 60:=okw (V:=yFd) mixed gok0 0 (fun _=>[]) (fun _=>[]) [] Tryz.func60 fun(n:Int) _=>by
 unfold yFd dI;exact kp
theorem yKa (i:WiI) (h:withinC.cnd i):z2m i:=by
 obtain⟨⟨a1,a2⟩,a3,a4,a5⟩:i64r i.n∧-1000000≤i.lo∧i.lo≤i.hi∧i.hi≤1000000:=h
 unfold z2m aG
 rw[w64 (x:=i.hi-i.lo) (by omega),w64 (x:=i.hi-i.lo+1) (by omega)]
 obtain⟨d,hd⟩:∃d:Int,i.hi-i.lo+1=d:=⟨_,rfl⟩
 rw[hd]
 have h1:i.n.tmod d=if 0≤i.n then i.n % d else-((-i.n) % d):=by
  split
  ·rename_i h;rw[Int.tmod_eq_emod_of_nonneg h]
  ·rename_i h
   have:i.n= -(-i.n):=by omega
   conv=>lhs;rw[this]
   rw[Int.neg_tmod,Int.tmod_eq_emod_of_nonneg (by omega)]
 have hb1:=Int.emod_nonneg i.n (show d≠0 by omega)
 have hb2:=Int.emod_lt_of_pos i.n (show 0<d by omega)
 have hb3:=Int.emod_nonneg (-i.n) (show d≠0 by omega)
 have hb4:=Int.emod_lt_of_pos (-i.n) (show 0<d by omega)
 have key:i.n.tmod d<0→i.n % d=i.n.tmod d+d:=fun hneg=>by
  have:=Int.emod_eq_of_lt (a:=i.n.tmod d+d) (b:=d) (by rw[h1]at hneg ⊢;split at hneg<;>split<;>omega) (by omega)
  rw[← this,Int.add_emod_right]
  have e:=Int.tmod_add_mul_tdiv i.n d
  conv=>lhs;rw[← e]
  rw[Int.add_mul_emod_self_left]
 have key2:¬i.n.tmod d<0→i.n % d=i.n.tmod d:=fun hneg=>by
  have hlt:i.n.tmod d<d:=by rw[h1];split<;>omega
  have:=Int.emod_eq_of_lt (a:=i.n.tmod d) (b:=d) (by omega) hlt
  rw[← this]
  have e:=Int.tmod_add_mul_tdiv i.n d
  conv=>lhs;rw[← e]
  rw[Int.add_mul_emod_self_left]
 refine⟨rfl,by omega,zK (fun c=>⟨(),?_,trivial⟩) (fun c=>⟨(),?_,trivial⟩)⟩
 ·have k:=key c
  rw[zI,hd,k]
  rw[w64 (x:=i.n.tmod d+i.hi) (by omega),w64 (x:=i.n.tmod d+i.hi-i.lo) (by omega),w64 (x:=i.n.tmod d+i.hi-i.lo+1) (by omega),w64 (by omega)]
  omega
 ·have k:=key2 c
  rw[zI,hd,k,w64 (by omega)]
theorem within_ok:withinC.ok Tryz.prog 14:=okw mixed gok0 0 (fun _=>[]) (fun _=>[]) [] Tryz.func14 yKa
open Go Cv Go.Proofs
def zBl (l:List (Int×Int)) (k:Int):Option Int:=(l.find? fun x=>decide (x.1=k)).map (·.2)
open Go Cv Go.Proofs
open Go Cv Go.Proofs
theorem yCo (l:List (Int×Int)) (k:Int):∀p∈yU l,like (Value.int IntKind.i64 k) p.1=true:=by
 intro p hp
 obtain⟨x,_,rfl⟩:=yYj.1 hp
 rfl
theorem mE (k:Int):∀l:List (Int×Int),vX (Value.int IntKind.i64 k) (yU l)=(zBl l k).map fun v=>[D.v (.int .i64 v)]
 |[]=>rfl
 |(a,v)::l=>by
  have ih:=mE k l
  show(bif (keq .i64 .i64 && decide (k=a))then _ else vX _ (yU l))=_
  by_cases h:k=a
  ·subst h;simp[zBl,keq]
  ·have h':¬a=k:=fun e=>h e.symm
   rw[show(keq .i64 .i64 && decide (k=a))=false by simp[h],cond_false,ih]
   simp[zBl,y2s,h']
open Go Cv Go.Proofs
structure Rep where
 kind:Int
 id:Int
 inst:Int
 side:Int
 price:Int
 qty:Int
 left:Int
 why:Int
 deriving DecidableEq
@[reducible] def yVr (r:Rep):V:= .agg [zA r.kind,zA r.id,zA r.inst,zA r.side,zA r.price,zA r.qty,zA r.left,zA r.why]
def xZ (r:Rep):List D:=[.v (.int .i64 r.kind),.v (.int .i64 r.id),.v (.int .i64 r.inst),.v (.int .i64 r.side),.v (.int .i64 r.price),.v (.int .i64 r.qty),.v (.int .i64 r.left),.v (.int .i64 r.why)]
def zYe (k v:Int):List (Int×Int)→List (Int×Int)
 |[]=>[(k,v)]
 |(a,b)::l=>if k=a then(a,v)::l else(a,b)::zYe k v l
def zZq (k:Int):List (Int×Int)→List (Int×Int)
 |[]=>[]
 |(a,b)::l=>if k=a then l else(a,b)::zZq k l
def bj (t:Nat):SAnn:={ι:=Bool,slots:=fun b=>[(t,z7 b)],rows:=fun _=>[]}
def ij (t:Nat):SAnn:={ι:=Int,slots:=fun n=>[(t,zA n)],rows:=fun _=>[]}
open Go Cv Go.Proofs
open Go Cv Go.Proofs
theorem fQ (l:List (Int×Int)) (k:Int):∀(p:Value×List D),p∈yU l→like (Value.int IntKind.i64 k) p.1=true:=fun p hp=>yCo l k p hp
theorem zXc (k v:Int):∀l,gW (Value.int IntKind.i64 k) [D.v (.int .i64 v)] (yU l)=yU (zYe k v l)
 |[]=>rfl
 |(a,b)::l=>by
  have ih:=zXc k v l
  show(bif (keq .i64 .i64 && decide (k=a))then _ else _::gW _ _ (yU l))=_
  rw[ih,zYe]
  by_cases h:k=a
  ·subst h;simp[keq,yU]
  ·simp[h,yU]
theorem zXf (k:Int):∀l,lG (Value.int IntKind.i64 k) (yU l)=yU (zZq k l)
 |[]=>rfl
 |(a,b)::l=>by
  have ih:=zXf k l
  show(bif (keq .i64 .i64 && decide (k=a))then yU l else _::lG _ (yU l))=_
  rw[ih,zZq]
  by_cases h:k=a
  ·subst h;simp[keq]
  ·simp[h,yU]
theorem yNh (l:List (Int×Int)) (k:Int):vX (Value.int IntKind.i64 k) (yU l)=some [D.v (.int .i64 ((zBl l k).getD 0))]∧(zBl l k).isSome=true∨vX (Value.int IntKind.i64 k) (yU l)=none∧[D.v (.int .i64 ((zBl l k).getD 0))]=[D.v (.int .i64 0)]∧(zBl l k).isSome=false:=by
 rw[mE]
 cases zBl l k with
 |none=>exact .inr ⟨rfl,rfl,rfl⟩
 |some v=>exact .inl ⟨rfl,rfl⟩
theorem zVn (a b:Int):(a==b)=decide (a=b):=by
 by_cases h:a=b
 ·subst h;simp
 ·simp[h]
open Go Cv Go.Proofs
theorem xH {n lo hi:Int} (h:lo≤hi):lo≤zI n lo hi∧zI n lo hi≤hi:=by
 rw[zI]
 have h1:=Int.emod_nonneg n (show hi-lo+1≠0 by omega)
 have h2:=Int.emod_lt_of_pos n (show 0<hi-lo+1 by omega)
 omega
open Go Go.RowKit Cv
theorem eF {P:Program} {dT sT ty e sz by_:Nat} {z:Array Value} (hi:vC P dT=some (e,sz,by_,z)) {w:World} {g o dLen dCap b so sLen sCap n:Nat} {cur src:List Value} {T T':TypeId} {fr:Nat×Nat}
 (hg:w.heap[g]? =some (.cells cur.toArray T (0,0))) (hs:w.heap[b]? =some (.cells src.toArray T' fr)) (hn:Nat.min sLen dLen=n) (h1:so+n*sz≤src.length) (h2:o+n*sz≤cur.length)
 (hone:∀v∈(src.drop so).take (n*sz),v.oneC=true):
 uU P (Builtin.copy_ #[dT,sT] ty #[.slice (some ⟨g,o,none⟩) dLen dCap,.slice (some ⟨b,so,none⟩) sLen sCap]) w (.int .i64 n) (World.setB w g (.cells (spl cur o ((src.drop so).take (n*sz))).toArray T (0,0))):=by
 obtain⟨i,zv,q1,q2,rfl,rfl,q5,rfl⟩:=jC hi
 have hl:((src.drop so).take (n*i.size)).length=n*i.size:=by rw[yXo,yXr];omega
 have hst:=jO (P:=P) ((src.drop so).take (n*i.size)) 0 o cur w hg (by rw[hl];omega) hone
 simp only[y1i]at hst
 unfold uU Builtin.copy_
 simp only[yYr,yZa,yYp,bind,pure,run_bind,Sem.bind,Sem.run,Cv.run_underlying q1,Cv.run_sizeOf q2,Builtin.lenOf,hn,Builtin.firstCells,uI hs h1,hst]
 rfl
theorem Hp.apart {k:Ko} {w:World} {b c:Nat} {o o':Obj} {L:List HP} (H:Hp k w (pt b o::pt c o'::L)):b≠c:=by
 obtain⟨hk,hs,hh⟩:=H
 cases hh with
 |cons ha hsub hd hr=>
  cases hr with
  |cons hb hsub2 hd2 hr2=>
   intro e
   subst e
   have:=hd _ yWy b
   rw[show _=one b o from ha,show _=one b o' from hb]at this
   simp[one]at this
def yOa (P:Program) (tS tI sz fO fR:Nat) (s:Option Addr) (sn sk:Nat) (i:Int) (v:Option Addr) (vn vk:Nat) (w:World) (R:Ending→World→Prop):Prop:=
slN s sn sk (some i) none sz fun a1 na1 ka1=>
cnd (((vn:Int):Int)==0) (
R (.returned (.slice s sn sk)) w) (
cnd ((i:Int)==(sn:Int)) (
∃(a2:Option Addr) (na2 ka2:Nat),∃w3:World,uU P (Builtin.append_ #[tS,tS] tS #[.slice s sn sk,.slice v vn vk]) w (.slice a2 na2 ka2) w3∧
R (.returned (.slice a2 na2 ka2)) w3) (
cnd (decide ((IntKind.i64.wrap ((sn:Int)+(vn:Int)):Int)>(sk:Int))) (
slN s sn sk none (some i) sz fun a4 na4 ka4=>
∃(a5:Option Addr) (na5 ka5:Nat),∃w6:World,uU P (Builtin.append_ #[tS,tI] tS #[.slice a4 na4 ka4,.int .i64 (IntKind.i64.wrap (IntKind.i64.wrap ((sn:Int)+(vn:Int))-i))]) w (.slice a5 na5 ka5) w6∧
slN a5 na5 ka5 (some i) none sz fun a7 na7 ka7=>
∃x8:Int,∃w9:World,uU P (Builtin.copy_ #[tS,tS] tI #[.slice a7 na7 ka7,.slice v vn vk]) w6 (.int .i64 x8) w9∧
z3j w9 fun w10=>
slN a5 na5 ka5 (some (IntKind.i64.wrap (i+(vn:Int)))) none sz fun a11 na11 ka11=>
slN s sn sk (some i) none sz fun a12 na12 ka12=>
∃x13:Int,∃w14:World,uU P (Builtin.copy_ #[tS,tS] tI #[.slice a11 na11 ka11,.slice a12 na12 ka12]) w10 (.int .i64 x13) w14∧
R (.returned (.slice a5 na5 ka5)) w14) (
slN s sn sk none (some (IntKind.i64.wrap ((sn:Int)+(vn:Int)))) sz fun a15 na15 ka15=>
slN a15 na15 ka15 (some (IntKind.i64.wrap (i+(vn:Int)))) none sz fun a16 na16 ka16=>
∃c17:Bool,∃w18:World,Cv.Ext P fO #[.slice v vn vk,.slice a16 na16 ka16] w (.bool c17) w18∧
cnd (!c17) (
z3j w18 fun w19=>
slN a15 na15 ka15 (some (IntKind.i64.wrap (i+(vn:Int)))) none sz fun a20 na20 ka20=>
slN a15 na15 ka15 (some i) none sz fun a21 na21 ka21=>
∃x22:Int,∃w23:World,uU P (Builtin.copy_ #[tS,tS] tI #[.slice a20 na20 ka20,.slice a21 na21 ka21]) w19 (.int .i64 x22) w23∧
slN a15 na15 ka15 (some i) none sz fun a24 na24 ka24=>
∃x25:Int,∃w26:World,uU P (Builtin.copy_ #[tS,tS] tI #[.slice a24 na24 ka24,.slice v vn vk]) w23 (.int .i64 x25) w26∧
R (.returned (.slice a15 na15 ka15)) w26) (
slN a15 na15 ka15 (some (sn:Int)) none sz fun a27 na27 ka27=>
∃x28:Int,∃w29:World,uU P (Builtin.copy_ #[tS,tS] tI #[.slice a27 na27 ka27,.slice v vn vk]) w18 (.int .i64 x28) w29∧
slN a15 na15 ka15 (some i) none sz fun a30 na30 ka30=>
Calls P fR #[.slice a30 na30 ka30,.int .i64 (vn:Int)] w29 fun e32 w31=>e32= .returned (.tuple #[])∧
R (.returned (.slice a15 na15 ka15)) w31))))
theorem z6w {α:Type} {l m:Nat} {xs r ys:List α} (hl:l≤xs.length) (hy:ys.length=m) (hr:m≤r.length):
 ((xs++r).take (l+m)++xs.drop l++(xs++r).drop (l+m+(xs.drop l).length)).take l++ys++((xs++r).take (l+m)++xs.drop l++(xs++r).drop (l+m+(xs.drop l).length)).drop (l+ys.length)=(xs.take l++ys++xs.drop l)++r.drop m:=by
 have e1:(xs++r).drop (l+m+(xs.drop l).length)=r.drop m:=by
  rw[yXr,show l+m+(xs.length-l)=xs.length+m by omega,y1y]
  simp
 have e2:((xs++r).take (l+m)++xs.drop l++r.drop m).take l=xs.take l:=by
  rw[yXc,yXt (by rw[yXo,yWx];omega),List.take_take,y1q (by omega),yXt hl]
 have e3:((xs++r).take (l+m)++xs.drop l++r.drop m).drop (l+ys.length)=xs.drop l++r.drop m:=by
  have:((xs++r).take (l+m)).length=l+m:=by rw[yXo,yWx];omega
  rw[yXc,hy,y1y,this,y2g,y0l,y0j (by omega),yZn]
 rw[e1,e2,e3]
 simp
theorem zRh (A Z Y:List Value):spl (A++Z) A.length Y=A++Y++Z.drop Y.length:=by
 simp only[spl]
 rw[List.take_left,y1y]
 simp
theorem zFs {b o n c i:Nat} (h:c≠i):(if c=i then(some ⟨b,o,none⟩:Option Addr)else(some ⟨b,o,none⟩:Option Addr).map (·.add n))=some ⟨b,o+n,none⟩:=by
 rw[yWs h,yYu,vA]
def zRv (P:Program) (fO:Nat):Prop:=∀(w:World) (va sb so la ca lb cb:Nat) (c c':Array Value) (T T':TypeId),va≠sb→w.heap[va]?=some (.cells c T (0,0))→w.heap[sb]?=some (.cells c' T' (0,0))→c'.size≠0→
 Cv.Ext P fO #[.slice (some ⟨va,0,none⟩) la ca,.slice (some ⟨sb,so,none⟩) lb cb] w (.bool false) w
theorem z3n {P : Program} {fO tS tB e sz by_ : Nat} {z : Array Value} {fn : Func} (hf : P.funcs[fO]? = some fn) (hname : (fn.name == "runtime.NumGoroutine") = false) (hb : fn.body.isNone = true) (hn : Extern.findNext fn = none) (he : Extern.find fn = some (Extern.SlicesOverlaps.overlaps #[tS, tS] #[tB]))
 (hi:vC P tS=some (e,sz,by_,z)):zRv P fO:=by
 obtain⟨i,zv,q1,q2,rfl,rfl,q5,rfl⟩:=jC hi
 intro w va sb so la ca lb cb c c' T T' hne h1 h2 h3
 unfold Cv.Ext
 rw[run_callFunc_extern hf hname hb hn he,Lib.run_overlaps_apart w tS tB e q1 i.size (fun w=>Cv.run_sizeOf q2 w) ⟨va,0,none⟩ ⟨sb,so,none⟩ la ca lb cb hne T T' c.size c'.size (by simp[World.shape?,h1]) (by simp[World.shape?,h2]) h3 (by simp[World.frozen?,h1]) (by simp[World.frozen?,h1])]
 rfl
theorem yWc {P:Program} {tS tI e sz by_ fO fR:Nat} {z:Array Value} (hi:vC P tS=some (e,sz,by_,z)) (hz:z.size=sz) (hby:0<by_) (hsz:0<sz) (h2:zZd P tS=true) (hti:P.underlying tI=some (.int .i64)) (hov:zRv P fO)
 {k:Ko} {w:World} {L:List HP} {s v:Option Addr} {sn sk vn vk i:Nat} {xs ys:List Value} (H:Hp k w (slO e sz s sn sk xs::slO e sz v vn vk ys::L)) (h1:∀u∈xs,u.oneC=true) (hy:∀u∈ys,u.oneC=true) (hin:i≤sn) (hv:0<vn)
 (hb:(sn+vn)*by_≤140737488355328):
 yOa P tS tI sz fO fR s sn sk i v vn vk w fun en w'=>∃a kk,en= .returned (.slice a (sn+vn) kk)∧Hp k w' (slO e sz a (sn+vn) kk (xs.take (i*sz)++ys++xs.drop (i*sz))::slO e sz v vn vk ys::L):=by
 obtain⟨hxl,hnk⟩:=H.len
 obtain⟨hyl,hvk⟩:=H.swap.len
 have hnm:sn+vn≤140737488355328:=y0m (Nat.le_mul_of_pos_right _ hby) hb
 have w1:IntKind.i64.wrap ((sn:Int)+(vn:Int))=((sn+vn:Nat):Int):=by rw[Cv.wrap_i64 (by omega) (by omega)];simp
 have w2:IntKind.i64.wrap ((i:Int)+(vn:Int))=((i+vn:Nat):Int):=by rw[Cv.wrap_i64 (by omega) (by omega)];simp
 have w3:IntKind.i64.wrap (((sn+vn:Nat):Int)-(i:Int))=((sn+vn-i:Nat):Int):=by rw[Cv.wrap_i64 (by omega) (by omega)];omega
 have hle:i*sz≤xs.length:=by rw[hxl];exact yYg _ hin
 have htl:(xs.take (i*sz)).length=i*sz:=by rw[yXo];omega
 have hdl:(xs.drop (i*sz)).length=(sn-i)*sz:=by rw[yXr,hxl,Nat.sub_mul]
 have hsum:(i+vn)*sz=i*sz+vn*sz:=yZw _ _ _
 have hsum2:(sn+vn)*sz=i*sz+vn*sz+(sn-i)*sz:=by rw[← yZw,← yZw];congr 1;omega
 have hfin:(xs.take (i*sz)++ys++xs.drop (i*sz)).length=(sn+vn)*sz:=by
  rw[yWx,yWx,htl,hyl,hdl,hsum2]
 unfold yOa
 simp only[slN,w1,w2,w3,yXn]
 refine⟨⟨by omega,by omega,hnk⟩,Cv.cnd.mk (fun c=>absurd c (by simp;omega)) fun _=>Cv.cnd.mk (fun c=> ?_) fun c=>Cv.cnd.mk (fun hc=> ?_) fun hc=> ?_⟩
 ·have c:i=sn:=by have:(i:Int)=(sn:Int):=by simpa using c
                  omega
  subst c
  obtain⟨a',c',w',r1,r2⟩:=H.append (rt:=tS) hi h2 (x:= .slice v vn vk) (m:=vn) (ys:=ys) (.inl ⟨v,vk,rfl,H.swap.satR⟩) hy hz hby hb
  refine⟨a',_,c',w',r1,a',c',rfl,?_⟩
  rw[yXk (by omega),y0j (by omega),yXp]
  exact r2
 ·have c:i<sn:=by have:¬(i:Int)=(sn:Int):=by simpa using c
                  omega
  have hc:sk<sn+vn:=by have:=yYh hc;omega
  obtain⟨inf,zv,q1,q2,q3,q4,q5,q6⟩:=jC hi
  subst q3 q4 q6
  rcases H.slcases with⟨_,e0,_⟩|⟨b,r,rfl,g1,g2,g3,H0⟩
  ·omega
  rcases H0.swap.slcases with⟨_,e0,_⟩|⟨vb,rv,rfl,g4,g5,g6,H1⟩
  ·omega
  have hold:(Builtin.firstCells inf.size i (.slice (some ⟨b,0,none⟩) i sk)).run P w.drew= .ok (xs.take (i*inf.size)).toArray w.drew:=by
   have hbk:=(H1.drew).swap.get
   have:=uI (P:=P) (o:=0) (n:=i*inf.size) hbk (by rw[yWx];omega)
   unfold Builtin.firstCells
   rw[this,y0l,yXt hle]
  have hfit2:=zMg (need:=sn+vn) (cap:=sk) (by omega)
  have hfit3:=yYg inf.bytes hfit2
  have e2:2*(sn+vn)*inf.bytes=2*((sn+vn)*inf.bytes):=by rw[Nat.mul_assoc]
  have hkb:(sn+vn-i)*inf.bytes≤(sn+vn)*inf.bytes:=yYg _ (by omega)
  have hgr:=Lib.run_append_grow_zeros (P:=P) w tS tI tS e inf zv .i64 .i64 q1 hti q2 q5 (some ⟨b,0,none⟩) i sk (xs.take (i*inf.size)) hold (sn+vn-i) (by omega) hsz (by omega) (by omega) (by omega) (by rw[show i+(sn+vn-i)=sn+vn by omega];omega)
  rw[show i+(sn+vn-i)=sn+vn by omega]at hgr
  have hG:sn+vn≤grownCap w (sn+vn) sk e:=grownCap_ge w (sn+vn) sk e
  generalize grownCap w (sn+vn) sk e=G at hgr hG
  have harr:(xs.take (i*inf.size)).toArray++Builtin.zeroCells zv.cells (sn+vn-i)++Builtin.zeroCells zv.cells (G-(sn+vn))=(xs.take (i*inf.size)++((Builtin.zeroCells zv.cells (sn+vn-i)).toList++(Builtin.zeroCells zv.cells (G-(sn+vn))).toList)).toArray:=by
   apply Array.ext';simp
  rw[harr]at hgr
  have hZl:((Builtin.zeroCells zv.cells (sn+vn-i)).toList++(Builtin.zeroCells zv.cells (G-(sn+vn))).toList).length=(sn+vn-i)*inf.size+(G-(sn+vn))*inf.size:=by
   rw[yWx,y1w,y1w,size_zeroCells,size_zeroCells,hz]
  generalize (Builtin.zeroCells zv.cells (sn+vn-i)).toList++(Builtin.zeroCells zv.cells (G-(sn+vn))).toList=Z at hgr hZl
  have hZ2:(sn+vn-i)*inf.size=vn*inf.size+(sn-i)*inf.size:=by rw[← yZw];congr 1;omega
  have H2:=(H1.drew).new (.cells (xs.take (i*inf.size)++Z).toArray e)
  have hB:w.drew.heap.size=w.heap.size:=rfl
  rw[hB]at H2
  have hc1:=eF (P:=P) (sT:=tS) (ty:=tI) hi (g:=w.heap.size) (o:=0+i*inf.size) (dLen:=sn+vn-i) (dCap:=G-i) (b:=vb) (so:=0) (sLen:=vn) (sCap:=vk) (n:=vn) H2.get H2.swap.get (y1q (by omega)) (by rw[yWx];omega) (by rw[yWx,htl,hZl];omega) (by
   rw[y0l,yXt (by omega),yXk (by omega)];exact hy)
  rw[y0l,yXt (by omega),yXk (show ys.length≤vn*inf.size by omega),yXu]at hc1
  have es1:spl (xs.take (i*inf.size)++Z) (i*inf.size) ys=xs.take (i*inf.size)++ys++Z.drop ys.length:=by
   have:=zRh (xs.take (i*inf.size)) Z ys
   rwa [htl]at this
  rw[es1]at hc1
  have H3:=(H2.upd (.cells (xs.take (i*inf.size)++ys++Z.drop ys.length).toArray e)).drew
  have hg4:(xs++r).drop (i*inf.size)=xs.drop (i*inf.size)++r:=yZh hle
  have hc2:=eF (P:=P) (sT:=tS) (ty:=tI) hi (g:=w.heap.size) (o:=0+(i+vn)*inf.size) (dLen:=sn+vn-(i+vn)) (dCap:=G-(i+vn)) (b:=b) (so:=0+i*inf.size) (sLen:=sn-i) (sCap:=sk-i) (n:=sn-i) H3.get H3.swap.drop.swap.get (y1q (by omega)) (by rw[yWx,hxl,yXu,← yZw];exact y0m (yYg _ (by omega)) (Nat.le_add_right _ _)) (by
   rw[yWx,yWx,htl,hyl,yXr,hZl];omega) (by
   rw[yXu,hg4,yXt (by omega),yXk (by omega)]
   exact fun u hu=>h1 u (y0q hu))
  rw[yXu,yXu,hg4,yXt (by omega),yXk (show(xs.drop (i*inf.size)).length≤(sn-i)*inf.size by omega)]at hc2
  have es2:spl (xs.take (i*inf.size)++ys++Z.drop ys.length) ((i+vn)*inf.size) (xs.drop (i*inf.size))=xs.take (i*inf.size)++ys++xs.drop (i*inf.size)++(Z.drop ys.length).drop (xs.drop (i*inf.size)).length:=by
   have:=zRh (xs.take (i*inf.size)++ys) (Z.drop ys.length) (xs.drop (i*inf.size))
   rwa [show(xs.take (i*inf.size)++ys).length=(i+vn)*inf.size by rw[yWx,htl,hyl,hsum]]at this
  rw[es2]at hc2
  refine⟨⟨by omega,by omega⟩,_,_,_,_,hgr,?_⟩
  rw[zFs (show G≠i by omega),yXu]
  refine⟨⟨by omega,by omega,hG⟩,_,_,hc1,?_⟩
  rintro _ rfl
  rw[zFs (show G≠i+vn by omega),zFs (show sk≠i by omega),yXu,yXu]
  refine⟨⟨by omega,by omega,hG⟩,⟨by omega,by omega,hnk⟩,_,_,hc2,_,_,rfl,?_⟩
  have H4:=H3.upd (.cells (xs.take (i*inf.size)++ys++xs.drop (i*inf.size)++(Z.drop ys.length).drop (xs.drop (i*inf.size)).length).toArray e)
  have H5:=H4.slmk (n:=sn+vn) (c:=G) (sz:=inf.size) hfin (by
   rw[yWx,hfin,yXr,yXr,hZl,hyl,hdl]
   have:G*inf.size=(sn+vn)*inf.size+(G-(sn+vn))*inf.size:=by rw[← yZw];congr 1;omega
   omega) hG
  have H6:=H5.swap.slmk (n:=vn) (c:=vk) (sz:=inf.size) g4 g5 g6
  exact(H6.swap.perm (List.Perm.trans ((List.Perm.swap _ _ _).cons _) (List.Perm.swap _ _ _))).drop
 ·have c:i<sn:=by have:¬(i:Int)=(sn:Int):=by simpa using c
                  omega
  have hc:sn+vn≤sk:=by have:=y0f hc;omega
  rcases H.slcases with⟨_,e0,_⟩|⟨b,r,rfl,g1,g2,g3,H0⟩
  ·omega
  rcases H0.swap.slcases with⟨_,e0,_⟩|⟨vb,rv,rfl,g4,g5,g6,H1⟩
  ·omega
  have hrl:vn*sz≤r.length:=by
   have e1:(sn+vn)*sz≤sk*sz:=yYg _ hc
   rw[yWx,g1]at g2
   rw[yZw]at e1
   omega
  have H2:=H1.swap
  have hne:vb≠b:=Hp.apart H1
  have hg4:(xs++r).drop (i*sz)=xs.drop (i*sz)++r:=yZh hle
  have hex:=hov w vb b (0+(i+vn)*sz) vn vk (sn+vn-(i+vn)) (sk-(i+vn)) (ys++rv).toArray (xs++r).toArray e e hne H1.get H2.get (by
   rw[y1e,yWx,g1]
   have:=Nat.mul_pos (show 0<sn by omega) hsz
   omega)
  have H3:=H2.drew
  have hc1:=eF (P:=P) (sT:=tS) (ty:=tI) hi (g:=b) (o:=0+(i+vn)*sz) (dLen:=sn+vn-(i+vn)) (dCap:=sk-(i+vn)) (b:=b) (so:=0+i*sz) (sLen:=sn+vn-i) (sCap:=sk-i) (n:=sn-i) H3.get H3.get (by rw[show sn+vn-(i+vn)=sn-i by omega];exact Nat.min_eq_right (by omega)) (by
   rw[yWx,g1,yXu,← yZw];exact y0m (yYg _ (by omega)) (Nat.le_add_right _ _)) (by
   rw[yWx,g1,yXu,← yZw,show i+vn+(sn-i)=sn+vn by omega,yZw];omega) (by
   rw[yXu,hg4,yXt (by omega),yXk (by omega)]
   exact fun u hu=>h1 u (y0q hu))
  rw[yXu,yXu,hg4,yXt (by omega),yXk (show(xs.drop (i*sz)).length≤(sn-i)*sz by omega)]at hc1
  have H4:=H3.upd (.cells (spl (xs++r) ((i+vn)*sz) (xs.drop (i*sz))).toArray e)
  have hcl:(spl (xs++r) ((i+vn)*sz) (xs.drop (i*sz))).length=(xs++r).length:=by
   simp only[spl,yWx,yXo,hdl]
   rw[yXr,yWx,g1,hsum]
   have:sn*sz=i*sz+(sn-i)*sz:=by rw[← yZw];congr 1;omega
   omega
  have hc2:=eF (P:=P) (sT:=tS) (ty:=tI) hi (g:=b) (o:=0+i*sz) (dLen:=sn+vn-i) (dCap:=sk-i) (b:=vb) (so:=0) (sLen:=vn) (sCap:=vk) (n:=vn) H4.get H4.swap.get (y1q (by omega)) (by rw[yWx];omega) (by
   rw[hcl,yWx,yXu];omega) (by
   rw[y0l,yXt (by omega),yXk (by omega)];exact hy)
  rw[y0l,yXt (by omega),yXk (show ys.length≤vn*sz by omega),yXu]at hc2
  have es:spl (spl (xs++r) ((i+vn)*sz) (xs.drop (i*sz))) (i*sz) ys=(xs.take (i*sz)++ys++xs.drop (i*sz))++r.drop (vn*sz):=by
   have:=z6w (l:=i*sz) (m:=vn*sz) (xs:=xs) (r:=r) (ys:=ys) hle hyl hrl
   simp only[spl,hsum]
   exact this
  rw[es]at hc2
  refine⟨⟨by omega,by omega⟩,⟨by omega,by omega,by omega⟩,false,w,?_,Cv.cnd.mk (fun _=> ?_) (fun c=>absurd c (by decide))⟩
  ·rw[zFs (show sk≠i+vn by omega)];exact hex
  rintro _ rfl
  rw[zFs (show sk≠i+vn by omega),zFs (show sk≠i by omega),yXu,yXu]
  refine⟨⟨by omega,by omega,by omega⟩,⟨by omega,by omega,by omega⟩,_,_,hc1,⟨by omega,by omega,by omega⟩,_,_,hc2,_,_,rfl,?_⟩
  have H5:=H4.upd (.cells (xs.take (i*sz)++ys++xs.drop (i*sz)++r.drop (vn*sz)).toArray e)
  have H6:=H5.slmk (n:=sn+vn) (c:=sk) (sz:=sz) hfin (by
   rw[yWx,hfin,yXr,← g2,yWx,g1,yZw]
   omega) hc
  exact(H6.swap.slmk (n:=vn) (c:=vk) (sz:=sz) g4 g5 g6).swap
structure zCz where
 els:List (List D)
 el:List D
 i:Nat
def z9t (e sz by_:Nat):Con where
 ι:=zCz
 pat:=fun i=>[.own 0,.d (.v (.int .i64 i.i)),.own 1]
 pre:=fun i=>[.own e sz i.els,.own e sz [i.el]]
 cnd:=fun i=>i.i≤i.els.length∧(i.els.length+1)*by_≤140737488355328
 alts:=fun i=>[{o:=Unit,res:=fun _=> .own 2,post:=fun _=>[.gone,.gone,.own e sz (i.els.take i.i++i.el::i.els.drop i.i)],rel:=fun _=>True}]
theorem insX_ok {P:Program} (hm:P.follows .mixedOrders=true) {tS tI e sz by_ fI fO fR:Nat} {z:Array Value} {fn:Func} {c:Code} (hf:P.funcs[fI]? =some fn) (hb:fn.body=some c) (hbd:vR P fI=true) (hok:okC fn.ntmps c=true) (hfx:okF [] c=true) (hsz3:Nat.ble 3 fn.ntmps=true)
 (hi:vC P tS=some (e,sz,by_,z)) (hz:z.size=sz) (hby:0<by_) (hsz:0<sz) (h2:zZd P tS=true) (hti:P.underlying tI=some (.int .i64)) (hov:zRv P fO)
 (heq:∀(s:Option Addr) (sn sk:Nat) (i:Int) (v:Option Addr) (vn vk:Nat) (w:World) (R:Ending→World→Prop),yOa P tS tI sz fO fR s sn sk i v vn vk w R=cwp P [] c (zRo P fn R) (vT [.slice s sn sk,.int .i64 i,.slice v vn vk]) w):
 (z9t e sz by_).ok P fI:=by
 intro i hc k L E w ys R hv
 obtain⟨c1,c2⟩:i.i≤i.els.length∧(i.els.length+1)*by_≤140737488355328:=hc
 simp only[z9t,VRL,VR,DR]at hv
 obtain⟨y0,_,rfl,⟨l0,e0,_⟩,y1,_,rfl,⟨rfl,_⟩,y2,_,rfl,⟨l2,e2,_⟩,rfl⟩:=hv
 obtain⟨s,sk,xs,sub0,g1,hxs,hu,H⟩:=R.ownOpen (n:=0) (t:=e) (sz:=sz) (els:=i.els) rfl
 rw[e0]at g1;cases g1
 have hk2:∃v vk zs,y2= .slice v 1 vk∧DRL E.F i.el zs∧i.el.length=sz∧Hp k w (slO e sz s i.els.length sk xs::slO e sz v 1 vk zs::fz E.F::L):=by
  obtain⟨hk,hs,hh⟩:=H
  cases hh with
  |cons ha hsub hd hr=>
   simp only[z9t,hU,wM,yXh,y0n,yYo,yZn]at hr
   cases hr with
   |cons hb2 hsub2 hd2 hr2=>
    rcases hb2 with⟨q,_⟩|⟨⟨hv2,sub2⟩,q1,q2⟩
    ·cases q
    ·simp only at q1
     rw[e2]at q1;cases q1
     simp only[rowHP]at q2
     obtain⟨a,kk,zs,rfl,q3,q4,q5⟩:=q2
     simp only[yZd,List.flatten_nil,yXp]at q3
     exact⟨a,kk,zs,rfl,q3,q4 _ yWy,hk,_,.cons ha hsub hd (.cons q5 hsub2 hd2 hr2)⟩
 obtain⟨v,vk,zs,rfl,hzs,hel,H2⟩:=hk2
 have hv:=yWc (fR:=fR) (fO:=fO) hi hz hby hsz h2 hti hov (i:=i.i) H2 hxs.one hzs.one c1 (by omega) c2
 have hcall:=zHz (args:=[.slice s i.els.length sk,.int .i64 i.i,.slice v 1 vk]) hm hf hb [] hok hfx hsz3 (heq s i.els.length sk i.i v 1 vk w _) hv
 refine zBa hbd (hcall.mono ?_)
 rintro en w' ⟨a,kk,rfl,H3⟩
 have H4:Hp k w' (slO e sz a (i.els.take i.i++i.el::i.els.drop i.i).length kk (xs.take (i.i*sz)++zs++xs.drop (i.i*sz))::(([]:List (Nat×AObj)).map (rHP E)++fz E.F::L)):=by
  have:(i.els.take i.i++i.el::i.els.drop i.i).length=i.els.length+1:=by
   rw[yWx,yXa,yXo,yXr];omega
  rw[this]
  exact H3.swap.drop
 obtain⟨E',r1,r2,r3⟩:=b7 (nx:=2) R.nx (by
  rw[List.flatten_append,yZd,← mB i.i hu,← mT i.i hu,← yXc]
  exact((hxs.take _).append hzs).append (hxs.drop _)) (fun x hx=>by
   rcases yXy.1 hx with hx|hx
   ·exact hu x (y2e hx)
   ·rcases yXl.1 hx with rfl|hx
    ·exact hel
    ·exact hu x (y0q hx)) H4
 have hl:(i.els.take i.i++i.el::i.els.drop i.i).length=i.els.length+1:=by
  rw[yWx,yXa,yXo,yXr];omega
 rw[hl]at r3
 refine⟨_,rfl,_,yYl.2 rfl,(),trivial,E',r1,r3,⟨r2.nx,?_⟩⟩
 have q1:=((@uC k w' True _).2 ⟨trivial,r2.hp⟩).imp (B:=rHP E' (1,.gone)) fun x hx=> .inl ⟨rfl,hx.2⟩
 have q2:=((@uC k w' True _).2 ⟨trivial,q1⟩).imp (B:=rHP E' (0,.gone)) fun x hx=> .inl ⟨rfl,hx.2⟩
 exact q2
open Go Cv Go.Proofs
def bbetterC:Con:=con1 I3' (fun i=>[zA i.side,zA i.x,zA i.y]) (fun _=>[]) (fun _=>True) (fun i=>z7 (btr i.side i.x i.y)) (fun _=>[])
@[reducible] def yUq (s:Slot):V:= .agg [z7 s.used,zA s.n,zA s.id,zA s.qty,z7 s.top,zA s.queue,zA s.ahead,zA s.back]
def pushFC:Con:=con1 Slot (fun s=>[yUq s]) (fun _=>[]) (fun _=>True) (fun s=>z7 (!s.used)) (fun _=>[])
def qZ (l:List Slot):Int:=zHi (l.findIdx? fun s=> !s.used)
def idxSlotC:Con:=con1 (List Slot) (fun _=>[.own 0,.fn 293 [] []]) (fun l=>[.own 362 8 (l.map zR)]) (fun l=>l.length≤1000000) (fun l=>zA (qZ l)) (fun l=>[.own 362 8 (l.map zR)])
def yEh (l:List Slot):List SAnn:=[{ι:=Nat,slots:=fun j=>[(8,zA j)],rows:=fun _=>[]}]
def bR:dP:=⟨-1,-1,0,0⟩
def Arena.openQ (a:Arena):Arena:={a with queues:=a.queues++[bR]}
def aopenC:Con:=con1 Arena (fun _=>[.nm 0 0]) (fun a=>[jJ a]) (fun a=>a.queues.length≤1000000) (fun a=>zA a.queues.length) (fun a=>[jJ a.openQ])
structure z6r where
 a:Arena
 n:Int
 t:Bool
def Arena.usedAt (a:Arena) (n:Int):Bool:=decide (0≤n) && (decide (n<a.slots.length) && (a.slots.getD n.toNat slot0).used)
def Arena.topF (a:Arena) (n:Int) (t:Bool):Arena:=if a.usedAt n=true then{a with slots:=a.slots.modify n.toNat fun s=>{s with top:=t}}else a
def atopC:Con:=con1 z6r (fun i=>[.nm 0 0,zA i.n,z7 i.t]) (fun i=>[jJ i.a]) (fun i=>i.a.slots.length≤1000000) (fun i=>zA (if i.a.usedAt i.n=true then 0 else 26)) (fun i=>[jJ (i.a.topF i.n i.t)])
structure PuI where
 a:Arena
 n:Int
 id:Int
 qty:Int
 top:Bool
def Arena.put (a:Arena) (n id qty:Int) (top:Bool):Arena:=
 let q:=a.queues.getD n.toNat bR
 let k:=qZ a.slots
 let sl:=a.slots.set k.toNat ⟨true,k,id,qty,top,n,q.last,-1⟩
 ⟨if q.last= -1 then sl else sl.modify q.last.toNat fun s=>{s with back:=k},a.queues.set n.toNat ⟨if q.last= -1 then k else q.first,k,IntKind.i64.wrap (q.total+qty),IntKind.i64.wrap (q.count+1)⟩,IntKind.i64.wrap (a.free-1)⟩
def Arena.push (a:Arena) (n id qty:Int) (top:Bool):Arena×Int×Int:=
 if n<0∨a.queues.length≤n then(a,0,26)else if qty<1∨1000000<qty then(a,0,24)else if a.free=0 then(a,0,13)else(a.put n id qty top,qZ a.slots,0)
def Arena.fit (a:Arena):Prop:=a.slots.length≤1000000∧(a.free≠0→∃s∈a.slots,s.used=false)∧∀q∈a.queues,q.last= -1∨(0≤q.last∧q.last<a.slots.length)
def apushC:Con:=con1 PuI (fun i=>[.nm 0 0,zA i.n,zA i.id,zA i.qty,z7 i.top]) (fun i=>[jJ i.a]) (fun i=>i.a.fit) (fun i=> .tup [zA (i.a.push i.n i.id i.qty i.top).2.1,zA (i.a.push i.n i.id i.qty i.top).2.2]) (fun i=>[jJ (i.a.push i.n i.id i.qty i.top).1])
@[reducible] def zHx (b:Book):List AObj:=[zS b 0,zS b 1,zS b 2,zS b 3,zS b 4,zS b 5]
structure BkP where
 b:Book
 price:Int
def zX (s:Int) (l:List xE) (price:Int):Nat:=(l.takeWhile fun r=>btr s r.price price).length
def qX (s:Int) (l:List xE) (price:Int):Bool:=match l[zX s l price]? with
 |some r=>decide (r.price=price)
 |none=>false
def Book.rungs (b:Book) (s:Int):List xE:=if s=1 then b.buys else b.sells
def yFo (s:Int):Con:=con1 BkP (fun i=>[.nm 0 0,zA s,zA i.price]) (fun i=>zHx i.b) (fun i=>i.b.small) (fun i=> .tup [zA (zX s (i.b.rungs s) i.price),z7 (qX s (i.b.rungs s) i.price)]) (fun i=>zHx i.b)
def find1C:Con:=yFo 1
def find2C:Con:=yFo 2
def yKs:List SAnn:=[{ι:=Nat,slots:=fun j=>[(9,zA j)],rows:=fun _=>[]}]
def pget (l:List (Int×Place)) (k:Int):Option Place:=(l.find? fun x=>decide (x.1=k)).map (·.2)
def pS (k:Int) (v:Place):List (Int×Place)→List (Int×Place)
 |[]=>[(k,v)]
 |(a,b)::l=>if k=a then(a,v)::l else(a,b)::pS k v l
structure LdI where
 b:Book
 id:Int
def Book.hasF (b:Book) (s:Int):Bool:=if s=1 then b.has1 else b.has2
def Book.topI (b:Book) (s:Int):Int:=if s=1 then b.top1 else b.top2
def Book.untop (b:Book) (s:Int):Arena:=if b.hasF s=true then(match pget b.at_ (b.topI s)with
 |some o=>if o.side=s then b.a.topF o.slot false else b.a
 |none=>b.a)else b.a
def Book.leadF (b:Book) (id s:Int):Book:=if s=1 then{b with a:=b.untop s,top1:=id,has1:=true}else{b with a:=b.untop s,top2:=id,has2:=true}
def yDp (s:Int):Con:=con1 LdI (fun i=>[.nm 0 0,zA i.id,zA s]) (fun i=>zHx i.b) (fun i=>i.b.small) (fun _=>zLc) (fun i=>zHx (i.b.leadF i.id s))
def lead1C:Con:=yDp 1
def lead2C:Con:=yDp 2
def Book.newQ (b:Book):Int×List Int×Arena:=if b.spare.length=0 then(b.a.queues.length,b.spare,b.a.openQ)else(b.spare.getD (b.spare.length-1) 0,b.spare.take (b.spare.length-1),b.a)
def Book.ins (b:Book) (s price:Int):List xE:=(b.rungs s).take (zX s (b.rungs s) price)++⟨price,b.newQ.1⟩::(b.rungs s).drop (zX s (b.rungs s) price)
def Book.queueF (b:Book) (s price:Int):Book×Int:=
 if qX s (b.rungs s) price=true then(b,((b.rungs s).getD (zX s (b.rungs s) price) ⟨0,0⟩).queue)
 else(if s=1 then{b with a:=b.newQ.2.2,buys:=b.ins s price,spare:=b.newQ.2.1}else{b with a:=b.newQ.2.2,sells:=b.ins s price,spare:=b.newQ.2.1},b.newQ.1)
def yIw (b:Book):AObj:= .cells [.nm 1 0,.own 6,.own 3,.mp 4,zA b.top1,zA b.top2,.own 7,z7 b.has1,z7 b.has2] 299
def yGr (b:Book):AObj:= .cells [.nm 1 0,.own 2,.own 6,.mp 4,zA b.top1,zA b.top2,.own 7,z7 b.has1,z7 b.has2] 299
@[reducible] def yQc (b:Book):List AObj:=[yIw b,zS b 1,.gone,zS b 3,zS b 4,.gone,zS b 2,zS b 5]
@[reducible] def yNl (b:Book):List AObj:=[yGr b,zS b 1,zS b 2,.gone,zS b 4,.gone,zS b 3,zS b 5]
@[reducible] def Book.fit (b:Book):Prop:=b.a.fit∧b.a.queues.length≤100000∧b.buys.length≤100000∧b.sells.length≤100000∧b.spare.length≤100000
def queue1C:Con:=con1 BkP (fun i=>[.nm 0 0,zA 1,zA i.price]) (fun i=>zHx i.b) (fun i=>i.b.fit) (fun i=>zA (i.b.queueF 1 i.price).2) (fun i=>yQc (i.b.queueF 1 i.price).1)
def queue2C:Con:=con1 BkP (fun i=>[.nm 0 0,zA 2,zA i.price]) (fun i=>zHx i.b) (fun i=>i.b.fit) (fun i=>zA (i.b.queueF 2 i.price).2) (fun i=>yNl (i.b.queueF 2 i.price).1)
def insRC:Con:=z9t 304 2 16
open Go Cv Go.Proofs
def zXg (i:I3'):Prop:=
 cnd (i.side==1) (∃(a:Unit),btr i.side i.x i.y=decide (i.x>i.y)∧True) (∃(a:Unit),btr i.side i.x i.y=decide (i.x<i.y)∧True)
def yAp (s:Slot):Prop:=
 ∃(a:Unit),(!s.used)=!s.used∧True
def zUw (l:List Slot):Prop:=
 ∃(a:Nat),(↑a:Int)=0∧∃(b:Nat→Prop),∃(c:Nat→Nat),b a∧∀(d:Nat),b d→cnd (decide ((↑d:Int)<(↑(List.map zR l).length:Int))) ((0≤(↑d:Int)∧(↑d:Int)<(↑(List.map zR l).length:Int))∧∃(e:Bool),∃(f:Int),∃(g:Int),∃(h:Int),∃(j:Bool),∃(k:Int),∃(m:Int),∃(n:Int),zE (List.map zR l) (↑d:Int).toNat 0 8=some [D.v (.bool e),dI f,dI g,dI h,D.v (.bool j),dI k,dI m,dI n]∧∃(p:Slot),p.used=e∧p.n=f∧p.id=g∧p.qty=h∧p.top=j∧p.queue=k∧p.ahead=m∧p.back=n∧True∧∀(q:Unit),True→cnd (!p.used) (∃(r:Unit),qZ l=(↑d:Int)∧List.map zR l=List.map zR l∧True) (∃(r:Nat),(↑r:Int)=IntKind.i64.wrap ((↑d:Int)+1)∧b r∧c r<c d∧AObj.own 362 8 (List.map zR l)=AObj.own 362 8 (List.map zR l))) (∃(e:Unit),qZ l=(-1)∧List.map zR l=List.map zR l∧True)
def yEo (a:Arena):Prop:=
 ((List.map zQ a.queues).length+1)*(32:Nat)≤(140737488355328:Nat)∧∃(b:Unit),(↑a.queues.length:Int)=IntKind.i64.wrap ((↑(List.map zQ a.queues++[[dI (-1),dI (-1),dI 0,dI 0]]).length:Int)-1)∧a.free=a.free∧List.map zR a.slots=List.map zR a.slots∧List.map zQ (a.queues++[bR])=List.map zQ a.queues++[[dI (-1),dI (-1),dI 0,dI 0]]∧True
def lC (a:z6r):Prop:=∃(b:Unit),(if a.a.usedAt a.n=true then(0:Int)else(26:Int))=26∧(a.a.topF a.n a.t).free=a.a.free∧List.map zR (a.a.topF a.n a.t).slots=List.map zR a.a.slots∧List.map zQ (a.a.topF a.n a.t).queues=List.map zQ a.a.queues∧True
def yLo (i:z6r):Prop:=
 cnd (decide (i.n<0)) (lC i) (cnd (decide (i.n≥(↑(List.map zR i.a.slots).length:Int))) (lC i) ((0≤i.n∧i.n<(↑(List.map zR i.a.slots).length:Int))∧∃(a:Bool),zE (List.map zR i.a.slots) i.n.toNat ((0:Nat)+(0:Nat)) 1=some [D.v (.bool a)]∧cnd (!a) (lC i) ((0≤i.n∧i.n<(↑(List.map zR i.a.slots).length:Int))∧i.n.toNat<(List.map zR i.a.slots).length∧∃(b:Unit),(if i.a.usedAt i.n=true then(0:Int)else(26:Int))=0∧(i.a.topF i.n i.t).free=i.a.free∧List.map zR (i.a.topF i.n i.t).slots=zH (List.map zR i.a.slots) i.n.toNat ((0:Nat)+(1:Nat)+3) [D.v (.bool i.t)]∧List.map zQ (i.a.topF i.n i.t).queues=List.map zQ i.a.queues∧True)))
def yI (a:PuI):=(a.a.push a.n a.id a.qty a.top)
def nK (a:PuI):Prop:=(yI a).fst.free=a.a.free∧List.map zR (yI a).fst.slots=List.map zR a.a.slots∧List.map zQ (yI a).fst.queues=List.map zQ a.a.queues∧True
def zAs (a:PuI):Prop:=∃(b:Unit),(yI a).snd.fst=0∧(yI a).snd.snd=26∧nK a
def zAn (a:PuI):Prop:=∃(b:Unit),(yI a).snd.fst=0∧(yI a).snd.snd=24∧nK a
def p9 (a:PuI) (b:List Slot):=(zH (zH (List.map zQ a.a.queues) a.n.toNat ((0:Nat)+(0:Nat)) [dI (qZ b)]) a.n.toNat ((0:Nat)+(1:Nat)) [dI (qZ b)])
def p7 (a:PuI) (b:List Slot) (c:Int):=(zH (p9 a b) a.n.toNat ((0:Nat)+(2:Nat)) [dI (IntKind.i64.wrap (c+a.qty))])
def nV (a:PuI) (b:List Slot):=(zH (List.map zQ a.a.queues) a.n.toNat ((0:Nat)+(1:Nat)) [dI (qZ b)])
def nP (a:PuI) (b:List Slot) (c:Int):=(zH (nV a b) a.n.toNat ((0:Nat)+(2:Nat)) [dI (IntKind.i64.wrap (c+a.qty))])
def z9j (i:PuI):Prop:=
 cnd (decide (i.n≥0)) (cnd (!decide (i.n<(↑(List.map zQ i.a.queues).length:Int))) (zAs i) (cnd (decide (i.qty<1)) (zAn i) (cnd (decide (i.qty>1000000)) (zAn i) (cnd (i.a.free==0) (∃(a:Unit),(yI i).snd.fst=0∧(yI i).snd.snd=13∧nK i) (∃(a:List Slot),List.map zR a=List.map zR i.a.slots∧a.length≤1000000∧∀(b:Unit),True→(0≤i.n∧i.n<(↑(List.map zQ i.a.queues).length:Int))∧∃(c:Int),zE (List.map zQ i.a.queues) i.n.toNat ((0:Nat)+(1:Nat)) 1=some [dI c]∧(0≤qZ a∧qZ a<(↑(List.map zR a).length:Int))∧(qZ a).toNat<(List.map zR a).length∧∃(d:Int),zE (List.map zQ i.a.queues) i.n.toNat ((0:Nat)+(1:Nat)) 1=some [dI d]∧cnd (d==(-1)) (i.n.toNat<(List.map zQ i.a.queues).length∧i.n.toNat<(zH (List.map zQ i.a.queues) i.n.toNat ((0:Nat)+(0:Nat)) [dI (qZ a)]).length∧∃(e:Int),zE (p9 i a) i.n.toNat ((0:Nat)+(2:Nat)) 1=some [dI e]∧i.n.toNat<(p9 i a).length∧∃(f:Int),zE (p7 i a e) i.n.toNat ((0:Nat)+(3:Nat)) 1=some [dI f]∧i.n.toNat<(p7 i a e).length∧∃(g:Unit),(yI i).snd.fst=qZ a∧(yI i).snd.snd=0∧(yI i).fst.free=IntKind.i64.wrap (i.a.free-1)∧List.map zR (yI i).fst.slots=zH (List.map zR a) (qZ a).toNat 0 [D.v (.bool true),dI (qZ a),dI i.id,dI i.qty,D.v (.bool i.top),dI i.n,dI c,dI (-1)]∧List.map zQ (yI i).fst.queues=zH (p7 i a e) i.n.toNat ((0:Nat)+(3:Nat)) [dI (IntKind.i64.wrap (f+1))]∧True) (∃(e:Int),zE (List.map zQ i.a.queues) i.n.toNat ((0:Nat)+(1:Nat)) 1=some [dI e]∧(0≤e∧e<(↑(zH (List.map zR a) (qZ a).toNat 0 [D.v (.bool true),dI (qZ a),dI i.id,dI i.qty,D.v (.bool i.top),dI i.n,dI c,dI (-1)]).length:Int))∧e.toNat<(zH (List.map zR a) (qZ a).toNat 0 [D.v (.bool true),dI (qZ a),dI i.id,dI i.qty,D.v (.bool i.top),dI i.n,dI c,dI (-1)]).length∧i.n.toNat<(List.map zQ i.a.queues).length∧∃(f:Int),zE (nV i a) i.n.toNat ((0:Nat)+(2:Nat)) 1=some [dI f]∧i.n.toNat<(nV i a).length∧∃(g:Int),zE (nP i a f) i.n.toNat ((0:Nat)+(3:Nat)) 1=some [dI g]∧i.n.toNat<(nP i a f).length∧∃(h:Unit),(yI i).snd.fst=qZ a∧(yI i).snd.snd=0∧(yI i).fst.free=IntKind.i64.wrap (i.a.free-1)∧List.map zR (yI i).fst.slots=zH (zH (List.map zR a) (qZ a).toNat 0 [D.v (.bool true),dI (qZ a),dI i.id,dI i.qty,D.v (.bool i.top),dI i.n,dI c,dI (-1)]) e.toNat ((0:Nat)+(7:Nat)) [dI (qZ a)]∧List.map zQ (yI i).fst.queues=zH (nP i a f) i.n.toNat ((0:Nat)+(3:Nat)) [dI (IntKind.i64.wrap (g+1))]∧True)))))) (zAs i)
def xK (a:BkP):=(↑(zX 1 (a.b.rungs 1) a.price):Int)
def vK (a:BkP):=(↑(List.map zB a.b.buys).length:Int)
def fF (a:BkP):Prop:=a.b.top1=a.b.top1∧a.b.top2=a.b.top2∧a.b.has1=a.b.has1∧a.b.has2=a.b.has2∧AObj.adt Arena 3 zG a.b.a=zS a.b 1∧List.map zB a.b.buys=List.map zB a.b.buys∧List.map zB a.b.sells=List.map zB a.b.sells∧atE a.b.at_=atE a.b.at_∧iE a.b.spare=iE a.b.spare∧True
def zBi (a:Nat) (b:BkP):Prop:=(0≤(↑a:Int)∧(↑a:Int)<(vK b))∧∃(c:Int),zE (List.map zB b.b.buys) (↑a:Int).toNat ((0:Nat)+(0:Nat)) 1=some [dI c]∧∃(d:Unit),(xK b)=(↑a:Int)∧qX 1 (b.b.rungs 1) b.price=(c==b.price)∧fF b
def zAk (a:BkP) (b:Nat):Prop:=∃(c:Unit),(xK a)=(↑b:Int)∧qX 1 (a.b.rungs 1) a.price=false∧fF a
def pZ (a:Nat) (b:Nat→Prop) (c:Nat→Nat) (d:BkP):Prop:=∃(e:Nat),(↑e:Int)=IntKind.i64.wrap ((↑a:Int)+1)∧b e∧c e<c a∧zS d.b 0=zS d.b 0∧zS d.b 1=zS d.b 1∧zS d.b 2=zS d.b 2∧zS d.b 3=zS d.b 3∧zS d.b 4=zS d.b 4∧zS d.b 5=zS d.b 5
def nR (a:Nat) (b:BkP):=(decide ((↑a:Int)<(vK b)))
def z9r (i:BkP):Prop:=
 ∃(a:Nat),(↑a:Int)=0∧∃(b:Nat→Prop),∃(c:Nat→Nat),b a∧∀(d:Nat),b d→cnd (nR d i) ((0≤(↑d:Int)∧(↑d:Int)<(vK i))∧∃(e:Int),zE (List.map zB i.b.buys) (↑d:Int).toNat ((0:Nat)+(0:Nat)) 1=some [dI e]∧∃(f:I3'),f.side=1∧f.x=e∧f.y=i.price∧True∧∀(g:Unit),True→cnd (btr f.side f.x f.y) (pZ d b c i) (cnd (nR d i) (zBi d i) (zAk i d))) (cnd (nR d i) (zBi d i) (zAk i d))
def xM (a:BkP):=(↑(zX 2 (a.b.rungs 2) a.price):Int)
def vH (a:BkP):=(↑(List.map zB a.b.sells).length:Int)
def l8 (a:Nat) (b:BkP):Prop:=(0≤(↑a:Int)∧(↑a:Int)<(vH b))∧∃(c:Int),zE (List.map zB b.b.sells) (↑a:Int).toNat ((0:Nat)+(0:Nat)) 1=some [dI c]∧∃(d:Unit),(xM b)=(↑a:Int)∧qX 2 (b.b.rungs 2) b.price=(c==b.price)∧fF b
def zAm (a:BkP) (b:Nat):Prop:=∃(c:Unit),(xM a)=(↑b:Int)∧qX 2 (a.b.rungs 2) a.price=false∧fF a
def pO (a:Nat) (b:BkP):=(decide ((↑a:Int)<(vH b)))
def yAk (i:BkP):Prop:=
 ∃(a:Nat),(↑a:Int)=0∧∃(b:Nat→Prop),∃(c:Nat→Nat),b a∧∀(d:Nat),b d→cnd (pO d i) ((0≤(↑d:Int)∧(↑d:Int)<(vH i))∧∃(e:Int),zE (List.map zB i.b.sells) (↑d:Int).toNat ((0:Nat)+(0:Nat)) 1=some [dI e]∧∃(f:I3'),f.side=2∧f.x=e∧f.y=i.price∧True∧∀(g:Unit),True→cnd (btr f.side f.x f.y) (pZ d b c i) (cnd (pO d i) (l8 d i) (zAm i d))) (cnd (pO d i) (l8 d i) (zAm i d))
def fC (a:LdI):Prop:=List.map zB a.b.buys=List.map zB a.b.buys∧List.map zB a.b.sells=List.map zB a.b.sells∧atE a.b.at_=atE a.b.at_∧iE a.b.spare=iE a.b.spare∧True
def nD (a:LdI):Prop:=∃(b:Unit),a.id=a.id∧a.b.top2=a.b.top2∧true=true∧a.b.has2=a.b.has2∧AObj.adt Arena 3 zG (a.b.untop 1)=zS a.b 1∧fC a
def lO (a:LdI) (b:Int) (c:Int) (d:Int) (e:Bool):Prop:=vX (Value.int IntKind.i64 a.b.top1) (atE a.b.at_)=some [dI b,dI c,dI d]∧e=true∨vX (Value.int IntKind.i64 a.b.top1) (atE a.b.at_)=none∧[dI b,dI c,dI d]=[dI 0,dI 0,dI 0]∧e=false
def lY (a:LdI):Prop:=∀(b:Value×List D),b∈atE a.b.at_→like (Value.int IntKind.i64 a.b.top1) b.fst=true
def z8u (i:LdI):Prop:=
 cnd i.b.has1 ((lY i)∧∃(a:Bool),∃(b:Int),∃(c:Int),∃(d:Int),(lO i b c d a)∧((lY i)∧∃(e:Bool),∃(f:Int),∃(g:Int),∃(h:Int),(lO i f g h e)∧(f=b∧g=c∧h=d∧True)∧e=a∧True)∧i.b.top1=i.b.top1∧True∧cnd a (cnd (b==1) (∃(e:z6r),e.n=d∧e.t=false∧AObj.adt Arena 3 zG e.a=zS i.b 1∧e.a.slots.length≤1000000∧∀(f:Unit),True→∃(g:Unit),i.id=i.id∧i.b.top2=i.b.top2∧true=true∧i.b.has2=i.b.has2∧AObj.adt Arena 3 zG (i.b.untop 1)=AObj.adt Arena 3 zG (e.a.topF e.n e.t)∧fC i) (nD i)) (nD i)) (nD i)
def pK (a:LdI):Prop:=∃(b:Unit),a.b.top1=a.b.top1∧a.id=a.id∧a.b.has1=a.b.has1∧true=true∧AObj.adt Arena 3 zG (a.b.untop 2)=zS a.b 1∧fC a
def zBv (a:LdI) (b:Int) (c:Int) (d:Int) (e:Bool):Prop:=vX (Value.int IntKind.i64 a.b.top2) (atE a.b.at_)=some [dI b,dI c,dI d]∧e=true∨vX (Value.int IntKind.i64 a.b.top2) (atE a.b.at_)=none∧[dI b,dI c,dI d]=[dI 0,dI 0,dI 0]∧e=false
def zBt (a:LdI):Prop:=∀(b:Value×List D),b∈atE a.b.at_→like (Value.int IntKind.i64 a.b.top2) b.fst=true
def yDz (i:LdI):Prop:=
 cnd i.b.has2 ((zBt i)∧∃(a:Bool),∃(b:Int),∃(c:Int),∃(d:Int),(zBv i b c d a)∧((zBt i)∧∃(e:Bool),∃(f:Int),∃(g:Int),∃(h:Int),(zBv i f g h e)∧(f=b∧g=c∧h=d∧True)∧e=a∧True)∧i.b.top2=i.b.top2∧True∧cnd a (cnd (b==2) (∃(e:z6r),e.n=d∧e.t=false∧AObj.adt Arena 3 zG e.a=zS i.b 1∧e.a.slots.length≤1000000∧∀(f:Unit),True→∃(g:Unit),i.b.top1=i.b.top1∧i.id=i.id∧i.b.has1=i.b.has1∧true=true∧AObj.adt Arena 3 zG (i.b.untop 2)=AObj.adt Arena 3 zG (e.a.topF e.n e.t)∧fC i) (pK i)) (pK i)) (pK i)
def xX (a:BkP):Prop:=(a.b.a.slots.length≤1000000∧a.b.a.queues.length≤1000000)∧a.b.buys.length≤1000000∧a.b.sells.length≤1000000∧a.b.spare.length≤1000000
def hZ (a:BkP):Prop:=0≤(xK a)∧(xK a)<(vK a)
def vI (a:BkP):=((↑(iE a.b.spare).length:Int)-1)
def aS (a:BkP):Prop:=0≤IntKind.i64.wrap (vI a)∧IntKind.i64.wrap (vI a)≤(↑(iE a.b.spare).length:Int)
def aK (a:BkP):Prop:=0≤IntKind.i64.wrap (vI a)∧IntKind.i64.wrap (vI a)<(↑(iE a.b.spare).length:Int)
def gJ (a:zCz):Prop:=a.i≤a.els.length∧(a.els.length+1)*(16:Nat)≤(140737488355328:Nat)
def gB (a:BkP):=(IntKind.i64.wrap (vI a))
def zO (a:BkP):=(a.b.queueF 1 a.price)
def z2r (i:BkP):Prop:=
 ∃(a:BkP),(1:Int)=(1:Int)∧a.price=i.price∧a.b.top1=i.b.top1∧a.b.top2=i.b.top2∧a.b.has1=i.b.has1∧a.b.has2=i.b.has2∧AObj.adt Arena 3 zG a.b.a=zS i.b 1∧List.map zB a.b.buys=List.map zB i.b.buys∧List.map zB a.b.sells=List.map zB i.b.sells∧atE a.b.at_=atE i.b.at_∧iE a.b.spare=iE i.b.spare∧(xX a)∧∀(b:Unit),True→cnd (qX 1 (a.b.rungs 1) a.price) ((hZ a)∧∃(c:Int),zE (List.map zB a.b.buys) (xK a).toNat ((0:Nat)+(1:Nat)) 1=some [dI c]∧∃(d:Unit),(zO i).snd=c∧(zO i).fst.top1=a.b.top1∧(zO i).fst.top2=a.b.top2∧(zO i).fst.has1=a.b.has1∧(zO i).fst.has2=a.b.has2∧AObj.adt Arena 3 zG (zO i).fst.a=AObj.adt Arena 3 zG a.b.a∧List.map zB (zO i).fst.sells=List.map zB a.b.sells∧atE (zO i).fst.at_=atE a.b.at_∧List.map zB (zO i).fst.buys=List.map zB a.b.buys∧iE (zO i).fst.spare=iE a.b.spare∧True) (cnd (decide ((↑(iE a.b.spare).length:Int)>0)) ((aK a)∧∃(c:Int),zE (iE a.b.spare) (gB a).toNat 0 1=some [dI c]∧(aS a)∧True∧∃(d:zCz),(↑d.i:Int)=(xK a)∧d.els=List.map zB a.b.buys∧[d.el]=[[dI i.price,dI c]]∧(gJ d)∧∀(e:Unit),True→∃(f:Unit),(zO i).snd=c∧(zO i).fst.top1=a.b.top1∧(zO i).fst.top2=a.b.top2∧(zO i).fst.has1=a.b.has1∧(zO i).fst.has2=a.b.has2∧AObj.adt Arena 3 zG (zO i).fst.a=AObj.adt Arena 3 zG a.b.a∧List.map zB (zO i).fst.sells=List.map zB a.b.sells∧atE (zO i).fst.at_=atE a.b.at_∧List.map zB (zO i).fst.buys=List.take d.i d.els++d.el::List.drop d.i d.els∧iE (zO i).fst.spare=List.take (gB a).toNat (iE a.b.spare)∧True) (∃(c:Arena),AObj.adt Arena 3 zG c=AObj.adt Arena 3 zG a.b.a∧c.queues.length≤1000000∧∀(d:Unit),True→True∧∃(e:zCz),(↑e.i:Int)=(xK a)∧e.els=List.map zB a.b.buys∧[e.el]=[[dI i.price,dI (↑c.queues.length:Int)]]∧(gJ e)∧∀(f:Unit),True→∃(g:Unit),(zO i).snd=(↑c.queues.length:Int)∧(zO i).fst.top1=a.b.top1∧(zO i).fst.top2=a.b.top2∧(zO i).fst.has1=a.b.has1∧(zO i).fst.has2=a.b.has2∧AObj.adt Arena 3 zG (zO i).fst.a=AObj.adt Arena 3 zG c.openQ∧List.map zB (zO i).fst.sells=List.map zB a.b.sells∧atE (zO i).fst.at_=atE a.b.at_∧List.map zB (zO i).fst.buys=List.take e.i e.els++e.el::List.drop e.i e.els∧iE (zO i).fst.spare=iE a.b.spare∧True))
def gN (a:BkP):Prop:=0≤(xM a)∧(xM a)<(vH a)
def zP (a:BkP):=(a.b.queueF 2 a.price)
def z4m (i:BkP):Prop:=
 ∃(a:BkP),(2:Int)=(2:Int)∧a.price=i.price∧a.b.top1=i.b.top1∧a.b.top2=i.b.top2∧a.b.has1=i.b.has1∧a.b.has2=i.b.has2∧AObj.adt Arena 3 zG a.b.a=zS i.b 1∧List.map zB a.b.buys=List.map zB i.b.buys∧List.map zB a.b.sells=List.map zB i.b.sells∧atE a.b.at_=atE i.b.at_∧iE a.b.spare=iE i.b.spare∧(xX a)∧∀(b:Unit),True→cnd (qX 2 (a.b.rungs 2) a.price) ((gN a)∧∃(c:Int),zE (List.map zB a.b.sells) (xM a).toNat ((0:Nat)+(1:Nat)) 1=some [dI c]∧∃(d:Unit),(zP i).snd=c∧(zP i).fst.top1=a.b.top1∧(zP i).fst.top2=a.b.top2∧(zP i).fst.has1=a.b.has1∧(zP i).fst.has2=a.b.has2∧AObj.adt Arena 3 zG (zP i).fst.a=AObj.adt Arena 3 zG a.b.a∧List.map zB (zP i).fst.buys=List.map zB a.b.buys∧atE (zP i).fst.at_=atE a.b.at_∧List.map zB (zP i).fst.sells=List.map zB a.b.sells∧iE (zP i).fst.spare=iE a.b.spare∧True) (cnd (decide ((↑(iE a.b.spare).length:Int)>0)) ((aK a)∧∃(c:Int),zE (iE a.b.spare) (gB a).toNat 0 1=some [dI c]∧(aS a)∧True∧∃(d:zCz),(↑d.i:Int)=(xM a)∧d.els=List.map zB a.b.sells∧[d.el]=[[dI i.price,dI c]]∧(gJ d)∧∀(e:Unit),True→∃(f:Unit),(zP i).snd=c∧(zP i).fst.top1=a.b.top1∧(zP i).fst.top2=a.b.top2∧(zP i).fst.has1=a.b.has1∧(zP i).fst.has2=a.b.has2∧AObj.adt Arena 3 zG (zP i).fst.a=AObj.adt Arena 3 zG a.b.a∧List.map zB (zP i).fst.buys=List.map zB a.b.buys∧atE (zP i).fst.at_=atE a.b.at_∧List.map zB (zP i).fst.sells=List.take d.i d.els++d.el::List.drop d.i d.els∧iE (zP i).fst.spare=List.take (gB a).toNat (iE a.b.spare)∧True) (∃(c:Arena),AObj.adt Arena 3 zG c=AObj.adt Arena 3 zG a.b.a∧c.queues.length≤1000000∧∀(d:Unit),True→True∧∃(e:zCz),(↑e.i:Int)=(xM a)∧e.els=List.map zB a.b.sells∧[e.el]=[[dI i.price,dI (↑c.queues.length:Int)]]∧(gJ e)∧∀(f:Unit),True→∃(g:Unit),(zP i).snd=(↑c.queues.length:Int)∧(zP i).fst.top1=a.b.top1∧(zP i).fst.top2=a.b.top2∧(zP i).fst.has1=a.b.has1∧(zP i).fst.has2=a.b.has2∧AObj.adt Arena 3 zG (zP i).fst.a=AObj.adt Arena 3 zG c.openQ∧List.map zB (zP i).fst.buys=List.map zB a.b.buys∧atE (zP i).fst.at_=atE a.b.at_∧List.map zB (zP i).fst.sells=List.take e.i e.els++e.el::List.drop e.i e.els∧iE (zP i).fst.spare=iE a.b.spare∧True))
open Go Cv Go.Proofs
theorem bI:bbetterC.ok Tryz.prog 58:=okw (V:=zXg) mixed gok0 0 (fun _=>[]) (fun _=>[]) [] Tryz.func58 fun(i:I3') _=>by
 unfold zXg
 refine Cv.cnd.mk (fun c=> ?_) (fun c=> ?_)
 ·have c:i.side=1:=by simpa using c
  rw[btr,yWt c];exact kp
 ·have c:¬i.side=1:=by simpa using c
  rw[btr,yWs c];exact kp
theorem yCq:pushFC.ok Tryz.prog 293:=okw (V:=yAp) mixed gok0 0 (fun _=>[]) (fun _=>[]) [] Tryz.func293 fun(s:Slot) _=>by
 unfold yAp;exact kp
theorem yWf {l:List Slot} {k:Nat} {s:Slot} (h:l[k]? =some s):zE (l.map zR) k 0 8=some [D.v (.bool s.used),.v (.int .i64 s.n),.v (.int .i64 s.id),.v (.int .i64 s.qty),.v (.bool s.top),.v (.int .i64 s.queue),.v (.int .i64 s.ahead),.v (.int .i64 s.back)]:=elA h (by simp[zR]) rfl
theorem yAr (l:List Slot) (h:idxSlotC.cnd l):zUw l:=by
 have h:l.length≤1000000:=h
 unfold zUw dI
 simp only[yWu]
 refine⟨0,rfl,fun j=>j≤l.length∧∀k<j,∀x,l[k]? =some x→(!x.used)=false,fun j=>l.length-j,⟨by omega,fun k hk=>by omega⟩,?_⟩
 rintro j ⟨h3,h4⟩
 refine zK (fun hj=> ?_) (fun hj=> ?_)
 ·obtain⟨s,hs⟩:=zW (l:=l) (i:=j) (by omega)
  refine⟨⟨by omega,by omega⟩,s.used,s.n,s.id,s.qty,s.top,s.queue,s.ahead,s.back,yWf hs,s,rfl,rfl,rfl,rfl,rfl,rfl,rfl,rfl,trivial,fun _ _=>Cv.cnd.mk (fun e=> ?_) (fun e=> ?_)⟩
  ·rw[qZ,zGl hs e h4];exact kp
  ·refine⟨j+1,by rw[w64 (by omega)];rfl,⟨by omega,fun k hk x hx=> ?_⟩,by(first|omega|(dsimp only;omega)),k0q⟩
   rcases yZq k j with hk'|hk'
   ·exact h4 k hk' x hx
   ·obtain rfl:k=j:=by omega
    rw[hs]at hx;cases hx;exact e
 ·rw[qZ,zEw fun k x hx=>h4 k (by have:=(yWv.1 hx).1;omega) x hx];exact kp
theorem z0a:idxSlotC.ok Tryz.prog 292:=okw mixed (gokc yCq gok0) 0 (fun _=>[]) (fun l=>yEh l) [] Tryz.func292 yAr
theorem zUy:aopenC.ok Tryz.prog 294:=okw (V:=yEo) mixed gok0 0 (fun _=>[]) (fun _=>[]) [0] Tryz.func294 fun(a:Arena) h=>by
 have h:a.queues.length≤1000000:=h
 unfold yEo dI
 rw[yWx,yWu,w64 (by simp only[yXa,yZm];omega)]
 refine⟨by omega,(),?_,rfl,rfl,?_,trivial⟩
 ·simp
 ·rw[yXe];rfl
theorem dG {α:Type} {f:α→α}:∀{l:List α} {i:Nat} {x:α},l[i]? =some x→l.modify i f=l.set i (f x)
 |[],i,x,h=>by simp at h
 |a::l,0,x,h=>by simp at h;subst h;rfl
 |a::l,i+1,x,h=>by
  simp only[yYp]at h
  simp only[y2d,y2r,dG h]
theorem yH {α:Type} {f:α→List D} {l:List α} {i g:Nat} {x y:α} {ds:List D} (hi:l[i]? =some x) (hh:(f x).take g++(ds++(f x).drop (g+ds.length))=f y):zH (l.map f) i g ds=(l.set i y).map f:=by
 have hlt:=(yWv.1 hi).1
 rw[zH,dG (by rw[yXq,hi];rfl),hh,List.map_set]
theorem vZ {α:Type} {l:List α} {i:Nat} {x y:α} (hi:l[i]? =some x):(l.set i y)[i]? =some y:=List.getElem?_set_self (yWv.1 hi).1
theorem zT {α:Type} {l:List α} {i:Nat} {x d:α} (h:l[i]? =some x):l.getD i d=x:=by rw[yXb,h];rfl
theorem ySu (i:z6r) (h:atopC.cnd i):yLo i:=by
 have h:i.a.slots.length≤1000000:=h
 unfold yLo lC
 simp only[yWu]
 have no (e:i.a.usedAt i.n=false):i.a.topF i.n i.t=i.a:=by rw[Arena.topF,yWs (by rw[e];decide)]
 refine zK (fun c=> ?_) (fun c=>zK (fun d=> ?_) (fun d=> ?_))
 ·have e:i.a.usedAt i.n=false:=by rw[Arena.usedAt,yXf (by omega),y0g]
  rw[no e,e];exact kp
 ·have e:i.a.usedAt i.n=false:=by rw[Arena.usedAt,yXf (show ¬i.n<(i.a.slots.length:Int)by omega),y0g,y1z]
  rw[no e,e];exact kp
 ·obtain⟨s,hs⟩:=zW (l:=i.a.slots) (i:=i.n.toNat) (by omega)
  have eu:i.a.usedAt i.n=s.used:=by rw[Arena.usedAt,yXi (show 0≤i.n by omega),yXi (show i.n<(i.a.slots.length:Int)by omega),zT hs];simp
  refine⟨⟨by omega,by omega⟩,s.used,elA hs (by simp[zR]) rfl,Cv.cnd.mk (fun u=> ?_) (fun u=> ?_)⟩
  ·have e:i.a.usedAt i.n=false:=by rw[eu];simpa using u
   rw[no e,e];exact kp
  ·have e:i.a.usedAt i.n=true:=by rw[eu];simpa using u
   have et:i.a.topF i.n i.t={i.a with slots:=i.a.slots.set i.n.toNat {s with top:=i.t}}:=by
    rw[Arena.topF,yWt e,dG hs]
   rw[et,e,yH hs (y:={s with top:=i.t}) rfl]
   refine⟨⟨by omega,by omega⟩,by omega,(),rfl,rfl,rfl,rfl,trivial⟩
theorem z3h:atopC.ok Tryz.prog 291:=okw mixed gok0 1 (fun _=>[]) (fun _=>[]) [0] Tryz.func291 ySu
theorem yDx {l:List Slot} (h:∃s∈l,s.used=false):∃k:Nat,qZ l=k∧k<l.length:=by
 obtain⟨s,hs,hu⟩:=h
 cases hf:l.findIdx? fun s=> !s.used with
 |none=>
  rw[y0v]at hf
  have:=hf s hs
  rw[hu]at this;cases this
 |some k=>
  rw[yZu]at hf
  exact⟨k,by rw[qZ,show(l.findIdx? fun s=> !s.used)=some k by rw[yZu];exact hf];rfl,hf.1⟩
theorem yNq (i:PuI) (h:apushC.cnd i):z9j i:=by
 obtain⟨h1,h2,h3⟩:i.a.fit:=h
 unfold z9j nP nV p7 p9 zAn zAs nK yI dI
 simp only[yWu]
 have out (e:i.n<0∨i.a.queues.length≤i.n):i.a.push i.n i.id i.qty i.top=(i.a,0,26):=by rw[Arena.push,yWt e]
 refine zK (fun c=>Cv.cnd.mk (fun d=> ?_) (fun d=> ?_)) (fun c=> ?_)
 ·have d:¬i.n<(i.a.queues.length:Int):=by simpa using d
  rw[out (.inr (by omega))];exact kp
 ·have d:i.n<(i.a.queues.length:Int):=by simpa using d
  have hn:¬(i.n<0∨(i.a.queues.length:Int)≤i.n):=by omega
  refine zK (fun q1=> ?_) (fun q1=>zK (fun q2=> ?_) (fun q2=>Cv.cnd.mk (fun fr=> ?_) (fun fr=> ?_)))
  ·rw[Arena.push,yWs hn,yWt (.inl q1)];exact kp
  ·rw[Arena.push,yWs hn,yWt (.inr q2)];exact kp
  ·rw[Arena.push,yWs hn,yWs (by omega),yWt (by simpa using fr)];exact kp
  ·have fr:i.a.free≠0:=by simpa using fr
   have ep:i.a.push i.n i.id i.qty i.top=(i.a.put i.n i.id i.qty i.top,qZ i.a.slots,0):=by rw[Arena.push,yWs hn,yWs (by omega),yWs fr]
   obtain⟨k,hk,hkl⟩:=yDx (h2 fr)
   obtain⟨q,hq⟩:=zW (l:=i.a.queues) (i:=i.n.toNat) (by omega)
   have hqm:=yXd hq
   have hl:=h3 q hqm
   obtain⟨s,hs⟩:=zW hkl
   refine⟨i.a.slots,rfl,h1,fun _ _=>⟨⟨by omega,by omega⟩,q.last,elA hq (by simp[zQ]) rfl,⟨by omega,by omega⟩,by rw[hk];exact hkl,q.last,elA hq (by simp[zQ]) rfl,?_⟩⟩
   rw[ep]
   have eput:i.a.put i.n i.id i.qty i.top=⟨if q.last= -1 then i.a.slots.set k ⟨true,k,i.id,i.qty,i.top,i.n,q.last,-1⟩else(i.a.slots.set k ⟨true,k,i.id,i.qty,i.top,i.n,q.last,-1⟩).modify q.last.toNat fun s=>{s with back:=k},i.a.queues.set i.n.toNat ⟨if q.last= -1 then k else q.first,k,IntKind.i64.wrap (q.total+i.qty),IntKind.i64.wrap (q.count+1)⟩,IntKind.i64.wrap (i.a.free-1)⟩:=by
    simp only[Arena.put,zT hq,hk,yXn]
   rw[eput,hk]
   simp only[yXn]
   have es:zH (List.map zR i.a.slots) k 0 [D.v (.bool true),D.v (.int .i64 k),D.v (.int .i64 i.id),D.v (.int .i64 i.qty),D.v (.bool i.top),D.v (.int .i64 i.n),D.v (.int .i64 q.last),D.v (.int .i64 (-1))]=List.map zR (i.a.slots.set k ⟨true,k,i.id,i.qty,i.top,i.n,q.last,-1⟩):=yH hs rfl
   rw[es]
   refine Cv.cnd.mk (fun e=> ?_) (fun e=> ?_)
   ·have e:q.last= -1:=by simpa using e
    have e1:zH (List.map zQ i.a.queues) i.n.toNat (0+0) [D.v (.int .i64 k)]=List.map zQ (i.a.queues.set i.n.toNat {q with first:=k}):=yH hq rfl
    have g1:=vZ (y:={q with first:=(k:Int)}) hq
    have e2:zH (List.map zQ (i.a.queues.set i.n.toNat {q with first:=k})) i.n.toNat (0+1) [D.v (.int .i64 k)]=List.map zQ (i.a.queues.set i.n.toNat {q with first:=k,last:=k}):=by
     rw[yH g1 (y:={q with first:=(k:Int),last:=(k:Int)}) rfl,y0s]
    have g2:=vZ (y:={q with first:=(k:Int),last:=(k:Int)}) hq
    have e3:zH (List.map zQ (i.a.queues.set i.n.toNat {q with first:=k,last:=k})) i.n.toNat (0+2) [D.v (.int .i64 (IntKind.i64.wrap (q.total+i.qty)))]=List.map zQ (i.a.queues.set i.n.toNat {q with first:=k,last:=k,total:=IntKind.i64.wrap (q.total+i.qty)}):=by
     rw[yH g2 (y:={q with first:=(k:Int),last:=(k:Int),total:=IntKind.i64.wrap (q.total+i.qty)}) rfl,y0s]
    have g3:=vZ (y:={q with first:=(k:Int),last:=(k:Int),total:=IntKind.i64.wrap (q.total+i.qty)}) hq
    have e4:zH (List.map zQ (i.a.queues.set i.n.toNat {q with first:=k,last:=k,total:=IntKind.i64.wrap (q.total+i.qty)})) i.n.toNat (0+3) [D.v (.int .i64 (IntKind.i64.wrap (q.count+1)))]=List.map zQ (i.a.queues.set i.n.toNat ⟨k,k,IntKind.i64.wrap (q.total+i.qty),IntKind.i64.wrap (q.count+1)⟩):=by
     rw[yH g3 (y:=⟨k,k,IntKind.i64.wrap (q.total+i.qty),IntKind.i64.wrap (q.count+1)⟩) rfl,y0s]
    rw[e1,e2]
    simp only[yWt e]
    refine⟨by omega,by simp only[yWu,yXv];omega,q.total,elA g2 (by simp[zQ]) rfl,by simp only[yWu,yXv];omega,q.count,?_,by rw[e3];simp only[yWu,yXv];omega,(),?_⟩
    ·rw[e3];exact elA g3 (by simp[zQ]) rfl
    ·rw[e3,e4];exact kp
   ·have e:¬q.last= -1:=by simpa using e
    have hl:0≤q.last∧q.last<i.a.slots.length:=hl.resolve_left e
    have e2:zH (List.map zQ i.a.queues) i.n.toNat (0+1) [D.v (.int .i64 k)]=List.map zQ (i.a.queues.set i.n.toNat {q with last:=k}):=yH hq rfl
    have g2:=vZ (y:={q with last:=(k:Int)}) hq
    have e3:zH (List.map zQ (i.a.queues.set i.n.toNat {q with last:=k})) i.n.toNat (0+2) [D.v (.int .i64 (IntKind.i64.wrap (q.total+i.qty)))]=List.map zQ (i.a.queues.set i.n.toNat {q with last:=k,total:=IntKind.i64.wrap (q.total+i.qty)}):=by
     rw[yH g2 (y:={q with last:=(k:Int),total:=IntKind.i64.wrap (q.total+i.qty)}) rfl,y0s]
    have g3:=vZ (y:={q with last:=(k:Int),total:=IntKind.i64.wrap (q.total+i.qty)}) hq
    have e4:zH (List.map zQ (i.a.queues.set i.n.toNat {q with last:=k,total:=IntKind.i64.wrap (q.total+i.qty)})) i.n.toNat (0+3) [D.v (.int .i64 (IntKind.i64.wrap (q.count+1)))]=List.map zQ (i.a.queues.set i.n.toNat ⟨q.first,k,IntKind.i64.wrap (q.total+i.qty),IntKind.i64.wrap (q.count+1)⟩):=by
     rw[yH g3 (y:=⟨q.first,k,IntKind.i64.wrap (q.total+i.qty),IntKind.i64.wrap (q.count+1)⟩) rfl,y0s]
    obtain⟨s2,hs2⟩:=zW (l:=i.a.slots.set k ⟨true,k,i.id,i.qty,i.top,i.n,q.last,-1⟩) (i:=q.last.toNat) (by rw[yXv];omega)
    have e5:zH (List.map zR (i.a.slots.set k ⟨true,k,i.id,i.qty,i.top,i.n,q.last,-1⟩)) q.last.toNat (0+7) [D.v (.int .i64 k)]=List.map zR ((i.a.slots.set k ⟨true,k,i.id,i.qty,i.top,i.n,q.last,-1⟩).modify q.last.toNat fun s=>{s with back:=k}):=by
     rw[yH hs2 (y:={s2 with back:=(k:Int)}) rfl,dG hs2]
    rw[e2]
    simp only[yWs e]
    refine⟨q.last,elA hq (by simp[zQ]) rfl,⟨by omega,by simp only[yWu,yXv];omega⟩,by simp only[yWu,yXv];omega,by omega,q.total,elA g2 (by simp[zQ]) rfl,by simp only[yWu,yXv];omega,q.count,?_,by rw[e3];simp only[yWu,yXv];omega,(),?_⟩
    ·rw[e3];exact elA g3 (by simp[zQ]) rfl
    ·rw[e3,e4,e5];exact kp
 ·rw[out (.inl (by omega))];exact kp
theorem zXe:apushC.ok Tryz.prog 267:=okw mixed (gokc z0a gok0) 1 (fun _=>[]) (fun _=>[]) [0] Tryz.func267 yNq
theorem mS {s price:Int}:∀{l:List xE} {j:Nat},j≤l.length→(∀k<j,∀r,l[k]? =some r→btr s r.price price=true)→(∀r,l[j]? =some r→btr s r.price price=false)→zX s l price=j
 |[],j,hj,_,_=>by
  obtain rfl:j=0:=by simpa using hj
  rfl
 |r::l,0,_,_,he=>by
  have:=he r rfl
  rw[zX,List.takeWhile_cons,this];rfl
 |r::l,j+1,hj,h,he=>by
  have h0:=h 0 (by omega) r rfl
  have ih:=mS (l:=l) (j:=j) (by simpa using hj) (fun k hk x hx=>h (k+1) (by omega) x (by simpa using hx)) (fun x hx=>he x (by simpa using hx))
  rw[zX]at ih ⊢
  rw[List.takeWhile_cons,h0,yWt rfl,yXa,ih]
theorem zEl (s price:Int) (l:List xE):zX s l price≤l.length:=(List.takeWhile_sublist _).length_le
theorem pX (b:Book):b.rungs 1=b.buys:=rfl
theorem pD (b:Book):b.rungs 2=b.sells:=rfl
theorem yRb (i:BkP) (h:find1C.cnd i):z9r i:=by
 obtain⟨_,h1,h2,_⟩:i.b.small:=h
 unfold z9r nR pZ zAk zBi fF vK xK dI
 simp only[yWu,pX]
 refine⟨0,rfl,fun j=>j≤i.b.buys.length∧∀k<j,∀r,i.b.buys[k]? =some r→btr 1 r.price i.price=true,fun j=>i.b.buys.length-j,⟨by omega,fun k hk=>by omega⟩,?_⟩
 rintro j ⟨h3,h4⟩
 refine zK (fun hj=> ?_) (fun hj=> ?_)
 ·obtain⟨r,hr⟩:=zW (l:=i.b.buys) (i:=j) (by omega)
  refine⟨⟨by omega,by omega⟩,r.price,elA hr (by simp[zB]) rfl,⟨1,r.price,i.price⟩,rfl,rfl,rfl,trivial,fun _ _=> ?_⟩
  dsimp only
  refine Cv.cnd.mk (fun e=>⟨j+1,by rw[w64 (by omega)];rfl,⟨by omega,fun k hk x hx=> ?_⟩,by(first|omega|(dsimp only;omega)),k0q⟩) (fun e=>zK (fun _=> ?_) (fun c=>absurd hj c))
  ·rcases yZq k j with hk'|hk'
   ·exact h4 k hk' x hx
   ·obtain rfl:k=j:=by omega
    rw[hr]at hx;cases hx;exact e
  ·have en:zX 1 i.b.buys i.price=j:=mS h3 h4 fun x hx=>by rw[hr]at hx;cases hx;exact e
   have eb:qX 1 i.b.buys i.price=(r.price==i.price):=by rw[qX,en,hr];exact(zVn _ _).symm
   refine⟨⟨by omega,by omega⟩,r.price,elA hr (by simp[zB]) rfl,(),by rw[en],eb,?_⟩
   (repeat'(first|exact trivial|exact rfl|apply And.intro))
 ·have en:zX 1 i.b.buys i.price=j:=mS h3 h4 fun x hx=>by have:=(yWv.1 hx).1;omega
  have eb:qX 1 i.b.buys i.price=false:=by rw[qX,en,yXw (by omega)]
  refine zK (fun c=>absurd c hj) (fun _=>⟨(),by rw[en],eb,?_⟩)
  (repeat'(first|exact trivial|exact rfl|apply And.intro))
theorem zMf:find1C.ok Tryz.prog 270:=okw mixed (gokc bI gok0) 0 (fun _=>[]) (fun _=>yKs) [] Tryz.func270 yRb
theorem jK (l:List (Int×Place)) (k:Int):∀(p:Value×List D),p∈atE l→like (Value.int IntKind.i64 k) p.1=true:=by
 intro p hp
 obtain⟨x,_,rfl⟩:=yYj.1 hp
 rfl
theorem tO (k:Int):∀l:List (Int×Place),vX (Value.int IntKind.i64 k) (atE l)=(pget l k).map zYr
 |[]=>rfl
 |(a,v)::l=>by
  have ih:=tO k l
  show(bif (keq .i64 .i64 && decide (k=a))then _ else vX _ (atE l))=_
  by_cases h:k=a
  ·subst h;simp[pget,keq]
  ·have h':¬a=k:=fun e=>h e.symm
   rw[show(keq .i64 .i64 && decide (k=a))=false by simp[h],cond_false,ih]
   simp[pget,y2s,h']
def zGj:Place:=⟨0,0,0⟩
theorem zQf (l:List (Int×Place)) (k:Int):vX (Value.int IntKind.i64 k) (atE l)=some [D.v (.int .i64 ((pget l k).getD zGj).side),D.v (.int .i64 ((pget l k).getD zGj).price),D.v (.int .i64 ((pget l k).getD zGj).slot)]∧(pget l k).isSome=true∨vX (Value.int IntKind.i64 k) (atE l)=none∧[D.v (.int .i64 ((pget l k).getD zGj).side),D.v (.int .i64 ((pget l k).getD zGj).price),D.v (.int .i64 ((pget l k).getD zGj).slot)]=[D.v (.int .i64 0),D.v (.int .i64 0),D.v (.int .i64 0)]∧(pget l k).isSome=false:=by
 rw[tO]
 cases pget l k with
 |none=>exact .inr ⟨rfl,rfl,rfl⟩
 |some v=>exact .inl ⟨rfl,rfl⟩
theorem zTd (k:Int) (v:Place):∀l,gW (Value.int IntKind.i64 k) (zYr v) (atE l)=atE (pS k v l)
 |[]=>rfl
 |(a,b)::l=>by
  have ih:=zTd k v l
  show(bif (keq .i64 .i64 && decide (k=a))then _ else _::gW _ _ (atE l))=_
  rw[ih,pS]
  by_cases h:k=a
  ·subst h;simp[keq,atE]
  ·simp[h,atE]
theorem yNe (i:LdI) (h:lead1C.cnd i):z8u i:=by
 obtain⟨⟨ha,_⟩,h1,h2,_⟩:i.b.small:=h
 unfold z8u lY lO nD fC dI
 have no (e:i.b.untop 1=i.b.a):AObj.adt Arena 3 zG (i.b.untop 1)=zS i.b 1:=by rw[e];rfl
 refine Cv.cnd.mk (fun c=> ?_) (fun c=>⟨(),?_⟩)
 ·have c:i.b.hasF 1=true:=c
  refine⟨jK _ _,(pget i.b.at_ i.b.top1).isSome,_,_,_,zQf _ _,⟨jK _ _,(pget i.b.at_ i.b.top1).isSome,_,_,_,zQf _ _,⟨rfl,rfl,rfl,trivial⟩,rfl,trivial⟩,rfl,trivial,Cv.cnd.mk (fun d=>Cv.cnd.mk (fun e=> ?_) (fun e=>⟨(),?_⟩)) (fun d=>⟨(),?_⟩)⟩
  ·obtain⟨o,ho⟩:=y2j.1 d
   have e:o.side=1:=by rw[ho]at e;simpa using e
   have eu:i.b.untop 1=i.b.a.topF o.slot false:=by
    have ht:pget i.b.at_ (i.b.topI 1)=some o:=ho
    rw[Book.untop,yWt c,ht];dsimp only;rw[yWt e]
   refine⟨⟨i.b.a,o.slot,false⟩,by rw[ho];rfl,rfl,rfl,ha,fun _ _=>⟨(),?_⟩⟩
   rw[eu];(repeat'(first|exact trivial|exact rfl|apply And.intro))
  ·obtain⟨o,ho⟩:=y2j.1 d
   have e:¬o.side=1:=by rw[ho]at e;simpa using e
   have ht:pget i.b.at_ (i.b.topI 1)=some o:=ho
   rw[no (by rw[Book.untop,yWt c,ht];dsimp only;rw[yWs e])];(repeat'(first|exact trivial|exact rfl|apply And.intro))
  ·have ht:pget i.b.at_ (i.b.topI 1)=none:=by
    show pget i.b.at_ i.b.top1=none
    simpa using d
   rw[no (by rw[Book.untop,yWt c,ht])];(repeat'(first|exact trivial|exact rfl|apply And.intro))
 ·have c:¬i.b.hasF 1=true:=by rw[show i.b.hasF 1=i.b.has1 from rfl,c];decide
  rw[no (by rw[Book.untop,yWs c])];(repeat'(first|exact trivial|exact rfl|apply And.intro))
theorem yEe:lead1C.ok Tryz.prog 266:=okw mixed (gokc z3h gok0) 0 (fun _=>[]) (fun _=>[]) [] Tryz.func266 yNe
theorem zWc {s price:Int} {l:List xE} (h:qX s l price=true):∃r,l[zX s l price]? =some r:=by
 rw[qX]at h
 split at h
 ·rename_i r hr;exact⟨r,hr⟩
 ·cases h
theorem yJw (i:BkP) (h:queue1C.cnd i):z2r i:=by
 obtain⟨⟨ha,_⟩,ha',h1,h2,h3⟩:i.b.fit:=h
 have hle:=zEl 1 i.price i.b.buys
 unfold z2r zO gB gJ aK aS vI hZ vK xX xK dI
 refine⟨i,rfl,rfl,rfl,rfl,rfl,rfl,rfl,rfl,rfl,rfl,rfl,⟨⟨ha,by omega⟩,by omega,by omega,by omega⟩,fun _ _=> ?_⟩
 simp only[yWu,xC,pX]
 refine Cv.cnd.mk (fun c=> ?_) (fun c=> ?_)
 ·obtain⟨r,hr⟩:=zWc c
  have hlt:=(yWv.1 hr).1
  have e:i.b.queueF 1 i.price=(i.b,r.queue):=by rw[Book.queueF,yWt (by rw[pX];exact c),pX,zT hr]
  rw[e]
  refine⟨⟨by omega,by omega⟩,r.queue,elA (by simpa using hr) (by simp[zB]) rfl,(),?_⟩
  (repeat'(first|exact trivial|exact rfl|apply And.intro))
 ·have e:i.b.queueF 1 i.price=({i.b with a:=i.b.newQ.2.2,buys:=i.b.ins 1 i.price,spare:=i.b.newQ.2.1},i.b.newQ.1):=by
   rw[Book.queueF,yWs (by rw[pX,c];decide),yWt rfl]
  have hins:List.map zB (i.b.ins 1 i.price)=List.take (zX 1 i.b.buys i.price) (List.map zB i.b.buys)++zB ⟨i.price,i.b.newQ.1⟩::List.drop (zX 1 i.b.buys i.price) (List.map zB i.b.buys):=by
   rw[Book.ins,pX,yXe,yXh,y0t,y1j]
  rw[e]
  refine zK (fun d=> ?_) (fun d=> ?_)
  ·have w:IntKind.i64.wrap ((i.b.spare.length:Int)-1)=((i.b.spare.length-1:Nat):Int):=by rw[w64 (by omega)];omega
   rw[w]
   simp only[yXn]
   obtain⟨q,hq⟩:=zW (l:=i.b.spare) (i:=i.b.spare.length-1) (by omega)
   have eq:i.b.newQ=(q,i.b.spare.take (i.b.spare.length-1),i.b.a):=by rw[Book.newQ,yWs (by omega),zT hq]
   rw[eq]at hins ⊢
   refine⟨⟨by omega,by omega⟩,q,elI hq,⟨by omega,by omega⟩,trivial,⟨i.b.buys.map zB,zB ⟨i.price,q⟩,zX 1 i.b.buys i.price⟩,rfl,rfl,rfl,⟨by rw[yWu];exact hle,by rw[yWu];omega⟩,fun _ _=>⟨(),?_⟩⟩
   have hs:iE (i.b.spare.take (i.b.spare.length-1))=(iE i.b.spare).take (i.b.spare.length-1):=by simp only[iE,y0t]
   exact kp
  ·have eq:i.b.newQ=((i.b.a.queues.length:Int),i.b.spare,i.b.a.openQ):=by rw[Book.newQ,yWt (by omega)]
   rw[eq]at hins ⊢
   refine⟨i.b.a,rfl,by omega,fun _ _=>⟨trivial,⟨i.b.buys.map zB,zB ⟨i.price,i.b.a.queues.length⟩,zX 1 i.b.buys i.price⟩,rfl,rfl,rfl,⟨by rw[yWu];exact hle,by rw[yWu];omega⟩,fun _ _=>⟨(),?_⟩⟩⟩
   exact kp
theorem zGk:vC Tryz.prog 296=some (304,2,16,#[.int .i64 0,.int .i64 0]):=by kernel_rfl
theorem z2y:insRC.ok Tryz.prog 295:=
 insX_ok (tS:=296) (tI:=3) (fO:=308) (fR:=309) (z:= #[.int .i64 0,.int .i64 0]) mixed Tryz.func295 rfl (by kernel_rfl) (by kernel_rfl) (by kernel_rfl) (by kernel_rfl) zGk rfl (by decide) (by decide) (by kernel_rfl) Tryz.underlying3
  (z3n (tS:=296) (tB:=4) Tryz.func308 (by kernel_rfl) (by kernel_rfl) (by kernel_rfl) (by kernel_rfl) zGk) (fun s sn sk i v vn vk w R=>by kernel_rfl)
theorem z7p:queue1C.ok Tryz.prog 268:=okw mixed (gokc zMf (gokc zUy (gokc z2y gok0))) 0 (fun _=>[]) (fun _=>[]) [] Tryz.func268 yJw
theorem yNj (i:BkP) (h:find2C.cnd i):yAk i:=by
 obtain⟨_,h1,h2,_⟩:i.b.small:=h
 unfold yAk pO zAm l8 vH xM fF pZ dI
 simp only[yWu,pD]
 refine⟨0,rfl,fun j=>j≤i.b.sells.length∧∀k<j,∀r,i.b.sells[k]? =some r→btr 2 r.price i.price=true,fun j=>i.b.sells.length-j,⟨by omega,fun k hk=>by omega⟩,?_⟩
 rintro j ⟨h3,h4⟩
 refine zK (fun hj=> ?_) (fun hj=> ?_)
 ·obtain⟨r,hr⟩:=zW (l:=i.b.sells) (i:=j) (by omega)
  refine⟨⟨by omega,by omega⟩,r.price,elA hr (by simp[zB]) rfl,⟨2,r.price,i.price⟩,rfl,rfl,rfl,trivial,fun _ _=> ?_⟩
  dsimp only
  refine Cv.cnd.mk (fun e=>⟨j+1,by rw[w64 (by omega)];rfl,⟨by omega,fun k hk x hx=> ?_⟩,by(first|omega|(dsimp only;omega)),k0q⟩) (fun e=>zK (fun _=> ?_) (fun c=>absurd hj c))
  ·rcases yZq k j with hk'|hk'
   ·exact h4 k hk' x hx
   ·obtain rfl:k=j:=by omega
    rw[hr]at hx;cases hx;exact e
  ·have en:zX 2 i.b.sells i.price=j:=mS h3 h4 fun x hx=>by rw[hr]at hx;cases hx;exact e
   have eb:qX 2 i.b.sells i.price=(r.price==i.price):=by rw[qX,en,hr];exact(zVn _ _).symm
   refine⟨⟨by omega,by omega⟩,r.price,elA hr (by simp[zB]) rfl,(),by rw[en],eb,?_⟩
   (repeat'(first|exact trivial|exact rfl|apply And.intro))
 ·have en:zX 2 i.b.sells i.price=j:=mS h3 h4 fun x hx=>by have:=(yWv.1 hx).1;omega
  have eb:qX 2 i.b.sells i.price=false:=by rw[qX,en,yXw (by omega)]
  refine zK (fun c=>absurd c hj) (fun _=>⟨(),by rw[en],eb,?_⟩)
  (repeat'(first|exact trivial|exact rfl|apply And.intro))
theorem zNl:find2C.ok Tryz.prog 270:=okw mixed (gokc bI gok0) 0 (fun _=>[]) (fun _=>yKs) [] Tryz.func270 yNj
theorem yQg (i:LdI) (h:lead2C.cnd i):yDz i:=by
 obtain⟨⟨ha,_⟩,h1,h2,_⟩:i.b.small:=h
 unfold yDz zBt zBv pK fC dI
 have no (e:i.b.untop 2=i.b.a):AObj.adt Arena 3 zG (i.b.untop 2)=zS i.b 1:=by rw[e];rfl
 refine Cv.cnd.mk (fun c=> ?_) (fun c=>⟨(),?_⟩)
 ·have c:i.b.hasF 2=true:=c
  refine⟨jK _ _,(pget i.b.at_ i.b.top2).isSome,_,_,_,zQf _ _,⟨jK _ _,(pget i.b.at_ i.b.top2).isSome,_,_,_,zQf _ _,⟨rfl,rfl,rfl,trivial⟩,rfl,trivial⟩,rfl,trivial,Cv.cnd.mk (fun d=>Cv.cnd.mk (fun e=> ?_) (fun e=>⟨(),?_⟩)) (fun d=>⟨(),?_⟩)⟩
  ·obtain⟨o,ho⟩:=y2j.1 d
   have e:o.side=2:=by rw[ho]at e;simpa using e
   have eu:i.b.untop 2=i.b.a.topF o.slot false:=by
    have ht:pget i.b.at_ (i.b.topI 2)=some o:=ho
    rw[Book.untop,yWt c,ht];dsimp only;rw[yWt e]
   refine⟨⟨i.b.a,o.slot,false⟩,by rw[ho];rfl,rfl,rfl,ha,fun _ _=>⟨(),?_⟩⟩
   rw[eu];(repeat'(first|exact trivial|exact rfl|apply And.intro))
  ·obtain⟨o,ho⟩:=y2j.1 d
   have e:¬o.side=2:=by rw[ho]at e;simpa using e
   have ht:pget i.b.at_ (i.b.topI 2)=some o:=ho
   rw[no (by rw[Book.untop,yWt c,ht];dsimp only;rw[yWs e])];(repeat'(first|exact trivial|exact rfl|apply And.intro))
  ·have ht:pget i.b.at_ (i.b.topI 2)=none:=by
    show pget i.b.at_ i.b.top2=none
    simpa using d
   rw[no (by rw[Book.untop,yWt c,ht])];(repeat'(first|exact trivial|exact rfl|apply And.intro))
 ·have c:¬i.b.hasF 2=true:=by rw[show i.b.hasF 2=i.b.has2 from rfl,c];decide
  rw[no (by rw[Book.untop,yWs c])];(repeat'(first|exact trivial|exact rfl|apply And.intro))
theorem yDw:lead2C.ok Tryz.prog 266:=okw mixed (gokc z3h gok0) 0 (fun _=>[]) (fun _=>[]) [] Tryz.func266 yQg
theorem yHm (i:BkP) (h:queue2C.cnd i):z4m i:=by
 obtain⟨⟨ha,_⟩,ha',h1,h2,h3⟩:i.b.fit:=h
 have hle:=zEl 2 i.price i.b.sells
 unfold z4m zP gN vH gB gJ aK aS vI xX xM dI
 refine⟨i,rfl,rfl,rfl,rfl,rfl,rfl,rfl,rfl,rfl,rfl,rfl,⟨⟨ha,by omega⟩,by omega,by omega,by omega⟩,fun _ _=> ?_⟩
 simp only[yWu,xC,pD]
 refine Cv.cnd.mk (fun c=> ?_) (fun c=> ?_)
 ·obtain⟨r,hr⟩:=zWc c
  have hlt:=(yWv.1 hr).1
  have e:i.b.queueF 2 i.price=(i.b,r.queue):=by rw[Book.queueF,yWt (by rw[pD];exact c),pD,zT hr]
  rw[e]
  refine⟨⟨by omega,by omega⟩,r.queue,elA (by simpa using hr) (by simp[zB]) rfl,(),?_⟩
  (repeat'(first|exact trivial|exact rfl|apply And.intro))
 ·have e:i.b.queueF 2 i.price=({i.b with a:=i.b.newQ.2.2,sells:=i.b.ins 2 i.price,spare:=i.b.newQ.2.1},i.b.newQ.1):=by
   rw[Book.queueF,yWs (by rw[pD,c];decide),yWs (by decide)]
  have hins:List.map zB (i.b.ins 2 i.price)=List.take (zX 2 i.b.sells i.price) (List.map zB i.b.sells)++zB ⟨i.price,i.b.newQ.1⟩::List.drop (zX 2 i.b.sells i.price) (List.map zB i.b.sells):=by
   rw[Book.ins,pD,yXe,yXh,y0t,y1j]
  rw[e]
  refine zK (fun d=> ?_) (fun d=> ?_)
  ·have w:IntKind.i64.wrap ((i.b.spare.length:Int)-1)=((i.b.spare.length-1:Nat):Int):=by rw[w64 (by omega)];omega
   rw[w]
   simp only[yXn]
   obtain⟨q,hq⟩:=zW (l:=i.b.spare) (i:=i.b.spare.length-1) (by omega)
   have eq:i.b.newQ=(q,i.b.spare.take (i.b.spare.length-1),i.b.a):=by rw[Book.newQ,yWs (by omega),zT hq]
   rw[eq]at hins ⊢
   refine⟨⟨by omega,by omega⟩,q,elI hq,⟨by omega,by omega⟩,trivial,⟨i.b.sells.map zB,zB ⟨i.price,q⟩,zX 2 i.b.sells i.price⟩,rfl,rfl,rfl,⟨by rw[yWu];exact hle,by rw[yWu];omega⟩,fun _ _=>⟨(),?_⟩⟩
   have hs:iE (i.b.spare.take (i.b.spare.length-1))=(iE i.b.spare).take (i.b.spare.length-1):=by simp only[iE,y0t]
   exact kp
  ·have eq:i.b.newQ=((i.b.a.queues.length:Int),i.b.spare,i.b.a.openQ):=by rw[Book.newQ,yWt (by omega)]
   rw[eq]at hins ⊢
   refine⟨i.b.a,rfl,by omega,fun _ _=>⟨trivial,⟨i.b.sells.map zB,zB ⟨i.price,i.b.a.queues.length⟩,zX 2 i.b.sells i.price⟩,rfl,rfl,rfl,⟨by rw[yWu];exact hle,by rw[yWu];omega⟩,fun _ _=>⟨(),?_⟩⟩⟩
   exact kp
theorem z6p:queue2C.ok Tryz.prog 268:=okw mixed (gokc zNl (gokc zUy (gokc z2y gok0))) 0 (fun _=>[]) (fun _=>[]) [] Tryz.func268 yHm
open Go Cv Go.Proofs
structure BaI where
 b:Book
 id:Int
 price:Int
 qty:Int
def Book.leads (b:Book) (s price:Int):Bool:=match b.rungs s with
 |[]=>true
 |r::_=>btr s price r.price
def Book.led (b:Book) (id s price:Int):Book:=if b.leads s price=true then b.leadF id s else b
def Book.stand (b:Book) (s id price qty:Int):Book:=
 let b2:=(b.led id s price).queueF s price
 let x:=b2.1.a.push b2.2 id qty (b.leads s price)
 {b2.1 with a:=x.1,at_:=pS id ⟨s,price,x.2.1⟩ b2.1.at_}
def Book.addF (b:Book) (s id price qty:Int):Book×Int:=
 if qty<1∨1000000<qty then(b,24)else if(pget b.at_ id).isSome=true then(b,25)else if 250≤b.at_.length then(b,13)else(b.stand s id price qty,0)
def yAi (s:Int):Con:=con1 BaI (fun i=>[.nm 0 0,zA i.id,zA s,zA i.price,zA i.qty]) (fun i=>[z8 i.b]) (fun i=>i.b.fit) (fun i=>zA (i.b.addF s i.id i.price i.qty).2) (fun i=>[z8 (i.b.addF s i.id i.price i.qty).1])
def yLa:List (Nat×SAnn):=[(44,bj 14)]
def badd1C:Con:=yAi 1
def badd2C:Con:=yAi 2
structure BaJ where
 i:BaI
 s:Bool
def baddC:Con:=con1 BaJ (fun j=>[.nm 0 0,zA j.i.id,zA (zD j.s),zA j.i.price,zA j.i.qty]) (fun j=>[z8 j.i.b]) (fun j=>j.i.b.fit) (fun j=>zA (j.i.b.addF (zD j.s) j.i.id j.i.price j.i.qty).2) (fun j=>[z8 (j.i.b.addF (zD j.s) j.i.id j.i.price j.i.qty).1])
structure SaI where
 s:MSt
 inst:Int
 id:Int
 sd:Bool
 price:Int
 qty:Int
def MSt.bookAt (s:MSt) (n:Int):Book:=s.books.getD n.toNat book0
def MSt.addF (i:SaI):MSt×Int:=
 if i.inst<0∨i.s.books.length≤i.inst then(i.s,20)else if(zBl i.s.wh i.id).isSome=true then(i.s,25)else if 250≤i.s.wh.length then(i.s,13)else if i.s.p.price i.inst i.price≠0 then(i.s,i.s.p.price i.inst i.price)
 else
  let x:=(i.s.bookAt i.inst).addF (zD i.sd) i.id i.price i.qty
  ({i.s with books:=i.s.books.set i.inst.toNat x.1,wh:=if x.2=0 then zYe i.id i.inst i.s.wh else i.s.wh},x.2)
@[reducible] def MSt.fit (s:MSt):Prop:=s.p.small∧s.books.length≤1000000∧∀b∈s.books,b.fit
def saddC:Con:=con1 SaI (fun i=>[.nm 0 0,zA i.inst,zA i.id,zA (zD i.sd),zA i.price,zA i.qty]) (fun i=>[zF i.s]) (fun i=>i.s.fit) (fun i=>zA (MSt.addF i).2) (fun i=>[zF (MSt.addF i).1])
open Go Cv Go.Proofs
def pJ (a:BkP):Prop:=(a.b.a.slots.length≤1000000∧(a.b.a.free≠0→∃(b:Slot),b∈a.b.a.slots∧b.used=false)∧∀(b:dP),b∈a.b.a.queues→b.last=(-1)∨0≤b.last∧b.last<(↑a.b.a.slots.length:Int))∧a.b.a.queues.length≤100000∧a.b.buys.length≤100000∧a.b.sells.length≤100000∧a.b.spare.length≤100000
def nH (a:PuI):Prop:=a.a.slots.length≤1000000∧(a.a.free≠0→∃(b:Slot),b∈a.a.slots∧b.used=false)∧∀(b:dP),b∈a.a.queues→b.last=(-1)∨0≤b.last∧b.last<(↑a.a.slots.length:Int)
def yN (a:BaI):=(a.b.addF 1 a.id a.price a.qty)
def zGd (a:BkP) (b:BaI) (c:Bool):Prop:=(pJ a)∧∀(d:Unit),True→True∧∃(e:PuI),e.n=(zO a).snd∧e.id=b.id∧e.qty=b.qty∧e.top=c∧AObj.adt Arena 3 zG e.a=AObj.adt Arena 3 zG (zO a).fst.a∧(nH e)∧∀(f:Unit),True→(∀(g:Value×List D),g∈atE (zO a).fst.at_→like (Value.int IntKind.i64 b.id) g.fst=true)∧∃(g:Unit),(yN b).snd=0∧(yN b).fst.top1=(zO a).fst.top1∧(yN b).fst.top2=(zO a).fst.top2∧(yN b).fst.has1=(zO a).fst.has1∧(yN b).fst.has2=(zO a).fst.has2∧AObj.adt Arena 3 zG (yN b).fst.a=AObj.adt Arena 3 zG (yI e).fst∧List.map zB (yN b).fst.buys=List.map zB (zO a).fst.buys∧List.map zB (yN b).fst.sells=List.map zB (zO a).fst.sells∧atE (yN b).fst.at_=gW (Value.int IntKind.i64 b.id) [dI 1,dI b.price,dI ((yI e).snd.fst)] (atE (zO a).fst.at_)∧iE (yN b).fst.spare=iE (zO a).fst.spare∧True
def tP (a:Bool→Prop) (b:Bool) (c:Int) (d:Int) (e:Int) (f:BaI):Prop:=a b∧Sx.AObj.cells [V.d (dI c),V.d (dI d),V.d (dI e)] 313=Sx.AObj.cells [V.d (dI c),V.d (dI d),V.d (dI e)] 313∧Sx.AObj.cells (jZ (jA 0 1 6) [V.nm 1 0,V.own 2,V.own 3,V.mp 4,zA f.b.top1,zA f.b.top2,V.own 5,z7 f.b.has1,z7 f.b.has2]) (299:TypeId)=Sx.AObj.cells (jZ (jA 0 1 6) [V.nm 1 0,V.own 2,V.own 3,V.mp 4,zA f.b.top1,zA f.b.top2,V.own 5,z7 f.b.has1,z7 f.b.has2]) (299:TypeId)∧AObj.adt Arena 3 zG f.b.a=AObj.adt Arena 3 zG f.b.a∧AObj.own 304 2 (List.map zB f.b.buys)=AObj.own 304 2 (List.map zB f.b.buys)∧AObj.own 304 2 (List.map zB f.b.sells)=AObj.own 304 2 (List.map zB f.b.sells)∧Sx.AObj.map (atE f.b.at_)=Sx.AObj.map (atE f.b.at_)∧AObj.own 3 1 (iE f.b.spare)=AObj.own 3 1 (iE f.b.spare)
def eH (a:I3') (b:BaI) (c:Int) (d:Bool→Prop) (e:Int) (f:Int) (g:Int):Prop:=a.x=b.price∧a.y=c∧True∧∀(h:Unit),True→∃(j:Bool),j=btr a.side a.x a.y∧tP d j e f g b
def eX (a:Bool→Prop) (b:Int) (c:Int) (d:Int) (e:BaI):Prop:=∃(f:Bool),f=true∧tP a f b c d e
def cV (a:BaI):Prop:=(yN a).fst.top1=a.b.top1∧(yN a).fst.top2=a.b.top2∧(yN a).fst.has1=a.b.has1∧(yN a).fst.has2=a.b.has2∧AObj.adt Arena 3 zG (yN a).fst.a=AObj.adt Arena 3 zG a.b.a∧List.map zB (yN a).fst.buys=List.map zB a.b.buys∧List.map zB (yN a).fst.sells=List.map zB a.b.sells∧atE (yN a).fst.at_=atE a.b.at_∧iE (yN a).fst.spare=iE a.b.spare∧True
def zFq (a:BaI):Prop:=∃(b:Unit),(yN a).snd=24∧cV a
def nS (a:BaI) (b:Int) (c:Int) (d:Int) (e:Bool):Prop:=vX (Value.int IntKind.i64 a.id) (atE a.b.at_)=some [dI b,dI c,dI d]∧e=true∨vX (Value.int IntKind.i64 a.id) (atE a.b.at_)=none∧[dI b,dI c,dI d]=[dI 0,dI 0,dI 0]∧e=false
def pL (a:LdI):Prop:=(a.b.a.slots.length≤1000000∧a.b.a.queues.length≤1000000)∧a.b.buys.length≤1000000∧a.b.sells.length≤1000000∧a.b.spare.length≤1000000
def qL (a:Int):=(!(decide (a=1)||decide (a=2)))
def yCu (i:BaI):Prop:=
 (∀(a:Value×List D),a∈atE i.b.at_→like (Value.int IntKind.i64 i.id) a.fst=true)∧∃(a:Bool),∃(b:Int),∃(c:Int),∃(d:Int),(nS i b c d a)∧∃(e:Int),e=1∧True∧∀(f:Unit),True→cnd (qL e) (∃(g:Unit),(yN i).snd=21∧cV i) (cnd (decide (i.qty<1)) (zFq i) (cnd (decide (i.qty>1000000)) (zFq i) (cnd a (∃(g:Unit),(yN i).snd=25∧cV i) (cnd (decide ((↑(atE i.b.at_).length:Int)≥250)) (∃(g:Unit),(yN i).snd=13∧cV i) (∃(g:Bool),∃(h:Bool→Prop),cnd ((↑(List.map zB i.b.buys).length:Int)==0) (eX h b c d i) (((0:Int)≤(0:Int)∧0<(↑(List.map zB i.b.buys).length:Int))∧∃(j:Int),zE (List.map zB i.b.buys) (Int.toNat 0) ((0:Nat)+(0:Nat)) 1=some [dI j]∧∃(k:I3'),k.side=1∧eH k i j h b c d)∧∀(j:Bool),h j→cnd j (∃(k:LdI),k.id=i.id∧(1:Int)=(1:Int)∧k.b.top1=i.b.top1∧k.b.top2=i.b.top2∧k.b.has1=i.b.has1∧k.b.has2=i.b.has2∧AObj.adt Arena 3 zG k.b.a=AObj.adt Arena 3 zG i.b.a∧List.map zB k.b.buys=List.map zB i.b.buys∧List.map zB k.b.sells=List.map zB i.b.sells∧atE k.b.at_=atE i.b.at_∧iE k.b.spare=iE i.b.spare∧(pL k)∧∀(l:Unit),True→∃(m:BkP),(1:Int)=(1:Int)∧m.price=i.price∧m.b.top1=k.id∧m.b.top2=k.b.top2∧m.b.has1=true∧m.b.has2=k.b.has2∧AObj.adt Arena 3 zG m.b.a=AObj.adt Arena 3 zG (k.b.untop 1)∧List.map zB m.b.buys=List.map zB k.b.buys∧List.map zB m.b.sells=List.map zB k.b.sells∧atE m.b.at_=atE k.b.at_∧iE m.b.spare=iE k.b.spare∧zGd m i j) (∃(k:BkP),(1:Int)=(1:Int)∧k.price=i.price∧k.b.top1=i.b.top1∧k.b.top2=i.b.top2∧k.b.has1=i.b.has1∧k.b.has2=i.b.has2∧AObj.adt Arena 3 zG k.b.a=AObj.adt Arena 3 zG i.b.a∧List.map zB k.b.buys=List.map zB i.b.buys∧List.map zB k.b.sells=List.map zB i.b.sells∧atE k.b.at_=atE i.b.at_∧iE k.b.spare=iE i.b.spare∧zGd k i j))))))
def yL (a:BaI):=(a.b.addF 2 a.id a.price a.qty)
def zFp (a:BkP) (b:BaI) (c:Bool):Prop:=(pJ a)∧∀(d:Unit),True→True∧∃(e:PuI),e.n=(zP a).snd∧e.id=b.id∧e.qty=b.qty∧e.top=c∧AObj.adt Arena 3 zG e.a=AObj.adt Arena 3 zG (zP a).fst.a∧(nH e)∧∀(f:Unit),True→(∀(g:Value×List D),g∈atE (zP a).fst.at_→like (Value.int IntKind.i64 b.id) g.fst=true)∧∃(g:Unit),(yL b).snd=0∧(yL b).fst.top1=(zP a).fst.top1∧(yL b).fst.top2=(zP a).fst.top2∧(yL b).fst.has1=(zP a).fst.has1∧(yL b).fst.has2=(zP a).fst.has2∧AObj.adt Arena 3 zG (yL b).fst.a=AObj.adt Arena 3 zG (yI e).fst∧List.map zB (yL b).fst.buys=List.map zB (zP a).fst.buys∧List.map zB (yL b).fst.sells=List.map zB (zP a).fst.sells∧atE (yL b).fst.at_=gW (Value.int IntKind.i64 b.id) [dI 2,dI b.price,dI ((yI e).snd.fst)] (atE (zP a).fst.at_)∧iE (yL b).fst.spare=iE (zP a).fst.spare∧True
def cW (a:BaI):Prop:=(yL a).fst.top1=a.b.top1∧(yL a).fst.top2=a.b.top2∧(yL a).fst.has1=a.b.has1∧(yL a).fst.has2=a.b.has2∧AObj.adt Arena 3 zG (yL a).fst.a=AObj.adt Arena 3 zG a.b.a∧List.map zB (yL a).fst.buys=List.map zB a.b.buys∧List.map zB (yL a).fst.sells=List.map zB a.b.sells∧atE (yL a).fst.at_=atE a.b.at_∧iE (yL a).fst.spare=iE a.b.spare∧True
def zGt (a:BaI):Prop:=∃(b:Unit),(yL a).snd=24∧cW a
def yDq (i:BaI):Prop:=
 (∀(a:Value×List D),a∈atE i.b.at_→like (Value.int IntKind.i64 i.id) a.fst=true)∧∃(a:Bool),∃(b:Int),∃(c:Int),∃(d:Int),(nS i b c d a)∧∃(e:Int),e=2∧True∧∀(f:Unit),True→cnd (qL e) (∃(g:Unit),(yL i).snd=21∧cW i) (cnd (decide (i.qty<1)) (zGt i) (cnd (decide (i.qty>1000000)) (zGt i) (cnd a (∃(g:Unit),(yL i).snd=25∧cW i) (cnd (decide ((↑(atE i.b.at_).length:Int)≥250)) (∃(g:Unit),(yL i).snd=13∧cW i) (∃(g:Bool),∃(h:Bool→Prop),cnd ((↑(List.map zB i.b.sells).length:Int)==0) (eX h b c d i) (((0:Int)≤(0:Int)∧0<(↑(List.map zB i.b.sells).length:Int))∧∃(j:Int),zE (List.map zB i.b.sells) (Int.toNat 0) ((0:Nat)+(0:Nat)) 1=some [dI j]∧∃(k:I3'),k.side=2∧eH k i j h b c d)∧∀(j:Bool),h j→cnd j (∃(k:LdI),k.id=i.id∧(2:Int)=(2:Int)∧k.b.top1=i.b.top1∧k.b.top2=i.b.top2∧k.b.has1=i.b.has1∧k.b.has2=i.b.has2∧AObj.adt Arena 3 zG k.b.a=AObj.adt Arena 3 zG i.b.a∧List.map zB k.b.buys=List.map zB i.b.buys∧List.map zB k.b.sells=List.map zB i.b.sells∧atE k.b.at_=atE i.b.at_∧iE k.b.spare=iE i.b.spare∧(pL k)∧∀(l:Unit),True→∃(m:BkP),(2:Int)=(2:Int)∧m.price=i.price∧m.b.top1=k.b.top1∧m.b.top2=k.id∧m.b.has1=k.b.has1∧m.b.has2=true∧AObj.adt Arena 3 zG m.b.a=AObj.adt Arena 3 zG (k.b.untop 2)∧List.map zB m.b.buys=List.map zB k.b.buys∧List.map zB m.b.sells=List.map zB k.b.sells∧atE m.b.at_=atE k.b.at_∧iE m.b.spare=iE k.b.spare∧zFp m i j) (∃(k:BkP),(2:Int)=(2:Int)∧k.price=i.price∧k.b.top1=i.b.top1∧k.b.top2=i.b.top2∧k.b.has1=i.b.has1∧k.b.has2=i.b.has2∧AObj.adt Arena 3 zG k.b.a=AObj.adt Arena 3 zG i.b.a∧List.map zB k.b.buys=List.map zB i.b.buys∧List.map zB k.b.sells=List.map zB i.b.sells∧atE k.b.at_=atE i.b.at_∧iE k.b.spare=iE i.b.spare∧zFp k i j))))))
def zGi (a:SaI):Prop:=AObj.fro 1 (iE (MSt.addF a).fst.p.months)=AObj.fro 1 (iE a.s.p.months)∧AObj.fro 1 (iE (MSt.addF a).fst.p.settle)=AObj.fro 1 (iE a.s.p.settle)∧True
def zFr (a:SaI):Prop:=yU (MSt.addF a).fst.wh=yU a.s.wh∧zGi a
def mV (a:SaI):Prop:=sb (MSt.addF a).fst.p.code=sb a.s.p.code∧(MSt.addF a).fst.p.tick=a.s.p.tick∧(MSt.addF a).fst.p.low=a.s.p.low∧(MSt.addF a).fst.p.high=a.s.p.high∧(MSt.addF a).fst.p.wide=a.s.p.wide∧(MSt.addF a).fst.p.rule=a.s.p.rule∧(MSt.addF a).fst.p.top=a.s.p.top∧(MSt.addF a).fst.p.least=a.s.p.least∧(MSt.addF a).fst.p.part=a.s.p.part∧AObj.objs 241 Book 6 zS (MSt.addF a).fst.books none=AObj.objs 241 Book 6 zS a.s.books none∧zFr a
def zKu (a:SaI):Prop:=∃(b:Unit),(MSt.addF a).snd=20∧mV a
def mJ (a:BaJ):=(a.i.b.addF (zD a.s) a.i.id a.i.price a.i.qty)
def yLw (i:SaI):Prop:=
 (∀(a:Value×List D),a∈yU i.s.wh→like (Value.int IntKind.i64 i.id) a.fst=true)∧∃(a:Bool),∃(b:Int),(vX (Value.int IntKind.i64 i.id) (yU i.s.wh)=some [dI b]∧a=true∨vX (Value.int IntKind.i64 i.id) (yU i.s.wh)=none∧[dI b]=[dI 0]∧a=false)∧cnd (decide (i.inst≥0)) (cnd (!decide (i.inst<(↑i.s.books.length:Int))) (zKu i) (cnd a (∃(c:Unit),(MSt.addF i).snd=25∧mV i) (cnd (decide ((↑(yU i.s.wh).length:Int)≥250)) (∃(c:Unit),(MSt.addF i).snd=13∧mV i) (∃(c:rR),sb c.p.code=sb i.s.p.code∧iE c.p.months=iE i.s.p.months∧c.p.tick=i.s.p.tick∧c.p.low=i.s.p.low∧c.p.high=i.s.p.high∧c.p.wide=i.s.p.wide∧c.p.rule=i.s.p.rule∧c.p.top=i.s.p.top∧c.p.least=i.s.p.least∧c.p.part=i.s.p.part∧iE c.p.settle=iE i.s.p.settle∧c.a=i.inst∧c.b=i.price∧(xU c)∧∀(d:Unit),True→cnd (c.p.price c.a c.b !=0) (∃(e:Unit),(MSt.addF i).snd=c.p.price c.a c.b∧mV i) ((0≤i.inst∧i.inst<(↑i.s.books.length:Int))∧i.inst.toNat<i.s.books.length∧∃(e:Book),i.s.books[i.inst.toNat]?=some e∧∃(f:BaJ),f.i.id=i.id∧zD f.s=zD i.sd∧f.i.price=i.price∧f.i.qty=i.qty∧z8 f.i.b=z8 e∧((f.i.b.a.slots.length≤1000000∧(f.i.b.a.free≠0→∃(g:Slot),g∈f.i.b.a.slots∧g.used=false)∧∀(g:dP),g∈f.i.b.a.queues→g.last=(-1)∨0≤g.last∧g.last<(↑f.i.b.a.slots.length:Int))∧f.i.b.a.queues.length≤100000∧f.i.b.buys.length≤100000∧f.i.b.sells.length≤100000∧f.i.b.spare.length≤100000)∧∀(g:Unit),True→∃(h:Book),z8 (mJ f).fst=z8 h∧i.inst.toNat=i.inst.toNat∧i.inst.toNat<i.s.books.length∧cnd ((mJ f).snd==0) ((∀(j:Value×List D),j∈yU i.s.wh→like (Value.int IntKind.i64 i.id) j.fst=true)∧∃(j:Unit),(MSt.addF i).snd=(mJ f).snd∧sb (MSt.addF i).fst.p.code=sb i.s.p.code∧(MSt.addF i).fst.p.tick=i.s.p.tick∧(MSt.addF i).fst.p.low=i.s.p.low∧(MSt.addF i).fst.p.high=i.s.p.high∧(MSt.addF i).fst.p.wide=i.s.p.wide∧(MSt.addF i).fst.p.rule=i.s.p.rule∧(MSt.addF i).fst.p.top=i.s.p.top∧(MSt.addF i).fst.p.least=i.s.p.least∧(MSt.addF i).fst.p.part=i.s.p.part∧AObj.objs 241 Book 6 zS (MSt.addF i).fst.books none=AObj.objs 241 Book 6 zS (i.s.books.set i.inst.toNat h) none∧yU (MSt.addF i).fst.wh=gW (Value.int IntKind.i64 i.id) [dI i.inst] (yU i.s.wh)∧zGi i) (∃(j:Unit),(MSt.addF i).snd=(mJ f).snd∧sb (MSt.addF i).fst.p.code=sb i.s.p.code∧(MSt.addF i).fst.p.tick=i.s.p.tick∧(MSt.addF i).fst.p.low=i.s.p.low∧(MSt.addF i).fst.p.high=i.s.p.high∧(MSt.addF i).fst.p.wide=i.s.p.wide∧(MSt.addF i).fst.p.rule=i.s.p.rule∧(MSt.addF i).fst.p.top=i.s.p.top∧(MSt.addF i).fst.p.least=i.s.p.least∧(MSt.addF i).fst.p.part=i.s.p.part∧AObj.objs 241 Book 6 zS (MSt.addF i).fst.books none=AObj.objs 241 Book 6 zS (i.s.books.set i.inst.toNat h) none∧zFr i)))))) (zKu i)
open Go Cv Go.Proofs
theorem zLq {α:Type} {f:α→α} {Q:α→Prop} (hf:∀x,Q x→Q (f x)):∀{l:List α} (i:Nat),(∃x∈l,Q x)→∃x∈l.modify i f,Q x
 |[],i,⟨x,hx,_⟩=>by cases hx
 |a::l,0,⟨x,hx,q⟩=>by
  rcases yXl.1 hx with rfl|hx
  ·exact⟨f x,yWy,hf x q⟩
  ·exact⟨x,yWz _ hx,q⟩
 |a::l,i+1,⟨x,hx,q⟩=>by
  rw[y2d]
  rcases yXl.1 hx with rfl|hx
  ·exact⟨x,yWy,q⟩
  ·obtain⟨y,hy,hq⟩:=zLq hf (l:=l) i ⟨x,hx,q⟩
   exact⟨y,yWz _ hy,hq⟩
theorem yEj {a:Arena} (h:a.fit) (n:Int) (t:Bool):(a.topF n t).fit:=by
 obtain⟨h1,h2,h3⟩:=h
 rw[Arena.topF]
 split
 ·refine⟨by simpa using h1,fun hf=> ?_,by simpa using h3⟩
  exact zLq (f:=fun s:Slot=>{s with top:=t}) (Q:=fun s=>s.used=false) (fun x hx=>hx) _ (h2 hf)
 ·exact⟨h1,h2,h3⟩
theorem z7c {b:Book} (h:b.a.fit) (s:Int):(b.untop s).fit:=by
 rw[Book.untop]
 repeat' split
 all_goals first|exact h|exact yEj h _ _
theorem z6g {a:Arena} (h:a.fit):a.openQ.fit:=by
 obtain⟨h1,h2,h3⟩:=h
 refine⟨h1,h2,fun q hq=> ?_⟩
 rcases yXy.1 hq with hq|hq
 ·exact h3 q hq
 ·rw[yYl.1 hq];exact .inl rfl
theorem zXq {b:Book} (h:b.a.fit):b.newQ.2.2.fit:=by
 rw[Book.newQ]
 split
 ·exact z6g h
 ·exact h
theorem nC {b:Book} (h:b.a.fit) (s p:Int):(b.queueF s p).1.a.fit:=by
 rw[Book.queueF]
 repeat' split
 ·exact h
 ·exact zXq h
 ·exact zXq h
theorem z6k (b:Book) (s:Int):(b.untop s).slots.length=b.a.slots.length∧(b.untop s).queues=b.a.queues:=by
 have ht:∀n t,(b.a.topF n t).slots.length=b.a.slots.length∧(b.a.topF n t).queues=b.a.queues:=by
  intro n t
  rw[Arena.topF]
  split
  ·exact⟨by simp,rfl⟩
  ·exact⟨rfl,rfl⟩
 rw[Book.untop]
 repeat' split
 all_goals first|exact⟨rfl,rfl⟩|exact ht _ _
theorem zOy {b:Book} (h:b.fit) (id s:Int):(b.leadF id s).fit:=by
 obtain⟨h1,h2,h3,h4,h5⟩:=h
 have hl:=z6k b s
 rw[Book.leadF]
 split
 all_goals exact⟨z7c h1 s,by rw[hl.2];exact h2,h3,h4,h5⟩
theorem zQk {b:Book} (h:b.fit):b.small:=by
 obtain⟨⟨h1,_⟩,h2,h3,h4,h5⟩:=h
 exact⟨⟨h1,by omega⟩,by omega,by omega,by omega⟩
theorem yQh (i:BaI) (h:badd1C.cnd i):yCu i:=by
 have hfit:i.b.fit:=h
 have hsm:=zQk hfit
 unfold yCu zFq eX eH tP zGd zO nH pJ yI qL pL nS cV yN dI
 have plc:∀(b:Book) (x:Int),gW (Value.int IntKind.i64 i.id) [D.v (.int .i64 1),D.v (.int .i64 i.price),D.v (.int .i64 x)] (atE b.at_)=atE (pS i.id ⟨1,i.price,x⟩ b.at_):=fun b x=>zTd i.id ⟨1,i.price,x⟩ b.at_
 refine⟨jK _ _,(pget i.b.at_ i.id).isSome,_,_,_,zQf _ _,1,rfl,trivial,fun _ _=> ?_⟩
 refine Cv.cnd.mk (fun c=>absurd c (by decide)) fun _=> ?_
 refine zK (fun c=> ?_) (fun c=>zK (fun d=> ?_) (fun d=> ?_))
 ·have ha:i.b.addF 1 i.id i.price i.qty=(i.b,24):=by rw[Book.addF,yWt (.inl c)]
  rw[ha];exact kp
 ·have ha:i.b.addF 1 i.id i.price i.qty=(i.b,24):=by rw[Book.addF,yWt (.inr d)]
  rw[ha];exact kp
 have hq:¬(i.qty<1∨1000000<i.qty):=by omega
 refine Cv.cnd.mk (fun e=> ?_) (fun e=> ?_)
 ·have ha:i.b.addF 1 i.id i.price i.qty=(i.b,25):=by rw[Book.addF,yWs hq,yWt e]
  rw[ha];exact kp
 have hlen:(atE i.b.at_).length=i.b.at_.length:=by simp[atE]
 rw[hlen]
 refine zK (fun f=> ?_) (fun f=> ?_)
 ·have ha:i.b.addF 1 i.id i.price i.qty=(i.b,13):=by rw[Book.addF,yWs hq,yWs (by rw[e];decide),yWt (by omega)]
  rw[ha];exact kp
 have ha:i.b.addF 1 i.id i.price i.qty=(i.b.stand 1 i.id i.price i.qty,0):=by rw[Book.addF,yWs hq,yWs (by rw[e];decide),yWs (by omega)]
 rw[ha]
 simp only[yWu]
 refine⟨true,fun x=>x=i.b.leads 1 i.price,Cv.cnd.mk (fun g=>⟨true,rfl,?_,k0q⟩) (fun g=> ?_),fun x hx=> ?_⟩
 ·have:i.b.buys=[]:=yXs (by have:(i.b.buys.length:Int)=0:=(by simpa using g);omega)
  rw[Book.leads,pX,this]
 ·obtain⟨r,l,hl⟩:∃r l,i.b.buys=r::l:=by
   cases hb:i.b.buys with
   |nil=>rw[hb]at g;exact absurd g (by decide)
   |cons r l=>exact⟨r,l,rfl⟩
  refine⟨⟨by omega,by rw[hl,yXa];omega⟩,r.price,elA (x:=r) (by rw[hl];rfl) (by simp[zB]) rfl,⟨1,i.price,r.price⟩,rfl,rfl,rfl,trivial,fun _ _=>⟨_,rfl,?_,k0q⟩⟩
  rw[Book.leads,pX,hl]
 subst hx
 refine Cv.cnd.mk (fun g=> ?_) (fun g=> ?_)
 ·have hled:i.b.led i.id 1 i.price=i.b.leadF i.id 1:=by rw[Book.led,yWt g]
  have hf1:=zOy hfit i.id 1
  have hst:i.b.stand 1 i.id i.price i.qty={((i.b.leadF i.id 1).queueF 1 i.price).1 with a:=(((i.b.leadF i.id 1).queueF 1 i.price).1.a.push ((i.b.leadF i.id 1).queueF 1 i.price).2 i.id i.qty (i.b.leads 1 i.price)).1,at_:=pS i.id ⟨1,i.price,(((i.b.leadF i.id 1).queueF 1 i.price).1.a.push ((i.b.leadF i.id 1).queueF 1 i.price).2 i.id i.qty (i.b.leads 1 i.price)).2.1⟩ ((i.b.leadF i.id 1).queueF 1 i.price).1.at_}:=by
   simp only[Book.stand,hled]
  refine⟨⟨i.b,i.id⟩,rfl,trivial,rfl,rfl,rfl,rfl,rfl,rfl,rfl,rfl,rfl,hsm,fun _ _=>⟨⟨i.b.leadF i.id 1,i.price⟩,trivial,rfl,rfl,rfl,rfl,rfl,rfl,rfl,rfl,rfl,rfl,hf1,fun _ _=>⟨trivial,?_⟩⟩⟩
  refine⟨⟨((i.b.leadF i.id 1).queueF 1 i.price).1.a,((i.b.leadF i.id 1).queueF 1 i.price).2,i.id,i.qty,i.b.leads 1 i.price⟩,rfl,rfl,rfl,rfl,rfl,nC hf1.1 1 i.price,fun _ _=>⟨jK _ _,(),?_⟩⟩
  dsimp only
  rw[hst,plc]
  exact kp
 ·have hled:i.b.led i.id 1 i.price=i.b:=by rw[Book.led,yWs (by rw[g];decide)]
  have hst:i.b.stand 1 i.id i.price i.qty={(i.b.queueF 1 i.price).1 with a:=((i.b.queueF 1 i.price).1.a.push (i.b.queueF 1 i.price).2 i.id i.qty (i.b.leads 1 i.price)).1,at_:=pS i.id ⟨1,i.price,((i.b.queueF 1 i.price).1.a.push (i.b.queueF 1 i.price).2 i.id i.qty (i.b.leads 1 i.price)).2.1⟩ (i.b.queueF 1 i.price).1.at_}:=by
   simp only[Book.stand,hled]
  refine⟨⟨i.b,i.price⟩,trivial,rfl,rfl,rfl,rfl,rfl,rfl,rfl,rfl,rfl,rfl,hfit,fun _ _=>⟨trivial,?_⟩⟩
  refine⟨⟨(i.b.queueF 1 i.price).1.a,(i.b.queueF 1 i.price).2,i.id,i.qty,i.b.leads 1 i.price⟩,rfl,rfl,rfl,rfl,rfl,nC hfit.1 1 i.price,fun _ _=>⟨jK _ _,(),?_⟩⟩
  dsimp only
  rw[hst,plc]
  exact kp
theorem yCa:badd1C.ok Tryz.prog 240:=okw mixed (gokc sJ (gokc bI (gokc yEe (gokc z7p (gokc zXe gok0))))) 0 (fun _=>yLa) (fun _=>[]) [0] Tryz.func240 yQh
theorem yOb (i:BaI) (h:badd2C.cnd i):yDq i:=by
 have hfit:i.b.fit:=h
 have hsm:=zQk hfit
 unfold yDq zGt zFp zP nH pJ yI cW yL eX eH tP qL pL nS dI
 have plc:∀(b:Book) (x:Int),gW (Value.int IntKind.i64 i.id) [D.v (.int .i64 2),D.v (.int .i64 i.price),D.v (.int .i64 x)] (atE b.at_)=atE (pS i.id ⟨2,i.price,x⟩ b.at_):=fun b x=>zTd i.id ⟨2,i.price,x⟩ b.at_
 refine⟨jK _ _,(pget i.b.at_ i.id).isSome,_,_,_,zQf _ _,2,rfl,trivial,fun _ _=> ?_⟩
 refine Cv.cnd.mk (fun c=>absurd c (by decide)) fun _=> ?_
 refine zK (fun c=> ?_) (fun c=>zK (fun d=> ?_) (fun d=> ?_))
 ·have ha:i.b.addF 2 i.id i.price i.qty=(i.b,24):=by rw[Book.addF,yWt (.inl c)]
  rw[ha];exact kp
 ·have ha:i.b.addF 2 i.id i.price i.qty=(i.b,24):=by rw[Book.addF,yWt (.inr d)]
  rw[ha];exact kp
 have hq:¬(i.qty<1∨1000000<i.qty):=by omega
 refine Cv.cnd.mk (fun e=> ?_) (fun e=> ?_)
 ·have ha:i.b.addF 2 i.id i.price i.qty=(i.b,25):=by rw[Book.addF,yWs hq,yWt e]
  rw[ha];exact kp
 have hlen:(atE i.b.at_).length=i.b.at_.length:=by simp[atE]
 rw[hlen]
 refine zK (fun f=> ?_) (fun f=> ?_)
 ·have ha:i.b.addF 2 i.id i.price i.qty=(i.b,13):=by rw[Book.addF,yWs hq,yWs (by rw[e];decide),yWt (by omega)]
  rw[ha];exact kp
 have ha:i.b.addF 2 i.id i.price i.qty=(i.b.stand 2 i.id i.price i.qty,0):=by rw[Book.addF,yWs hq,yWs (by rw[e];decide),yWs (by omega)]
 rw[ha]
 simp only[yWu]
 refine⟨true,fun x=>x=i.b.leads 2 i.price,Cv.cnd.mk (fun g=>⟨true,rfl,?_,k0q⟩) (fun g=> ?_),fun x hx=> ?_⟩
 ·have:i.b.sells=[]:=yXs (by have:(i.b.sells.length:Int)=0:=(by simpa using g);omega)
  rw[Book.leads,pD,this]
 ·obtain⟨r,l,hl⟩:∃r l,i.b.sells=r::l:=by
   cases hb:i.b.sells with
   |nil=>rw[hb]at g;exact absurd g (by decide)
   |cons r l=>exact⟨r,l,rfl⟩
  refine⟨⟨by omega,by rw[hl,yXa];omega⟩,r.price,elA (x:=r) (by rw[hl];rfl) (by simp[zB]) rfl,⟨2,i.price,r.price⟩,rfl,rfl,rfl,trivial,fun _ _=>⟨_,rfl,?_,k0q⟩⟩
  rw[Book.leads,pD,hl]
 subst hx
 refine Cv.cnd.mk (fun g=> ?_) (fun g=> ?_)
 ·have hled:i.b.led i.id 2 i.price=i.b.leadF i.id 2:=by rw[Book.led,yWt g]
  have hf1:=zOy hfit i.id 2
  have hst:i.b.stand 2 i.id i.price i.qty={((i.b.leadF i.id 2).queueF 2 i.price).1 with a:=(((i.b.leadF i.id 2).queueF 2 i.price).1.a.push ((i.b.leadF i.id 2).queueF 2 i.price).2 i.id i.qty (i.b.leads 2 i.price)).1,at_:=pS i.id ⟨2,i.price,(((i.b.leadF i.id 2).queueF 2 i.price).1.a.push ((i.b.leadF i.id 2).queueF 2 i.price).2 i.id i.qty (i.b.leads 2 i.price)).2.1⟩ ((i.b.leadF i.id 2).queueF 2 i.price).1.at_}:=by
   simp only[Book.stand,hled]
  refine⟨⟨i.b,i.id⟩,rfl,trivial,rfl,rfl,rfl,rfl,rfl,rfl,rfl,rfl,rfl,hsm,fun _ _=>⟨⟨i.b.leadF i.id 2,i.price⟩,trivial,rfl,rfl,rfl,rfl,rfl,rfl,rfl,rfl,rfl,rfl,hf1,fun _ _=>⟨trivial,?_⟩⟩⟩
  refine⟨⟨((i.b.leadF i.id 2).queueF 2 i.price).1.a,((i.b.leadF i.id 2).queueF 2 i.price).2,i.id,i.qty,i.b.leads 2 i.price⟩,rfl,rfl,rfl,rfl,rfl,nC hf1.1 2 i.price,fun _ _=>⟨jK _ _,(),?_⟩⟩
  dsimp only
  rw[hst,plc]
  exact kp
 ·have hled:i.b.led i.id 2 i.price=i.b:=by rw[Book.led,yWs (by rw[g];decide)]
  have hst:i.b.stand 2 i.id i.price i.qty={(i.b.queueF 2 i.price).1 with a:=((i.b.queueF 2 i.price).1.a.push (i.b.queueF 2 i.price).2 i.id i.qty (i.b.leads 2 i.price)).1,at_:=pS i.id ⟨2,i.price,((i.b.queueF 2 i.price).1.a.push (i.b.queueF 2 i.price).2 i.id i.qty (i.b.leads 2 i.price)).2.1⟩ (i.b.queueF 2 i.price).1.at_}:=by
   simp only[Book.stand,hled]
  refine⟨⟨i.b,i.price⟩,trivial,rfl,rfl,rfl,rfl,rfl,rfl,rfl,rfl,rfl,rfl,hfit,fun _ _=>⟨trivial,?_⟩⟩
  refine⟨⟨(i.b.queueF 2 i.price).1.a,(i.b.queueF 2 i.price).2,i.id,i.qty,i.b.leads 2 i.price⟩,rfl,rfl,rfl,rfl,rfl,nC hfit.1 2 i.price,fun _ _=>⟨jK _ _,(),?_⟩⟩
  dsimp only
  rw[hst,plc]
  exact kp
theorem yDb:badd2C.ok Tryz.prog 240:=okw mixed (gokc sJ (gokc bI (gokc yDw (gokc z6p (gokc zXe gok0))))) 0 (fun _=>yLa) (fun _=>[]) [0] Tryz.func240 yOb
theorem yGp:baddC.ok Tryz.prog 240:=fun j=>match j with
 |⟨i,false⟩=>yCa i
 |⟨i,true⟩=>yDb i
theorem yRz (i:SaI) (h:saddC.cnd i):yLw i:=by
 obtain⟨hp,hbl,hb⟩:i.s.fit:=h
 unfold yLw zKu mJ mV zFr zGi xU dI
 simp only[zXc]
 have hml:(yU i.s.wh).length=i.s.wh.length:=by simp[yU]
 rw[hml]
 have out (e:i.inst<0∨i.s.books.length≤i.inst):MSt.addF i=(i.s,20):=by rw[MSt.addF,yWt e]
 refine⟨fQ _ _,(zBl i.s.wh i.id).isSome,_,yNh _ _,zK (fun c=>Cv.cnd.mk (fun d=> ?_) (fun d=> ?_)) (fun c=> ?_)⟩
 ·have d:¬i.inst<(i.s.books.length:Int):=by simpa using d
  rw[out (.inr (by omega))];exact kp
 ·have d:i.inst<(i.s.books.length:Int):=by simpa using d
  have hn:¬(i.inst<0∨(i.s.books.length:Int)≤i.inst):=by omega
  refine Cv.cnd.mk (fun e=> ?_) (fun e=>zK (fun f=> ?_) (fun f=> ?_))
  ·rw[MSt.addF,yWs hn,yWt e];exact kp
  ·rw[MSt.addF,yWs hn,yWs (by rw[e];decide),yWt (by omega)];exact kp
  ·refine⟨⟨i.s.p,i.inst,i.price⟩,rfl,rfl,rfl,rfl,rfl,rfl,rfl,rfl,rfl,rfl,rfl,rfl,rfl,hp,fun _ _=>Cv.cnd.mk (fun g=> ?_) (fun g=> ?_)⟩
   ·have g:i.s.p.price i.inst i.price≠0:=by simpa using g
    rw[MSt.addF,yWs hn,yWs (by rw[e];decide),yWs (by omega),yWt g];exact kp
   ·have g:i.s.p.price i.inst i.price=0:=by simpa using g
    obtain⟨x,hx⟩:=zW (l:=i.s.books) (i:=i.inst.toNat) (by omega)
    have hba:i.s.bookAt i.inst=x:=zT hx
    have ha:MSt.addF i=({i.s with books:=i.s.books.set i.inst.toNat (x.addF (zD i.sd) i.id i.price i.qty).1,wh:=if(x.addF (zD i.sd) i.id i.price i.qty).2=0 then zYe i.id i.inst i.s.wh else i.s.wh},(x.addF (zD i.sd) i.id i.price i.qty).2):=by
     rw[MSt.addF,yWs hn,yWs (by rw[e];decide),yWs (by omega),yWs (by simp[g])]
     simp only[hba]
    refine⟨⟨by omega,by omega⟩,by omega,x,hx,⟨⟨x,i.id,i.price,i.qty⟩,i.sd⟩,rfl,rfl,rfl,rfl,rfl,hb x (yXd hx),fun _ _=>⟨(x.addF (zD i.sd) i.id i.price i.qty).1,rfl,trivial,by omega,Cv.cnd.mk (fun z=>⟨fQ _ _,?_⟩) (fun z=> ?_)⟩⟩
    ·have z:(x.addF (zD i.sd) i.id i.price i.qty).2=0:=by simpa using z
     rw[ha,z]
     simp only[if_true]
     exact kp
    ·have z:¬(x.addF (zD i.sd) i.id i.price i.qty).2=0:=by simpa using z
     rw[ha,yWs z]
     exact kp
 ·rw[out (.inl (by omega))];exact kp
theorem yJa:saddC.ok Tryz.prog 209:=okw mixed (gokc sD (gokc yGp gok0)) 1 (fun _=>[]) (fun _=>[]) [0] Tryz.func209 yRz
open Go Cv Go.Proofs
def r3prodC:Con:=con1 (List UInt8) (fun s=>[sV s]) (fun _=>[]) (fun s=>s.length≤1099511627776) (fun s=>z7 (jV s)) (fun _=>[])
def yGw (s:List UInt8):List SAnn:=[{ι:=Nat×Nat,slots:=fun x=>[(3,zA x.2),(7,.nm 0 0)],rows:=fun x=>[.iter (sb s) x.1]}]
def yJd:List (Nat×SAnn):=[(20,bj 29)]
def r5checkC:Con:=con1 Prd (fun p=>[prdV p]) (fun _=>[]) Prd.small (fun p=>zA p.check) (fun _=>[])
def yGh:List SAnn:=[{ι:=Nat,slots:=fun j=>[(3,zA j)],rows:=fun _=>[]},{ι:=Nat,slots:=fun j=>[(4,zA j)],rows:=fun _=>[]},{ι:=Nat,slots:=fun j=>[(5,zA j)],rows:=fun _=>[]}]
def yCe:List (Nat×SAnn):=[(12,bj 19),(32,bj 58),(40,bj 90),(68,bj 136),(96,bj 168),(104,bj 176),(112,bj 204)]
def r5countC:Con:=con1 Prd (fun p=>[prdV p]) (fun _=>[]) Prd.small (fun p=>zA p.count) (fun _=>[])
def r5legsC:Con:=con1 dR (fun i=>[prdV i.p,zA i.n]) (fun _=>[]) (fun i=>i.p.small) (fun i=> .tup [zA (i.p.legs i.n).1,zA (i.p.legs i.n).2.1,z7 (i.p.legs i.n).2.2]) (fun _=>[])
def yHa (i:dR):List SAnn:=[{ι:=Nat,slots:=fun m=>[(8,zA (yJ i.p.months.length m)),(9,zA m)],rows:=fun _=>[]},
 {ι:=Nat×Nat,slots:=fun m=>[(8,zA ((yJ i.p.months.length m.1+m.2:Nat):Int)),(9,zA m.1),(10,zA ((m.1+1+m.2:Nat):Int))],rows:=fun _=>[]}]
def kN (x:Prd):Int:=2+zI x.months.length 0 3
def yG (x:Prd):Int:=1+zI x.tick 0 9
def qF (n:Nat):List Int:=(List.range n).map fun(i:Nat)=>10*(i:Int)+3
def qS (t:Int) (n:Nat):List Int:=(List.range n).map fun(i:Nat)=>t*(10+(i:Int))
def uH (x:Prd):Prd:=⟨[206,169],qF (kN x).toNat,yG x,-20*yG x,100*yG x,yG x*(5+zI x.wide 0 60),1+zI x.rule 0 2,zI x.top 0 9,1+zI x.least 0 4,zI x.part 0 100,qS (yG x) (kN x).toNat⟩
@[reducible] def Prd.raw (x:Prd):Prop:=i64r x.tick∧i64r x.wide∧i64r x.rule∧i64r x.top∧i64r x.least∧i64r x.part∧x.months.length≤9223372036854775807
def kprodC:Con:=con1 Prd (fun x=>[prdV x]) (fun _=>[]) Prd.raw (fun x=>prdV (uH x)) (fun _=>[])
def yWp (x:Prd) (w:Int) (j:Nat):List AObj:=[.cells [sV [206,169],.own 1,zA (yG x),zA (-20*yG x),zA (100*yG x),zA w,zA (1+zI x.rule 0 2),zA (zI x.top 0 9),zA (1+zI x.least 0 4),zA (zI x.part 0 100),.own 2] 25,.own 3 1 (iE (qF j)),.own 2 1 (iE (qS (yG x) j))]
def yTj (x:Prd):List AObj:=[.cells [sV [206,169],.d (.v (.slice none 0 0)),zA (yG x),zA (-20*yG x),zA (100*yG x),zA 0,zA (1+zI x.rule 0 2),zA (zI x.top 0 9),zA (1+zI x.least 0 4),zA (zI x.part 0 100),.d (.v (.slice none 0 0))] 25]
def yQt (x:Prd):List SAnn:=[{ι:=Nat,slots:=fun j=>[(5,.nm 0 0),(6,zA j)],rows:=fun j=>yWp x (yG x*(5+zI x.wide 0 60)) j}]
def yNr (x:Prd):List (Nat×SAnn):=[(12,{ι:=Unit,slots:=fun _=>[(5,.nm 0 0)],slots0:=fun _=>[],rows0:=fun _=>[],rows:=fun _=>yTj x})]
end Sx
