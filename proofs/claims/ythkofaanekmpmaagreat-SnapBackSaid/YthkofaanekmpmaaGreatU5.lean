/- Texts of ours, one behind the other: a walk that the kernel reckons, and contracts of functions. No condition. -/
import Derived.Laws.AppendOwn
import Derived.Lib.AppendZerosOnto
import Derived.Lib.Overlaps
import Derived.Test.YthkofaanekmpmaaGreatU4
namespace Sx
set_option linter.unusedVariables false
set_option linter.unusedSimpArgs false
set_option maxRecDepth 100000
open Go Cv Go.Proofs
theorem zZw {l:List Quote} {q:Quote} (s:Int) (h:l[0]? =some q):(zS (l.take (max 0 1)) s).1=q:=by
 cases l with
 |nil=>simp at h
 |cons a l=>simp at h;subst h;rfl
theorem zXs {l:List Quote} {j:Nat} {q:Quote} (s:Int) (h:l[j]? =some q):
 (zS (l.take (max (j+1) 1)) s).1=if btr s q.price (zS (l.take (max j 1)) s).1.price then q else(zS (l.take (max j 1)) s).1:=by
 cases l with
 |nil=>simp at h
 |cons a l=>
  cases j with
  |zero=>simp at h;subst h;simp[zS]
  |succ m=>
   simp only[yYf]at h
   rw[show max (m+1+1) 1=(m+1)+1 by omega,show max (m+1) 1=m+1 by omega,yXw,yXw,yXt,h]
   simp only[zS,y0c,y0r]
   rfl
theorem z4n {l:List Quote} (s:Int) (h:l≠[]):(zS l s).2=true:=by
 cases l with
 |nil=>exact absurd rfl h
 |cons a l=>rfl
theorem yMu (i:BsI) (h:bestQC.cnd i):z8q i:=by
 obtain⟨hs,hl⟩:(i.s=1∨i.s=2)∧i.l.length≤1000000:=h
 unfold z8q zIb z9 zAe vO lM dI
 simp only[yWk]
 refine Cv.cnd.mk (fun c=> ?_) (fun c=> ?_)
 ·have e:i.l=[]:=yXn (by have:(i.l.length:Int)=0:=(by simpa using c);omega)
  rw[e];exact kp
 have h0:0<i.l.length:=by
  rcases Nat.eq_zero_or_pos i.l.length with h|h
  ·rw[h]at c;exact absurd c (by decide)
  ·exact h
 have hne:i.l≠[]:=by intro e;rw[e]at h0;simp at h0
 have two:=z4n i.s hne
 obtain⟨q,hq⟩:=yD h0
 have b0:=zZw i.s hq
 have fin:(zS (i.l.take (max i.l.length 1)) i.s).1=(zS i.l i.s).1:=by
  rw[yWu (by omega)]
 have step:∀j:Nat,j<i.l.length→∀x:Quote,i.l[j]? =some x→(btr i.s x.price (zS (i.l.take (max j 1)) i.s).1.price=true→(zS (i.l.take (max (j+1) 1)) i.s).1=x)∧(btr i.s x.price (zS (i.l.take (max j 1)) i.s).1.price=false→(zS (i.l.take (max (j+1) 1)) i.s).1=(zS (i.l.take (max j 1)) i.s).1):=fun j hj x hx=>by
  have:=zXs i.s hx
  constructor
  ·intro e;rw[this,yWl e]
  ·intro e;rw[this,yWj (by rw[e];simp)]
 refine Cv.cnd.mk (fun c1=>Cv.cnd.mk (fun c2=> ?_) (fun c2=> ?_)) (fun c1=> ?_)
 ·exfalso
  have c1:i.s≠1:=by simpa using c1
  have c2:i.s≠2:=by simpa using c2
  omega
 all_goals
  refine⟨⟨by omega,by omega⟩,q.price,q.qty,q.a.inst,q.a.side,q.b.inst,q.b.side,elA hq (by simp[zJ]) rfl,0,?_⟩
  rw[b0]
  (repeat'(first|exact rfl|exact trivial|assumption|apply And.intro|refine fun(_:Unit) (_:True)=>?_|refine Exists.intro () ?_|omega|(dsimp only;omega)))
  refine⟨fun j=>j≤i.l.length,fun j=>i.l.length-j,by omega,fun j hj=>zI (fun hlt=> ?_) (fun hlt=> ?_)⟩
  ·have hj':j<i.l.length:=by omega
   obtain⟨x,hx⟩:=yD hj'
   obtain⟨st,sf⟩:=step j hj' x hx
   refine⟨⟨by omega,by omega⟩,x.price,x.qty,x.a.inst,x.a.side,x.b.inst,x.b.side,elA hx (by simp[zJ]) rfl,⟨i.s,x.price,_⟩,rfl,rfl,rfl,trivial,fun _ _=>Cv.cnd.mk (fun e=>⟨j+1,by rw[w64 (by omega)];rfl,?_⟩) (fun e=>⟨j+1,by rw[w64 (by omega)];rfl,?_⟩)⟩
   ·rw[st e];exact kp
   ·rw[sf e];exact kp
  ·have hj:j≤i.l.length:=hj
   obtain rfl:j=i.l.length:=by omega
   rw[fin,two];exact kp
theorem zTc:bestQC.ok Tryz.prog 159:=okw mixed (gokc zYg gok0) 0 (fun _=>[]) (fun i=>yNj i) [] Tryz.func159 yMu
theorem zAz (tops:List Top) (a b:Leg) (less:Bool):(mkq tops a b less).length≤1:=by
 unfold mkq
 dsimp only
 split<;>split<;>simp
theorem zSf {α:Type} {f:Nat→List α} (h:∀k,(f k).length≤1):∀n,((List.range n).flatMap f).length≤n
 |0=>by simp
 |n+1=>by
  rw[y1i,yYi,yWi]
  have:=zSf h n
  have:=h n
  simp only[yXv,y1t,yXi]
  omega
theorem zAp (i:fN) (s:Int) (k:Nat):(kT i s k).length≤k:=zSf (fun _=>zAz _ _ _ _) k
theorem pK (i:fN) (s:Int) (k:Nat):(jW i s k).length≤k:=zSf (fun _=>zAz _ _ _ _) k
theorem zBb (i:fN) (s:Int):(kB i s).length≤100:=by
 unfold kB
 split
 ·simp
 ·rename_i h
  have hc:=x5 i.p
  have m6:=(jP (sD (p:=i.p) (by omega))).m6
  split
  ·rw[yWk]
   have:=zAz i.tops ⟨(i.p.legs i.inst).2.1,3-s⟩ ⟨(i.p.legs i.inst).1,s⟩ true
   have e:(yP i s).length≤1:=this
   omega
  ·rw[yWi]
   have h1:=zAp i s (i.p.months.length-(i.inst.toNat+1))
   have h2:=pK i s i.inst.toNat
   omega
theorem yEq (j:rS) (h:quotesC.cnd j):z1r j:=by
 unfold z1r l8 gG jH kA gC xZ dI
 obtain⟨hp,ht,hr⟩:j.i.p.small∧wY j.i.tops:=h
 obtain⟨h1,h2,h3⟩:=hp
 have hl:=zBb j.i (zC j.s)
 refine⟨j,?_⟩
 simp only[yWk]
 (repeat'(first|exact rfl|exact trivial|assumption|apply And.intro|refine fun(_:Unit) (_:True)=>?_|refine Exists.intro () ?_|omega|(dsimp only;omega)))
 refine⟨0,rfl,rfl,fun k=>k≤(kB j.i (zC j.s)).length,fun k=>(kB j.i (zC j.s)).length-k,by omega,fun k hk=>zI (fun hlt=> ?_) (fun hlt=> ?_)⟩
 ·have hk':k<(kB j.i (zC j.s)).length:=by omega
  obtain⟨q,hq⟩:=yD hk'
  have hf:(List.filter (fun q=>decide (j.i.p.price j.i.inst q.price=0)) (List.take k (kB j.i (zC j.s)))).length≤100:=by
   have:=yZr (fun q:Quote=>decide (j.i.p.price j.i.inst q.price=0)) (List.take k (kB j.i (zC j.s)))
   rw[yXd]at this
   omega
  refine⟨⟨by omega,by omega⟩,q.price,q.qty,q.a.inst,q.a.side,q.b.inst,q.b.side,elA hq (by simp[zJ]) rfl,⟨j.i.p,j.i.inst,q.price⟩,?_⟩
  (repeat'(first|exact rfl|exact trivial|assumption|apply And.intro|refine fun(_:Unit) (_:True)=>?_|refine Exists.intro () ?_|omega|(dsimp only;omega)))
  refine Cv.cnd.mk (fun c=>⟨by omega,k+1,by rw[w64 (by omega)];rfl,?_⟩) (fun c=>⟨k+1,by rw[w64 (by omega)];rfl,?_⟩)
  ·have c:j.i.p.price j.i.inst q.price=0:=by simpa using c
   rw[yXt,hq,y0c,y0n,y1l (by simpa using c),yWv]
   exact kp
  ·have c:¬j.i.p.price j.i.inst q.price=0:=by simpa using c
   rw[yXt,hq,y0c,y0n,y1m (by simpa using c),List.filter_nil,yXi]
   exact kp
 ·have hk:k≤(kB j.i (zC j.s)).length:=hk
  obtain rfl:k=(kB j.i (zC j.s)).length:=by omega
  rw[yWu (yXl _)]
  exact kp
open Go Cv Go.Proofs
theorem z6z:∀n≤6,∀a<n,∀b<n,a<b→0≤(yL n a:Int)+b-a-1∧(yL n a:Int)+b-a-1<((n+n*(n-1) / 2:Nat):Int):=by decide
theorem cG {p:Prd} (hc:p.check=0) {a b:Nat} (hab:a<b) (hb:b<p.months.length):0≤(p.spread a b).1∧(p.spread a b).1<p.count:=by
 have m6:=(jP hc).m6
 have:=z6z p.months.length m6 a (by omega) b hb hab
 rw[Prd.spread,yWj (by omega),Prd.count,yWl hc]
 simpa using this
theorem yGp:∀n≤6,∀k<n+n*(n-1) / 2,n≤k→(kL n k n 0).2.2=true∧0≤(kL n k n 0).1∧(kL n k n 0).1<n∧0≤(kL n k n 0).2.1∧(kL n k n 0).2.1<n:=by decide
theorem dJ {p:Prd} (hc:p.check=0) {k:Nat} (hk:k<p.count):((p.legs k).2.2=true∧0≤(p.legs k).1∧(p.legs k).1<p.months.length∧0≤(p.legs k).2.1∧(p.legs k).2.1<p.months.length)∨((p.legs k).2.2=false∧k<p.months.length):=by
 have m6:=(jP hc).m6
 have hk':=hk
 rw[Prd.count,yWl hc]at hk'
 by_cases h:k<p.months.length
 ·right
  rw[Prd.legs,yWj (by omega),yWl (by omega)]
  exact⟨rfl,h⟩
 ·left
  rw[Prd.legs,yWj (by omega),yWj (by omega)]
  exact yGp p.months.length m6 k hk' (by omega)
theorem zMa {p:Prd} (hc:p.check=0):p.months.length≤p.count:=by
 rw[Prd.count,yWl hc];omega
theorem zTg {i:fN} {s:Int} {k:Nat} (hk:k<(yP i s).length):List.map zJ (List.map (dQ i s) (List.take (k+1) (yP i s))++List.drop (k+1) (yP i s))=
 zT (List.map zJ (List.map (dQ i s) (List.take k (yP i s))++List.drop k (yP i s))) k (0+2) [D.v (.int .i64 (i.p.legs i.inst).1),D.v (.int .i64 s),D.v (.int .i64 (i.p.legs i.inst).2.1),D.v (.int .i64 (3-s))]:=by
 obtain⟨q,hq⟩:=yD hk
 rw[zPl (a:=List.map zJ (List.map (dQ i s) (List.take k (yP i s)))) (b:=List.map zJ (List.drop (k+1) (yP i s))) (x:=zJ q) (y:=zJ (dQ i s q)) (by
  rw[yWv,yYo hk,(yWn.1 hq).2,yWz]) (by simp;omega) rfl]
 rw[yXt,hq,y0c,yWv,yWv,yWv,yWz,y0h,yWz,y0h,yWo]
 rfl
theorem ySh (i:fN) (h:all1C.cnd i):yKa i:=by
 unfold yKa z7 zDe zBa aN wT mF tR a6 kU xZ eE vY hD gC dI
 obtain⟨⟨h1,h2,h3⟩,ht,hr⟩:i.p.small∧wY i.tops:=h
 have hto:wY i.tops:=⟨ht,hr⟩
 refine⟨i.p,?_⟩
 simp only[yWk,xF]
 (repeat'(first|exact rfl|exact trivial|assumption|apply And.intro|refine fun(_:Unit) (_:True)=>?_|refine Exists.intro () ?_|omega|(dsimp only;omega)))
 have bad (hb:i.p.count=0∨(i.tops.length:Int)≠i.p.count∨i.inst<0∨(i.p.count:Int)≤i.inst):∃(o:Unit),List.map zJ (kB i 1)=[]∧True:=⟨(),by rw[kB,yWl hb];rfl,trivial⟩
 refine Cv.cnd.mk (fun c1=>bad (.inl (by have c1:(i.p.count:Int)=0:=(by simpa using c1);omega))) fun c1=>Cv.cnd.mk (fun c2=>bad (.inr (.inl (by simpa using c2)))) fun c2=>zI (fun c3=>bad (by omega)) fun c3=>zI (fun c4=>bad (by omega)) fun c4=>⟨⟨i.p,i.inst⟩,?_⟩
 have c1:i.p.count≠0:=by
  have c1:¬(i.p.count:Int)=0:=(by simpa using c1)
  omega
 have c2:(i.tops.length:Int)=i.p.count:=by simpa using c2
 have c4:i.inst<(i.p.count:Int):=by
  have c4:¬i.inst≥(i.p.count:Int):=c4
  omega
 have hc:=sD c1
 have hm:=zMa hc
 have e0:kB i 1=if(i.p.legs i.inst).2.2 then(yP i 1).map (dQ i 1)else kT i 1 (i.p.months.length-(i.inst.toNat+1))++jW i 1 i.inst.toNat:=by
  rw[kB,yWj (by omega)]
 obtain⟨k,hk⟩:∃k:Nat,i.inst=k:=⟨i.inst.toNat,by omega⟩
 have hl:=dJ hc (k:=k) (by omega)
 rw[← hk]at hl
 (repeat'(first|exact rfl|exact trivial|assumption|apply And.intro|refine fun(_:Unit) (_:True)=>?_|refine Exists.intro () ?_|omega|(dsimp only;omega)))
 refine Cv.cnd.mk (fun c5=> ?_) (fun c5=> ?_)
 ·have c5:(i.p.legs i.inst).2.2=true:=c5
  rw[e0,yWl c5]
  rcases hl with⟨_,l1,l2,l3,l4⟩|⟨l1,_⟩
  ·have hsl:(yP i 1).length≤1:=zAz _ _ _ _
   refine⟨1,rfl,by omega,fun _ _=>⟨⟨⟨i.tops,[],(i.p.legs i.inst).2.1,(i.p.legs i.inst).1,true⟩,true,false⟩,rfl,rfl,rfl,rfl,rfl,rfl,rfl,⟨l3,by dsimp only;omega,l1,by dsimp only;omega,hto,by simp⟩,fun _ _=>⟨0,rfl,rfl,rfl,fun j=>j≤(yP i 1).length,fun j=>(yP i 1).length-j,by omega,?_⟩⟩⟩
   intro j hj
   have hj:j≤(yP i 1).length:=hj
   have hL:(List.map (dQ i 1) (List.take j (yP i 1))++List.drop j (yP i 1)).length=(yP i 1).length:=by simp;omega
   refine zI (fun hlt=> ?_) (fun hlt=> ?_)
   ·have hlt:(j:Int)<((yP i 1).length:Int):=hlt
    refine⟨⟨by omega,by rw[hL];omega⟩,by rw[hL];omega,j+1,by rw[w64 (by omega)];rfl,kp,?_,?_⟩
    ·exact zTg (i:=i) (s:=1) (by omega)
    ·exact kp
   ·have hlt:¬(j:Int)<((yP i 1).length:Int):=hlt
    obtain rfl:j=(yP i 1).length:=by omega
    rw[yWu (yXl _),List.drop_length,yXi]
    exact kp
  ·rw[c5]at l1;cases l1
 ·have c5:(i.p.legs i.inst).2.2=false:=c5
  rw[e0,yWj (by rw[c5];simp)]
  rcases hl with⟨l1,_⟩|⟨_,l2⟩
  ·rw[c5]at l1;cases l1
  have m6:=(jP hc).m6
  have e1:i.inst.toNat=k:=by omega
  rw[e1]
  refine⟨0,by rw[w64 (by omega)];omega,kp,rfl,fun j=>j≤i.p.months.length-(k+1),fun j=>i.p.months.length-(k+1)-j,by omega,?_⟩
  intro j hj
  have hj:j≤i.p.months.length-(k+1):=hj
  have hq:=zAp i 1 j
  refine zI (fun hlt=> ?_) (fun hlt=> ?_)
  ·obtain⟨b1,b2⟩:=cG hc (a:=k) (b:=k+1+j) (by omega) (by omega)
   have eb:((k+1+j:Nat):Int)=i.inst+1+j:=by omega
   rw[eb,← hk]at b1 b2
   refine⟨⟨i.p,i.inst,i.inst+1+j⟩,?_⟩
   (repeat'(first|exact rfl|exact trivial|assumption|apply And.intro|refine fun(_:Unit) (_:True)=>?_|refine Exists.intro () ?_|omega|(dsimp only;omega)))
   refine⟨⟨⟨i.tops,kT i 1 j,(i.p.spread i.inst (i.inst+1+j)).1,i.inst+1+j,false⟩,false,false⟩,rfl,rfl,rfl,rfl,rfl,kp,rfl,⟨b1,by dsimp only;omega,by dsimp only;omega,by dsimp only;omega,hto,by dsimp only;omega⟩,fun _ _=>⟨j+1,by rw[w64 (by omega)];omega,kp,?_,?_⟩⟩
   ·rw[kT,y1i,yYi]
    simp only[yXv,y1t,yXi]
    rfl
   ·exact kp
  ·obtain rfl:j=i.p.months.length-(k+1):=by omega
   refine⟨0,rfl,kp,by rw[jW];simp,fun j=>j≤k,fun j=>k-j,by omega,?_⟩
   intro j hj
   have hj:j≤k:=hj
   have hq2:=pK i 1 j
   refine zI (fun hlt2=> ?_) (fun hlt2=> ?_)
   ·obtain⟨b1,b2⟩:=cG hc (a:=j) (b:=k) (by omega) (by omega)
    rw[← hk]at b1 b2
    refine⟨⟨i.p,j,i.inst⟩,?_⟩
    (repeat'(first|exact rfl|exact trivial|assumption|apply And.intro|refine fun(_:Unit) (_:True)=>?_|refine Exists.intro () ?_|omega|(dsimp only;omega)))
    refine⟨1,rfl,by omega,fun _ _=>⟨⟨⟨i.tops,kT i 1 (i.p.months.length-(k+1))++jW i 1 j,(i.p.spread j i.inst).1,j,true⟩,true,false⟩,rfl,rfl,rfl,rfl,rfl,kp,rfl,⟨b1,by dsimp only;omega,by dsimp only;omega,by dsimp only;omega,hto,by dsimp only;rw[yWi];omega⟩,fun _ _=>⟨j+1,by rw[w64 (by omega)];omega,kp,?_,?_⟩⟩⟩
    ·rw[jW,y1i,yYi]
     simp only[yXv,y1t,yXi,yWo]
     rfl
    ·exact kp
   ·obtain rfl:j=k:=by omega
    exact kp
theorem yFk:all1C.ok Tryz.prog 160:=okw mixed (gokc cO (gokc tY (gokc zPc (gokc zNx (gokc zTj gok0))))) 0 (fun _=>[]) (fun i=>yQv i 1) [] Tryz.func160 ySh
theorem yRj (i:fN) (h:all2C.cnd i):yJn i:=by
 unfold yJn z7 mB eA aV zDe zBa aN wT kU xZ eE vY hD gC dI
 obtain⟨⟨h1,h2,h3⟩,ht,hr⟩:i.p.small∧wY i.tops:=h
 have hto:wY i.tops:=⟨ht,hr⟩
 refine⟨i.p,?_⟩
 simp only[yWk,xF]
 (repeat'(first|exact rfl|exact trivial|assumption|apply And.intro|refine fun(_:Unit) (_:True)=>?_|refine Exists.intro () ?_|omega|(dsimp only;omega)))
 have bad (hb:i.p.count=0∨(i.tops.length:Int)≠i.p.count∨i.inst<0∨(i.p.count:Int)≤i.inst):∃(o:Unit),List.map zJ (kB i 2)=[]∧True:=⟨(),by rw[kB,yWl hb];rfl,trivial⟩
 refine Cv.cnd.mk (fun c1=>bad (.inl (by have c1:(i.p.count:Int)=0:=(by simpa using c1);omega))) fun c1=>Cv.cnd.mk (fun c2=>bad (.inr (.inl (by simpa using c2)))) fun c2=>zI (fun c3=>bad (by omega)) fun c3=>zI (fun c4=>bad (by omega)) fun c4=>⟨⟨i.p,i.inst⟩,?_⟩
 have c1:i.p.count≠0:=by
  have c1:¬(i.p.count:Int)=0:=(by simpa using c1)
  omega
 have c2:(i.tops.length:Int)=i.p.count:=by simpa using c2
 have c4:i.inst<(i.p.count:Int):=by
  have c4:¬i.inst≥(i.p.count:Int):=c4
  omega
 have hc:=sD c1
 have hm:=zMa hc
 have e0:kB i 2=if(i.p.legs i.inst).2.2 then(yP i 2).map (dQ i 2)else kT i 2 (i.p.months.length-(i.inst.toNat+1))++jW i 2 i.inst.toNat:=by
  rw[kB,yWj (by omega)]
 obtain⟨k,hk⟩:∃k:Nat,i.inst=k:=⟨i.inst.toNat,by omega⟩
 have hl:=dJ hc (k:=k) (by omega)
 rw[← hk]at hl
 (repeat'(first|exact rfl|exact trivial|assumption|apply And.intro|refine fun(_:Unit) (_:True)=>?_|refine Exists.intro () ?_|omega|(dsimp only;omega)))
 refine Cv.cnd.mk (fun c5=> ?_) (fun c5=> ?_)
 ·have c5:(i.p.legs i.inst).2.2=true:=c5
  rw[e0,yWl c5]
  rcases hl with⟨_,l1,l2,l3,l4⟩|⟨l1,_⟩
  ·have hsl:(yP i 2).length≤1:=zAz _ _ _ _
   refine⟨2,rfl,by omega,fun _ _=>⟨⟨⟨i.tops,[],(i.p.legs i.inst).2.1,(i.p.legs i.inst).1,true⟩,false,true⟩,rfl,rfl,rfl,rfl,rfl,rfl,rfl,⟨l3,by dsimp only;omega,l1,by dsimp only;omega,hto,by simp⟩,fun _ _=>⟨0,rfl,rfl,rfl,fun j=>j≤(yP i 2).length,fun j=>(yP i 2).length-j,by omega,?_⟩⟩⟩
   intro j hj
   have hj:j≤(yP i 2).length:=hj
   have hL:(List.map (dQ i 2) (List.take j (yP i 2))++List.drop j (yP i 2)).length=(yP i 2).length:=by simp;omega
   refine zI (fun hlt=> ?_) (fun hlt=> ?_)
   ·have hlt:(j:Int)<((yP i 2).length:Int):=hlt
    refine⟨⟨by omega,by rw[hL];omega⟩,by rw[hL];omega,j+1,by rw[w64 (by omega)];rfl,kp,?_,?_⟩
    ·exact zTg (i:=i) (s:=2) (by omega)
    ·exact kp
   ·have hlt:¬(j:Int)<((yP i 2).length:Int):=hlt
    obtain rfl:j=(yP i 2).length:=by omega
    rw[yWu (yXl _),List.drop_length,yXi]
    exact kp
  ·rw[c5]at l1;cases l1
 ·have c5:(i.p.legs i.inst).2.2=false:=c5
  rw[e0,yWj (by rw[c5];simp)]
  rcases hl with⟨l1,_⟩|⟨_,l2⟩
  ·rw[c5]at l1;cases l1
  have m6:=(jP hc).m6
  have e1:i.inst.toNat=k:=by omega
  rw[e1]
  refine⟨0,by rw[w64 (by omega)];omega,kp,rfl,fun j=>j≤i.p.months.length-(k+1),fun j=>i.p.months.length-(k+1)-j,by omega,?_⟩
  intro j hj
  have hj:j≤i.p.months.length-(k+1):=hj
  have hq:=zAp i 2 j
  refine zI (fun hlt=> ?_) (fun hlt=> ?_)
  ·obtain⟨b1,b2⟩:=cG hc (a:=k) (b:=k+1+j) (by omega) (by omega)
   have eb:((k+1+j:Nat):Int)=i.inst+1+j:=by omega
   rw[eb,← hk]at b1 b2
   refine⟨⟨i.p,i.inst,i.inst+1+j⟩,?_⟩
   (repeat'(first|exact rfl|exact trivial|assumption|apply And.intro|refine fun(_:Unit) (_:True)=>?_|refine Exists.intro () ?_|omega|(dsimp only;omega)))
   refine⟨⟨⟨i.tops,kT i 2 j,(i.p.spread i.inst (i.inst+1+j)).1,i.inst+1+j,false⟩,true,true⟩,rfl,rfl,rfl,rfl,rfl,kp,rfl,⟨b1,by dsimp only;omega,by dsimp only;omega,by dsimp only;omega,hto,by dsimp only;omega⟩,fun _ _=>⟨j+1,by rw[w64 (by omega)];omega,kp,?_,?_⟩⟩
   ·rw[kT,y1i,yYi]
    simp only[yXv,y1t,yXi]
    rfl
   ·exact kp
  ·obtain rfl:j=i.p.months.length-(k+1):=by omega
   refine⟨0,rfl,kp,by rw[jW];simp,fun j=>j≤k,fun j=>k-j,by omega,?_⟩
   intro j hj
   have hj:j≤k:=hj
   have hq2:=pK i 2 j
   refine zI (fun hlt2=> ?_) (fun hlt2=> ?_)
   ·obtain⟨b1,b2⟩:=cG hc (a:=j) (b:=k) (by omega) (by omega)
    rw[← hk]at b1 b2
    refine⟨⟨i.p,j,i.inst⟩,?_⟩
    (repeat'(first|exact rfl|exact trivial|assumption|apply And.intro|refine fun(_:Unit) (_:True)=>?_|refine Exists.intro () ?_|omega|(dsimp only;omega)))
    refine⟨2,rfl,by omega,fun _ _=>⟨⟨⟨i.tops,kT i 2 (i.p.months.length-(k+1))++jW i 2 j,(i.p.spread j i.inst).1,j,true⟩,false,true⟩,rfl,rfl,rfl,rfl,rfl,kp,rfl,⟨b1,by dsimp only;omega,by dsimp only;omega,by dsimp only;omega,hto,by dsimp only;rw[yWi];omega⟩,fun _ _=>⟨j+1,by rw[w64 (by omega)];omega,kp,?_,?_⟩⟩⟩
    ·rw[jW,y1i,yYi]
     simp only[yXv,y1t,yXi,yWo]
     rfl
    ·exact kp
   ·obtain rfl:j=k:=by omega
    exact kp
theorem yFz:all2C.ok Tryz.prog 160:=okw mixed (gokc cO (gokc tY (gokc zPc (gokc zNx (gokc zTj gok0))))) 0 (fun _=>[]) (fun i=>yQv i 2) [] Tryz.func160 yRj
theorem yAh:allC.ok Tryz.prog 160:=fun j=>match j with
 |⟨i,false⟩=>yFk i
 |⟨i,true⟩=>yFz i
theorem zPd:quotesC.ok Tryz.prog 109:=okw mixed (gokc yAh (gokc rV gok0)) 0 (fun _=>[]) (fun j=>yIb j) [] Tryz.func109 yEq
open Go Cv Go.Proofs
open Go Cv Go.Proofs
open Go Cv Go.Proofs
theorem zGe (i:fN) (s:Int):(xR i s).length≤100:=yZq (yZr _ _) (zBb i s)
open Go Cv Go.Proofs
structure Mkt where
 p:Prd
 s:MSt
 used:List Int
def yB (l:List Int):List (Value×List D):=l.map fun x=>(.int .i64 x,[.v (.bool true)])
def y3 (m:Mkt):Nat→AObj
 |0=> .cells [sV m.p.code,.own 3,zA m.p.tick,zA m.p.low,zA m.p.high,zA m.p.wide,zA m.p.rule,zA m.p.top,zA m.p.least,zA m.p.part,.own 4,.nm 1 0,.mp 2] 179
 |1=>zD m.s
 |2=> .map (yB m.used)
 |3=> .fro 1 (iE m.p.months)
 |4=> .fro 1 (iE m.p.settle)
 |_=> .gone
def lA (m:Mkt):AObj:= .adt Mkt 5 y3 m
def newMC:Con where
 ι:=Prd
 pat:=fun p=>[prdV p]
 pre:=fun _=>[]
 cnd:=fun p=>p.small
 alts:=fun p=>[{o:=Unit,res:=fun _=> .tup [.nm 0 0,zA 0],post:=fun _=>[lA ⟨p,sI p,[]⟩],rel:=fun _=>p.check=0},{o:=Unit,res:=fun _=> .tup [.d (.v (.pointer none)),zA p.check],post:=fun _=>[],rel:=fun _=>p.check≠0}]
def stateC:Con:=con1 Mkt (fun _=>[.nm 0 0]) (fun m=>[lA m]) (fun m=>m.s.small) (fun _=> .nm 1 0) (fun m=>[lA m,zD m.s])
open Go Cv Go.Proofs
def zJf (a:Prd) (b:Prd) (c:Unit):Prop:=True∧(0+(iE a.settle).length)*(8:Nat)≤(140737488355328:Nat)∧((∃(d:Unit),(0:Int)=(0:Int)∧sb a.code=sb a.code∧a.tick=a.tick∧a.low=a.low∧a.high=a.high∧a.wide=a.wide∧a.rule=a.rule∧a.top=a.top∧a.least=a.least∧a.part=a.part∧zD (sI a)=zD (sI b)∧yB []=[]∧iE a.months=[]++iE a.months∧iE a.settle=[]++iE a.settle∧a.check=0)∨∃(c:Unit),False)
def zLs (a:Prd) (b:Prd) (c:Unit):Prop:=True∧True∧(0+(iE a.months).length)*(8:Nat)≤(140737488355328:Nat)∧zJf a b c
def zEp (a:Prd) (b:Unit):Prop:=True∧(0+(iE a.settle).length)*(8:Nat)≤(140737488355328:Nat)∧((∃(c:Unit),(0:Int)=(0:Int)∧sb a.code=sb a.code∧a.tick=a.tick∧a.low=a.low∧a.high=a.high∧a.wide=a.wide∧a.rule=a.rule∧a.top=a.top∧a.least=a.least∧a.part=a.part∧False)∨∃(b:Unit),False)
def zJl (a:Prd) (b:Unit):Prop:=True∧True∧(0+(iE a.months).length)*(8:Nat)≤(140737488355328:Nat)∧zEp a b
def yLa (p:Prd):Prop:=
 ∃(a:Prd),sb a.code=sb p.code∧iE a.months=iE p.months∧a.tick=p.tick∧a.low=p.low∧a.high=p.high∧a.wide=p.wide∧a.rule=p.rule∧a.top=p.top∧a.least=p.least∧a.part=p.part∧iE a.settle=iE p.settle∧(z7 a)∧(∀(b:Unit),a.check=0→(True∧True∧((0+(iE p.months).length)*(8:Nat)≤(140737488355328:Nat)∧True∧zJf p a b)∧zLs p a b)∧True∧True∧zLs p a b)∧∀(b:Unit),a.check≠0→cnd (a.check !=0) ((∃(c:Unit),False)∨∃(b:Unit),True∧p.check=a.check∧(p.check=0→False)) ((True∧True∧((0+(iE p.months).length)*(8:Nat)≤(140737488355328:Nat)∧True∧zEp p b)∧zJl p b)∧True∧True∧zJl p b)
def yNq (m:Mkt):Prop:=
 ∃(i:MSt),zD i=zD m.s∧(i.books.length≤1000000∧∀(b:Book),b∈i.books→(b.a.slots.length≤1000000∧b.a.queues.length≤1000000)∧b.buys.length≤1000000∧b.sells.length≤1000000∧b.spare.length≤1000000)∧∀(o:Unit),True→∃(o:Unit),sb m.p.code=sb m.p.code∧m.p.tick=m.p.tick∧m.p.low=m.p.low∧m.p.high=m.p.high∧m.p.wide=m.p.wide∧m.p.rule=m.p.rule∧m.p.top=m.p.top∧m.p.least=m.p.least∧m.p.part=m.p.part∧zD m.s=zD i∧yB m.used=yB m.used∧AObj.fro 1 (iE m.p.months)=AObj.fro 1 (iE m.p.months)∧AObj.fro 1 (iE m.p.settle)=AObj.fro 1 (iE m.p.settle)∧zD m.s=zD i∧True
open Go Cv Go.Proofs
theorem yAt:stateC.ok Tryz.prog 49:=okw (V:=yNq) mixed (gokc zCz gok0) 0 (fun _=>[]) (fun _=>[]) [0] Tryz.func49 fun(m:Mkt) h=>by
 obtain⟨h1,h2⟩:m.s.small:=h
 refine⟨m.s,rfl,⟨h1,h2⟩,fun _ _=>⟨(),?_⟩⟩
 exact kp
theorem yTu (p:Prd) (h:newMC.cnd p):yLa p:=by
 unfold yLa zJl zLs zJf zEp z7
 obtain⟨h1,h2,h3⟩:p.small:=h
 refine⟨p,?_⟩
 simp only[xF]
 (repeat'(first|exact rfl|exact trivial|assumption|apply And.intro|refine fun(_:Unit) (_:True)=>?_|refine Exists.intro () ?_|omega|(dsimp only;omega)))
 ·intro _ c
  (repeat'(first|exact rfl|exact trivial|assumption|apply And.intro|refine fun(_:Unit) (_:True)=>?_|refine Exists.intro () ?_|omega|(dsimp only;omega)))
  all_goals(refine .inl ⟨(),?_⟩;(repeat'(first|exact rfl|exact trivial|assumption|apply And.intro|refine fun(_:Unit) (_:True)=>?_|refine Exists.intro () ?_|omega|(dsimp only;omega))))
 ·intro _ c
  refine Cv.cnd.mk (fun e=> .inr ⟨(),trivial,kp,c⟩) (fun e=>absurd (by simpa using e) c)
theorem yFl:newMC.ok Tryz.prog 47:=okw mixed (gokc yGz gok0) 0 (fun _=>[]) (fun _=>[]) [] Tryz.func47 yTu
open Go Cv Go.Proofs
structure WiI where
 n:Int
 lo:Int
 hi:Int
def zG (n lo hi:Int):Int:=lo+n % (hi-lo+1)
def withinC:Con:=con1 WiI (fun i=>[zA i.n,zA i.lo,zA i.hi]) (fun _=>[]) (fun i=>yU i.n∧-1000000≤i.lo∧i.lo≤i.hi∧i.hi≤1000000) (fun i=>zA (zG i.n i.lo i.hi)) (fun _=>[])
def yWe (rule:Int):Prd:=⟨[67,76],[320,321,323],5,0,1000,200,rule,4,2,40,[500,505,490]⟩
open Go Cv Go.Proofs
def dA (a:WiI):=(IntKind.i64.wrap (IntKind.i64.wrap (a.hi-a.lo)+1))
def nZ (a:WiI):Prop:=IntKind.i64.wrap (IntKind.i64.wrap (a.hi-a.lo)+1)≠0∧cnd (decide (a.n.tmod (dA a)<0)) (∃(b:Unit),zG a.n a.lo a.hi=IntKind.i64.wrap (a.lo+IntKind.i64.wrap (IntKind.i64.wrap (IntKind.i64.wrap (a.n.tmod (dA a)+a.hi)-a.lo)+1))∧True) (∃(b:Unit),zG a.n a.lo a.hi=IntKind.i64.wrap (a.lo+a.n.tmod (dA a))∧True)
def z2v (i:WiI):Prop:=
 IntKind.i64=IntKind.i64∧nZ i
open Go Cv Go.Proofs
theorem yFq (i:WiI) (h:withinC.cnd i):z2v i:=by
 obtain⟨⟨a1,a2⟩,a3,a4,a5⟩:yU i.n∧-1000000≤i.lo∧i.lo≤i.hi∧i.hi≤1000000:=h
 unfold z2v nZ dA
 rw[w64 (x:=i.hi-i.lo) (by omega),w64 (x:=i.hi-i.lo+1) (by omega)]
 obtain⟨d,hd⟩:∃d:Int,i.hi-i.lo+1=d:=⟨_,rfl⟩
 rw[hd]
 have h1:i.n.tmod d=if 0≤i.n then i.n % d else-((-i.n) % d):=by
  split
  ·rename_i h;rw[y0v h]
  ·rename_i h
   have:i.n= -(-i.n):=by omega
   conv=>lhs;rw[this]
   rw[Int.neg_tmod,y0v (by omega)]
 have hb1:=y1j i.n (show d≠0 by omega)
 have hb2:=y1a i.n (show 0<d by omega)
 have hb3:=y1j (-i.n) (show d≠0 by omega)
 have hb4:=y1a (-i.n) (show 0<d by omega)
 have key:i.n.tmod d<0→i.n % d=i.n.tmod d+d:=fun hneg=>by
  have:=y2s (a:=i.n.tmod d+d) (b:=d) (by rw[h1]at hneg ⊢;split at hneg<;>split<;>omega) (by omega)
  rw[← this,Int.add_emod_right]
  have e:=Int.tmod_add_mul_tdiv i.n d
  conv=>lhs;rw[← e]
  rw[y0w]
 have key2:¬i.n.tmod d<0→i.n % d=i.n.tmod d:=fun hneg=>by
  have hlt:i.n.tmod d<d:=by rw[h1];split<;>omega
  have:=y2s (a:=i.n.tmod d) (b:=d) (by omega) hlt
  rw[← this]
  have e:=Int.tmod_add_mul_tdiv i.n d
  conv=>lhs;rw[← e]
  rw[y0w]
 refine⟨rfl,by omega,zI (fun c=>⟨(),?_,trivial⟩) (fun c=>⟨(),?_,trivial⟩)⟩
 ·have k:=key c
  rw[zG,hd,k]
  rw[w64 (x:=i.n.tmod d+i.hi) (by omega),w64 (x:=i.n.tmod d+i.hi-i.lo) (by omega),w64 (x:=i.n.tmod d+i.hi-i.lo+1) (by omega),w64 (by omega)]
  omega
 ·have k:=key2 c
  rw[zG,hd,k,w64 (by omega)]
theorem zNv:withinC.ok Tryz.prog 14:=okw mixed gok0 0 (fun _=>[]) (fun _=>[]) [] Tryz.func14 yFq
open Go Cv Go.Proofs
def lL (l:List (Int×Int)) (k:Int):Option Int:=(l.find? fun x=>decide (x.1=k)).map (·.2)
open Go Cv Go.Proofs
open Go Cv Go.Proofs
theorem yCt (l:List (Int×Int)) (k:Int):∀p∈yW l,like (Value.int IntKind.i64 k) p.1=true:=by
 intro p hp
 obtain⟨x,_,rfl⟩:=yYa.1 hp
 rfl
theorem mM (k:Int):∀l:List (Int×Int),vT (Value.int IntKind.i64 k) (yW l)=(lL l k).map fun v=>[D.v (.int .i64 v)]
 |[]=>rfl
 |(a,v)::l=>by
  have ih:=mM k l
  show(bif (keq .i64 .i64 && decide (k=a))then _ else vT _ (yW l))=_
  by_cases h:k=a
  ·subst h;simp[lL,keq]
  ·have h':¬a=k:=fun e=>h e.symm
   rw[show(keq .i64 .i64 && decide (k=a))=false by simp[h],cond_false,ih]
   simp[lL,List.find?_cons,h']
open Go Cv Go.Proofs
structure Rep where
 kind:Int
 id:Int
 inst:Int
 side:Int
 price:Int
 qty:Int
 left:Int
 why:Int
 deriving DecidableEq
@[reducible] def yUs (r:Rep):V:= .agg [zA r.kind,zA r.id,zA r.inst,zA r.side,zA r.price,zA r.qty,zA r.left,zA r.why]
def x7 (r:Rep):List D:=[.v (.int .i64 r.kind),.v (.int .i64 r.id),.v (.int .i64 r.inst),.v (.int .i64 r.side),.v (.int .i64 r.price),.v (.int .i64 r.qty),.v (.int .i64 r.left),.v (.int .i64 r.why)]
def zTu (k v:Int):List (Int×Int)→List (Int×Int)
 |[]=>[(k,v)]
 |(a,b)::l=>if k=a then(a,v)::l else(a,b)::zTu k v l
def zXx (k:Int):List (Int×Int)→List (Int×Int)
 |[]=>[]
 |(a,b)::l=>if k=a then l else(a,b)::zXx k l
def bj (t:Nat):SAnn:={ι:=Bool,slots:=fun b=>[(t,yF b)],rows:=fun _=>[]}
def ij (t:Nat):SAnn:={ι:=Int,slots:=fun n=>[(t,zA n)],rows:=fun _=>[]}
open Go Cv Go.Proofs
open Go Cv Go.Proofs
theorem fW (l:List (Int×Int)) (k:Int):∀(p:Value×List D),p∈yW l→like (Value.int IntKind.i64 k) p.1=true:=fun p hp=>yCt l k p hp
theorem zTb (k v:Int):∀l,gP (Value.int IntKind.i64 k) [D.v (.int .i64 v)] (yW l)=yW (zTu k v l)
 |[]=>rfl
 |(a,b)::l=>by
  have ih:=zTb k v l
  show(bif (keq .i64 .i64 && decide (k=a))then _ else _::gP _ _ (yW l))=_
  rw[ih,zTu]
  by_cases h:k=a
  ·subst h;simp[keq,yW]
  ·simp[h,yW]
theorem zVx (k:Int):∀l,eZ (Value.int IntKind.i64 k) (yW l)=yW (zXx k l)
 |[]=>rfl
 |(a,b)::l=>by
  have ih:=zVx k l
  show(bif (keq .i64 .i64 && decide (k=a))then yW l else _::eZ _ (yW l))=_
  rw[ih,zXx]
  by_cases h:k=a
  ·subst h;simp[keq]
  ·simp[h,yW]
theorem yNn (l:List (Int×Int)) (k:Int):vT (Value.int IntKind.i64 k) (yW l)=some [D.v (.int .i64 ((lL l k).getD 0))]∧(lL l k).isSome=true∨vT (Value.int IntKind.i64 k) (yW l)=none∧[D.v (.int .i64 ((lL l k).getD 0))]=[D.v (.int .i64 0)]∧(lL l k).isSome=false:=by
 rw[mM]
 cases lL l k with
 |none=>exact .inr ⟨rfl,rfl,rfl⟩
 |some v=>exact .inl ⟨rfl,rfl⟩
theorem zUk (a b:Int):(a==b)=decide (a=b):=by
 by_cases h:a=b
 ·subst h;simp
 ·simp[h]
open Go Cv Go.Proofs
theorem xI {n lo hi:Int} (h:lo≤hi):lo≤zG n lo hi∧zG n lo hi≤hi:=by
 rw[zG]
 have h1:=y1j n (show hi-lo+1≠0 by omega)
 have h2:=y1a n (show 0<hi-lo+1 by omega)
 omega
open Go Go.RowKit Cv
theorem eI {P:Program} {dT sT ty e sz by_:Nat} {z:Array Value} (hi:uF P dT=some (e,sz,by_,z)) {w:World} {g o dLen dCap b so sLen sCap n:Nat} {cur src:List Value} {T T':TypeId} {fr:Nat×Nat}
 (hg:w.heap[g]? =some (.cells cur.toArray T (0,0))) (hs:w.heap[b]? =some (.cells src.toArray T' fr)) (hn:Nat.min sLen dLen=n) (h1:so+n*sz≤src.length) (h2:o+n*sz≤cur.length)
 (hone:∀v∈(src.drop so).take (n*sz),v.oneC=true):
 u6 P (Builtin.copy_ #[dT,sT] ty #[.slice (some ⟨g,o,none⟩) dLen dCap,.slice (some ⟨b,so,none⟩) sLen sCap]) w (.int .i64 n) (World.setB w g (.cells (spl cur o ((src.drop so).take (n*sz))).toArray T (0,0))):=by
 obtain⟨i,zv,q1,q2,rfl,rfl,q5,rfl⟩:=kZ hi
 have hl:((src.drop so).take (n*i.size)).length=n*i.size:=by rw[yXd,yXg];omega
 have hst:=jU (P:=P) ((src.drop so).take (n*i.size)) 0 o cur w hg (by rw[hl];omega) hone
 simp only[y0u]at hst
 unfold u6 Builtin.copy_
 simp only[yYj,yYp,yYf,bind,pure,run_bind,Sem.bind,Sem.run,Cv.run_underlying q1,Cv.run_sizeOf q2,Builtin.lenOf,hn,Builtin.firstCells,uN hs h1,hst]
 rfl
theorem Hp.apart {k:Ko} {w:World} {b c:Nat} {o o':Obj} {L:List HP} (H:Hp k w (pt b o::pt c o'::L)):b≠c:=by
 obtain⟨hk,hs,hh⟩:=H
 cases hh with
 |cons ha hsub hd hr=>
  cases hr with
  |cons hb hsub2 hd2 hr2=>
   intro e
   subst e
   have:=hd _ yWp b
   rw[show _=one b o from ha,show _=one b o' from hb]at this
   simp[one]at this
def yMp (P:Program) (tS tI sz fO fR:Nat) (s:Option Addr) (sn sk:Nat) (i:Int) (v:Option Addr) (vn vk:Nat) (w:World) (R:Ending→World→Prop):Prop:=
slN s sn sk (some i) none sz fun a1 na1 ka1=>
cnd (((vn:Int):Int)==0) (
R (.returned (.slice s sn sk)) w) (
cnd ((i:Int)==(sn:Int)) (
∃(a2:Option Addr) (na2 ka2:Nat),∃w3:World,u6 P (Builtin.append_ #[tS,tS] tS #[.slice s sn sk,.slice v vn vk]) w (.slice a2 na2 ka2) w3∧
R (.returned (.slice a2 na2 ka2)) w3) (
cnd (decide ((IntKind.i64.wrap ((sn:Int)+(vn:Int)):Int)>(sk:Int))) (
slN s sn sk none (some i) sz fun a4 na4 ka4=>
∃(a5:Option Addr) (na5 ka5:Nat),∃w6:World,u6 P (Builtin.append_ #[tS,tI] tS #[.slice a4 na4 ka4,.int .i64 (IntKind.i64.wrap (IntKind.i64.wrap ((sn:Int)+(vn:Int))-i))]) w (.slice a5 na5 ka5) w6∧
slN a5 na5 ka5 (some i) none sz fun a7 na7 ka7=>
∃x8:Int,∃w9:World,u6 P (Builtin.copy_ #[tS,tS] tI #[.slice a7 na7 ka7,.slice v vn vk]) w6 (.int .i64 x8) w9∧
z2x w9 fun w10=>
slN a5 na5 ka5 (some (IntKind.i64.wrap (i+(vn:Int)))) none sz fun a11 na11 ka11=>
slN s sn sk (some i) none sz fun a12 na12 ka12=>
∃x13:Int,∃w14:World,u6 P (Builtin.copy_ #[tS,tS] tI #[.slice a11 na11 ka11,.slice a12 na12 ka12]) w10 (.int .i64 x13) w14∧
R (.returned (.slice a5 na5 ka5)) w14) (
slN s sn sk none (some (IntKind.i64.wrap ((sn:Int)+(vn:Int)))) sz fun a15 na15 ka15=>
slN a15 na15 ka15 (some (IntKind.i64.wrap (i+(vn:Int)))) none sz fun a16 na16 ka16=>
∃c17:Bool,∃w18:World,Cv.Ext P fO #[.slice v vn vk,.slice a16 na16 ka16] w (.bool c17) w18∧
cnd (!c17) (
z2x w18 fun w19=>
slN a15 na15 ka15 (some (IntKind.i64.wrap (i+(vn:Int)))) none sz fun a20 na20 ka20=>
slN a15 na15 ka15 (some i) none sz fun a21 na21 ka21=>
∃x22:Int,∃w23:World,u6 P (Builtin.copy_ #[tS,tS] tI #[.slice a20 na20 ka20,.slice a21 na21 ka21]) w19 (.int .i64 x22) w23∧
slN a15 na15 ka15 (some i) none sz fun a24 na24 ka24=>
∃x25:Int,∃w26:World,u6 P (Builtin.copy_ #[tS,tS] tI #[.slice a24 na24 ka24,.slice v vn vk]) w23 (.int .i64 x25) w26∧
R (.returned (.slice a15 na15 ka15)) w26) (
slN a15 na15 ka15 (some (sn:Int)) none sz fun a27 na27 ka27=>
∃x28:Int,∃w29:World,u6 P (Builtin.copy_ #[tS,tS] tI #[.slice a27 na27 ka27,.slice v vn vk]) w18 (.int .i64 x28) w29∧
slN a15 na15 ka15 (some i) none sz fun a30 na30 ka30=>
Calls P fR #[.slice a30 na30 ka30,.int .i64 (vn:Int)] w29 fun e32 w31=>e32= .returned (.tuple #[])∧
R (.returned (.slice a15 na15 ka15)) w31))))
theorem z7b {α:Type} {l m:Nat} {xs r ys:List α} (hl:l≤xs.length) (hy:ys.length=m) (hr:m≤r.length):
 ((xs++r).take (l+m)++xs.drop l++(xs++r).drop (l+m+(xs.drop l).length)).take l++ys++((xs++r).take (l+m)++xs.drop l++(xs++r).drop (l+m+(xs.drop l).length)).drop (l+ys.length)=(xs.take l++ys++xs.drop l)++r.drop m:=by
 have e1:(xs++r).drop (l+m+(xs.drop l).length)=r.drop m:=by
  rw[yXg,show l+m+(xs.length-l)=xs.length+m by omega,y1q]
  simp
 have e2:((xs++r).take (l+m)++xs.drop l++r.drop m).take l=xs.take l:=by
  rw[yWo,yXh (by rw[yXd,yWi];omega),List.take_take,y0i (by omega),yXh hl]
 have e3:((xs++r).take (l+m)++xs.drop l++r.drop m).drop (l+ys.length)=xs.drop l++r.drop m:=by
  have:((xs++r).take (l+m)).length=l+m:=by rw[yXd,yWi];omega
  rw[yWo,hy,y1q,this,y2f,yZu,yZz (by omega),yZa]
 rw[e1,e2,e3]
 simp
theorem zQi (A Z Y:List Value):spl (A++Z) A.length Y=A++Y++Z.drop Y.length:=by
 simp only[spl]
 rw[y2t,y1q]
 simp
theorem zFk {b o n c i:Nat} (h:c≠i):(if c=i then(some ⟨b,o,none⟩:Option Addr)else(some ⟨b,o,none⟩:Option Addr).map (·.add n))=some ⟨b,o+n,none⟩:=by
 rw[yWj h,yYk,vM]
def zSd (P:Program) (fO:Nat):Prop:=∀(w:World) (va sb so la ca lb cb:Nat) (c c':Array Value) (T T':TypeId),va≠sb→w.heap[va]?=some (.cells c T (0,0))→w.heap[sb]?=some (.cells c' T' (0,0))→c'.size≠0→
 Cv.Ext P fO #[.slice (some ⟨va,0,none⟩) la ca,.slice (some ⟨sb,so,none⟩) lb cb] w (.bool false) w
theorem yHd {P : Program} {fO tS tB e sz by_ : Nat} {z : Array Value} {fn : Func} (hf : P.funcs[fO]? = some fn) (hname : (fn.name == "runtime.NumGoroutine") = false) (hb : fn.body.isNone = true) (hn : Extern.findNext fn = none) (he : Extern.find fn = some (Extern.SlicesOverlaps.overlaps #[tS, tS] #[tB]))
 (hi:uF P tS=some (e,sz,by_,z)):zSd P fO:=by
 obtain⟨i,zv,q1,q2,rfl,rfl,q5,rfl⟩:=kZ hi
 intro w va sb so la ca lb cb c c' T T' hne h1 h2 h3
 unfold Cv.Ext
 rw[run_callFunc_extern hf hname hb hn he,Lib.run_overlaps_apart w tS tB e q1 i.size (fun w=>Cv.run_sizeOf q2 w) ⟨va,0,none⟩ ⟨sb,so,none⟩ la ca lb cb hne T T' c.size c'.size (by simp[World.shape?,h1]) (by simp[World.shape?,h2]) h3 (by simp[World.frozen?,h1]) (by simp[World.frozen?,h1])]
 rfl
theorem yVq {P:Program} {tS tI e sz by_ fO fR:Nat} {z:Array Value} (hi:uF P tS=some (e,sz,by_,z)) (hz:z.size=sz) (hby:0<by_) (hsz:0<sz) (h2:zYn P tS=true) (hti:P.underlying tI=some (.int .i64)) (hov:zSd P fO)
 {k:Ko} {w:World} {L:List HP} {s v:Option Addr} {sn sk vn vk i:Nat} {xs ys:List Value} (H:Hp k w (slO e sz s sn sk xs::slO e sz v vn vk ys::L)) (h1:∀u∈xs,u.oneC=true) (hy:∀u∈ys,u.oneC=true) (hin:i≤sn) (hv:0<vn)
 (hb:(sn+vn)*by_≤140737488355328):
 yMp P tS tI sz fO fR s sn sk i v vn vk w fun en w'=>∃a kk,en= .returned (.slice a (sn+vn) kk)∧Hp k w' (slO e sz a (sn+vn) kk (xs.take (i*sz)++ys++xs.drop (i*sz))::slO e sz v vn vk ys::L):=by
 obtain⟨hxl,hnk⟩:=H.len
 obtain⟨hyl,hvk⟩:=H.swap.len
 have hnm:sn+vn≤140737488355328:=yZq (Nat.le_mul_of_pos_right _ hby) hb
 have w1:IntKind.i64.wrap ((sn:Int)+(vn:Int))=((sn+vn:Nat):Int):=by rw[Cv.wrap_i64 (by omega) (by omega)];simp
 have w2:IntKind.i64.wrap ((i:Int)+(vn:Int))=((i+vn:Nat):Int):=by rw[Cv.wrap_i64 (by omega) (by omega)];simp
 have w3:IntKind.i64.wrap (((sn+vn:Nat):Int)-(i:Int))=((sn+vn-i:Nat):Int):=by rw[Cv.wrap_i64 (by omega) (by omega)];omega
 have hle:i*sz≤xs.length:=by rw[hxl];exact yXu _ hin
 have htl:(xs.take (i*sz)).length=i*sz:=by rw[yXd];omega
 have hdl:(xs.drop (i*sz)).length=(sn-i)*sz:=by rw[yXg,hxl,Nat.sub_mul]
 have hsum:(i+vn)*sz=i*sz+vn*sz:=yZk _ _ _
 have hsum2:(sn+vn)*sz=i*sz+vn*sz+(sn-i)*sz:=by rw[← yZk,← yZk];congr 1;omega
 have hfin:(xs.take (i*sz)++ys++xs.drop (i*sz)).length=(sn+vn)*sz:=by
  rw[yWi,yWi,htl,hyl,hdl,hsum2]
 unfold yMp
 simp only[slN,w1,w2,w3,yXa]
 refine⟨⟨by omega,by omega,hnk⟩,Cv.cnd.mk (fun c=>absurd c (by simp;omega)) fun _=>Cv.cnd.mk (fun c=> ?_) fun c=>Cv.cnd.mk (fun hc=> ?_) fun hc=> ?_⟩
 ·have c:i=sn:=by have:(i:Int)=(sn:Int):=by simpa using c
                  omega
  subst c
  obtain⟨a',c',w',r1,r2⟩:=H.append (rt:=tS) hi h2 (x:= .slice v vn vk) (m:=vn) (ys:=ys) (.inl ⟨v,vk,rfl,H.swap.satR⟩) hy hz hby hb
  refine⟨a',_,c',w',r1,a',c',rfl,?_⟩
  rw[yWu (by omega),yZz (by omega),yXi]
  exact r2
 ·have c:i<sn:=by have:¬(i:Int)=(sn:Int):=by simpa using c
                  omega
  have hc:sk<sn+vn:=by have:=yYx hc;omega
  obtain⟨inf,zv,q1,q2,q3,q4,q5,q6⟩:=kZ hi
  subst q3 q4 q6
  rcases H.slcases with⟨_,e0,_⟩|⟨b,r,rfl,g1,g2,g3,H0⟩
  ·omega
  rcases H0.swap.slcases with⟨_,e0,_⟩|⟨vb,rv,rfl,g4,g5,g6,H1⟩
  ·omega
  have hold:(Builtin.firstCells inf.size i (.slice (some ⟨b,0,none⟩) i sk)).run P w.drew= .ok (xs.take (i*inf.size)).toArray w.drew:=by
   have hbk:=(H1.drew).swap.get
   have:=uN (P:=P) (o:=0) (n:=i*inf.size) hbk (by rw[yWi];omega)
   unfold Builtin.firstCells
   rw[this,yZu,yXh hle]
  have hfit2:=zLh (need:=sn+vn) (cap:=sk) (by omega)
  have hfit3:=yXu inf.bytes hfit2
  have e2:2*(sn+vn)*inf.bytes=2*((sn+vn)*inf.bytes):=by rw[Nat.mul_assoc]
  have hkb:(sn+vn-i)*inf.bytes≤(sn+vn)*inf.bytes:=yXu _ (by omega)
  have hgr:=Lib.run_append_grow_zeros (P:=P) w tS tI tS e inf zv .i64 .i64 q1 hti q2 q5 (some ⟨b,0,none⟩) i sk (xs.take (i*inf.size)) hold (sn+vn-i) (by omega) hsz (by omega) (by omega) (by omega) (by rw[show i+(sn+vn-i)=sn+vn by omega];omega)
  rw[show i+(sn+vn-i)=sn+vn by omega]at hgr
  have hG:sn+vn≤grownCap w (sn+vn) sk e:=grownCap_ge w (sn+vn) sk e
  generalize grownCap w (sn+vn) sk e=G at hgr hG
  have harr:(xs.take (i*inf.size)).toArray++Builtin.zeroCells zv.cells (sn+vn-i)++Builtin.zeroCells zv.cells (G-(sn+vn))=(xs.take (i*inf.size)++((Builtin.zeroCells zv.cells (sn+vn-i)).toList++(Builtin.zeroCells zv.cells (G-(sn+vn))).toList)).toArray:=by
   apply Array.ext';simp
  rw[harr]at hgr
  have hZl:((Builtin.zeroCells zv.cells (sn+vn-i)).toList++(Builtin.zeroCells zv.cells (G-(sn+vn))).toList).length=(sn+vn-i)*inf.size+(G-(sn+vn))*inf.size:=by
   rw[yWi,y1n,y1n,size_zeroCells,size_zeroCells,hz]
  generalize (Builtin.zeroCells zv.cells (sn+vn-i)).toList++(Builtin.zeroCells zv.cells (G-(sn+vn))).toList=Z at hgr hZl
  have hZ2:(sn+vn-i)*inf.size=vn*inf.size+(sn-i)*inf.size:=by rw[← yZk];congr 1;omega
  have H2:=(H1.drew).new (.cells (xs.take (i*inf.size)++Z).toArray e)
  have hB:w.drew.heap.size=w.heap.size:=rfl
  rw[hB]at H2
  have hc1:=eI (P:=P) (sT:=tS) (ty:=tI) hi (g:=w.heap.size) (o:=0+i*inf.size) (dLen:=sn+vn-i) (dCap:=G-i) (b:=vb) (so:=0) (sLen:=vn) (sCap:=vk) (n:=vn) H2.get H2.swap.get (y0i (by omega)) (by rw[yWi];omega) (by rw[yWi,htl,hZl];omega) (by
   rw[yZu,yXh (by omega),yWu (by omega)];exact hy)
  rw[yZu,yXh (by omega),yWu (show ys.length≤vn*inf.size by omega),yXk]at hc1
  have es1:spl (xs.take (i*inf.size)++Z) (i*inf.size) ys=xs.take (i*inf.size)++ys++Z.drop ys.length:=by
   have:=zQi (xs.take (i*inf.size)) Z ys
   rwa [htl]at this
  rw[es1]at hc1
  have H3:=(H2.upd (.cells (xs.take (i*inf.size)++ys++Z.drop ys.length).toArray e)).drew
  have hg4:(xs++r).drop (i*inf.size)=xs.drop (i*inf.size)++r:=yYr hle
  have hc2:=eI (P:=P) (sT:=tS) (ty:=tI) hi (g:=w.heap.size) (o:=0+(i+vn)*inf.size) (dLen:=sn+vn-(i+vn)) (dCap:=G-(i+vn)) (b:=b) (so:=0+i*inf.size) (sLen:=sn-i) (sCap:=sk-i) (n:=sn-i) H3.get H3.swap.drop.swap.get (y0i (by omega)) (by rw[yWi,hxl,yXk,← yZk];exact yZq (yXu _ (by omega)) (Nat.le_add_right _ _)) (by
   rw[yWi,yWi,htl,hyl,yXg,hZl];omega) (by
   rw[yXk,hg4,yXh (by omega),yWu (by omega)]
   exact fun u hu=>h1 u (y0e hu))
  rw[yXk,yXk,hg4,yXh (by omega),yWu (show(xs.drop (i*inf.size)).length≤(sn-i)*inf.size by omega)]at hc2
  have es2:spl (xs.take (i*inf.size)++ys++Z.drop ys.length) ((i+vn)*inf.size) (xs.drop (i*inf.size))=xs.take (i*inf.size)++ys++xs.drop (i*inf.size)++(Z.drop ys.length).drop (xs.drop (i*inf.size)).length:=by
   have:=zQi (xs.take (i*inf.size)++ys) (Z.drop ys.length) (xs.drop (i*inf.size))
   rwa [show(xs.take (i*inf.size)++ys).length=(i+vn)*inf.size by rw[yWi,htl,hyl,hsum]]at this
  rw[es2]at hc2
  refine⟨⟨by omega,by omega⟩,_,_,_,_,hgr,?_⟩
  rw[zFk (show G≠i by omega),yXk]
  refine⟨⟨by omega,by omega,hG⟩,_,_,hc1,?_⟩
  rintro _ rfl
  rw[zFk (show G≠i+vn by omega),zFk (show sk≠i by omega),yXk,yXk]
  refine⟨⟨by omega,by omega,hG⟩,⟨by omega,by omega,hnk⟩,_,_,hc2,_,_,rfl,?_⟩
  have H4:=H3.upd (.cells (xs.take (i*inf.size)++ys++xs.drop (i*inf.size)++(Z.drop ys.length).drop (xs.drop (i*inf.size)).length).toArray e)
  have H5:=H4.slmk (n:=sn+vn) (c:=G) (sz:=inf.size) hfin (by
   rw[yWi,hfin,yXg,yXg,hZl,hyl,hdl]
   have:G*inf.size=(sn+vn)*inf.size+(G-(sn+vn))*inf.size:=by rw[← yZk];congr 1;omega
   omega) hG
  have H6:=H5.swap.slmk (n:=vn) (c:=vk) (sz:=inf.size) g4 g5 g6
  exact(H6.swap.perm (List.Perm.trans ((List.Perm.swap _ _ _).cons _) (List.Perm.swap _ _ _))).drop
 ·have c:i<sn:=by have:¬(i:Int)=(sn:Int):=by simpa using c
                  omega
  have hc:sn+vn≤sk:=by have:=y0z hc;omega
  rcases H.slcases with⟨_,e0,_⟩|⟨b,r,rfl,g1,g2,g3,H0⟩
  ·omega
  rcases H0.swap.slcases with⟨_,e0,_⟩|⟨vb,rv,rfl,g4,g5,g6,H1⟩
  ·omega
  have hrl:vn*sz≤r.length:=by
   have e1:(sn+vn)*sz≤sk*sz:=yXu _ hc
   rw[yWi,g1]at g2
   rw[yZk]at e1
   omega
  have H2:=H1.swap
  have hne:vb≠b:=Hp.apart H1
  have hg4:(xs++r).drop (i*sz)=xs.drop (i*sz)++r:=yYr hle
  have hex:=hov w vb b (0+(i+vn)*sz) vn vk (sn+vn-(i+vn)) (sk-(i+vn)) (ys++rv).toArray (xs++r).toArray e e hne H1.get H2.get (by
   rw[y0q,yWi,g1]
   have:=Nat.mul_pos (show 0<sn by omega) hsz
   omega)
  have H3:=H2.drew
  have hc1:=eI (P:=P) (sT:=tS) (ty:=tI) hi (g:=b) (o:=0+(i+vn)*sz) (dLen:=sn+vn-(i+vn)) (dCap:=sk-(i+vn)) (b:=b) (so:=0+i*sz) (sLen:=sn+vn-i) (sCap:=sk-i) (n:=sn-i) H3.get H3.get (by rw[show sn+vn-(i+vn)=sn-i by omega];exact Nat.min_eq_right (by omega)) (by
   rw[yWi,g1,yXk,← yZk];exact yZq (yXu _ (by omega)) (Nat.le_add_right _ _)) (by
   rw[yWi,g1,yXk,← yZk,show i+vn+(sn-i)=sn+vn by omega,yZk];omega) (by
   rw[yXk,hg4,yXh (by omega),yWu (by omega)]
   exact fun u hu=>h1 u (y0e hu))
  rw[yXk,yXk,hg4,yXh (by omega),yWu (show(xs.drop (i*sz)).length≤(sn-i)*sz by omega)]at hc1
  have H4:=H3.upd (.cells (spl (xs++r) ((i+vn)*sz) (xs.drop (i*sz))).toArray e)
  have hcl:(spl (xs++r) ((i+vn)*sz) (xs.drop (i*sz))).length=(xs++r).length:=by
   simp only[spl,yWi,yXd,hdl]
   rw[yXg,yWi,g1,hsum]
   have:sn*sz=i*sz+(sn-i)*sz:=by rw[← yZk];congr 1;omega
   omega
  have hc2:=eI (P:=P) (sT:=tS) (ty:=tI) hi (g:=b) (o:=0+i*sz) (dLen:=sn+vn-i) (dCap:=sk-i) (b:=vb) (so:=0) (sLen:=vn) (sCap:=vk) (n:=vn) H4.get H4.swap.get (y0i (by omega)) (by rw[yWi];omega) (by
   rw[hcl,yWi,yXk];omega) (by
   rw[yZu,yXh (by omega),yWu (by omega)];exact hy)
  rw[yZu,yXh (by omega),yWu (show ys.length≤vn*sz by omega),yXk]at hc2
  have es:spl (spl (xs++r) ((i+vn)*sz) (xs.drop (i*sz))) (i*sz) ys=(xs.take (i*sz)++ys++xs.drop (i*sz))++r.drop (vn*sz):=by
   have:=z7b (l:=i*sz) (m:=vn*sz) (xs:=xs) (r:=r) (ys:=ys) hle hyl hrl
   simp only[spl,hsum]
   exact this
  rw[es]at hc2
  refine⟨⟨by omega,by omega⟩,⟨by omega,by omega,by omega⟩,false,w,?_,Cv.cnd.mk (fun _=> ?_) (fun c=>absurd c (by decide))⟩
  ·rw[zFk (show sk≠i+vn by omega)];exact hex
  rintro _ rfl
  rw[zFk (show sk≠i+vn by omega),zFk (show sk≠i by omega),yXk,yXk]
  refine⟨⟨by omega,by omega,by omega⟩,⟨by omega,by omega,by omega⟩,_,_,hc1,⟨by omega,by omega,by omega⟩,_,_,hc2,_,_,rfl,?_⟩
  have H5:=H4.upd (.cells (xs.take (i*sz)++ys++xs.drop (i*sz)++r.drop (vn*sz)).toArray e)
  have H6:=H5.slmk (n:=sn+vn) (c:=sk) (sz:=sz) hfin (by
   rw[yWi,hfin,yXg,← g2,yWi,g1,yZk]
   omega) hc
  exact(H6.swap.slmk (n:=vn) (c:=vk) (sz:=sz) g4 g5 g6).swap
structure z5r where
 els:List (List D)
 el:List D
 i:Nat
def yHq (e sz by_:Nat):Con where
 ι:=z5r
 pat:=fun i=>[.own 0,.d (.v (.int .i64 i.i)),.own 1]
 pre:=fun i=>[.own e sz i.els,.own e sz [i.el]]
 cnd:=fun i=>i.i≤i.els.length∧(i.els.length+1)*by_≤140737488355328
 alts:=fun i=>[{o:=Unit,res:=fun _=> .own 2,post:=fun _=>[.gone,.gone,.own e sz (i.els.take i.i++i.el::i.els.drop i.i)],rel:=fun _=>True}]
theorem insX_ok {P:Program} (hm:P.follows .mixedOrders=true) {tS tI e sz by_ fI fO fR:Nat} {z:Array Value} {fn:Func} {c:Code} (hf:P.funcs[fI]? =some fn) (hb:fn.body=some c) (hbd:uB P fI=true) (hok:okC fn.ntmps c=true) (hfx:okF [] c=true) (hsz3:Nat.ble 3 fn.ntmps=true)
 (hi:uF P tS=some (e,sz,by_,z)) (hz:z.size=sz) (hby:0<by_) (hsz:0<sz) (h2:zYn P tS=true) (hti:P.underlying tI=some (.int .i64)) (hov:zSd P fO)
 (heq:∀(s:Option Addr) (sn sk:Nat) (i:Int) (v:Option Addr) (vn vk:Nat) (w:World) (R:Ending→World→Prop),yMp P tS tI sz fO fR s sn sk i v vn vk w R=cwp P [] c (zSp P fn R) (qJ [.slice s sn sk,.int .i64 i,.slice v vn vk]) w):
 (yHq e sz by_).ok P fI:=by
 intro i hc k L E w ys R hv
 obtain⟨c1,c2⟩:i.i≤i.els.length∧(i.els.length+1)*by_≤140737488355328:=hc
 simp only[yHq,VRL,VR,DR]at hv
 obtain⟨y0,_,rfl,⟨l0,e0,_⟩,y1,_,rfl,⟨rfl,_⟩,y2,_,rfl,⟨l2,e2,_⟩,rfl⟩:=hv
 obtain⟨s,sk,xs,sub0,g1,hxs,hu,H⟩:=R.ownOpen (n:=0) (t:=e) (sz:=sz) (els:=i.els) rfl
 rw[e0]at g1;cases g1
 have hk2:∃v vk zs,y2= .slice v 1 vk∧DRL E.F i.el zs∧i.el.length=sz∧Hp k w (slO e sz s i.els.length sk xs::slO e sz v 1 vk zs::fz E.F::L):=by
  obtain⟨hk,hs,hh⟩:=H
  cases hh with
  |cons ha hsub hd hr=>
   simp only[yHq,uZ,jZ,yWz,y0h,yYd,yZa]at hr
   cases hr with
   |cons hb2 hsub2 hd2 hr2=>
    rcases hb2 with⟨q,_⟩|⟨⟨hv2,sub2⟩,q1,q2⟩
    ·cases q
    ·simp only at q1
     rw[e2]at q1;cases q1
     simp only[rowHP]at q2
     obtain⟨a,kk,zs,rfl,q3,q4,q5⟩:=q2
     simp only[yYs,List.flatten_nil,yXi]at q3
     exact⟨a,kk,zs,rfl,q3,q4 _ yWp,hk,_,.cons ha hsub hd (.cons q5 hsub2 hd2 hr2)⟩
 obtain⟨v,vk,zs,rfl,hzs,hel,H2⟩:=hk2
 have hv:=yVq (fR:=fR) (fO:=fO) hi hz hby hsz h2 hti hov (i:=i.i) H2 hxs.one hzs.one c1 (by omega) c2
 have hcall:=zFz (args:=[.slice s i.els.length sk,.int .i64 i.i,.slice v 1 vk]) hm hf hb [] hok hfx hsz3 (heq s i.els.length sk i.i v 1 vk w _) hv
 refine lY hbd (hcall.mono ?_)
 rintro en w' ⟨a,kk,rfl,H3⟩
 have H4:Hp k w' (slO e sz a (i.els.take i.i++i.el::i.els.drop i.i).length kk (xs.take (i.i*sz)++zs++xs.drop (i.i*sz))::(([]:List (Nat×AObj)).map (rHP E)++fz E.F::L)):=by
  have:(i.els.take i.i++i.el::i.els.drop i.i).length=i.els.length+1:=by
   rw[yWi,yWr,yXd,yXg];omega
  rw[this]
  exact H3.swap.drop
 obtain⟨E',r1,r2,r3⟩:=cS (nx:=2) R.nx (by
  rw[List.flatten_append,yYs,← a8 i.i hu,← aX i.i hu,← yWo]
  exact((hxs.take _).append hzs).append (hxs.drop _)) (fun x hx=>by
   rcases yXo.1 hx with hx|hx
   ·exact hu x (y1h hx)
   ·rcases yXe.1 hx with rfl|hx
    ·exact hel
    ·exact hu x (y0e hx)) H4
 have hl:(i.els.take i.i++i.el::i.els.drop i.i).length=i.els.length+1:=by
  rw[yWi,yWr,yXd,yXg];omega
 rw[hl]at r3
 refine⟨_,rfl,_,yYc.2 rfl,(),trivial,E',r1,r3,⟨r2.nx,?_⟩⟩
 have q1:=((@vC k w' True _).2 ⟨trivial,r2.hp⟩).imp (B:=rHP E' (1,.gone)) fun x hx=> .inl ⟨rfl,hx.2⟩
 have q2:=((@vC k w' True _).2 ⟨trivial,q1⟩).imp (B:=rHP E' (0,.gone)) fun x hx=> .inl ⟨rfl,hx.2⟩
 exact q2
open Go Cv Go.Proofs
def bbetterC:Con:=con1 I3' (fun i=>[zA i.side,zA i.x,zA i.y]) (fun _=>[]) (fun _=>True) (fun i=>yF (btr i.side i.x i.y)) (fun _=>[])
@[reducible] def yTa (s:Slot):V:= .agg [yF s.used,zA s.n,zA s.id,zA s.qty,yF s.top,zA s.queue,zA s.ahead,zA s.back]
def pushFC:Con:=con1 Slot (fun s=>[yTa s]) (fun _=>[]) (fun _=>True) (fun s=>yF (!s.used)) (fun _=>[])
def kJ (l:List Slot):Int:=zFw (l.findIdx? fun s=> !s.used)
def idxSlotC:Con:=con1 (List Slot) (fun _=>[.own 0,.fn 293 [] []]) (fun l=>[.own 362 8 (l.map zP)]) (fun l=>l.length≤1000000) (fun l=>zA (kJ l)) (fun l=>[.own 362 8 (l.map zP)])
def yCr (l:List Slot):List SAnn:=[{ι:=Nat,slots:=fun j=>[(8,zA j)],rows:=fun _=>[]}]
def bR:dL:=⟨-1,-1,0,0⟩
def Arena.openQ (a:Arena):Arena:={a with queues:=a.queues++[bR]}
def aopenC:Con:=con1 Arena (fun _=>[.nm 0 0]) (fun a=>[jL a]) (fun a=>a.queues.length≤1000000) (fun a=>zA a.queues.length) (fun a=>[jL a.openQ])
structure z5g where
 a:Arena
 n:Int
 t:Bool
def Arena.usedAt (a:Arena) (n:Int):Bool:=decide (0≤n) && (decide (n<a.slots.length) && (a.slots.getD n.toNat slot0).used)
def Arena.topF (a:Arena) (n:Int) (t:Bool):Arena:=if a.usedAt n=true then{a with slots:=a.slots.modify n.toNat fun s=>{s with top:=t}}else a
def atopC:Con:=con1 z5g (fun i=>[.nm 0 0,zA i.n,yF i.t]) (fun i=>[jL i.a]) (fun i=>i.a.slots.length≤1000000) (fun i=>zA (if i.a.usedAt i.n=true then 0 else 26)) (fun i=>[jL (i.a.topF i.n i.t)])
structure PuI where
 a:Arena
 n:Int
 id:Int
 qty:Int
 top:Bool
def Arena.put (a:Arena) (n id qty:Int) (top:Bool):Arena:=
 let q:=a.queues.getD n.toNat bR
 let k:=kJ a.slots
 let sl:=a.slots.set k.toNat ⟨true,k,id,qty,top,n,q.last,-1⟩
 ⟨if q.last= -1 then sl else sl.modify q.last.toNat fun s=>{s with back:=k},a.queues.set n.toNat ⟨if q.last= -1 then k else q.first,k,IntKind.i64.wrap (q.total+qty),IntKind.i64.wrap (q.count+1)⟩,IntKind.i64.wrap (a.free-1)⟩
def Arena.push (a:Arena) (n id qty:Int) (top:Bool):Arena×Int×Int:=
 if n<0∨a.queues.length≤n then(a,0,26)else if qty<1∨1000000<qty then(a,0,24)else if a.free=0 then(a,0,13)else(a.put n id qty top,kJ a.slots,0)
def Arena.fit (a:Arena):Prop:=a.slots.length≤1000000∧(a.free≠0→∃s∈a.slots,s.used=false)∧∀q∈a.queues,q.last= -1∨(0≤q.last∧q.last<a.slots.length)
def apushC:Con:=con1 PuI (fun i=>[.nm 0 0,zA i.n,zA i.id,zA i.qty,yF i.top]) (fun i=>[jL i.a]) (fun i=>i.a.fit) (fun i=> .tup [zA (i.a.push i.n i.id i.qty i.top).2.1,zA (i.a.push i.n i.id i.qty i.top).2.2]) (fun i=>[jL (i.a.push i.n i.id i.qty i.top).1])
@[reducible] def zGm (b:Book):List AObj:=[zQ b 0,zQ b 1,zQ b 2,zQ b 3,zQ b 4,zQ b 5]
structure BkP where
 b:Book
 price:Int
def zW (s:Int) (l:List xH) (price:Int):Nat:=(l.takeWhile fun r=>btr s r.price price).length
def kH (s:Int) (l:List xH) (price:Int):Bool:=match l[zW s l price]? with
 |some r=>decide (r.price=price)
 |none=>false
def Book.rungs (b:Book) (s:Int):List xH:=if s=1 then b.buys else b.sells
def yDc (s:Int):Con:=con1 BkP (fun i=>[.nm 0 0,zA s,zA i.price]) (fun i=>zGm i.b) (fun i=>i.b.small) (fun i=> .tup [zA (zW s (i.b.rungs s) i.price),yF (kH s (i.b.rungs s) i.price)]) (fun i=>zGm i.b)
def find1C:Con:=yDc 1
def find2C:Con:=yDc 2
def yIy:List SAnn:=[{ι:=Nat,slots:=fun j=>[(9,zA j)],rows:=fun _=>[]}]
def pget (l:List (Int×Place)) (k:Int):Option Place:=(l.find? fun x=>decide (x.1=k)).map (·.2)
def pE (k:Int) (v:Place):List (Int×Place)→List (Int×Place)
 |[]=>[(k,v)]
 |(a,b)::l=>if k=a then(a,v)::l else(a,b)::pE k v l
structure LdI where
 b:Book
 id:Int
def Book.hasF (b:Book) (s:Int):Bool:=if s=1 then b.has1 else b.has2
def Book.topI (b:Book) (s:Int):Int:=if s=1 then b.top1 else b.top2
def Book.untop (b:Book) (s:Int):Arena:=if b.hasF s=true then(match pget b.at_ (b.topI s)with
 |some o=>if o.side=s then b.a.topF o.slot false else b.a
 |none=>b.a)else b.a
def Book.leadF (b:Book) (id s:Int):Book:=if s=1 then{b with a:=b.untop s,top1:=id,has1:=true}else{b with a:=b.untop s,top2:=id,has2:=true}
def z7s (s:Int):Con:=con1 LdI (fun i=>[.nm 0 0,zA i.id,zA s]) (fun i=>zGm i.b) (fun i=>i.b.small) (fun _=>zBo) (fun i=>zGm (i.b.leadF i.id s))
def lead1C:Con:=z7s 1
def lead2C:Con:=z7s 2
def Book.newQ (b:Book):Int×List Int×Arena:=if b.spare.length=0 then(b.a.queues.length,b.spare,b.a.openQ)else(b.spare.getD (b.spare.length-1) 0,b.spare.take (b.spare.length-1),b.a)
def Book.ins (b:Book) (s price:Int):List xH:=(b.rungs s).take (zW s (b.rungs s) price)++⟨price,b.newQ.1⟩::(b.rungs s).drop (zW s (b.rungs s) price)
def Book.queueF (b:Book) (s price:Int):Book×Int:=
 if kH s (b.rungs s) price=true then(b,((b.rungs s).getD (zW s (b.rungs s) price) ⟨0,0⟩).queue)
 else(if s=1 then{b with a:=b.newQ.2.2,buys:=b.ins s price,spare:=b.newQ.2.1}else{b with a:=b.newQ.2.2,sells:=b.ins s price,spare:=b.newQ.2.1},b.newQ.1)
def yEi (b:Book):AObj:= .cells [.nm 1 0,.own 6,.own 3,.mp 4,zA b.top1,zA b.top2,.own 7,yF b.has1,yF b.has2] 299
def yIu (b:Book):AObj:= .cells [.nm 1 0,.own 2,.own 6,.mp 4,zA b.top1,zA b.top2,.own 7,yF b.has1,yF b.has2] 299
@[reducible] def yLk (b:Book):List AObj:=[yEi b,zQ b 1,.gone,zQ b 3,zQ b 4,.gone,zQ b 2,zQ b 5]
@[reducible] def yOe (b:Book):List AObj:=[yIu b,zQ b 1,zQ b 2,.gone,zQ b 4,.gone,zQ b 3,zQ b 5]
@[reducible] def Book.fit (b:Book):Prop:=b.a.fit∧b.a.queues.length≤100000∧b.buys.length≤100000∧b.sells.length≤100000∧b.spare.length≤100000
def queue1C:Con:=con1 BkP (fun i=>[.nm 0 0,zA 1,zA i.price]) (fun i=>zGm i.b) (fun i=>i.b.fit) (fun i=>zA (i.b.queueF 1 i.price).2) (fun i=>yLk (i.b.queueF 1 i.price).1)
def queue2C:Con:=con1 BkP (fun i=>[.nm 0 0,zA 2,zA i.price]) (fun i=>zGm i.b) (fun i=>i.b.fit) (fun i=>zA (i.b.queueF 2 i.price).2) (fun i=>yOe (i.b.queueF 2 i.price).1)
def insRC:Con:=yHq 304 2 16
open Go Cv Go.Proofs
def zWd (i:I3'):Prop:=
 cnd (i.side==1) (∃(a:Unit),btr i.side i.x i.y=decide (i.x>i.y)∧True) (∃(a:Unit),btr i.side i.x i.y=decide (i.x<i.y)∧True)
def yAd (s:Slot):Prop:=
 ∃(a:Unit),(!s.used)=!s.used∧True
def zWv (l:List Slot):Prop:=
 ∃(a:Nat),(↑a:Int)=0∧∃(b:Nat→Prop),∃(c:Nat→Nat),b a∧∀(d:Nat),b d→cnd (decide ((↑d:Int)<(↑(List.map zP l).length:Int))) ((0≤(↑d:Int)∧(↑d:Int)<(↑(List.map zP l).length:Int))∧∃(e:Bool),∃(f:Int),∃(g:Int),∃(h:Int),∃(j:Bool),∃(k:Int),∃(m:Int),∃(n:Int),zE (List.map zP l) (↑d:Int).toNat 0 8=some [D.v (.bool e),dI f,dI g,dI h,D.v (.bool j),dI k,dI m,dI n]∧∃(p:Slot),p.used=e∧p.n=f∧p.id=g∧p.qty=h∧p.top=j∧p.queue=k∧p.ahead=m∧p.back=n∧True∧∀(q:Unit),True→cnd (!p.used) (∃(r:Unit),kJ l=(↑d:Int)∧List.map zP l=List.map zP l∧True) (∃(r:Nat),(↑r:Int)=IntKind.i64.wrap ((↑d:Int)+1)∧b r∧c r<c d∧AObj.own 362 8 (List.map zP l)=AObj.own 362 8 (List.map zP l))) (∃(e:Unit),kJ l=(-1)∧List.map zP l=List.map zP l∧True)
def yAq (a:Arena):Prop:=
 ((List.map zO a.queues).length+1)*(32:Nat)≤(140737488355328:Nat)∧∃(b:Unit),(↑a.queues.length:Int)=IntKind.i64.wrap ((↑(List.map zO a.queues++[[dI (-1),dI (-1),dI 0,dI 0]]).length:Int)-1)∧a.free=a.free∧List.map zP a.slots=List.map zP a.slots∧List.map zO (a.queues++[bR])=List.map zO a.queues++[[dI (-1),dI (-1),dI 0,dI 0]]∧True
def eJ (a:z5g):Prop:=∃(b:Unit),(if a.a.usedAt a.n=true then(0:Int)else(26:Int))=26∧(a.a.topF a.n a.t).free=a.a.free∧List.map zP (a.a.topF a.n a.t).slots=List.map zP a.a.slots∧List.map zO (a.a.topF a.n a.t).queues=List.map zO a.a.queues∧True
def yKz (i:z5g):Prop:=
 cnd (decide (i.n<0)) (eJ i) (cnd (decide (i.n≥(↑(List.map zP i.a.slots).length:Int))) (eJ i) ((0≤i.n∧i.n<(↑(List.map zP i.a.slots).length:Int))∧∃(a:Bool),zE (List.map zP i.a.slots) i.n.toNat ((0:Nat)+(0:Nat)) 1=some [D.v (.bool a)]∧cnd (!a) (eJ i) ((0≤i.n∧i.n<(↑(List.map zP i.a.slots).length:Int))∧i.n.toNat<(List.map zP i.a.slots).length∧∃(b:Unit),(if i.a.usedAt i.n=true then(0:Int)else(26:Int))=0∧(i.a.topF i.n i.t).free=i.a.free∧List.map zP (i.a.topF i.n i.t).slots=zT (List.map zP i.a.slots) i.n.toNat ((0:Nat)+(1:Nat)+3) [D.v (.bool i.t)]∧List.map zO (i.a.topF i.n i.t).queues=List.map zO i.a.queues∧True)))
def yK (a:PuI):=(a.a.push a.n a.id a.qty a.top)
def nW (a:PuI):Prop:=(yK a).fst.free=a.a.free∧List.map zP (yK a).fst.slots=List.map zP a.a.slots∧List.map zO (yK a).fst.queues=List.map zO a.a.queues∧True
def zDq (a:PuI):Prop:=∃(b:Unit),(yK a).snd.fst=0∧(yK a).snd.snd=26∧nW a
def lZ (a:PuI):Prop:=∃(b:Unit),(yK a).snd.fst=0∧(yK a).snd.snd=24∧nW a
def mZ (a:PuI) (b:List Slot):=(zT (zT (List.map zO a.a.queues) a.n.toNat ((0:Nat)+(0:Nat)) [dI (kJ b)]) a.n.toNat ((0:Nat)+(1:Nat)) [dI (kJ b)])
def nF (a:PuI) (b:List Slot) (c:Int):=(zT (mZ a b) a.n.toNat ((0:Nat)+(2:Nat)) [dI (IntKind.i64.wrap (c+a.qty))])
def nI (a:PuI) (b:List Slot):=(zT (List.map zO a.a.queues) a.n.toNat ((0:Nat)+(1:Nat)) [dI (kJ b)])
def nJ (a:PuI) (b:List Slot) (c:Int):=(zT (nI a b) a.n.toNat ((0:Nat)+(2:Nat)) [dI (IntKind.i64.wrap (c+a.qty))])
def yDw (i:PuI):Prop:=
 cnd (decide (i.n≥0)) (cnd (!decide (i.n<(↑(List.map zO i.a.queues).length:Int))) (zDq i) (cnd (decide (i.qty<1)) (lZ i) (cnd (decide (i.qty>1000000)) (lZ i) (cnd (i.a.free==0) (∃(a:Unit),(yK i).snd.fst=0∧(yK i).snd.snd=13∧nW i) (∃(a:List Slot),List.map zP a=List.map zP i.a.slots∧a.length≤1000000∧∀(b:Unit),True→(0≤i.n∧i.n<(↑(List.map zO i.a.queues).length:Int))∧∃(c:Int),zE (List.map zO i.a.queues) i.n.toNat ((0:Nat)+(1:Nat)) 1=some [dI c]∧(0≤kJ a∧kJ a<(↑(List.map zP a).length:Int))∧(kJ a).toNat<(List.map zP a).length∧∃(d:Int),zE (List.map zO i.a.queues) i.n.toNat ((0:Nat)+(1:Nat)) 1=some [dI d]∧cnd (d==(-1)) (i.n.toNat<(List.map zO i.a.queues).length∧i.n.toNat<(zT (List.map zO i.a.queues) i.n.toNat ((0:Nat)+(0:Nat)) [dI (kJ a)]).length∧∃(e:Int),zE (mZ i a) i.n.toNat ((0:Nat)+(2:Nat)) 1=some [dI e]∧i.n.toNat<(mZ i a).length∧∃(f:Int),zE (nF i a e) i.n.toNat ((0:Nat)+(3:Nat)) 1=some [dI f]∧i.n.toNat<(nF i a e).length∧∃(g:Unit),(yK i).snd.fst=kJ a∧(yK i).snd.snd=0∧(yK i).fst.free=IntKind.i64.wrap (i.a.free-1)∧List.map zP (yK i).fst.slots=zT (List.map zP a) (kJ a).toNat 0 [D.v (.bool true),dI (kJ a),dI i.id,dI i.qty,D.v (.bool i.top),dI i.n,dI c,dI (-1)]∧List.map zO (yK i).fst.queues=zT (nF i a e) i.n.toNat ((0:Nat)+(3:Nat)) [dI (IntKind.i64.wrap (f+1))]∧True) (∃(e:Int),zE (List.map zO i.a.queues) i.n.toNat ((0:Nat)+(1:Nat)) 1=some [dI e]∧(0≤e∧e<(↑(zT (List.map zP a) (kJ a).toNat 0 [D.v (.bool true),dI (kJ a),dI i.id,dI i.qty,D.v (.bool i.top),dI i.n,dI c,dI (-1)]).length:Int))∧e.toNat<(zT (List.map zP a) (kJ a).toNat 0 [D.v (.bool true),dI (kJ a),dI i.id,dI i.qty,D.v (.bool i.top),dI i.n,dI c,dI (-1)]).length∧i.n.toNat<(List.map zO i.a.queues).length∧∃(f:Int),zE (nI i a) i.n.toNat ((0:Nat)+(2:Nat)) 1=some [dI f]∧i.n.toNat<(nI i a).length∧∃(g:Int),zE (nJ i a f) i.n.toNat ((0:Nat)+(3:Nat)) 1=some [dI g]∧i.n.toNat<(nJ i a f).length∧∃(h:Unit),(yK i).snd.fst=kJ a∧(yK i).snd.snd=0∧(yK i).fst.free=IntKind.i64.wrap (i.a.free-1)∧List.map zP (yK i).fst.slots=zT (zT (List.map zP a) (kJ a).toNat 0 [D.v (.bool true),dI (kJ a),dI i.id,dI i.qty,D.v (.bool i.top),dI i.n,dI c,dI (-1)]) e.toNat ((0:Nat)+(7:Nat)) [dI (kJ a)]∧List.map zO (yK i).fst.queues=zT (nJ i a f) i.n.toNat ((0:Nat)+(3:Nat)) [dI (IntKind.i64.wrap (g+1))]∧True)))))) (zDq i)
def xO (a:BkP):=(↑(zW 1 (a.b.rungs 1) a.price):Int)
def vG (a:BkP):=(↑(List.map zB a.b.buys).length:Int)
def fG (a:BkP):Prop:=a.b.top1=a.b.top1∧a.b.top2=a.b.top2∧a.b.has1=a.b.has1∧a.b.has2=a.b.has2∧AObj.adt Arena 3 zF a.b.a=zQ a.b 1∧List.map zB a.b.buys=List.map zB a.b.buys∧List.map zB a.b.sells=List.map zB a.b.sells∧atE a.b.at_=atE a.b.at_∧iE a.b.spare=iE a.b.spare∧True
def zEh (a:Nat) (b:BkP):Prop:=(0≤(↑a:Int)∧(↑a:Int)<(vG b))∧∃(c:Int),zE (List.map zB b.b.buys) (↑a:Int).toNat ((0:Nat)+(0:Nat)) 1=some [dI c]∧∃(d:Unit),(xO b)=(↑a:Int)∧kH 1 (b.b.rungs 1) b.price=(c==b.price)∧fG b
def zFl (a:BkP) (b:Nat):Prop:=∃(c:Unit),(xO a)=(↑b:Int)∧kH 1 (a.b.rungs 1) a.price=false∧fG a
def nC (a:Nat) (b:Nat→Prop) (c:Nat→Nat) (d:BkP):Prop:=∃(e:Nat),(↑e:Int)=IntKind.i64.wrap ((↑a:Int)+1)∧b e∧c e<c a∧zQ d.b 0=zQ d.b 0∧zQ d.b 1=zQ d.b 1∧zQ d.b 2=zQ d.b 2∧zQ d.b 3=zQ d.b 3∧zQ d.b 4=zQ d.b 4∧zQ d.b 5=zQ d.b 5
def pN (a:Nat) (b:BkP):=(decide ((↑a:Int)<(vG b)))
def yDm (i:BkP):Prop:=
 ∃(a:Nat),(↑a:Int)=0∧∃(b:Nat→Prop),∃(c:Nat→Nat),b a∧∀(d:Nat),b d→cnd (pN d i) ((0≤(↑d:Int)∧(↑d:Int)<(vG i))∧∃(e:Int),zE (List.map zB i.b.buys) (↑d:Int).toNat ((0:Nat)+(0:Nat)) 1=some [dI e]∧∃(f:I3'),f.side=1∧f.x=e∧f.y=i.price∧True∧∀(g:Unit),True→cnd (btr f.side f.x f.y) (nC d b c i) (cnd (pN d i) (zEh d i) (zFl i d))) (cnd (pN d i) (zEh d i) (zFl i d))
def xP (a:BkP):=(↑(zW 2 (a.b.rungs 2) a.price):Int)
def vD (a:BkP):=(↑(List.map zB a.b.sells).length:Int)
def zDs (a:Nat) (b:BkP):Prop:=(0≤(↑a:Int)∧(↑a:Int)<(vD b))∧∃(c:Int),zE (List.map zB b.b.sells) (↑a:Int).toNat ((0:Nat)+(0:Nat)) 1=some [dI c]∧∃(d:Unit),(xP b)=(↑a:Int)∧kH 2 (b.b.rungs 2) b.price=(c==b.price)∧fG b
def zDk (a:BkP) (b:Nat):Prop:=∃(c:Unit),(xP a)=(↑b:Int)∧kH 2 (a.b.rungs 2) a.price=false∧fG a
def pR (a:Nat) (b:BkP):=(decide ((↑a:Int)<(vD b)))
def z9k (i:BkP):Prop:=
 ∃(a:Nat),(↑a:Int)=0∧∃(b:Nat→Prop),∃(c:Nat→Nat),b a∧∀(d:Nat),b d→cnd (pR d i) ((0≤(↑d:Int)∧(↑d:Int)<(vD i))∧∃(e:Int),zE (List.map zB i.b.sells) (↑d:Int).toNat ((0:Nat)+(0:Nat)) 1=some [dI e]∧∃(f:I3'),f.side=2∧f.x=e∧f.y=i.price∧True∧∀(g:Unit),True→cnd (btr f.side f.x f.y) (nC d b c i) (cnd (pR d i) (zDs d i) (zDk i d))) (cnd (pR d i) (zDs d i) (zDk i d))
def fE (a:LdI):Prop:=List.map zB a.b.buys=List.map zB a.b.buys∧List.map zB a.b.sells=List.map zB a.b.sells∧atE a.b.at_=atE a.b.at_∧iE a.b.spare=iE a.b.spare∧True
def m7 (a:LdI):Prop:=∃(b:Unit),a.id=a.id∧a.b.top2=a.b.top2∧true=true∧a.b.has2=a.b.has2∧AObj.adt Arena 3 zF (a.b.untop 1)=zQ a.b 1∧fE a
def zAb (a:LdI) (b:Int) (c:Int) (d:Int) (e:Bool):Prop:=vT (Value.int IntKind.i64 a.b.top1) (atE a.b.at_)=some [dI b,dI c,dI d]∧e=true∨vT (Value.int IntKind.i64 a.b.top1) (atE a.b.at_)=none∧[dI b,dI c,dI d]=[dI 0,dI 0,dI 0]∧e=false
def l9 (a:LdI):Prop:=∀(b:Value×List D),b∈atE a.b.at_→like (Value.int IntKind.i64 a.b.top1) b.fst=true
def z9b (i:LdI):Prop:=
 cnd i.b.has1 ((l9 i)∧∃(a:Bool),∃(b:Int),∃(c:Int),∃(d:Int),(zAb i b c d a)∧((l9 i)∧∃(e:Bool),∃(f:Int),∃(g:Int),∃(h:Int),(zAb i f g h e)∧(f=b∧g=c∧h=d∧True)∧e=a∧True)∧i.b.top1=i.b.top1∧True∧cnd a (cnd (b==1) (∃(e:z5g),e.n=d∧e.t=false∧AObj.adt Arena 3 zF e.a=zQ i.b 1∧e.a.slots.length≤1000000∧∀(f:Unit),True→∃(g:Unit),i.id=i.id∧i.b.top2=i.b.top2∧true=true∧i.b.has2=i.b.has2∧AObj.adt Arena 3 zF (i.b.untop 1)=AObj.adt Arena 3 zF (e.a.topF e.n e.t)∧fE i) (m7 i)) (m7 i)) (m7 i)
def pG (a:LdI):Prop:=∃(b:Unit),a.b.top1=a.b.top1∧a.id=a.id∧a.b.has1=a.b.has1∧true=true∧AObj.adt Arena 3 zF (a.b.untop 2)=zQ a.b 1∧fE a
def lR (a:LdI) (b:Int) (c:Int) (d:Int) (e:Bool):Prop:=vT (Value.int IntKind.i64 a.b.top2) (atE a.b.at_)=some [dI b,dI c,dI d]∧e=true∨vT (Value.int IntKind.i64 a.b.top2) (atE a.b.at_)=none∧[dI b,dI c,dI d]=[dI 0,dI 0,dI 0]∧e=false
def lX (a:LdI):Prop:=∀(b:Value×List D),b∈atE a.b.at_→like (Value.int IntKind.i64 a.b.top2) b.fst=true
def yBq (i:LdI):Prop:=
 cnd i.b.has2 ((lX i)∧∃(a:Bool),∃(b:Int),∃(c:Int),∃(d:Int),(lR i b c d a)∧((lX i)∧∃(e:Bool),∃(f:Int),∃(g:Int),∃(h:Int),(lR i f g h e)∧(f=b∧g=c∧h=d∧True)∧e=a∧True)∧i.b.top2=i.b.top2∧True∧cnd a (cnd (b==2) (∃(e:z5g),e.n=d∧e.t=false∧AObj.adt Arena 3 zF e.a=zQ i.b 1∧e.a.slots.length≤1000000∧∀(f:Unit),True→∃(g:Unit),i.b.top1=i.b.top1∧i.id=i.id∧i.b.has1=i.b.has1∧true=true∧AObj.adt Arena 3 zF (i.b.untop 2)=AObj.adt Arena 3 zF (e.a.topF e.n e.t)∧fE i) (pG i)) (pG i)) (pG i)
def x3 (a:BkP):Prop:=(a.b.a.slots.length≤1000000∧a.b.a.queues.length≤1000000)∧a.b.buys.length≤1000000∧a.b.sells.length≤1000000∧a.b.spare.length≤1000000
def gB (a:BkP):Prop:=0≤(xO a)∧(xO a)<(vG a)
def vP (a:BkP):=((↑(iE a.b.spare).length:Int)-1)
def aF (a:BkP):Prop:=0≤IntKind.i64.wrap (vP a)∧IntKind.i64.wrap (vP a)≤(↑(iE a.b.spare).length:Int)
def aB (a:BkP):Prop:=0≤IntKind.i64.wrap (vP a)∧IntKind.i64.wrap (vP a)<(↑(iE a.b.spare).length:Int)
def hZ (a:z5r):Prop:=a.i≤a.els.length∧(a.els.length+1)*(16:Nat)≤(140737488355328:Nat)
def hJ (a:BkP):=(IntKind.i64.wrap (vP a))
def zN (a:BkP):=(a.b.queueF 1 a.price)
def z2g (i:BkP):Prop:=
 ∃(a:BkP),(1:Int)=(1:Int)∧a.price=i.price∧a.b.top1=i.b.top1∧a.b.top2=i.b.top2∧a.b.has1=i.b.has1∧a.b.has2=i.b.has2∧AObj.adt Arena 3 zF a.b.a=zQ i.b 1∧List.map zB a.b.buys=List.map zB i.b.buys∧List.map zB a.b.sells=List.map zB i.b.sells∧atE a.b.at_=atE i.b.at_∧iE a.b.spare=iE i.b.spare∧(x3 a)∧∀(b:Unit),True→cnd (kH 1 (a.b.rungs 1) a.price) ((gB a)∧∃(c:Int),zE (List.map zB a.b.buys) (xO a).toNat ((0:Nat)+(1:Nat)) 1=some [dI c]∧∃(d:Unit),(zN i).snd=c∧(zN i).fst.top1=a.b.top1∧(zN i).fst.top2=a.b.top2∧(zN i).fst.has1=a.b.has1∧(zN i).fst.has2=a.b.has2∧AObj.adt Arena 3 zF (zN i).fst.a=AObj.adt Arena 3 zF a.b.a∧List.map zB (zN i).fst.sells=List.map zB a.b.sells∧atE (zN i).fst.at_=atE a.b.at_∧List.map zB (zN i).fst.buys=List.map zB a.b.buys∧iE (zN i).fst.spare=iE a.b.spare∧True) (cnd (decide ((↑(iE a.b.spare).length:Int)>0)) ((aB a)∧∃(c:Int),zE (iE a.b.spare) (hJ a).toNat 0 1=some [dI c]∧(aF a)∧True∧∃(d:z5r),(↑d.i:Int)=(xO a)∧d.els=List.map zB a.b.buys∧[d.el]=[[dI i.price,dI c]]∧(hZ d)∧∀(e:Unit),True→∃(f:Unit),(zN i).snd=c∧(zN i).fst.top1=a.b.top1∧(zN i).fst.top2=a.b.top2∧(zN i).fst.has1=a.b.has1∧(zN i).fst.has2=a.b.has2∧AObj.adt Arena 3 zF (zN i).fst.a=AObj.adt Arena 3 zF a.b.a∧List.map zB (zN i).fst.sells=List.map zB a.b.sells∧atE (zN i).fst.at_=atE a.b.at_∧List.map zB (zN i).fst.buys=List.take d.i d.els++d.el::List.drop d.i d.els∧iE (zN i).fst.spare=List.take (hJ a).toNat (iE a.b.spare)∧True) (∃(c:Arena),AObj.adt Arena 3 zF c=AObj.adt Arena 3 zF a.b.a∧c.queues.length≤1000000∧∀(d:Unit),True→True∧∃(e:z5r),(↑e.i:Int)=(xO a)∧e.els=List.map zB a.b.buys∧[e.el]=[[dI i.price,dI (↑c.queues.length:Int)]]∧(hZ e)∧∀(f:Unit),True→∃(g:Unit),(zN i).snd=(↑c.queues.length:Int)∧(zN i).fst.top1=a.b.top1∧(zN i).fst.top2=a.b.top2∧(zN i).fst.has1=a.b.has1∧(zN i).fst.has2=a.b.has2∧AObj.adt Arena 3 zF (zN i).fst.a=AObj.adt Arena 3 zF c.openQ∧List.map zB (zN i).fst.sells=List.map zB a.b.sells∧atE (zN i).fst.at_=atE a.b.at_∧List.map zB (zN i).fst.buys=List.take e.i e.els++e.el::List.drop e.i e.els∧iE (zN i).fst.spare=iE a.b.spare∧True))
def hY (a:BkP):Prop:=0≤(xP a)∧(xP a)<(vD a)
def zM (a:BkP):=(a.b.queueF 2 a.price)
def z0l (i:BkP):Prop:=
 ∃(a:BkP),(2:Int)=(2:Int)∧a.price=i.price∧a.b.top1=i.b.top1∧a.b.top2=i.b.top2∧a.b.has1=i.b.has1∧a.b.has2=i.b.has2∧AObj.adt Arena 3 zF a.b.a=zQ i.b 1∧List.map zB a.b.buys=List.map zB i.b.buys∧List.map zB a.b.sells=List.map zB i.b.sells∧atE a.b.at_=atE i.b.at_∧iE a.b.spare=iE i.b.spare∧(x3 a)∧∀(b:Unit),True→cnd (kH 2 (a.b.rungs 2) a.price) ((hY a)∧∃(c:Int),zE (List.map zB a.b.sells) (xP a).toNat ((0:Nat)+(1:Nat)) 1=some [dI c]∧∃(d:Unit),(zM i).snd=c∧(zM i).fst.top1=a.b.top1∧(zM i).fst.top2=a.b.top2∧(zM i).fst.has1=a.b.has1∧(zM i).fst.has2=a.b.has2∧AObj.adt Arena 3 zF (zM i).fst.a=AObj.adt Arena 3 zF a.b.a∧List.map zB (zM i).fst.buys=List.map zB a.b.buys∧atE (zM i).fst.at_=atE a.b.at_∧List.map zB (zM i).fst.sells=List.map zB a.b.sells∧iE (zM i).fst.spare=iE a.b.spare∧True) (cnd (decide ((↑(iE a.b.spare).length:Int)>0)) ((aB a)∧∃(c:Int),zE (iE a.b.spare) (hJ a).toNat 0 1=some [dI c]∧(aF a)∧True∧∃(d:z5r),(↑d.i:Int)=(xP a)∧d.els=List.map zB a.b.sells∧[d.el]=[[dI i.price,dI c]]∧(hZ d)∧∀(e:Unit),True→∃(f:Unit),(zM i).snd=c∧(zM i).fst.top1=a.b.top1∧(zM i).fst.top2=a.b.top2∧(zM i).fst.has1=a.b.has1∧(zM i).fst.has2=a.b.has2∧AObj.adt Arena 3 zF (zM i).fst.a=AObj.adt Arena 3 zF a.b.a∧List.map zB (zM i).fst.buys=List.map zB a.b.buys∧atE (zM i).fst.at_=atE a.b.at_∧List.map zB (zM i).fst.sells=List.take d.i d.els++d.el::List.drop d.i d.els∧iE (zM i).fst.spare=List.take (hJ a).toNat (iE a.b.spare)∧True) (∃(c:Arena),AObj.adt Arena 3 zF c=AObj.adt Arena 3 zF a.b.a∧c.queues.length≤1000000∧∀(d:Unit),True→True∧∃(e:z5r),(↑e.i:Int)=(xP a)∧e.els=List.map zB a.b.sells∧[e.el]=[[dI i.price,dI (↑c.queues.length:Int)]]∧(hZ e)∧∀(f:Unit),True→∃(g:Unit),(zM i).snd=(↑c.queues.length:Int)∧(zM i).fst.top1=a.b.top1∧(zM i).fst.top2=a.b.top2∧(zM i).fst.has1=a.b.has1∧(zM i).fst.has2=a.b.has2∧AObj.adt Arena 3 zF (zM i).fst.a=AObj.adt Arena 3 zF c.openQ∧List.map zB (zM i).fst.buys=List.map zB a.b.buys∧atE (zM i).fst.at_=atE a.b.at_∧List.map zB (zM i).fst.sells=List.take e.i e.els++e.el::List.drop e.i e.els∧iE (zM i).fst.spare=iE a.b.spare∧True))
open Go Cv Go.Proofs
theorem cY:bbetterC.ok Tryz.prog 58:=okw (V:=zWd) mixed gok0 0 (fun _=>[]) (fun _=>[]) [] Tryz.func58 fun(i:I3') _=>by
 unfold zWd
 refine Cv.cnd.mk (fun c=> ?_) (fun c=> ?_)
 ·have c:i.side=1:=by simpa using c
  rw[btr,yWl c];exact kp
 ·have c:¬i.side=1:=by simpa using c
  rw[btr,yWj c];exact kp
theorem yCa:pushFC.ok Tryz.prog 293:=okw (V:=yAd) mixed gok0 0 (fun _=>[]) (fun _=>[]) [] Tryz.func293 fun(s:Slot) _=>by
 unfold yAd;exact kp
theorem yVw {l:List Slot} {k:Nat} {s:Slot} (h:l[k]? =some s):zE (l.map zP) k 0 8=some [D.v (.bool s.used),.v (.int .i64 s.n),.v (.int .i64 s.id),.v (.int .i64 s.qty),.v (.bool s.top),.v (.int .i64 s.queue),.v (.int .i64 s.ahead),.v (.int .i64 s.back)]:=elA h (by simp[zP]) rfl
theorem yAz (l:List Slot) (h:idxSlotC.cnd l):zWv l:=by
 have h:l.length≤1000000:=h
 unfold zWv dI
 simp only[yWk]
 refine⟨0,rfl,fun j=>j≤l.length∧∀k<j,∀x,l[k]? =some x→(!x.used)=false,fun j=>l.length-j,⟨by omega,fun k hk=>by omega⟩,?_⟩
 rintro j ⟨h3,h4⟩
 refine zI (fun hj=> ?_) (fun hj=> ?_)
 ·obtain⟨s,hs⟩:=yD (l:=l) (i:=j) (by omega)
  refine⟨⟨by omega,by omega⟩,s.used,s.n,s.id,s.qty,s.top,s.queue,s.ahead,s.back,yVw hs,s,rfl,rfl,rfl,rfl,rfl,rfl,rfl,rfl,trivial,fun _ _=>Cv.cnd.mk (fun e=> ?_) (fun e=> ?_)⟩
  ·rw[kJ,zFc hs e h4];exact kp
  ·refine⟨j+1,by rw[w64 (by omega)];rfl,⟨by omega,fun k hk x hx=> ?_⟩,by(first|omega|(dsimp only;omega)),k0q⟩
   rcases yYy k j with hk'|hk'
   ·exact h4 k hk' x hx
   ·obtain rfl:k=j:=by omega
    rw[hs]at hx;cases hx;exact e
 ·rw[kJ,zEc fun k x hx=>h4 k (by have:=(yWn.1 hx).1;omega) x hx];exact kp
theorem z0g:idxSlotC.ok Tryz.prog 292:=okw mixed (gokc yCa gok0) 0 (fun _=>[]) (fun l=>yCr l) [] Tryz.func292 yAz
theorem zVt:aopenC.ok Tryz.prog 294:=okw (V:=yAq) mixed gok0 0 (fun _=>[]) (fun _=>[]) [0] Tryz.func294 fun(a:Arena) h=>by
 have h:a.queues.length≤1000000:=h
 unfold yAq dI
 rw[yWi,yWk,w64 (by simp only[yWr,yXp];omega)]
 refine⟨by omega,(),?_,rfl,rfl,?_,trivial⟩
 ·simp
 ·rw[yWv];rfl
theorem f8 {α:Type} {f:α→α}:∀{l:List α} {i:Nat} {x:α},l[i]? =some x→l.modify i f=l.set i (f x)
 |[],i,x,h=>by simp at h
 |a::l,0,x,h=>by simp at h;subst h;rfl
 |a::l,i+1,x,h=>by
  simp only[yYf]at h
  simp only[y1y,y2p,f8 h]
theorem yJ {α:Type} {f:α→List D} {l:List α} {i g:Nat} {x y:α} {ds:List D} (hi:l[i]? =some x) (hh:(f x).take g++(ds++(f x).drop (g+ds.length))=f y):zT (l.map f) i g ds=(l.set i y).map f:=by
 have hlt:=(yWn.1 hi).1
 rw[zT,f8 (by rw[yXr,hi];rfl),hh,List.map_set]
theorem uC {α:Type} {l:List α} {i:Nat} {x y:α} (hi:l[i]? =some x):(l.set i y)[i]? =some y:=y2q (yWn.1 hi).1
theorem zR {α:Type} {l:List α} {i:Nat} {x d:α} (h:l[i]? =some x):l.getD i d=x:=by rw[yWs,h];rfl
theorem ySs (i:z5g) (h:atopC.cnd i):yKz i:=by
 have h:i.a.slots.length≤1000000:=h
 unfold yKz eJ
 simp only[yWk]
 have no (e:i.a.usedAt i.n=false):i.a.topF i.n i.t=i.a:=by rw[Arena.topF,yWj (by rw[e];decide)]
 refine zI (fun c=> ?_) (fun c=>zI (fun d=> ?_) (fun d=> ?_))
 ·have e:i.a.usedAt i.n=false:=by rw[Arena.usedAt,yWx (by omega),yZp]
  rw[no e,e];exact kp
 ·have e:i.a.usedAt i.n=false:=by rw[Arena.usedAt,yWx (show ¬i.n<(i.a.slots.length:Int)by omega),yZp,y1s]
  rw[no e,e];exact kp
 ·obtain⟨s,hs⟩:=yD (l:=i.a.slots) (i:=i.n.toNat) (by omega)
  have eu:i.a.usedAt i.n=s.used:=by rw[Arena.usedAt,yXc (show 0≤i.n by omega),yXc (show i.n<(i.a.slots.length:Int)by omega),zR hs];simp
  refine⟨⟨by omega,by omega⟩,s.used,elA hs (by simp[zP]) rfl,Cv.cnd.mk (fun u=> ?_) (fun u=> ?_)⟩
  ·have e:i.a.usedAt i.n=false:=by rw[eu];simpa using u
   rw[no e,e];exact kp
  ·have e:i.a.usedAt i.n=true:=by rw[eu];simpa using u
   have et:i.a.topF i.n i.t={i.a with slots:=i.a.slots.set i.n.toNat {s with top:=i.t}}:=by
    rw[Arena.topF,yWl e,f8 hs]
   rw[et,e,yJ hs (y:={s with top:=i.t}) rfl]
   refine⟨⟨by omega,by omega⟩,by omega,(),rfl,rfl,rfl,rfl,trivial⟩
theorem z0p:atopC.ok Tryz.prog 291:=okw mixed gok0 1 (fun _=>[]) (fun _=>[]) [0] Tryz.func291 ySs
theorem yAx {l:List Slot} (h:∃s∈l,s.used=false):∃k:Nat,kJ l=k∧k<l.length:=by
 obtain⟨s,hs,hu⟩:=h
 cases hf:l.findIdx? fun s=> !s.used with
 |none=>
  rw[y1c]at hf
  have:=hf s hs
  rw[hu]at this;cases this
 |some k=>
  rw[yZo]at hf
  exact⟨k,by rw[kJ,show(l.findIdx? fun s=> !s.used)=some k by rw[yZo];exact hf];rfl,hf.1⟩
theorem yLc (i:PuI) (h:apushC.cnd i):yDw i:=by
 obtain⟨h1,h2,h3⟩:i.a.fit:=h
 unfold yDw zDq nJ nI nF mZ lZ nW yK dI
 simp only[yWk]
 have out (e:i.n<0∨i.a.queues.length≤i.n):i.a.push i.n i.id i.qty i.top=(i.a,0,26):=by rw[Arena.push,yWl e]
 refine zI (fun c=>Cv.cnd.mk (fun d=> ?_) (fun d=> ?_)) (fun c=> ?_)
 ·have d:¬i.n<(i.a.queues.length:Int):=by simpa using d
  rw[out (.inr (by omega))];exact kp
 ·have d:i.n<(i.a.queues.length:Int):=by simpa using d
  have hn:¬(i.n<0∨(i.a.queues.length:Int)≤i.n):=by omega
  refine zI (fun q1=> ?_) (fun q1=>zI (fun q2=> ?_) (fun q2=>Cv.cnd.mk (fun fr=> ?_) (fun fr=> ?_)))
  ·rw[Arena.push,yWj hn,yWl (.inl q1)];exact kp
  ·rw[Arena.push,yWj hn,yWl (.inr q2)];exact kp
  ·rw[Arena.push,yWj hn,yWj (by omega),yWl (by simpa using fr)];exact kp
  ·have fr:i.a.free≠0:=by simpa using fr
   have ep:i.a.push i.n i.id i.qty i.top=(i.a.put i.n i.id i.qty i.top,kJ i.a.slots,0):=by rw[Arena.push,yWj hn,yWj (by omega),yWj fr]
   obtain⟨k,hk,hkl⟩:=yAx (h2 fr)
   obtain⟨q,hq⟩:=yD (l:=i.a.queues) (i:=i.n.toNat) (by omega)
   have hqm:=yWt hq
   have hl:=h3 q hqm
   obtain⟨s,hs⟩:=yD hkl
   refine⟨i.a.slots,rfl,h1,fun _ _=>⟨⟨by omega,by omega⟩,q.last,elA hq (by simp[zO]) rfl,⟨by omega,by omega⟩,by rw[hk];exact hkl,q.last,elA hq (by simp[zO]) rfl,?_⟩⟩
   rw[ep]
   have eput:i.a.put i.n i.id i.qty i.top=⟨if q.last= -1 then i.a.slots.set k ⟨true,k,i.id,i.qty,i.top,i.n,q.last,-1⟩else(i.a.slots.set k ⟨true,k,i.id,i.qty,i.top,i.n,q.last,-1⟩).modify q.last.toNat fun s=>{s with back:=k},i.a.queues.set i.n.toNat ⟨if q.last= -1 then k else q.first,k,IntKind.i64.wrap (q.total+i.qty),IntKind.i64.wrap (q.count+1)⟩,IntKind.i64.wrap (i.a.free-1)⟩:=by
    simp only[Arena.put,zR hq,hk,yXa]
   rw[eput,hk]
   simp only[yXa]
   have es:zT (List.map zP i.a.slots) k 0 [D.v (.bool true),D.v (.int .i64 k),D.v (.int .i64 i.id),D.v (.int .i64 i.qty),D.v (.bool i.top),D.v (.int .i64 i.n),D.v (.int .i64 q.last),D.v (.int .i64 (-1))]=List.map zP (i.a.slots.set k ⟨true,k,i.id,i.qty,i.top,i.n,q.last,-1⟩):=yJ hs rfl
   rw[es]
   refine Cv.cnd.mk (fun e=> ?_) (fun e=> ?_)
   ·have e:q.last= -1:=by simpa using e
    have e1:zT (List.map zO i.a.queues) i.n.toNat (0+0) [D.v (.int .i64 k)]=List.map zO (i.a.queues.set i.n.toNat {q with first:=k}):=yJ hq rfl
    have g1:=uC (y:={q with first:=(k:Int)}) hq
    have e2:zT (List.map zO (i.a.queues.set i.n.toNat {q with first:=k})) i.n.toNat (0+1) [D.v (.int .i64 k)]=List.map zO (i.a.queues.set i.n.toNat {q with first:=k,last:=k}):=by
     rw[yJ g1 (y:={q with first:=(k:Int),last:=(k:Int)}) rfl,y0m]
    have g2:=uC (y:={q with first:=(k:Int),last:=(k:Int)}) hq
    have e3:zT (List.map zO (i.a.queues.set i.n.toNat {q with first:=k,last:=k})) i.n.toNat (0+2) [D.v (.int .i64 (IntKind.i64.wrap (q.total+i.qty)))]=List.map zO (i.a.queues.set i.n.toNat {q with first:=k,last:=k,total:=IntKind.i64.wrap (q.total+i.qty)}):=by
     rw[yJ g2 (y:={q with first:=(k:Int),last:=(k:Int),total:=IntKind.i64.wrap (q.total+i.qty)}) rfl,y0m]
    have g3:=uC (y:={q with first:=(k:Int),last:=(k:Int),total:=IntKind.i64.wrap (q.total+i.qty)}) hq
    have e4:zT (List.map zO (i.a.queues.set i.n.toNat {q with first:=k,last:=k,total:=IntKind.i64.wrap (q.total+i.qty)})) i.n.toNat (0+3) [D.v (.int .i64 (IntKind.i64.wrap (q.count+1)))]=List.map zO (i.a.queues.set i.n.toNat ⟨k,k,IntKind.i64.wrap (q.total+i.qty),IntKind.i64.wrap (q.count+1)⟩):=by
     rw[yJ g3 (y:=⟨k,k,IntKind.i64.wrap (q.total+i.qty),IntKind.i64.wrap (q.count+1)⟩) rfl,y0m]
    rw[e1,e2]
    simp only[yWl e]
    refine⟨by omega,by simp only[yWk,yXf];omega,q.total,elA g2 (by simp[zO]) rfl,by simp only[yWk,yXf];omega,q.count,?_,by rw[e3];simp only[yWk,yXf];omega,(),?_⟩
    ·rw[e3];exact elA g3 (by simp[zO]) rfl
    ·rw[e3,e4];exact kp
   ·have e:¬q.last= -1:=by simpa using e
    have hl:0≤q.last∧q.last<i.a.slots.length:=hl.resolve_left e
    have e2:zT (List.map zO i.a.queues) i.n.toNat (0+1) [D.v (.int .i64 k)]=List.map zO (i.a.queues.set i.n.toNat {q with last:=k}):=yJ hq rfl
    have g2:=uC (y:={q with last:=(k:Int)}) hq
    have e3:zT (List.map zO (i.a.queues.set i.n.toNat {q with last:=k})) i.n.toNat (0+2) [D.v (.int .i64 (IntKind.i64.wrap (q.total+i.qty)))]=List.map zO (i.a.queues.set i.n.toNat {q with last:=k,total:=IntKind.i64.wrap (q.total+i.qty)}):=by
     rw[yJ g2 (y:={q with last:=(k:Int),total:=IntKind.i64.wrap (q.total+i.qty)}) rfl,y0m]
    have g3:=uC (y:={q with last:=(k:Int),total:=IntKind.i64.wrap (q.total+i.qty)}) hq
    have e4:zT (List.map zO (i.a.queues.set i.n.toNat {q with last:=k,total:=IntKind.i64.wrap (q.total+i.qty)})) i.n.toNat (0+3) [D.v (.int .i64 (IntKind.i64.wrap (q.count+1)))]=List.map zO (i.a.queues.set i.n.toNat ⟨q.first,k,IntKind.i64.wrap (q.total+i.qty),IntKind.i64.wrap (q.count+1)⟩):=by
     rw[yJ g3 (y:=⟨q.first,k,IntKind.i64.wrap (q.total+i.qty),IntKind.i64.wrap (q.count+1)⟩) rfl,y0m]
    obtain⟨s2,hs2⟩:=yD (l:=i.a.slots.set k ⟨true,k,i.id,i.qty,i.top,i.n,q.last,-1⟩) (i:=q.last.toNat) (by rw[yXf];omega)
    have e5:zT (List.map zP (i.a.slots.set k ⟨true,k,i.id,i.qty,i.top,i.n,q.last,-1⟩)) q.last.toNat (0+7) [D.v (.int .i64 k)]=List.map zP ((i.a.slots.set k ⟨true,k,i.id,i.qty,i.top,i.n,q.last,-1⟩).modify q.last.toNat fun s=>{s with back:=k}):=by
     rw[yJ hs2 (y:={s2 with back:=(k:Int)}) rfl,f8 hs2]
    rw[e2]
    simp only[yWj e]
    refine⟨q.last,elA hq (by simp[zO]) rfl,⟨by omega,by simp only[yWk,yXf];omega⟩,by simp only[yWk,yXf];omega,by omega,q.total,elA g2 (by simp[zO]) rfl,by simp only[yWk,yXf];omega,q.count,?_,by rw[e3];simp only[yWk,yXf];omega,(),?_⟩
    ·rw[e3];exact elA g3 (by simp[zO]) rfl
    ·rw[e3,e4,e5];exact kp
 ·rw[out (.inl (by omega))];exact kp
theorem zUy:apushC.ok Tryz.prog 267:=okw mixed (gokc z0g gok0) 1 (fun _=>[]) (fun _=>[]) [0] Tryz.func267 yLc
theorem mP {s price:Int}:∀{l:List xH} {j:Nat},j≤l.length→(∀k<j,∀r,l[k]? =some r→btr s r.price price=true)→(∀r,l[j]? =some r→btr s r.price price=false)→zW s l price=j
 |[],j,hj,_,_=>by
  obtain rfl:j=0:=by simpa using hj
  rfl
 |r::l,0,_,_,he=>by
  have:=he r rfl
  rw[zW,List.takeWhile_cons,this];rfl
 |r::l,j+1,hj,h,he=>by
  have h0:=h 0 (by omega) r rfl
  have ih:=mP (l:=l) (j:=j) (by simpa using hj) (fun k hk x hx=>h (k+1) (by omega) x (by simpa using hx)) (fun x hx=>he x (by simpa using hx))
  rw[zW]at ih ⊢
  rw[List.takeWhile_cons,h0,yWl rfl,yWr,ih]
theorem zCy (s price:Int) (l:List xH):zW s l price≤l.length:=(List.takeWhile_sublist _).length_le
theorem pT (b:Book):b.rungs 1=b.buys:=rfl
theorem nD (b:Book):b.rungs 2=b.sells:=rfl
theorem yPi (i:BkP) (h:find1C.cnd i):yDm i:=by
 obtain⟨_,h1,h2,_⟩:i.b.small:=h
 unfold yDm zFl zEh fG xO pN vG nC dI
 simp only[yWk,pT]
 refine⟨0,rfl,fun j=>j≤i.b.buys.length∧∀k<j,∀r,i.b.buys[k]? =some r→btr 1 r.price i.price=true,fun j=>i.b.buys.length-j,⟨by omega,fun k hk=>by omega⟩,?_⟩
 rintro j ⟨h3,h4⟩
 refine zI (fun hj=> ?_) (fun hj=> ?_)
 ·obtain⟨r,hr⟩:=yD (l:=i.b.buys) (i:=j) (by omega)
  refine⟨⟨by omega,by omega⟩,r.price,elA hr (by simp[zB]) rfl,⟨1,r.price,i.price⟩,rfl,rfl,rfl,trivial,fun _ _=> ?_⟩
  dsimp only
  refine Cv.cnd.mk (fun e=>⟨j+1,by rw[w64 (by omega)];rfl,⟨by omega,fun k hk x hx=> ?_⟩,by(first|omega|(dsimp only;omega)),k0q⟩) (fun e=>zI (fun _=> ?_) (fun c=>absurd hj c))
  ·rcases yYy k j with hk'|hk'
   ·exact h4 k hk' x hx
   ·obtain rfl:k=j:=by omega
    rw[hr]at hx;cases hx;exact e
  ·have en:zW 1 i.b.buys i.price=j:=mP h3 h4 fun x hx=>by rw[hr]at hx;cases hx;exact e
   have eb:kH 1 i.b.buys i.price=(r.price==i.price):=by rw[kH,en,hr];exact(zUk _ _).symm
   refine⟨⟨by omega,by omega⟩,r.price,elA hr (by simp[zB]) rfl,(),by rw[en],eb,?_⟩
   (repeat'(first|exact trivial|exact rfl|apply And.intro))
 ·have en:zW 1 i.b.buys i.price=j:=mP h3 h4 fun x hx=>by have:=(yWn.1 hx).1;omega
  have eb:kH 1 i.b.buys i.price=false:=by rw[kH,en,yXm (by omega)]
  refine zI (fun c=>absurd c hj) (fun _=>⟨(),by rw[en],eb,?_⟩)
  (repeat'(first|exact trivial|exact rfl|apply And.intro))
theorem zKt:find1C.ok Tryz.prog 270:=okw mixed (gokc cY gok0) 0 (fun _=>[]) (fun _=>yIy) [] Tryz.func270 yPi
theorem jS (l:List (Int×Place)) (k:Int):∀(p:Value×List D),p∈atE l→like (Value.int IntKind.i64 k) p.1=true:=by
 intro p hp
 obtain⟨x,_,rfl⟩:=yYa.1 hp
 rfl
theorem tZ (k:Int):∀l:List (Int×Place),vT (Value.int IntKind.i64 k) (atE l)=(pget l k).map zZy
 |[]=>rfl
 |(a,v)::l=>by
  have ih:=tZ k l
  show(bif (keq .i64 .i64 && decide (k=a))then _ else vT _ (atE l))=_
  by_cases h:k=a
  ·subst h;simp[pget,keq]
  ·have h':¬a=k:=fun e=>h e.symm
   rw[show(keq .i64 .i64 && decide (k=a))=false by simp[h],cond_false,ih]
   simp[pget,List.find?_cons,h']
def zEt:Place:=⟨0,0,0⟩
theorem zPj (l:List (Int×Place)) (k:Int):vT (Value.int IntKind.i64 k) (atE l)=some [D.v (.int .i64 ((pget l k).getD zEt).side),D.v (.int .i64 ((pget l k).getD zEt).price),D.v (.int .i64 ((pget l k).getD zEt).slot)]∧(pget l k).isSome=true∨vT (Value.int IntKind.i64 k) (atE l)=none∧[D.v (.int .i64 ((pget l k).getD zEt).side),D.v (.int .i64 ((pget l k).getD zEt).price),D.v (.int .i64 ((pget l k).getD zEt).slot)]=[D.v (.int .i64 0),D.v (.int .i64 0),D.v (.int .i64 0)]∧(pget l k).isSome=false:=by
 rw[tZ]
 cases pget l k with
 |none=>exact .inr ⟨rfl,rfl,rfl⟩
 |some v=>exact .inl ⟨rfl,rfl⟩
theorem zRl (k:Int) (v:Place):∀l,gP (Value.int IntKind.i64 k) (zZy v) (atE l)=atE (pE k v l)
 |[]=>rfl
 |(a,b)::l=>by
  have ih:=zRl k v l
  show(bif (keq .i64 .i64 && decide (k=a))then _ else _::gP _ _ (atE l))=_
  rw[ih,pE]
  by_cases h:k=a
  ·subst h;simp[keq,atE]
  ·simp[h,atE]
theorem yNx (i:LdI) (h:lead1C.cnd i):z9b i:=by
 obtain⟨⟨ha,_⟩,h1,h2,_⟩:i.b.small:=h
 unfold z9b l9 zAb m7 fE dI
 have no (e:i.b.untop 1=i.b.a):AObj.adt Arena 3 zF (i.b.untop 1)=zQ i.b 1:=by rw[e];rfl
 refine Cv.cnd.mk (fun c=> ?_) (fun c=>⟨(),?_⟩)
 ·have c:i.b.hasF 1=true:=c
  refine⟨jS _ _,(pget i.b.at_ i.b.top1).isSome,_,_,_,zPj _ _,⟨jS _ _,(pget i.b.at_ i.b.top1).isSome,_,_,_,zPj _ _,⟨rfl,rfl,rfl,trivial⟩,rfl,trivial⟩,rfl,trivial,Cv.cnd.mk (fun d=>Cv.cnd.mk (fun e=> ?_) (fun e=>⟨(),?_⟩)) (fun d=>⟨(),?_⟩)⟩
  ·obtain⟨o,ho⟩:=y2h.1 d
   have e:o.side=1:=by rw[ho]at e;simpa using e
   have eu:i.b.untop 1=i.b.a.topF o.slot false:=by
    have ht:pget i.b.at_ (i.b.topI 1)=some o:=ho
    rw[Book.untop,yWl c,ht];dsimp only;rw[yWl e]
   refine⟨⟨i.b.a,o.slot,false⟩,by rw[ho];rfl,rfl,rfl,ha,fun _ _=>⟨(),?_⟩⟩
   rw[eu];(repeat'(first|exact trivial|exact rfl|apply And.intro))
  ·obtain⟨o,ho⟩:=y2h.1 d
   have e:¬o.side=1:=by rw[ho]at e;simpa using e
   have ht:pget i.b.at_ (i.b.topI 1)=some o:=ho
   rw[no (by rw[Book.untop,yWl c,ht];dsimp only;rw[yWj e])];(repeat'(first|exact trivial|exact rfl|apply And.intro))
  ·have ht:pget i.b.at_ (i.b.topI 1)=none:=by
    show pget i.b.at_ i.b.top1=none
    simpa using d
   rw[no (by rw[Book.untop,yWl c,ht])];(repeat'(first|exact trivial|exact rfl|apply And.intro))
 ·have c:¬i.b.hasF 1=true:=by rw[show i.b.hasF 1=i.b.has1 from rfl,c];decide
  rw[no (by rw[Book.untop,yWj c])];(repeat'(first|exact trivial|exact rfl|apply And.intro))
theorem yBx:lead1C.ok Tryz.prog 266:=okw mixed (gokc z0p gok0) 0 (fun _=>[]) (fun _=>[]) [] Tryz.func266 yNx
theorem zTv {s price:Int} {l:List xH} (h:kH s l price=true):∃r,l[zW s l price]? =some r:=by
 rw[kH]at h
 split at h
 ·rename_i r hr;exact⟨r,hr⟩
 ·cases h
theorem yIl (i:BkP) (h:queue1C.cnd i):z2g i:=by
 obtain⟨⟨ha,_⟩,ha',h1,h2,h3⟩:i.b.fit:=h
 have hle:=zCy 1 i.price i.b.buys
 unfold z2g zN hJ hZ aB aF vP gB vG x3 xO dI
 refine⟨i,rfl,rfl,rfl,rfl,rfl,rfl,rfl,rfl,rfl,rfl,rfl,⟨⟨ha,by omega⟩,by omega,by omega,by omega⟩,fun _ _=> ?_⟩
 simp only[yWk,xF,pT]
 refine Cv.cnd.mk (fun c=> ?_) (fun c=> ?_)
 ·obtain⟨r,hr⟩:=zTv c
  have hlt:=(yWn.1 hr).1
  have e:i.b.queueF 1 i.price=(i.b,r.queue):=by rw[Book.queueF,yWl (by rw[pT];exact c),pT,zR hr]
  rw[e]
  refine⟨⟨by omega,by omega⟩,r.queue,elA (by simpa using hr) (by simp[zB]) rfl,(),?_⟩
  (repeat'(first|exact trivial|exact rfl|apply And.intro))
 ·have e:i.b.queueF 1 i.price=({i.b with a:=i.b.newQ.2.2,buys:=i.b.ins 1 i.price,spare:=i.b.newQ.2.1},i.b.newQ.1):=by
   rw[Book.queueF,yWj (by rw[pT,c];decide),yWl rfl]
  have hins:List.map zB (i.b.ins 1 i.price)=List.take (zW 1 i.b.buys i.price) (List.map zB i.b.buys)++zB ⟨i.price,i.b.newQ.1⟩::List.drop (zW 1 i.b.buys i.price) (List.map zB i.b.buys):=by
   rw[Book.ins,pT,yWv,yWz,y0x,y2a]
  rw[e]
  refine zI (fun d=> ?_) (fun d=> ?_)
  ·have w:IntKind.i64.wrap ((i.b.spare.length:Int)-1)=((i.b.spare.length-1:Nat):Int):=by rw[w64 (by omega)];omega
   rw[w]
   simp only[yXa]
   obtain⟨q,hq⟩:=yD (l:=i.b.spare) (i:=i.b.spare.length-1) (by omega)
   have eq:i.b.newQ=(q,i.b.spare.take (i.b.spare.length-1),i.b.a):=by rw[Book.newQ,yWj (by omega),zR hq]
   rw[eq]at hins ⊢
   refine⟨⟨by omega,by omega⟩,q,elI hq,⟨by omega,by omega⟩,trivial,⟨i.b.buys.map zB,zB ⟨i.price,q⟩,zW 1 i.b.buys i.price⟩,rfl,rfl,rfl,⟨by rw[yWk];exact hle,by rw[yWk];omega⟩,fun _ _=>⟨(),?_⟩⟩
   have hs:iE (i.b.spare.take (i.b.spare.length-1))=(iE i.b.spare).take (i.b.spare.length-1):=by simp only[iE,y0x]
   exact kp
  ·have eq:i.b.newQ=((i.b.a.queues.length:Int),i.b.spare,i.b.a.openQ):=by rw[Book.newQ,yWl (by omega)]
   rw[eq]at hins ⊢
   refine⟨i.b.a,rfl,by omega,fun _ _=>⟨trivial,⟨i.b.buys.map zB,zB ⟨i.price,i.b.a.queues.length⟩,zW 1 i.b.buys i.price⟩,rfl,rfl,rfl,⟨by rw[yWk];exact hle,by rw[yWk];omega⟩,fun _ _=>⟨(),?_⟩⟩⟩
   exact kp
theorem zDn:uF Tryz.prog 296=some (304,2,16,#[.int .i64 0,.int .i64 0]):=by kernel_rfl
theorem z1s:insRC.ok Tryz.prog 295:=
 insX_ok (tS:=296) (tI:=3) (fO:=308) (fR:=309) (z:= #[.int .i64 0,.int .i64 0]) mixed Tryz.func295 rfl (by kernel_rfl) (by kernel_rfl) (by kernel_rfl) (by kernel_rfl) zDn rfl (by decide) (by decide) (by kernel_rfl) Tryz.underlying3
  (yHd (tS:=296) (tB:=4) Tryz.func308 (by kernel_rfl) (by kernel_rfl) (by kernel_rfl) (by kernel_rfl) zDn) (fun s sn sk i v vn vk w R=>by kernel_rfl)
theorem z4l:queue1C.ok Tryz.prog 268:=okw mixed (gokc zKt (gokc zVt (gokc z1s gok0))) 0 (fun _=>[]) (fun _=>[]) [] Tryz.func268 yIl
theorem yMo (i:BkP) (h:find2C.cnd i):z9k i:=by
 obtain⟨_,h1,h2,_⟩:i.b.small:=h
 unfold z9k zDk zDs xP fG pR vD nC dI
 simp only[yWk,nD]
 refine⟨0,rfl,fun j=>j≤i.b.sells.length∧∀k<j,∀r,i.b.sells[k]? =some r→btr 2 r.price i.price=true,fun j=>i.b.sells.length-j,⟨by omega,fun k hk=>by omega⟩,?_⟩
 rintro j ⟨h3,h4⟩
 refine zI (fun hj=> ?_) (fun hj=> ?_)
 ·obtain⟨r,hr⟩:=yD (l:=i.b.sells) (i:=j) (by omega)
  refine⟨⟨by omega,by omega⟩,r.price,elA hr (by simp[zB]) rfl,⟨2,r.price,i.price⟩,rfl,rfl,rfl,trivial,fun _ _=> ?_⟩
  dsimp only
  refine Cv.cnd.mk (fun e=>⟨j+1,by rw[w64 (by omega)];rfl,⟨by omega,fun k hk x hx=> ?_⟩,by(first|omega|(dsimp only;omega)),k0q⟩) (fun e=>zI (fun _=> ?_) (fun c=>absurd hj c))
  ·rcases yYy k j with hk'|hk'
   ·exact h4 k hk' x hx
   ·obtain rfl:k=j:=by omega
    rw[hr]at hx;cases hx;exact e
  ·have en:zW 2 i.b.sells i.price=j:=mP h3 h4 fun x hx=>by rw[hr]at hx;cases hx;exact e
   have eb:kH 2 i.b.sells i.price=(r.price==i.price):=by rw[kH,en,hr];exact(zUk _ _).symm
   refine⟨⟨by omega,by omega⟩,r.price,elA hr (by simp[zB]) rfl,(),by rw[en],eb,?_⟩
   (repeat'(first|exact trivial|exact rfl|apply And.intro))
 ·have en:zW 2 i.b.sells i.price=j:=mP h3 h4 fun x hx=>by have:=(yWn.1 hx).1;omega
  have eb:kH 2 i.b.sells i.price=false:=by rw[kH,en,yXm (by omega)]
  refine zI (fun c=>absurd c hj) (fun _=>⟨(),by rw[en],eb,?_⟩)
  (repeat'(first|exact trivial|exact rfl|apply And.intro))
theorem zMj:find2C.ok Tryz.prog 270:=okw mixed (gokc cY gok0) 0 (fun _=>[]) (fun _=>yIy) [] Tryz.func270 yMo
theorem yPs (i:LdI) (h:lead2C.cnd i):yBq i:=by
 obtain⟨⟨ha,_⟩,h1,h2,_⟩:i.b.small:=h
 unfold yBq lX lR pG fE dI
 have no (e:i.b.untop 2=i.b.a):AObj.adt Arena 3 zF (i.b.untop 2)=zQ i.b 1:=by rw[e];rfl
 refine Cv.cnd.mk (fun c=> ?_) (fun c=>⟨(),?_⟩)
 ·have c:i.b.hasF 2=true:=c
  refine⟨jS _ _,(pget i.b.at_ i.b.top2).isSome,_,_,_,zPj _ _,⟨jS _ _,(pget i.b.at_ i.b.top2).isSome,_,_,_,zPj _ _,⟨rfl,rfl,rfl,trivial⟩,rfl,trivial⟩,rfl,trivial,Cv.cnd.mk (fun d=>Cv.cnd.mk (fun e=> ?_) (fun e=>⟨(),?_⟩)) (fun d=>⟨(),?_⟩)⟩
  ·obtain⟨o,ho⟩:=y2h.1 d
   have e:o.side=2:=by rw[ho]at e;simpa using e
   have eu:i.b.untop 2=i.b.a.topF o.slot false:=by
    have ht:pget i.b.at_ (i.b.topI 2)=some o:=ho
    rw[Book.untop,yWl c,ht];dsimp only;rw[yWl e]
   refine⟨⟨i.b.a,o.slot,false⟩,by rw[ho];rfl,rfl,rfl,ha,fun _ _=>⟨(),?_⟩⟩
   rw[eu];(repeat'(first|exact trivial|exact rfl|apply And.intro))
  ·obtain⟨o,ho⟩:=y2h.1 d
   have e:¬o.side=2:=by rw[ho]at e;simpa using e
   have ht:pget i.b.at_ (i.b.topI 2)=some o:=ho
   rw[no (by rw[Book.untop,yWl c,ht];dsimp only;rw[yWj e])];(repeat'(first|exact trivial|exact rfl|apply And.intro))
  ·have ht:pget i.b.at_ (i.b.topI 2)=none:=by
    show pget i.b.at_ i.b.top2=none
    simpa using d
   rw[no (by rw[Book.untop,yWl c,ht])];(repeat'(first|exact trivial|exact rfl|apply And.intro))
 ·have c:¬i.b.hasF 2=true:=by rw[show i.b.hasF 2=i.b.has2 from rfl,c];decide
  rw[no (by rw[Book.untop,yWj c])];(repeat'(first|exact trivial|exact rfl|apply And.intro))
theorem yCb:lead2C.ok Tryz.prog 266:=okw mixed (gokc z0p gok0) 0 (fun _=>[]) (fun _=>[]) [] Tryz.func266 yPs
theorem yHh (i:BkP) (h:queue2C.cnd i):z0l i:=by
 obtain⟨⟨ha,_⟩,ha',h1,h2,h3⟩:i.b.fit:=h
 have hle:=zCy 2 i.price i.b.sells
 unfold z0l zM hY vD hJ hZ aB aF vP x3 xP dI
 refine⟨i,rfl,rfl,rfl,rfl,rfl,rfl,rfl,rfl,rfl,rfl,rfl,⟨⟨ha,by omega⟩,by omega,by omega,by omega⟩,fun _ _=> ?_⟩
 simp only[yWk,xF,nD]
 refine Cv.cnd.mk (fun c=> ?_) (fun c=> ?_)
 ·obtain⟨r,hr⟩:=zTv c
  have hlt:=(yWn.1 hr).1
  have e:i.b.queueF 2 i.price=(i.b,r.queue):=by rw[Book.queueF,yWl (by rw[nD];exact c),nD,zR hr]
  rw[e]
  refine⟨⟨by omega,by omega⟩,r.queue,elA (by simpa using hr) (by simp[zB]) rfl,(),?_⟩
  (repeat'(first|exact trivial|exact rfl|apply And.intro))
 ·have e:i.b.queueF 2 i.price=({i.b with a:=i.b.newQ.2.2,sells:=i.b.ins 2 i.price,spare:=i.b.newQ.2.1},i.b.newQ.1):=by
   rw[Book.queueF,yWj (by rw[nD,c];decide),yWj (by decide)]
  have hins:List.map zB (i.b.ins 2 i.price)=List.take (zW 2 i.b.sells i.price) (List.map zB i.b.sells)++zB ⟨i.price,i.b.newQ.1⟩::List.drop (zW 2 i.b.sells i.price) (List.map zB i.b.sells):=by
   rw[Book.ins,nD,yWv,yWz,y0x,y2a]
  rw[e]
  refine zI (fun d=> ?_) (fun d=> ?_)
  ·have w:IntKind.i64.wrap ((i.b.spare.length:Int)-1)=((i.b.spare.length-1:Nat):Int):=by rw[w64 (by omega)];omega
   rw[w]
   simp only[yXa]
   obtain⟨q,hq⟩:=yD (l:=i.b.spare) (i:=i.b.spare.length-1) (by omega)
   have eq:i.b.newQ=(q,i.b.spare.take (i.b.spare.length-1),i.b.a):=by rw[Book.newQ,yWj (by omega),zR hq]
   rw[eq]at hins ⊢
   refine⟨⟨by omega,by omega⟩,q,elI hq,⟨by omega,by omega⟩,trivial,⟨i.b.sells.map zB,zB ⟨i.price,q⟩,zW 2 i.b.sells i.price⟩,rfl,rfl,rfl,⟨by rw[yWk];exact hle,by rw[yWk];omega⟩,fun _ _=>⟨(),?_⟩⟩
   have hs:iE (i.b.spare.take (i.b.spare.length-1))=(iE i.b.spare).take (i.b.spare.length-1):=by simp only[iE,y0x]
   exact kp
  ·have eq:i.b.newQ=((i.b.a.queues.length:Int),i.b.spare,i.b.a.openQ):=by rw[Book.newQ,yWl (by omega)]
   rw[eq]at hins ⊢
   refine⟨i.b.a,rfl,by omega,fun _ _=>⟨trivial,⟨i.b.sells.map zB,zB ⟨i.price,i.b.a.queues.length⟩,zW 2 i.b.sells i.price⟩,rfl,rfl,rfl,⟨by rw[yWk];exact hle,by rw[yWk];omega⟩,fun _ _=>⟨(),?_⟩⟩⟩
   exact kp
theorem z4e:queue2C.ok Tryz.prog 268:=okw mixed (gokc zMj (gokc zVt (gokc z1s gok0))) 0 (fun _=>[]) (fun _=>[]) [] Tryz.func268 yHh
open Go Cv Go.Proofs
structure BaI where
 b:Book
 id:Int
 price:Int
 qty:Int
def Book.leads (b:Book) (s price:Int):Bool:=match b.rungs s with
 |[]=>true
 |r::_=>btr s price r.price
def Book.led (b:Book) (id s price:Int):Book:=if b.leads s price=true then b.leadF id s else b
def Book.stand (b:Book) (s id price qty:Int):Book:=
 let b2:=(b.led id s price).queueF s price
 let x:=b2.1.a.push b2.2 id qty (b.leads s price)
 {b2.1 with a:=x.1,at_:=pE id ⟨s,price,x.2.1⟩ b2.1.at_}
def Book.addF (b:Book) (s id price qty:Int):Book×Int:=
 if qty<1∨1000000<qty then(b,24)else if(pget b.at_ id).isSome=true then(b,25)else if 250≤b.at_.length then(b,13)else(b.stand s id price qty,0)
def z7p (s:Int):Con:=con1 BaI (fun i=>[.nm 0 0,zA i.id,zA s,zA i.price,zA i.qty]) (fun i=>[z5 i.b]) (fun i=>i.b.fit) (fun i=>zA (i.b.addF s i.id i.price i.qty).2) (fun i=>[z5 (i.b.addF s i.id i.price i.qty).1])
def yKu:List (Nat×SAnn):=[(44,bj 14)]
def badd1C:Con:=z7p 1
def badd2C:Con:=z7p 2
structure BaJ where
 i:BaI
 s:Bool
def baddC:Con:=con1 BaJ (fun j=>[.nm 0 0,zA j.i.id,zA (zC j.s),zA j.i.price,zA j.i.qty]) (fun j=>[z5 j.i.b]) (fun j=>j.i.b.fit) (fun j=>zA (j.i.b.addF (zC j.s) j.i.id j.i.price j.i.qty).2) (fun j=>[z5 (j.i.b.addF (zC j.s) j.i.id j.i.price j.i.qty).1])
structure SaI where
 s:MSt
 inst:Int
 id:Int
 sd:Bool
 price:Int
 qty:Int
def MSt.bookAt (s:MSt) (n:Int):Book:=s.books.getD n.toNat book0
def MSt.addF (i:SaI):MSt×Int:=
 if i.inst<0∨i.s.books.length≤i.inst then(i.s,20)else if(lL i.s.wh i.id).isSome=true then(i.s,25)else if 250≤i.s.wh.length then(i.s,13)else if i.s.p.price i.inst i.price≠0 then(i.s,i.s.p.price i.inst i.price)
 else
  let x:=(i.s.bookAt i.inst).addF (zC i.sd) i.id i.price i.qty
  ({i.s with books:=i.s.books.set i.inst.toNat x.1,wh:=if x.2=0 then zTu i.id i.inst i.s.wh else i.s.wh},x.2)
@[reducible] def MSt.fit (s:MSt):Prop:=s.p.small∧s.books.length≤1000000∧∀b∈s.books,b.fit
def saddC:Con:=con1 SaI (fun i=>[.nm 0 0,zA i.inst,zA i.id,zA (zC i.sd),zA i.price,zA i.qty]) (fun i=>[zD i.s]) (fun i=>i.s.fit) (fun i=>zA (MSt.addF i).2) (fun i=>[zD (MSt.addF i).1])
open Go Cv Go.Proofs
def nP (a:PuI):Prop:=a.a.slots.length≤1000000∧(a.a.free≠0→∃(b:Slot),b∈a.a.slots∧b.used=false)∧∀(b:dL),b∈a.a.queues→b.last=(-1)∨0≤b.last∧b.last<(↑a.a.slots.length:Int)
def yN (a:BaI):=(a.b.addF 1 a.id a.price a.qty)
def tG (a:BkP):Prop:=(a.b.a.slots.length≤1000000∧(a.b.a.free≠0→∃(b:Slot),b∈a.b.a.slots∧b.used=false)∧∀(b:dL),b∈a.b.a.queues→b.last=(-1)∨0≤b.last∧b.last<(↑a.b.a.slots.length:Int))∧a.b.a.queues.length≤100000∧a.b.buys.length≤100000∧a.b.sells.length≤100000∧a.b.spare.length≤100000
def zEm (a:BkP) (b:BaI) (c:Bool):Prop:=(tG a)∧∀(d:Unit),True→True∧∃(e:PuI),e.n=(zN a).snd∧e.id=b.id∧e.qty=b.qty∧e.top=c∧AObj.adt Arena 3 zF e.a=AObj.adt Arena 3 zF (zN a).fst.a∧(nP e)∧∀(f:Unit),True→(∀(g:Value×List D),g∈atE (zN a).fst.at_→like (Value.int IntKind.i64 b.id) g.fst=true)∧∃(g:Unit),(yN b).snd=0∧(yN b).fst.top1=(zN a).fst.top1∧(yN b).fst.top2=(zN a).fst.top2∧(yN b).fst.has1=(zN a).fst.has1∧(yN b).fst.has2=(zN a).fst.has2∧AObj.adt Arena 3 zF (yN b).fst.a=AObj.adt Arena 3 zF (yK e).fst∧List.map zB (yN b).fst.buys=List.map zB (zN a).fst.buys∧List.map zB (yN b).fst.sells=List.map zB (zN a).fst.sells∧atE (yN b).fst.at_=gP (Value.int IntKind.i64 b.id) [dI 1,dI b.price,dI ((yK e).snd.fst)] (atE (zN a).fst.at_)∧iE (yN b).fst.spare=iE (zN a).fst.spare∧True
def tK (a:Bool→Prop) (b:Bool) (c:Int) (d:Int) (e:Int) (f:BaI):Prop:=a b∧Sx.AObj.cells [V.d (dI c),V.d (dI d),V.d (dI e)] 313=Sx.AObj.cells [V.d (dI c),V.d (dI d),V.d (dI e)] 313∧Sx.AObj.cells (gX (jG 0 1 6) [V.nm 1 0,V.own 2,V.own 3,V.mp 4,zA f.b.top1,zA f.b.top2,V.own 5,yF f.b.has1,yF f.b.has2]) (299:TypeId)=Sx.AObj.cells (gX (jG 0 1 6) [V.nm 1 0,V.own 2,V.own 3,V.mp 4,zA f.b.top1,zA f.b.top2,V.own 5,yF f.b.has1,yF f.b.has2]) (299:TypeId)∧AObj.adt Arena 3 zF f.b.a=AObj.adt Arena 3 zF f.b.a∧AObj.own 304 2 (List.map zB f.b.buys)=AObj.own 304 2 (List.map zB f.b.buys)∧AObj.own 304 2 (List.map zB f.b.sells)=AObj.own 304 2 (List.map zB f.b.sells)∧Sx.AObj.map (atE f.b.at_)=Sx.AObj.map (atE f.b.at_)∧AObj.own 3 1 (iE f.b.spare)=AObj.own 3 1 (iE f.b.spare)
def eD (a:I3') (b:BaI) (c:Int) (d:Bool→Prop) (e:Int) (f:Int) (g:Int):Prop:=a.x=b.price∧a.y=c∧True∧∀(h:Unit),True→∃(j:Bool),j=btr a.side a.x a.y∧tK d j e f g b
def eO (a:Bool→Prop) (b:Int) (c:Int) (d:Int) (e:BaI):Prop:=∃(f:Bool),f=true∧tK a f b c d e
def mS (a:BaI):Prop:=(yN a).fst.top1=a.b.top1∧(yN a).fst.top2=a.b.top2∧(yN a).fst.has1=a.b.has1∧(yN a).fst.has2=a.b.has2∧AObj.adt Arena 3 zF (yN a).fst.a=AObj.adt Arena 3 zF a.b.a∧List.map zB (yN a).fst.buys=List.map zB a.b.buys∧List.map zB (yN a).fst.sells=List.map zB a.b.sells∧atE (yN a).fst.at_=atE a.b.at_∧iE (yN a).fst.spare=iE a.b.spare∧True
def zFq (a:BaI):Prop:=∃(b:Unit),(yN a).snd=24∧mS a
def nX (a:BaI) (b:Int) (c:Int) (d:Int) (e:Bool):Prop:=vT (Value.int IntKind.i64 a.id) (atE a.b.at_)=some [dI b,dI c,dI d]∧e=true∨vT (Value.int IntKind.i64 a.id) (atE a.b.at_)=none∧[dI b,dI c,dI d]=[dI 0,dI 0,dI 0]∧e=false
def pF (a:LdI):Prop:=(a.b.a.slots.length≤1000000∧a.b.a.queues.length≤1000000)∧a.b.buys.length≤1000000∧a.b.sells.length≤1000000∧a.b.spare.length≤1000000
def qQ (a:Int):=(!(decide (a=1)||decide (a=2)))
def yBg (i:BaI):Prop:=
 (∀(a:Value×List D),a∈atE i.b.at_→like (Value.int IntKind.i64 i.id) a.fst=true)∧∃(a:Bool),∃(b:Int),∃(c:Int),∃(d:Int),(nX i b c d a)∧∃(e:Int),e=1∧True∧∀(f:Unit),True→cnd (qQ e) (∃(g:Unit),(yN i).snd=21∧mS i) (cnd (decide (i.qty<1)) (zFq i) (cnd (decide (i.qty>1000000)) (zFq i) (cnd a (∃(g:Unit),(yN i).snd=25∧mS i) (cnd (decide ((↑(atE i.b.at_).length:Int)≥250)) (∃(g:Unit),(yN i).snd=13∧mS i) (∃(g:Bool),∃(h:Bool→Prop),cnd ((↑(List.map zB i.b.buys).length:Int)==0) (eO h b c d i) (((0:Int)≤(0:Int)∧0<(↑(List.map zB i.b.buys).length:Int))∧∃(j:Int),zE (List.map zB i.b.buys) (Int.toNat 0) ((0:Nat)+(0:Nat)) 1=some [dI j]∧∃(k:I3'),k.side=1∧eD k i j h b c d)∧∀(j:Bool),h j→cnd j (∃(k:LdI),k.id=i.id∧(1:Int)=(1:Int)∧k.b.top1=i.b.top1∧k.b.top2=i.b.top2∧k.b.has1=i.b.has1∧k.b.has2=i.b.has2∧AObj.adt Arena 3 zF k.b.a=AObj.adt Arena 3 zF i.b.a∧List.map zB k.b.buys=List.map zB i.b.buys∧List.map zB k.b.sells=List.map zB i.b.sells∧atE k.b.at_=atE i.b.at_∧iE k.b.spare=iE i.b.spare∧(pF k)∧∀(l:Unit),True→∃(m:BkP),(1:Int)=(1:Int)∧m.price=i.price∧m.b.top1=k.id∧m.b.top2=k.b.top2∧m.b.has1=true∧m.b.has2=k.b.has2∧AObj.adt Arena 3 zF m.b.a=AObj.adt Arena 3 zF (k.b.untop 1)∧List.map zB m.b.buys=List.map zB k.b.buys∧List.map zB m.b.sells=List.map zB k.b.sells∧atE m.b.at_=atE k.b.at_∧iE m.b.spare=iE k.b.spare∧zEm m i j) (∃(k:BkP),(1:Int)=(1:Int)∧k.price=i.price∧k.b.top1=i.b.top1∧k.b.top2=i.b.top2∧k.b.has1=i.b.has1∧k.b.has2=i.b.has2∧AObj.adt Arena 3 zF k.b.a=AObj.adt Arena 3 zF i.b.a∧List.map zB k.b.buys=List.map zB i.b.buys∧List.map zB k.b.sells=List.map zB i.b.sells∧atE k.b.at_=atE i.b.at_∧iE k.b.spare=iE i.b.spare∧zEm k i j))))))
def yM (a:BaI):=(a.b.addF 2 a.id a.price a.qty)
def zEj (a:BkP) (b:BaI) (c:Bool):Prop:=(tG a)∧∀(d:Unit),True→True∧∃(e:PuI),e.n=(zM a).snd∧e.id=b.id∧e.qty=b.qty∧e.top=c∧AObj.adt Arena 3 zF e.a=AObj.adt Arena 3 zF (zM a).fst.a∧(nP e)∧∀(f:Unit),True→(∀(g:Value×List D),g∈atE (zM a).fst.at_→like (Value.int IntKind.i64 b.id) g.fst=true)∧∃(g:Unit),(yM b).snd=0∧(yM b).fst.top1=(zM a).fst.top1∧(yM b).fst.top2=(zM a).fst.top2∧(yM b).fst.has1=(zM a).fst.has1∧(yM b).fst.has2=(zM a).fst.has2∧AObj.adt Arena 3 zF (yM b).fst.a=AObj.adt Arena 3 zF (yK e).fst∧List.map zB (yM b).fst.buys=List.map zB (zM a).fst.buys∧List.map zB (yM b).fst.sells=List.map zB (zM a).fst.sells∧atE (yM b).fst.at_=gP (Value.int IntKind.i64 b.id) [dI 2,dI b.price,dI ((yK e).snd.fst)] (atE (zM a).fst.at_)∧iE (yM b).fst.spare=iE (zM a).fst.spare∧True
def aQ (a:BaI):Prop:=(yM a).fst.top1=a.b.top1∧(yM a).fst.top2=a.b.top2∧(yM a).fst.has1=a.b.has1∧(yM a).fst.has2=a.b.has2∧AObj.adt Arena 3 zF (yM a).fst.a=AObj.adt Arena 3 zF a.b.a∧List.map zB (yM a).fst.buys=List.map zB a.b.buys∧List.map zB (yM a).fst.sells=List.map zB a.b.sells∧atE (yM a).fst.at_=atE a.b.at_∧iE (yM a).fst.spare=iE a.b.spare∧True
def zDl (a:BaI):Prop:=∃(b:Unit),(yM a).snd=24∧aQ a
def yDh (i:BaI):Prop:=
 (∀(a:Value×List D),a∈atE i.b.at_→like (Value.int IntKind.i64 i.id) a.fst=true)∧∃(a:Bool),∃(b:Int),∃(c:Int),∃(d:Int),(nX i b c d a)∧∃(e:Int),e=2∧True∧∀(f:Unit),True→cnd (qQ e) (∃(g:Unit),(yM i).snd=21∧aQ i) (cnd (decide (i.qty<1)) (zDl i) (cnd (decide (i.qty>1000000)) (zDl i) (cnd a (∃(g:Unit),(yM i).snd=25∧aQ i) (cnd (decide ((↑(atE i.b.at_).length:Int)≥250)) (∃(g:Unit),(yM i).snd=13∧aQ i) (∃(g:Bool),∃(h:Bool→Prop),cnd ((↑(List.map zB i.b.sells).length:Int)==0) (eO h b c d i) (((0:Int)≤(0:Int)∧0<(↑(List.map zB i.b.sells).length:Int))∧∃(j:Int),zE (List.map zB i.b.sells) (Int.toNat 0) ((0:Nat)+(0:Nat)) 1=some [dI j]∧∃(k:I3'),k.side=2∧eD k i j h b c d)∧∀(j:Bool),h j→cnd j (∃(k:LdI),k.id=i.id∧(2:Int)=(2:Int)∧k.b.top1=i.b.top1∧k.b.top2=i.b.top2∧k.b.has1=i.b.has1∧k.b.has2=i.b.has2∧AObj.adt Arena 3 zF k.b.a=AObj.adt Arena 3 zF i.b.a∧List.map zB k.b.buys=List.map zB i.b.buys∧List.map zB k.b.sells=List.map zB i.b.sells∧atE k.b.at_=atE i.b.at_∧iE k.b.spare=iE i.b.spare∧(pF k)∧∀(l:Unit),True→∃(m:BkP),(2:Int)=(2:Int)∧m.price=i.price∧m.b.top1=k.b.top1∧m.b.top2=k.id∧m.b.has1=k.b.has1∧m.b.has2=true∧AObj.adt Arena 3 zF m.b.a=AObj.adt Arena 3 zF (k.b.untop 2)∧List.map zB m.b.buys=List.map zB k.b.buys∧List.map zB m.b.sells=List.map zB k.b.sells∧atE m.b.at_=atE k.b.at_∧iE m.b.spare=iE k.b.spare∧zEj m i j) (∃(k:BkP),(2:Int)=(2:Int)∧k.price=i.price∧k.b.top1=i.b.top1∧k.b.top2=i.b.top2∧k.b.has1=i.b.has1∧k.b.has2=i.b.has2∧AObj.adt Arena 3 zF k.b.a=AObj.adt Arena 3 zF i.b.a∧List.map zB k.b.buys=List.map zB i.b.buys∧List.map zB k.b.sells=List.map zB i.b.sells∧atE k.b.at_=atE i.b.at_∧iE k.b.spare=iE i.b.spare∧zEj k i j))))))
def zEr (a:SaI):Prop:=AObj.fro 1 (iE (MSt.addF a).fst.p.months)=AObj.fro 1 (iE a.s.p.months)∧AObj.fro 1 (iE (MSt.addF a).fst.p.settle)=AObj.fro 1 (iE a.s.p.settle)∧True
def zFg (a:SaI):Prop:=yW (MSt.addF a).fst.wh=yW a.s.wh∧zEr a
def r9 (a:SaI):Prop:=sb (MSt.addF a).fst.p.code=sb a.s.p.code∧(MSt.addF a).fst.p.tick=a.s.p.tick∧(MSt.addF a).fst.p.low=a.s.p.low∧(MSt.addF a).fst.p.high=a.s.p.high∧(MSt.addF a).fst.p.wide=a.s.p.wide∧(MSt.addF a).fst.p.rule=a.s.p.rule∧(MSt.addF a).fst.p.top=a.s.p.top∧(MSt.addF a).fst.p.least=a.s.p.least∧(MSt.addF a).fst.p.part=a.s.p.part∧AObj.objs 241 Book 6 zQ (MSt.addF a).fst.books none=AObj.objs 241 Book 6 zQ a.s.books none∧zFg a
def zLg (a:SaI):Prop:=∃(b:Unit),(MSt.addF a).snd=20∧r9 a
def aS (a:BaJ):=(a.i.b.addF (zC a.s) a.i.id a.i.price a.i.qty)
def yKx (i:SaI):Prop:=
 (∀(a:Value×List D),a∈yW i.s.wh→like (Value.int IntKind.i64 i.id) a.fst=true)∧∃(a:Bool),∃(b:Int),(vT (Value.int IntKind.i64 i.id) (yW i.s.wh)=some [dI b]∧a=true∨vT (Value.int IntKind.i64 i.id) (yW i.s.wh)=none∧[dI b]=[dI 0]∧a=false)∧cnd (decide (i.inst≥0)) (cnd (!decide (i.inst<(↑i.s.books.length:Int))) (zLg i) (cnd a (∃(c:Unit),(MSt.addF i).snd=25∧r9 i) (cnd (decide ((↑(yW i.s.wh).length:Int)≥250)) (∃(c:Unit),(MSt.addF i).snd=13∧r9 i) (∃(c:pY),sb c.p.code=sb i.s.p.code∧iE c.p.months=iE i.s.p.months∧c.p.tick=i.s.p.tick∧c.p.low=i.s.p.low∧c.p.high=i.s.p.high∧c.p.wide=i.s.p.wide∧c.p.rule=i.s.p.rule∧c.p.top=i.s.p.top∧c.p.least=i.s.p.least∧c.p.part=i.s.p.part∧iE c.p.settle=iE i.s.p.settle∧c.a=i.inst∧c.b=i.price∧(xZ c)∧∀(d:Unit),True→cnd (c.p.price c.a c.b !=0) (∃(e:Unit),(MSt.addF i).snd=c.p.price c.a c.b∧r9 i) ((0≤i.inst∧i.inst<(↑i.s.books.length:Int))∧i.inst.toNat<i.s.books.length∧∃(e:Book),i.s.books[i.inst.toNat]?=some e∧∃(f:BaJ),f.i.id=i.id∧zC f.s=zC i.sd∧f.i.price=i.price∧f.i.qty=i.qty∧z5 f.i.b=z5 e∧((f.i.b.a.slots.length≤1000000∧(f.i.b.a.free≠0→∃(g:Slot),g∈f.i.b.a.slots∧g.used=false)∧∀(g:dL),g∈f.i.b.a.queues→g.last=(-1)∨0≤g.last∧g.last<(↑f.i.b.a.slots.length:Int))∧f.i.b.a.queues.length≤100000∧f.i.b.buys.length≤100000∧f.i.b.sells.length≤100000∧f.i.b.spare.length≤100000)∧∀(g:Unit),True→∃(h:Book),z5 (aS f).fst=z5 h∧i.inst.toNat=i.inst.toNat∧i.inst.toNat<i.s.books.length∧cnd ((aS f).snd==0) ((∀(j:Value×List D),j∈yW i.s.wh→like (Value.int IntKind.i64 i.id) j.fst=true)∧∃(j:Unit),(MSt.addF i).snd=(aS f).snd∧sb (MSt.addF i).fst.p.code=sb i.s.p.code∧(MSt.addF i).fst.p.tick=i.s.p.tick∧(MSt.addF i).fst.p.low=i.s.p.low∧(MSt.addF i).fst.p.high=i.s.p.high∧(MSt.addF i).fst.p.wide=i.s.p.wide∧(MSt.addF i).fst.p.rule=i.s.p.rule∧(MSt.addF i).fst.p.top=i.s.p.top∧(MSt.addF i).fst.p.least=i.s.p.least∧(MSt.addF i).fst.p.part=i.s.p.part∧AObj.objs 241 Book 6 zQ (MSt.addF i).fst.books none=AObj.objs 241 Book 6 zQ (i.s.books.set i.inst.toNat h) none∧yW (MSt.addF i).fst.wh=gP (Value.int IntKind.i64 i.id) [dI i.inst] (yW i.s.wh)∧zEr i) (∃(j:Unit),(MSt.addF i).snd=(aS f).snd∧sb (MSt.addF i).fst.p.code=sb i.s.p.code∧(MSt.addF i).fst.p.tick=i.s.p.tick∧(MSt.addF i).fst.p.low=i.s.p.low∧(MSt.addF i).fst.p.high=i.s.p.high∧(MSt.addF i).fst.p.wide=i.s.p.wide∧(MSt.addF i).fst.p.rule=i.s.p.rule∧(MSt.addF i).fst.p.top=i.s.p.top∧(MSt.addF i).fst.p.least=i.s.p.least∧(MSt.addF i).fst.p.part=i.s.p.part∧AObj.objs 241 Book 6 zQ (MSt.addF i).fst.books none=AObj.objs 241 Book 6 zQ (i.s.books.set i.inst.toNat h) none∧zFg i)))))) (zLg i)
open Go Cv Go.Proofs
theorem zKa {α:Type} {f:α→α} {Q:α→Prop} (hf:∀x,Q x→Q (f x)):∀{l:List α} (i:Nat),(∃x∈l,Q x)→∃x∈l.modify i f,Q x
 |[],i,⟨x,hx,_⟩=>by cases hx
 |a::l,0,⟨x,hx,q⟩=>by
  rcases yXe.1 hx with rfl|hx
  ·exact⟨f x,yWp,hf x q⟩
  ·exact⟨x,yWq _ hx,q⟩
 |a::l,i+1,⟨x,hx,q⟩=>by
  rw[y1y]
  rcases yXe.1 hx with rfl|hx
  ·exact⟨x,yWp,q⟩
  ·obtain⟨y,hy,hq⟩:=zKa hf (l:=l) i ⟨x,hx,q⟩
   exact⟨y,yWq _ hy,hq⟩
theorem z9y {a:Arena} (h:a.fit) (n:Int) (t:Bool):(a.topF n t).fit:=by
 obtain⟨h1,h2,h3⟩:=h
 rw[Arena.topF]
 split
 ·refine⟨by simpa using h1,fun hf=> ?_,by simpa using h3⟩
  exact zKa (f:=fun s:Slot=>{s with top:=t}) (Q:=fun s=>s.used=false) (fun x hx=>hx) _ (h2 hf)
 ·exact⟨h1,h2,h3⟩
theorem z7e {b:Book} (h:b.a.fit) (s:Int):(b.untop s).fit:=by
 rw[Book.untop]
 repeat' split
 all_goals first|exact h|exact z9y h _ _
theorem z5j {a:Arena} (h:a.fit):a.openQ.fit:=by
 obtain⟨h1,h2,h3⟩:=h
 refine⟨h1,h2,fun q hq=> ?_⟩
 rcases yXo.1 hq with hq|hq
 ·exact h3 q hq
 ·rw[yYc.1 hq];exact .inl rfl
theorem zWo {b:Book} (h:b.a.fit):b.newQ.2.2.fit:=by
 rw[Book.newQ]
 split
 ·exact z5j h
 ·exact h
theorem pP {b:Book} (h:b.a.fit) (s p:Int):(b.queueF s p).1.a.fit:=by
 rw[Book.queueF]
 repeat' split
 ·exact h
 ·exact zWo h
 ·exact zWo h
theorem z5b (b:Book) (s:Int):(b.untop s).slots.length=b.a.slots.length∧(b.untop s).queues=b.a.queues:=by
 have ht:∀n t,(b.a.topF n t).slots.length=b.a.slots.length∧(b.a.topF n t).queues=b.a.queues:=by
  intro n t
  rw[Arena.topF]
  split
  ·exact⟨by simp,rfl⟩
  ·exact⟨rfl,rfl⟩
 rw[Book.untop]
 repeat' split
 all_goals first|exact⟨rfl,rfl⟩|exact ht _ _
theorem zPa {b:Book} (h:b.fit) (id s:Int):(b.leadF id s).fit:=by
 obtain⟨h1,h2,h3,h4,h5⟩:=h
 have hl:=z5b b s
 rw[Book.leadF]
 split
 all_goals exact⟨z7e h1 s,by rw[hl.2];exact h2,h3,h4,h5⟩
theorem zOg {b:Book} (h:b.fit):b.small:=by
 obtain⟨⟨h1,_⟩,h2,h3,h4,h5⟩:=h
 exact⟨⟨h1,by omega⟩,by omega,by omega,by omega⟩
theorem yPp (i:BaI) (h:badd1C.cnd i):yBg i:=by
 have hfit:i.b.fit:=h
 have hsm:=zOg hfit
 unfold yBg zFq mS eO eD tK qQ zEm zN tG yN nP yK pF nX dI
 have plc:∀(b:Book) (x:Int),gP (Value.int IntKind.i64 i.id) [D.v (.int .i64 1),D.v (.int .i64 i.price),D.v (.int .i64 x)] (atE b.at_)=atE (pE i.id ⟨1,i.price,x⟩ b.at_):=fun b x=>zRl i.id ⟨1,i.price,x⟩ b.at_
 refine⟨jS _ _,(pget i.b.at_ i.id).isSome,_,_,_,zPj _ _,1,rfl,trivial,fun _ _=> ?_⟩
 refine Cv.cnd.mk (fun c=>absurd c (by decide)) fun _=> ?_
 refine zI (fun c=> ?_) (fun c=>zI (fun d=> ?_) (fun d=> ?_))
 ·have ha:i.b.addF 1 i.id i.price i.qty=(i.b,24):=by rw[Book.addF,yWl (.inl c)]
  rw[ha];exact kp
 ·have ha:i.b.addF 1 i.id i.price i.qty=(i.b,24):=by rw[Book.addF,yWl (.inr d)]
  rw[ha];exact kp
 have hq:¬(i.qty<1∨1000000<i.qty):=by omega
 refine Cv.cnd.mk (fun e=> ?_) (fun e=> ?_)
 ·have ha:i.b.addF 1 i.id i.price i.qty=(i.b,25):=by rw[Book.addF,yWj hq,yWl e]
  rw[ha];exact kp
 have hlen:(atE i.b.at_).length=i.b.at_.length:=by simp[atE]
 rw[hlen]
 refine zI (fun f=> ?_) (fun f=> ?_)
 ·have ha:i.b.addF 1 i.id i.price i.qty=(i.b,13):=by rw[Book.addF,yWj hq,yWj (by rw[e];decide),yWl (by omega)]
  rw[ha];exact kp
 have ha:i.b.addF 1 i.id i.price i.qty=(i.b.stand 1 i.id i.price i.qty,0):=by rw[Book.addF,yWj hq,yWj (by rw[e];decide),yWj (by omega)]
 rw[ha]
 simp only[yWk]
 refine⟨true,fun x=>x=i.b.leads 1 i.price,Cv.cnd.mk (fun g=>⟨true,rfl,?_,k0q⟩) (fun g=> ?_),fun x hx=> ?_⟩
 ·have:i.b.buys=[]:=yXn (by have:(i.b.buys.length:Int)=0:=(by simpa using g);omega)
  rw[Book.leads,pT,this]
 ·obtain⟨r,l,hl⟩:∃r l,i.b.buys=r::l:=by
   cases hb:i.b.buys with
   |nil=>rw[hb]at g;exact absurd g (by decide)
   |cons r l=>exact⟨r,l,rfl⟩
  refine⟨⟨by omega,by rw[hl,yWr];omega⟩,r.price,elA (x:=r) (by rw[hl];rfl) (by simp[zB]) rfl,⟨1,i.price,r.price⟩,rfl,rfl,rfl,trivial,fun _ _=>⟨_,rfl,?_,k0q⟩⟩
  rw[Book.leads,pT,hl]
 subst hx
 refine Cv.cnd.mk (fun g=> ?_) (fun g=> ?_)
 ·have hled:i.b.led i.id 1 i.price=i.b.leadF i.id 1:=by rw[Book.led,yWl g]
  have hf1:=zPa hfit i.id 1
  have hst:i.b.stand 1 i.id i.price i.qty={((i.b.leadF i.id 1).queueF 1 i.price).1 with a:=(((i.b.leadF i.id 1).queueF 1 i.price).1.a.push ((i.b.leadF i.id 1).queueF 1 i.price).2 i.id i.qty (i.b.leads 1 i.price)).1,at_:=pE i.id ⟨1,i.price,(((i.b.leadF i.id 1).queueF 1 i.price).1.a.push ((i.b.leadF i.id 1).queueF 1 i.price).2 i.id i.qty (i.b.leads 1 i.price)).2.1⟩ ((i.b.leadF i.id 1).queueF 1 i.price).1.at_}:=by
   simp only[Book.stand,hled]
  refine⟨⟨i.b,i.id⟩,rfl,trivial,rfl,rfl,rfl,rfl,rfl,rfl,rfl,rfl,rfl,hsm,fun _ _=>⟨⟨i.b.leadF i.id 1,i.price⟩,trivial,rfl,rfl,rfl,rfl,rfl,rfl,rfl,rfl,rfl,rfl,hf1,fun _ _=>⟨trivial,?_⟩⟩⟩
  refine⟨⟨((i.b.leadF i.id 1).queueF 1 i.price).1.a,((i.b.leadF i.id 1).queueF 1 i.price).2,i.id,i.qty,i.b.leads 1 i.price⟩,rfl,rfl,rfl,rfl,rfl,pP hf1.1 1 i.price,fun _ _=>⟨jS _ _,(),?_⟩⟩
  dsimp only
  rw[hst,plc]
  exact kp
 ·have hled:i.b.led i.id 1 i.price=i.b:=by rw[Book.led,yWj (by rw[g];decide)]
  have hst:i.b.stand 1 i.id i.price i.qty={(i.b.queueF 1 i.price).1 with a:=((i.b.queueF 1 i.price).1.a.push (i.b.queueF 1 i.price).2 i.id i.qty (i.b.leads 1 i.price)).1,at_:=pE i.id ⟨1,i.price,((i.b.queueF 1 i.price).1.a.push (i.b.queueF 1 i.price).2 i.id i.qty (i.b.leads 1 i.price)).2.1⟩ (i.b.queueF 1 i.price).1.at_}:=by
   simp only[Book.stand,hled]
  refine⟨⟨i.b,i.price⟩,trivial,rfl,rfl,rfl,rfl,rfl,rfl,rfl,rfl,rfl,rfl,hfit,fun _ _=>⟨trivial,?_⟩⟩
  refine⟨⟨(i.b.queueF 1 i.price).1.a,(i.b.queueF 1 i.price).2,i.id,i.qty,i.b.leads 1 i.price⟩,rfl,rfl,rfl,rfl,rfl,pP hfit.1 1 i.price,fun _ _=>⟨jS _ _,(),?_⟩⟩
  dsimp only
  rw[hst,plc]
  exact kp
theorem yDi:badd1C.ok Tryz.prog 240:=okw mixed (gokc rQ (gokc cY (gokc yBx (gokc z4l (gokc zUy gok0))))) 0 (fun _=>yKu) (fun _=>[]) [0] Tryz.func240 yPp
theorem yLu (i:BaI) (h:badd2C.cnd i):yDh i:=by
 have hfit:i.b.fit:=h
 have hsm:=zOg hfit
 unfold yDh zDl aQ zEj zM yM tG nP yK eO eD tK qQ pF nX dI
 have plc:∀(b:Book) (x:Int),gP (Value.int IntKind.i64 i.id) [D.v (.int .i64 2),D.v (.int .i64 i.price),D.v (.int .i64 x)] (atE b.at_)=atE (pE i.id ⟨2,i.price,x⟩ b.at_):=fun b x=>zRl i.id ⟨2,i.price,x⟩ b.at_
 refine⟨jS _ _,(pget i.b.at_ i.id).isSome,_,_,_,zPj _ _,2,rfl,trivial,fun _ _=> ?_⟩
 refine Cv.cnd.mk (fun c=>absurd c (by decide)) fun _=> ?_
 refine zI (fun c=> ?_) (fun c=>zI (fun d=> ?_) (fun d=> ?_))
 ·have ha:i.b.addF 2 i.id i.price i.qty=(i.b,24):=by rw[Book.addF,yWl (.inl c)]
  rw[ha];exact kp
 ·have ha:i.b.addF 2 i.id i.price i.qty=(i.b,24):=by rw[Book.addF,yWl (.inr d)]
  rw[ha];exact kp
 have hq:¬(i.qty<1∨1000000<i.qty):=by omega
 refine Cv.cnd.mk (fun e=> ?_) (fun e=> ?_)
 ·have ha:i.b.addF 2 i.id i.price i.qty=(i.b,25):=by rw[Book.addF,yWj hq,yWl e]
  rw[ha];exact kp
 have hlen:(atE i.b.at_).length=i.b.at_.length:=by simp[atE]
 rw[hlen]
 refine zI (fun f=> ?_) (fun f=> ?_)
 ·have ha:i.b.addF 2 i.id i.price i.qty=(i.b,13):=by rw[Book.addF,yWj hq,yWj (by rw[e];decide),yWl (by omega)]
  rw[ha];exact kp
 have ha:i.b.addF 2 i.id i.price i.qty=(i.b.stand 2 i.id i.price i.qty,0):=by rw[Book.addF,yWj hq,yWj (by rw[e];decide),yWj (by omega)]
 rw[ha]
 simp only[yWk]
 refine⟨true,fun x=>x=i.b.leads 2 i.price,Cv.cnd.mk (fun g=>⟨true,rfl,?_,k0q⟩) (fun g=> ?_),fun x hx=> ?_⟩
 ·have:i.b.sells=[]:=yXn (by have:(i.b.sells.length:Int)=0:=(by simpa using g);omega)
  rw[Book.leads,nD,this]
 ·obtain⟨r,l,hl⟩:∃r l,i.b.sells=r::l:=by
   cases hb:i.b.sells with
   |nil=>rw[hb]at g;exact absurd g (by decide)
   |cons r l=>exact⟨r,l,rfl⟩
  refine⟨⟨by omega,by rw[hl,yWr];omega⟩,r.price,elA (x:=r) (by rw[hl];rfl) (by simp[zB]) rfl,⟨2,i.price,r.price⟩,rfl,rfl,rfl,trivial,fun _ _=>⟨_,rfl,?_,k0q⟩⟩
  rw[Book.leads,nD,hl]
 subst hx
 refine Cv.cnd.mk (fun g=> ?_) (fun g=> ?_)
 ·have hled:i.b.led i.id 2 i.price=i.b.leadF i.id 2:=by rw[Book.led,yWl g]
  have hf1:=zPa hfit i.id 2
  have hst:i.b.stand 2 i.id i.price i.qty={((i.b.leadF i.id 2).queueF 2 i.price).1 with a:=(((i.b.leadF i.id 2).queueF 2 i.price).1.a.push ((i.b.leadF i.id 2).queueF 2 i.price).2 i.id i.qty (i.b.leads 2 i.price)).1,at_:=pE i.id ⟨2,i.price,(((i.b.leadF i.id 2).queueF 2 i.price).1.a.push ((i.b.leadF i.id 2).queueF 2 i.price).2 i.id i.qty (i.b.leads 2 i.price)).2.1⟩ ((i.b.leadF i.id 2).queueF 2 i.price).1.at_}:=by
   simp only[Book.stand,hled]
  refine⟨⟨i.b,i.id⟩,rfl,trivial,rfl,rfl,rfl,rfl,rfl,rfl,rfl,rfl,rfl,hsm,fun _ _=>⟨⟨i.b.leadF i.id 2,i.price⟩,trivial,rfl,rfl,rfl,rfl,rfl,rfl,rfl,rfl,rfl,rfl,hf1,fun _ _=>⟨trivial,?_⟩⟩⟩
  refine⟨⟨((i.b.leadF i.id 2).queueF 2 i.price).1.a,((i.b.leadF i.id 2).queueF 2 i.price).2,i.id,i.qty,i.b.leads 2 i.price⟩,rfl,rfl,rfl,rfl,rfl,pP hf1.1 2 i.price,fun _ _=>⟨jS _ _,(),?_⟩⟩
  dsimp only
  rw[hst,plc]
  exact kp
 ·have hled:i.b.led i.id 2 i.price=i.b:=by rw[Book.led,yWj (by rw[g];decide)]
  have hst:i.b.stand 2 i.id i.price i.qty={(i.b.queueF 2 i.price).1 with a:=((i.b.queueF 2 i.price).1.a.push (i.b.queueF 2 i.price).2 i.id i.qty (i.b.leads 2 i.price)).1,at_:=pE i.id ⟨2,i.price,((i.b.queueF 2 i.price).1.a.push (i.b.queueF 2 i.price).2 i.id i.qty (i.b.leads 2 i.price)).2.1⟩ (i.b.queueF 2 i.price).1.at_}:=by
   simp only[Book.stand,hled]
  refine⟨⟨i.b,i.price⟩,trivial,rfl,rfl,rfl,rfl,rfl,rfl,rfl,rfl,rfl,rfl,hfit,fun _ _=>⟨trivial,?_⟩⟩
  refine⟨⟨(i.b.queueF 2 i.price).1.a,(i.b.queueF 2 i.price).2,i.id,i.qty,i.b.leads 2 i.price⟩,rfl,rfl,rfl,rfl,rfl,pP hfit.1 2 i.price,fun _ _=>⟨jS _ _,(),?_⟩⟩
  dsimp only
  rw[hst,plc]
  exact kp
theorem yBj:badd2C.ok Tryz.prog 240:=okw mixed (gokc rQ (gokc cY (gokc yCb (gokc z4e (gokc zUy gok0))))) 0 (fun _=>yKu) (fun _=>[]) [0] Tryz.func240 yLu
theorem yHt:baddC.ok Tryz.prog 240:=fun j=>match j with
 |⟨i,false⟩=>yDi i
 |⟨i,true⟩=>yBj i
theorem yRc (i:SaI) (h:saddC.cnd i):yKx i:=by
 obtain⟨hp,hbl,hb⟩:i.s.fit:=h
 unfold yKx zLg r9 aS zFg zEr xZ dI
 simp only[zTb]
 have hml:(yW i.s.wh).length=i.s.wh.length:=by simp[yW]
 rw[hml]
 have out (e:i.inst<0∨i.s.books.length≤i.inst):MSt.addF i=(i.s,20):=by rw[MSt.addF,yWl e]
 refine⟨fW _ _,(lL i.s.wh i.id).isSome,_,yNn _ _,zI (fun c=>Cv.cnd.mk (fun d=> ?_) (fun d=> ?_)) (fun c=> ?_)⟩
 ·have d:¬i.inst<(i.s.books.length:Int):=by simpa using d
  rw[out (.inr (by omega))];exact kp
 ·have d:i.inst<(i.s.books.length:Int):=by simpa using d
  have hn:¬(i.inst<0∨(i.s.books.length:Int)≤i.inst):=by omega
  refine Cv.cnd.mk (fun e=> ?_) (fun e=>zI (fun f=> ?_) (fun f=> ?_))
  ·rw[MSt.addF,yWj hn,yWl e];exact kp
  ·rw[MSt.addF,yWj hn,yWj (by rw[e];decide),yWl (by omega)];exact kp
  ·refine⟨⟨i.s.p,i.inst,i.price⟩,rfl,rfl,rfl,rfl,rfl,rfl,rfl,rfl,rfl,rfl,rfl,rfl,rfl,hp,fun _ _=>Cv.cnd.mk (fun g=> ?_) (fun g=> ?_)⟩
   ·have g:i.s.p.price i.inst i.price≠0:=by simpa using g
    rw[MSt.addF,yWj hn,yWj (by rw[e];decide),yWj (by omega),yWl g];exact kp
   ·have g:i.s.p.price i.inst i.price=0:=by simpa using g
    obtain⟨x,hx⟩:=yD (l:=i.s.books) (i:=i.inst.toNat) (by omega)
    have hba:i.s.bookAt i.inst=x:=zR hx
    have ha:MSt.addF i=({i.s with books:=i.s.books.set i.inst.toNat (x.addF (zC i.sd) i.id i.price i.qty).1,wh:=if(x.addF (zC i.sd) i.id i.price i.qty).2=0 then zTu i.id i.inst i.s.wh else i.s.wh},(x.addF (zC i.sd) i.id i.price i.qty).2):=by
     rw[MSt.addF,yWj hn,yWj (by rw[e];decide),yWj (by omega),yWj (by simp[g])]
     simp only[hba]
    refine⟨⟨by omega,by omega⟩,by omega,x,hx,⟨⟨x,i.id,i.price,i.qty⟩,i.sd⟩,rfl,rfl,rfl,rfl,rfl,hb x (yWt hx),fun _ _=>⟨(x.addF (zC i.sd) i.id i.price i.qty).1,rfl,trivial,by omega,Cv.cnd.mk (fun z=>⟨fW _ _,?_⟩) (fun z=> ?_)⟩⟩
    ·have z:(x.addF (zC i.sd) i.id i.price i.qty).2=0:=by simpa using z
     rw[ha,z]
     simp only[if_true]
     exact kp
    ·have z:¬(x.addF (zC i.sd) i.id i.price i.qty).2=0:=by simpa using z
     rw[ha,yWj z]
     exact kp
 ·rw[out (.inl (by omega))];exact kp
theorem yEu:saddC.ok Tryz.prog 209:=okw mixed (gokc rV (gokc yHt gok0)) 1 (fun _=>[]) (fun _=>[]) [0] Tryz.func209 yRc
open Go Cv Go.Proofs
def r3prodC:Con:=con1 (List UInt8) (fun s=>[sV s]) (fun _=>[]) (fun s=>s.length≤1099511627776) (fun s=>yF (j7 s)) (fun _=>[])
def yHc (s:List UInt8):List SAnn:=[{ι:=Nat×Nat,slots:=fun x=>[(3,zA x.2),(7,.nm 0 0)],rows:=fun x=>[.iter (sb s) x.1]}]
def yHf:List (Nat×SAnn):=[(20,bj 29)]
def r5checkC:Con:=con1 Prd (fun p=>[prdV p]) (fun _=>[]) Prd.small (fun p=>zA p.check) (fun _=>[])
def z9o:List SAnn:=[{ι:=Nat,slots:=fun j=>[(3,zA j)],rows:=fun _=>[]},{ι:=Nat,slots:=fun j=>[(4,zA j)],rows:=fun _=>[]},{ι:=Nat,slots:=fun j=>[(5,zA j)],rows:=fun _=>[]}]
def z7k:List (Nat×SAnn):=[(12,bj 19),(32,bj 58),(40,bj 90),(68,bj 136),(96,bj 168),(104,bj 176),(112,bj 204)]
def r5countC:Con:=con1 Prd (fun p=>[prdV p]) (fun _=>[]) Prd.small (fun p=>zA p.count) (fun _=>[])
def r5legsC:Con:=con1 dC (fun i=>[prdV i.p,zA i.n]) (fun _=>[]) (fun i=>i.p.small) (fun i=> .tup [zA (i.p.legs i.n).1,zA (i.p.legs i.n).2.1,yF (i.p.legs i.n).2.2]) (fun _=>[])
def yIi (i:dC):List SAnn:=[{ι:=Nat,slots:=fun m=>[(8,zA (yL i.p.months.length m)),(9,zA m)],rows:=fun _=>[]},
 {ι:=Nat×Nat,slots:=fun m=>[(8,zA ((yL i.p.months.length m.1+m.2:Nat):Int)),(9,zA m.1),(10,zA ((m.1+1+m.2:Nat):Int))],rows:=fun _=>[]}]
def kN (x:Prd):Int:=2+zG x.months.length 0 3
def zV (x:Prd):Int:=1+zG x.tick 0 9
def qF (n:Nat):List Int:=(List.range n).map fun(i:Nat)=>10*(i:Int)+3
def kM (t:Int) (n:Nat):List Int:=(List.range n).map fun(i:Nat)=>t*(10+(i:Int))
def jQ (x:Prd):Prd:=⟨[206,169],qF (kN x).toNat,zV x,-20*zV x,100*zV x,zV x*(5+zG x.wide 0 60),1+zG x.rule 0 2,zG x.top 0 9,1+zG x.least 0 4,zG x.part 0 100,kM (zV x) (kN x).toNat⟩
@[reducible] def Prd.raw (x:Prd):Prop:=yU x.tick∧yU x.wide∧yU x.rule∧yU x.top∧yU x.least∧yU x.part∧x.months.length≤9223372036854775807
def kprodC:Con:=con1 Prd (fun x=>[prdV x]) (fun _=>[]) Prd.raw (fun x=>prdV (jQ x)) (fun _=>[])
def yUv (x:Prd) (w:Int) (j:Nat):List AObj:=[.cells [sV [206,169],.own 1,zA (zV x),zA (-20*zV x),zA (100*zV x),zA w,zA (1+zG x.rule 0 2),zA (zG x.top 0 9),zA (1+zG x.least 0 4),zA (zG x.part 0 100),.own 2] 25,.own 3 1 (iE (qF j)),.own 2 1 (iE (kM (zV x) j))]
def ySf (x:Prd):List AObj:=[.cells [sV [206,169],.d (.v (.slice none 0 0)),zA (zV x),zA (-20*zV x),zA (100*zV x),zA 0,zA (1+zG x.rule 0 2),zA (zG x.top 0 9),zA (1+zG x.least 0 4),zA (zG x.part 0 100),.d (.v (.slice none 0 0))] 25]
def yNs (x:Prd):List SAnn:=[{ι:=Nat,slots:=fun j=>[(5,.nm 0 0),(6,zA j)],rows:=fun j=>yUv x (zV x*(5+zG x.wide 0 60)) j}]
def yNm (x:Prd):List (Nat×SAnn):=[(12,{ι:=Unit,slots:=fun _=>[(5,.nm 0 0)],slots0:=fun _=>[],rows0:=fun _=>[],rows:=fun _=>ySf x})]
end Sx
