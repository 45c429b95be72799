/- Texts of ours, one behind the other: a walk that the kernel reckons, and contracts of functions. No condition. -/
import Derived.Test.YtpgpnnncaidcjaaGreatB4
namespace Sx
set_option linter.unusedVariables false
set_option linter.unusedSimpArgs false
set_option maxRecDepth 100000
open Go Cv Go.Proofs
theorem zYs {l:List Quote} {q:Quote} (s:Int) (h:l[0]? =some q):(yD (l.take (max 0 1)) s).1=q:=by
 cases l with
 |nil=>simp at h
 |cons a l=>simp at h;subst h;rfl
theorem z0k {l:List Quote} {j:Nat} {q:Quote} (s:Int) (h:l[j]? =some q):
 (yD (l.take (max (j+1) 1)) s).1=if btr s q.price (yD (l.take (max j 1)) s).1.price then q else(yD (l.take (max j 1)) s).1:=by
 cases l with
 |nil=>simp at h
 |cons a l=>
  cases j with
  |zero=>simp at h;subst h;simp[yD]
  |succ m=>
   simp only[yTx]at h
   rw[show max (m+1+1) 1=(m+1)+1 by omega,show max (m+1) 1=m+1 by omega,yTw,yTw,yUf,h]
   simp only[yD,yWv,yYl]
   rfl
theorem z6s {l:List Quote} (s:Int) (h:l≠[]):(yD l s).2=true:=by
 cases l with
 |nil=>exact absurd rfl h
 |cons a l=>rfl
theorem yKz (i:BsI) (h:bestQC.cnd i):yCa i:=by
 obtain⟨hs,hl⟩:(i.s=1∨i.s=2)∧i.l.length≤1000000:=h
 unfold yCa zKf z8 zAr bN lK dI
 simp only[ySh]
 refine Cv.cnd.mk (fun c=> ?_) (fun c=> ?_)
 ·have e:i.l=[]:=yTn (by have:(i.l.length:Int)=0:=(by simpa using c);omega)
  rw[e];exact kp
 have h0:0<i.l.length:=by
  rcases Nat.eq_zero_or_pos i.l.length with h|h
  ·rw[h]at c;exact absurd c (by decide)
  ·exact h
 have hne:i.l≠[]:=by intro e;rw[e]at h0;simp at h0
 have two:=z6s i.s hne
 obtain⟨q,hq⟩:=z6 h0
 have b0:=zYs i.s hq
 have fin:(yD (i.l.take (max i.l.length 1)) i.s).1=(yD i.l i.s).1:=by
  rw[ySz (by omega)]
 have step:∀j:Nat,j<i.l.length→∀x:Quote,i.l[j]? =some x→(btr i.s x.price (yD (i.l.take (max j 1)) i.s).1.price=true→(yD (i.l.take (max (j+1) 1)) i.s).1=x)∧(btr i.s x.price (yD (i.l.take (max j 1)) i.s).1.price=false→(yD (i.l.take (max (j+1) 1)) i.s).1=(yD (i.l.take (max j 1)) i.s).1):=fun j hj x hx=>by
  have:=z0k i.s hx
  constructor
  ·intro e;rw[this,ySf e]
  ·intro e;rw[this,ySe (by rw[e];simp)]
 refine Cv.cnd.mk (fun c1=>Cv.cnd.mk (fun c2=> ?_) (fun c2=> ?_)) (fun c1=> ?_)
 ·exfalso
  have c1:i.s≠1:=by simpa using c1
  have c2:i.s≠2:=by simpa using c2
  omega
 all_goals
  refine⟨⟨by omega,by omega⟩,q.price,q.qty,q.a.inst,q.a.side,q.b.inst,q.b.side,elA hq (by simp[zJ]) rfl,0,?_⟩
  rw[b0]
  (repeat'(first|exact rfl|exact trivial|assumption|apply And.intro|refine fun(_:Unit) (_:True)=>?_|refine Exists.intro () ?_|omega|(dsimp only;omega)))
  refine⟨fun j=>j≤i.l.length,fun j=>i.l.length-j,by omega,fun j hj=>zK (fun hlt=> ?_) (fun hlt=> ?_)⟩
  ·have hj':j<i.l.length:=by omega
   obtain⟨x,hx⟩:=z6 hj'
   obtain⟨st,sf⟩:=step j hj' x hx
   refine⟨⟨by omega,by omega⟩,x.price,x.qty,x.a.inst,x.a.side,x.b.inst,x.b.side,elA hx (by simp[zJ]) rfl,⟨i.s,x.price,_⟩,rfl,rfl,rfl,trivial,fun _ _=>Cv.cnd.mk (fun e=>⟨j+1,by rw[w64 (by omega)];rfl,?_⟩) (fun e=>⟨j+1,by rw[w64 (by omega)];rfl,?_⟩)⟩
   ·rw[st e];exact kp
   ·rw[sf e];exact kp
  ·have hj:j≤i.l.length:=hj
   obtain rfl:j=i.l.length:=by omega
   rw[fin,two];exact kp
theorem zVr:bestQC.ok Tryz.prog 66:=okw mixed (gokc zZq gok0) 0 (fun _=>[]) (fun i=>yMh i) [] Tryz.func66 yKz
theorem zBe (tops:List Top) (a b:Leg) (less:Bool):(mkq tops a b less).length≤1:=by
 unfold mkq
 dsimp only
 split<;>split<;>simp
theorem zRm {α:Type} {f:Nat→List α} (h:∀k,(f k).length≤1):∀n,((List.range n).flatMap f).length≤n
 |0=>by simp
 |n+1=>by
  rw[yXf,yUc,ySm]
  have:=zRm h n
  have:=h n
  simp only[yTv,yXt,yTg]
  omega
theorem zAc (i:dN) (s:Int) (k:Nat):(qX i s k).length≤k:=zRm (fun _=>zBe _ _ _ _) k
theorem pV (i:dN) (s:Int) (k:Nat):(kB i s k).length≤k:=zRm (fun _=>zBe _ _ _ _) k
theorem zCc (i:dN) (s:Int):(qC i s).length≤100:=by
 unfold qC
 split
 ·simp
 ·rename_i h
  have hc:=xV i.p
  have m6:=(qG (rQ (p:=i.p) (by omega))).m6
  split
  ·rw[ySh]
   have:=zBe i.tops ⟨(i.p.legs i.inst).2.1,3-s⟩ ⟨(i.p.legs i.inst).1,s⟩ true
   have e:(yM i s).length≤1:=this
   omega
  ·rw[ySm]
   have h1:=zAc i s (i.p.months.length-(i.inst.toNat+1))
   have h2:=pV i s i.inst.toNat
   omega
theorem yEm (j:rM) (h:quotesC.cnd j):z1x j:=by
 unfold z1x l6 gJ jK kH wO x7 dI
 obtain⟨hp,ht,hr⟩:j.i.p.small∧j0 j.i.tops:=h
 obtain⟨h1,h2,h3⟩:=hp
 have hl:=zCc j.i (zB j.s)
 refine⟨j,?_⟩
 simp only[ySh]
 (repeat'(first|exact rfl|exact trivial|assumption|apply And.intro|refine fun(_:Unit) (_:True)=>?_|refine Exists.intro () ?_|omega|(dsimp only;omega)))
 refine⟨0,rfl,rfl,fun k=>k≤(qC j.i (zB j.s)).length,fun k=>(qC j.i (zB j.s)).length-k,by omega,fun k hk=>zK (fun hlt=> ?_) (fun hlt=> ?_)⟩
 ·have hk':k<(qC j.i (zB j.s)).length:=by omega
  obtain⟨q,hq⟩:=z6 hk'
  have hf:(List.filter (fun q=>decide (j.i.p.price j.i.inst q.price=0)) (List.take k (qC j.i (zB j.s)))).length≤100:=by
   have:=yVk (fun q:Quote=>decide (j.i.p.price j.i.inst q.price=0)) (List.take k (qC j.i (zB j.s)))
   rw[yTe]at this
   omega
  refine⟨⟨by omega,by omega⟩,q.price,q.qty,q.a.inst,q.a.side,q.b.inst,q.b.side,elA hq (by simp[zJ]) rfl,⟨j.i.p,j.i.inst,q.price⟩,?_⟩
  (repeat'(first|exact rfl|exact trivial|assumption|apply And.intro|refine fun(_:Unit) (_:True)=>?_|refine Exists.intro () ?_|omega|(dsimp only;omega)))
  refine Cv.cnd.mk (fun c=>⟨by omega,k+1,by rw[w64 (by omega)];rfl,?_⟩) (fun c=>⟨k+1,by rw[w64 (by omega)];rfl,?_⟩)
  ·have c:j.i.p.price j.i.inst q.price=0:=by simpa using c
   rw[yUf,hq,yWv,yWg,yVl (by simpa using c),ySr]
   exact kp
  ·have c:¬j.i.p.price j.i.inst q.price=0:=by simpa using c
   rw[yUf,hq,yWv,yWg,yVm (by simpa using c),List.filter_nil,yTg]
   exact kp
 ·have hk:k≤(qC j.i (zB j.s)).length:=hk
  obtain rfl:k=(qC j.i (zB j.s)).length:=by omega
  rw[ySz (yTd _)]
  exact kp
open Go Cv Go.Proofs
theorem z5w:∀n≤6,∀a<n,∀b<n,a<b→0≤(yG n a:Int)+b-a-1∧(yG n a:Int)+b-a-1<((n+n*(n-1) / 2:Nat):Int):=by decide
theorem gV {p:Prd} (hc:p.check=0) {a b:Nat} (hab:a<b) (hb:b<p.months.length):0≤(p.spread a b).1∧(p.spread a b).1<p.count:=by
 have m6:=(qG hc).m6
 have:=z5w p.months.length m6 a (by omega) b hb hab
 rw[Prd.spread,ySe (by omega),Prd.count,ySf hc]
 simpa using this
theorem yFk:∀n≤6,∀k<n+n*(n-1) / 2,n≤k→(kA n k n 0).2.2=true∧0≤(kA n k n 0).1∧(kA n k n 0).1<n∧0≤(kA n k n 0).2.1∧(kA n k n 0).2.1<n:=by decide
theorem vQ {p:Prd} (hc:p.check=0) {k:Nat} (hk:k<p.count):((p.legs k).2.2=true∧0≤(p.legs k).1∧(p.legs k).1<p.months.length∧0≤(p.legs k).2.1∧(p.legs k).2.1<p.months.length)∨((p.legs k).2.2=false∧k<p.months.length):=by
 have m6:=(qG hc).m6
 have hk':=hk
 rw[Prd.count,ySf hc]at hk'
 by_cases h:k<p.months.length
 ·right
  rw[Prd.legs,ySe (by omega),ySf (by omega)]
  exact⟨rfl,h⟩
 ·left
  rw[Prd.legs,ySe (by omega),ySe (by omega)]
  exact yFk p.months.length m6 k hk' (by omega)
theorem dX {p:Prd} (hc:p.check=0):p.months.length≤p.count:=by
 rw[Prd.count,ySf hc];omega
theorem zVt {i:dN} {s:Int} {k:Nat} (hk:k<(yM i s).length):List.map zJ (List.map (fS i s) (List.take (k+1) (yM i s))++List.drop (k+1) (yM i s))=
 z9 (List.map zJ (List.map (fS i s) (List.take k (yM i s))++List.drop k (yM i s))) k (0+2) [D.v (.int .i64 (i.p.legs i.inst).1),D.v (.int .i64 s),D.v (.int .i64 (i.p.legs i.inst).2.1),D.v (.int .i64 (3-s))]:=by
 obtain⟨q,hq⟩:=z6 hk
 rw[zOe (a:=List.map zJ (List.map (fS i s) (List.take k (yM i s)))) (b:=List.map zJ (List.drop (k+1) (yM i s))) (x:=zJ q) (y:=zJ (fS i s q)) (by
  rw[ySr,yUy hk,(ySg.1 hq).2,ySn]) (by simp;omega) rfl]
 rw[yUf,hq,yWv,ySr,ySr,ySr,ySn,yWe,ySn,yWe,ySq]
 rfl
theorem yQf (i:dN) (h:all1C.cnd i):yHv i:=by
 unfold yHv zS zDb zBf mM wQ mX tR mR qR x7 sX uE gZ wO dI
 obtain⟨⟨h1,h2,h3⟩,ht,hr⟩:i.p.small∧j0 i.tops:=h
 have hto:j0 i.tops:=⟨ht,hr⟩
 refine⟨i.p,?_⟩
 simp only[ySh,yW]
 (repeat'(first|exact rfl|exact trivial|assumption|apply And.intro|refine fun(_:Unit) (_:True)=>?_|refine Exists.intro () ?_|omega|(dsimp only;omega)))
 have bad (hb:i.p.count=0∨(i.tops.length:Int)≠i.p.count∨i.inst<0∨(i.p.count:Int)≤i.inst):∃(o:Unit),List.map zJ (qC i 1)=[]∧True:=⟨(),by rw[qC,ySf hb];rfl,trivial⟩
 refine Cv.cnd.mk (fun c1=>bad (.inl (by have c1:(i.p.count:Int)=0:=(by simpa using c1);omega))) fun c1=>Cv.cnd.mk (fun c2=>bad (.inr (.inl (by simpa using c2)))) fun c2=>zK (fun c3=>bad (by omega)) fun c3=>zK (fun c4=>bad (by omega)) fun c4=>⟨⟨i.p,i.inst⟩,?_⟩
 have c1:i.p.count≠0:=by
  have c1:¬(i.p.count:Int)=0:=(by simpa using c1)
  omega
 have c2:(i.tops.length:Int)=i.p.count:=by simpa using c2
 have c4:i.inst<(i.p.count:Int):=by
  have c4:¬i.inst≥(i.p.count:Int):=c4
  omega
 have hc:=rQ c1
 have hm:=dX hc
 have e0:qC i 1=if(i.p.legs i.inst).2.2 then(yM i 1).map (fS i 1)else qX i 1 (i.p.months.length-(i.inst.toNat+1))++kB i 1 i.inst.toNat:=by
  rw[qC,ySe (by omega)]
 obtain⟨k,hk⟩:∃k:Nat,i.inst=k:=⟨i.inst.toNat,by omega⟩
 have hl:=vQ hc (k:=k) (by omega)
 rw[← hk]at hl
 (repeat'(first|exact rfl|exact trivial|assumption|apply And.intro|refine fun(_:Unit) (_:True)=>?_|refine Exists.intro () ?_|omega|(dsimp only;omega)))
 refine Cv.cnd.mk (fun c5=> ?_) (fun c5=> ?_)
 ·have c5:(i.p.legs i.inst).2.2=true:=c5
  rw[e0,ySf c5]
  rcases hl with⟨_,l1,l2,l3,l4⟩|⟨l1,_⟩
  ·have hsl:(yM i 1).length≤1:=zBe _ _ _ _
   refine⟨1,rfl,by omega,fun _ _=>⟨⟨⟨i.tops,[],(i.p.legs i.inst).2.1,(i.p.legs i.inst).1,true⟩,true,false⟩,rfl,rfl,rfl,rfl,rfl,rfl,rfl,⟨l3,by dsimp only;omega,l1,by dsimp only;omega,hto,by simp⟩,fun _ _=>⟨0,rfl,rfl,rfl,fun j=>j≤(yM i 1).length,fun j=>(yM i 1).length-j,by omega,?_⟩⟩⟩
   intro j hj
   have hj:j≤(yM i 1).length:=hj
   have hL:(List.map (fS i 1) (List.take j (yM i 1))++List.drop j (yM i 1)).length=(yM i 1).length:=by simp;omega
   refine zK (fun hlt=> ?_) (fun hlt=> ?_)
   ·have hlt:(j:Int)<((yM i 1).length:Int):=hlt
    refine⟨⟨by omega,by rw[hL];omega⟩,by rw[hL];omega,j+1,by rw[w64 (by omega)];rfl,kp,?_,?_⟩
    ·exact zVt (i:=i) (s:=1) (by omega)
    ·exact kp
   ·have hlt:¬(j:Int)<((yM i 1).length:Int):=hlt
    obtain rfl:j=(yM i 1).length:=by omega
    rw[ySz (yTd _),List.drop_length,yTg]
    exact kp
  ·rw[c5]at l1;cases l1
 ·have c5:(i.p.legs i.inst).2.2=false:=c5
  rw[e0,ySe (by rw[c5];simp)]
  rcases hl with⟨l1,_⟩|⟨_,l2⟩
  ·rw[c5]at l1;cases l1
  have m6:=(qG hc).m6
  have e1:i.inst.toNat=k:=by omega
  rw[e1]
  refine⟨0,by rw[w64 (by omega)];omega,kp,rfl,fun j=>j≤i.p.months.length-(k+1),fun j=>i.p.months.length-(k+1)-j,by omega,?_⟩
  intro j hj
  have hj:j≤i.p.months.length-(k+1):=hj
  have hq:=zAc i 1 j
  refine zK (fun hlt=> ?_) (fun hlt=> ?_)
  ·obtain⟨b1,b2⟩:=gV hc (a:=k) (b:=k+1+j) (by omega) (by omega)
   have eb:((k+1+j:Nat):Int)=i.inst+1+j:=by omega
   rw[eb,← hk]at b1 b2
   refine⟨⟨i.p,i.inst,i.inst+1+j⟩,?_⟩
   (repeat'(first|exact rfl|exact trivial|assumption|apply And.intro|refine fun(_:Unit) (_:True)=>?_|refine Exists.intro () ?_|omega|(dsimp only;omega)))
   refine⟨⟨⟨i.tops,qX i 1 j,(i.p.spread i.inst (i.inst+1+j)).1,i.inst+1+j,false⟩,false,false⟩,rfl,rfl,rfl,rfl,rfl,kp,rfl,⟨b1,by dsimp only;omega,by dsimp only;omega,by dsimp only;omega,hto,by dsimp only;omega⟩,fun _ _=>⟨j+1,by rw[w64 (by omega)];omega,kp,?_,?_⟩⟩
   ·rw[qX,yXf,yUc]
    simp only[yTv,yXt,yTg]
    rfl
   ·exact kp
  ·obtain rfl:j=i.p.months.length-(k+1):=by omega
   refine⟨0,rfl,kp,by rw[kB];simp,fun j=>j≤k,fun j=>k-j,by omega,?_⟩
   intro j hj
   have hj:j≤k:=hj
   have hq2:=pV i 1 j
   refine zK (fun hlt2=> ?_) (fun hlt2=> ?_)
   ·obtain⟨b1,b2⟩:=gV hc (a:=j) (b:=k) (by omega) (by omega)
    rw[← hk]at b1 b2
    refine⟨⟨i.p,j,i.inst⟩,?_⟩
    (repeat'(first|exact rfl|exact trivial|assumption|apply And.intro|refine fun(_:Unit) (_:True)=>?_|refine Exists.intro () ?_|omega|(dsimp only;omega)))
    refine⟨1,rfl,by omega,fun _ _=>⟨⟨⟨i.tops,qX i 1 (i.p.months.length-(k+1))++kB i 1 j,(i.p.spread j i.inst).1,j,true⟩,true,false⟩,rfl,rfl,rfl,rfl,rfl,kp,rfl,⟨b1,by dsimp only;omega,by dsimp only;omega,by dsimp only;omega,hto,by dsimp only;rw[ySm];omega⟩,fun _ _=>⟨j+1,by rw[w64 (by omega)];omega,kp,?_,?_⟩⟩⟩
    ·rw[kB,yXf,yUc]
     simp only[yTv,yXt,yTg,ySq]
     rfl
    ·exact kp
   ·obtain rfl:j=k:=by omega
    exact kp
theorem yEy:all1C.ok Tryz.prog 25:=okw mixed (gokc cU (gokc pW (gokc zPj (gokc zNm (gokc zUt gok0))))) 0 (fun _=>[]) (fun i=>yPv i 1) [] Tryz.func25 yQf
theorem yOd (i:dN) (h:all2C.cnd i):yIp i:=by
 unfold yIp zS mB eT mQ zDb zBf mM wQ qR x7 sX uE gZ wO dI
 obtain⟨⟨h1,h2,h3⟩,ht,hr⟩:i.p.small∧j0 i.tops:=h
 have hto:j0 i.tops:=⟨ht,hr⟩
 refine⟨i.p,?_⟩
 simp only[ySh,yW]
 (repeat'(first|exact rfl|exact trivial|assumption|apply And.intro|refine fun(_:Unit) (_:True)=>?_|refine Exists.intro () ?_|omega|(dsimp only;omega)))
 have bad (hb:i.p.count=0∨(i.tops.length:Int)≠i.p.count∨i.inst<0∨(i.p.count:Int)≤i.inst):∃(o:Unit),List.map zJ (qC i 2)=[]∧True:=⟨(),by rw[qC,ySf hb];rfl,trivial⟩
 refine Cv.cnd.mk (fun c1=>bad (.inl (by have c1:(i.p.count:Int)=0:=(by simpa using c1);omega))) fun c1=>Cv.cnd.mk (fun c2=>bad (.inr (.inl (by simpa using c2)))) fun c2=>zK (fun c3=>bad (by omega)) fun c3=>zK (fun c4=>bad (by omega)) fun c4=>⟨⟨i.p,i.inst⟩,?_⟩
 have c1:i.p.count≠0:=by
  have c1:¬(i.p.count:Int)=0:=(by simpa using c1)
  omega
 have c2:(i.tops.length:Int)=i.p.count:=by simpa using c2
 have c4:i.inst<(i.p.count:Int):=by
  have c4:¬i.inst≥(i.p.count:Int):=c4
  omega
 have hc:=rQ c1
 have hm:=dX hc
 have e0:qC i 2=if(i.p.legs i.inst).2.2 then(yM i 2).map (fS i 2)else qX i 2 (i.p.months.length-(i.inst.toNat+1))++kB i 2 i.inst.toNat:=by
  rw[qC,ySe (by omega)]
 obtain⟨k,hk⟩:∃k:Nat,i.inst=k:=⟨i.inst.toNat,by omega⟩
 have hl:=vQ hc (k:=k) (by omega)
 rw[← hk]at hl
 (repeat'(first|exact rfl|exact trivial|assumption|apply And.intro|refine fun(_:Unit) (_:True)=>?_|refine Exists.intro () ?_|omega|(dsimp only;omega)))
 refine Cv.cnd.mk (fun c5=> ?_) (fun c5=> ?_)
 ·have c5:(i.p.legs i.inst).2.2=true:=c5
  rw[e0,ySf c5]
  rcases hl with⟨_,l1,l2,l3,l4⟩|⟨l1,_⟩
  ·have hsl:(yM i 2).length≤1:=zBe _ _ _ _
   refine⟨2,rfl,by omega,fun _ _=>⟨⟨⟨i.tops,[],(i.p.legs i.inst).2.1,(i.p.legs i.inst).1,true⟩,false,true⟩,rfl,rfl,rfl,rfl,rfl,rfl,rfl,⟨l3,by dsimp only;omega,l1,by dsimp only;omega,hto,by simp⟩,fun _ _=>⟨0,rfl,rfl,rfl,fun j=>j≤(yM i 2).length,fun j=>(yM i 2).length-j,by omega,?_⟩⟩⟩
   intro j hj
   have hj:j≤(yM i 2).length:=hj
   have hL:(List.map (fS i 2) (List.take j (yM i 2))++List.drop j (yM i 2)).length=(yM i 2).length:=by simp;omega
   refine zK (fun hlt=> ?_) (fun hlt=> ?_)
   ·have hlt:(j:Int)<((yM i 2).length:Int):=hlt
    refine⟨⟨by omega,by rw[hL];omega⟩,by rw[hL];omega,j+1,by rw[w64 (by omega)];rfl,kp,?_,?_⟩
    ·exact zVt (i:=i) (s:=2) (by omega)
    ·exact kp
   ·have hlt:¬(j:Int)<((yM i 2).length:Int):=hlt
    obtain rfl:j=(yM i 2).length:=by omega
    rw[ySz (yTd _),List.drop_length,yTg]
    exact kp
  ·rw[c5]at l1;cases l1
 ·have c5:(i.p.legs i.inst).2.2=false:=c5
  rw[e0,ySe (by rw[c5];simp)]
  rcases hl with⟨l1,_⟩|⟨_,l2⟩
  ·rw[c5]at l1;cases l1
  have m6:=(qG hc).m6
  have e1:i.inst.toNat=k:=by omega
  rw[e1]
  refine⟨0,by rw[w64 (by omega)];omega,kp,rfl,fun j=>j≤i.p.months.length-(k+1),fun j=>i.p.months.length-(k+1)-j,by omega,?_⟩
  intro j hj
  have hj:j≤i.p.months.length-(k+1):=hj
  have hq:=zAc i 2 j
  refine zK (fun hlt=> ?_) (fun hlt=> ?_)
  ·obtain⟨b1,b2⟩:=gV hc (a:=k) (b:=k+1+j) (by omega) (by omega)
   have eb:((k+1+j:Nat):Int)=i.inst+1+j:=by omega
   rw[eb,← hk]at b1 b2
   refine⟨⟨i.p,i.inst,i.inst+1+j⟩,?_⟩
   (repeat'(first|exact rfl|exact trivial|assumption|apply And.intro|refine fun(_:Unit) (_:True)=>?_|refine Exists.intro () ?_|omega|(dsimp only;omega)))
   refine⟨⟨⟨i.tops,qX i 2 j,(i.p.spread i.inst (i.inst+1+j)).1,i.inst+1+j,false⟩,true,true⟩,rfl,rfl,rfl,rfl,rfl,kp,rfl,⟨b1,by dsimp only;omega,by dsimp only;omega,by dsimp only;omega,hto,by dsimp only;omega⟩,fun _ _=>⟨j+1,by rw[w64 (by omega)];omega,kp,?_,?_⟩⟩
   ·rw[qX,yXf,yUc]
    simp only[yTv,yXt,yTg]
    rfl
   ·exact kp
  ·obtain rfl:j=i.p.months.length-(k+1):=by omega
   refine⟨0,rfl,kp,by rw[kB];simp,fun j=>j≤k,fun j=>k-j,by omega,?_⟩
   intro j hj
   have hj:j≤k:=hj
   have hq2:=pV i 2 j
   refine zK (fun hlt2=> ?_) (fun hlt2=> ?_)
   ·obtain⟨b1,b2⟩:=gV hc (a:=j) (b:=k) (by omega) (by omega)
    rw[← hk]at b1 b2
    refine⟨⟨i.p,j,i.inst⟩,?_⟩
    (repeat'(first|exact rfl|exact trivial|assumption|apply And.intro|refine fun(_:Unit) (_:True)=>?_|refine Exists.intro () ?_|omega|(dsimp only;omega)))
    refine⟨2,rfl,by omega,fun _ _=>⟨⟨⟨i.tops,qX i 2 (i.p.months.length-(k+1))++kB i 2 j,(i.p.spread j i.inst).1,j,true⟩,false,true⟩,rfl,rfl,rfl,rfl,rfl,kp,rfl,⟨b1,by dsimp only;omega,by dsimp only;omega,by dsimp only;omega,hto,by dsimp only;rw[ySm];omega⟩,fun _ _=>⟨j+1,by rw[w64 (by omega)];omega,kp,?_,?_⟩⟩⟩
    ·rw[kB,yXf,yUc]
     simp only[yTv,yXt,yTg,ySq]
     rfl
    ·exact kp
   ·obtain rfl:j=k:=by omega
    exact kp
theorem yGp:all2C.ok Tryz.prog 25:=okw mixed (gokc cU (gokc pW (gokc zPj (gokc zNm (gokc zUt gok0))))) 0 (fun _=>[]) (fun i=>yPv i 2) [] Tryz.func25 yOd
theorem yBx:allC.ok Tryz.prog 25:=fun j=>match j with
 |⟨i,false⟩=>yEy i
 |⟨i,true⟩=>yGp i
theorem zQb:quotesC.ok Tryz.prog 67:=okw mixed (gokc yBx (gokc rY gok0)) 0 (fun _=>[]) (fun j=>yFf j) [] Tryz.func67 yEm
open Go Cv Go.Proofs
structure BkI where
 p:Prd
 s:MSt
def crossB (x y:Int) (b:Bool):Bool:=b && decide (y≤x)
def aT (t:Top):Bool:=crossB t.p1 t.p2 (t.has1 && t.has2)
def dS (p:Prd) (tops:List Top) (n:Nat):Bool:=
 let x:=tops.getD n top0
 let buy:=yD (yL ⟨p,tops,n⟩ 1) 1
 let sell:=yD (yL ⟨p,tops,n⟩ 2) 2
 crossB x.p1 sell.1.price (x.has1 && sell.2)||crossB buy.1.price x.p2 (x.has2 && buy.2)
def jG (p:Prd) (tops:List Top):Int:=
 if p.check≠0 then 1 else if(List.range tops.length).any (fun n=>aT (tops.getD n top0))then 23 else if(List.range tops.length).any (dS p tops)then 21 else 0
def booksC:Con:=con1 BkI (fun i=>[prdV i.p,.nm 0 0]) (fun i=>[zE i.s]) (fun i=>i.p.small∧i.s.cntOk∧j0 i.s.tops) (fun i=>zA (jG i.p i.s.tops)) (fun i=>[zE i.s])
def yLv (i:BkI):List SAnn:=[
 {ι:=Nat,slots:=fun j=>[(25,zA j)],rows:=fun _=>[]},
 {ι:=Nat,slots:=fun j=>[(5,.own 0),(45,.own 0),(47,zA j)],rows:=fun _=>[.fro 6 (i.s.tops.map zU)]}]
def booksNilC:Con:=con1 Prd (fun p=>[prdV p,.d (.v (.pointer none))]) (fun _=>[]) (fun p=>p.small) (fun _=>zA 1) (fun _=>[])
open Go Cv Go.Proofs
def zFg (a:BkI):Prop:=Sx.AObj.cells [V.d (D.v (Value.string (sb a.p.code))),V.own 1,V.d (dI a.p.tick),V.d (dI a.p.low),V.d (dI a.p.high),V.d (dI a.p.wide),V.d (dI a.p.rule),V.d (dI a.p.top),V.d (dI a.p.least),V.d (dI a.p.part),V.own ((1:Nat)+(1:Nat))] 29=Sx.AObj.cells [V.d (D.v (Value.string (sb a.p.code))),V.own 1,V.d (dI a.p.tick),V.d (dI a.p.low),V.d (dI a.p.high),V.d (dI a.p.wide),V.d (dI a.p.rule),V.d (dI a.p.top),V.d (dI a.p.least),V.d (dI a.p.part),V.own ((1:Nat)+(1:Nat))] 29∧AObj.fro 1 (iE a.p.settle)=AObj.fro 1 (iE a.p.settle)∧AObj.fro 1 (iE a.p.months)=AObj.fro 1 (iE a.p.months)
def zEe (a:CrI) (b:BkI) (c:MSt) (d:Nat) (e:Nat→Prop) (f:Nat→Nat):Prop:=True∧∀(g:Unit),True→cnd (a.b && decide (a.y≤a.x)) (∃(h:Unit),jG b.p b.s.tops=21∧zE b.s=zE c∧True) (∃(h:Nat),(↑h:Int)=IntKind.i64.wrap ((↑d:Int)+1)∧AObj.fro 6 (List.map zU b.s.tops)=AObj.fro 6 (List.map zU b.s.tops)∧e h∧f h<f d∧zE c=zE c∧zFg b)
def zFf (a:CrI) (b:BkI) (c:MSt) (d:Bool) (e:BsI) (f:Int) (g:Nat) (h:Nat→Prop) (j:Nat→Nat):Prop:=True∧∀(k:Unit),True→cnd (a.b && decide (a.y≤a.x)) (∃(l:Unit),jG b.p b.s.tops=21∧zE b.s=zE c∧True) (cnd d (∃(l:CrI),l.x=(yD e.l e.s).fst.price∧l.y=f∧l.b=(yD e.l e.s).snd∧zEe l b c g h j) (∃(l:CrI),l.x=(yD e.l e.s).fst.price∧l.y=f∧l.b=false∧zEe l b c g h j))
def zFu (a:CrI) (b:BkI) (c:MSt) (d:Nat) (e:Nat→Prop) (f:Nat→Nat):Prop:=True∧∀(g:Unit),True→cnd (a.b && decide (a.y≤a.x)) (∃(h:Unit),jG b.p b.s.tops=23∧zE b.s=zE c∧True) (∃(h:Nat),(↑h:Int)=IntKind.i64.wrap ((↑d:Int)+1)∧e h∧f h<f d∧zE c=zE c∧AObj.own 55 6 (List.map zU c.tops)=AObj.own 55 6 (List.map zU c.tops)∧zFg b)
def gG (a:MSt):Prop:=a.books.length≤1000000∧∀(b:Book),b∈a.books→∀(c:fB),c∈b.a.queues→qO c
def z7m (i:BkI):Prop:=
 ∃(a:Prd),sb a.code=sb i.p.code∧iE a.months=iE i.p.months∧a.tick=i.p.tick∧a.low=i.p.low∧a.high=i.p.high∧a.wide=i.p.wide∧a.rule=i.p.rule∧a.top=i.p.top∧a.least=i.p.least∧a.part=i.p.part∧iE a.settle=iE i.p.settle∧(zS a)∧∀(b:Unit),True→cnd (a.check !=0) (∃(c:Unit),jG i.p i.s.tops=1∧zE i.s=zE i.s∧True) (∃(c:MSt),zE c=zE i.s∧(gG c)∧∀(d:Unit),True→∃(e:Nat),(↑e:Int)=0∧∃(f:Nat→Prop),∃(g:Nat→Nat),f e∧∀(h:Nat),f h→cnd (decide ((↑h:Int)<(↑(List.map zU c.tops).length:Int))) ((0≤(↑h:Int)∧(↑h:Int)<(↑(List.map zU c.tops).length:Int))∧∃(j:Bool),∃(k:Bool),∃(l:Int),∃(m:Int),∃(n:Int),∃(p:Int),zF (List.map zU c.tops) (↑h:Int).toNat 0 6=some [D.v (.bool j),D.v (.bool k),dI l,dI m,dI n,dI p]∧cnd j (∃(q:CrI),q.x=l∧q.y=m∧q.b=k∧zFu q i c h f g) (∃(q:CrI),q.x=l∧q.y=m∧q.b=false∧zFu q i c h f g)) (∃(j:Nat),(↑j:Int)=0∧List.map zU i.s.tops=List.map zU c.tops∧∃(k:Nat→Prop),∃(l:Nat→Nat),k j∧∀(m:Nat),k m→cnd (decide ((↑m:Int)<(↑(List.map zU c.tops).length:Int))) ((0≤(↑m:Int)∧(↑m:Int)<(↑(List.map zU i.s.tops).length:Int))∧∃(n:Bool),∃(p:Bool),∃(q:Int),∃(r:Int),∃(s:Int),∃(t:Int),zF (List.map zU i.s.tops) (↑m:Int).toNat 0 6=some [D.v (.bool n),D.v (.bool p),dI q,dI r,dI s,dI t]∧∃(u:rM),sb u.i.p.code=sb i.p.code∧iE u.i.p.months=iE i.p.months∧u.i.p.tick=i.p.tick∧u.i.p.low=i.p.low∧u.i.p.high=i.p.high∧u.i.p.wide=i.p.wide∧u.i.p.rule=i.p.rule∧u.i.p.top=i.p.top∧u.i.p.least=i.p.least∧u.i.p.part=i.p.part∧iE u.i.p.settle=iE i.p.settle∧List.map zU u.i.tops=List.map zU i.s.tops∧u.i.inst=(↑m:Int)∧zB u.s=1∧(kH u)∧∀(v:Unit),True→∃(w:BsI),List.map zJ w.l=List.map zJ (yL u.i (zB u.s))∧w.s=1∧((w.s=1∨w.s=2)∧w.l.length≤1000000)∧∀(x:Unit),True→∃(y:rM),sb y.i.p.code=sb i.p.code∧iE y.i.p.months=iE i.p.months∧y.i.p.tick=i.p.tick∧y.i.p.low=i.p.low∧y.i.p.high=i.p.high∧y.i.p.wide=i.p.wide∧y.i.p.rule=i.p.rule∧y.i.p.top=i.p.top∧y.i.p.least=i.p.least∧y.i.p.part=i.p.part∧iE y.i.p.settle=iE i.p.settle∧List.map zU y.i.tops=List.map zU i.s.tops∧y.i.inst=(↑m:Int)∧zB y.s=2∧(kH y)∧∀(z:Unit),True→∃(a_1:BsI),List.map zJ a_1.l=List.map zJ (yL y.i (zB y.s))∧a_1.s=2∧((a_1.s=1∨a_1.s=2)∧a_1.l.length≤1000000)∧∀(a_2:Unit),True→cnd n (∃(a_3:CrI),a_3.x=q∧a_3.y=(yD a_1.l a_1.s).fst.price∧a_3.b=(yD a_1.l a_1.s).snd∧zFf a_3 i c p w r m k l) (∃(a_3:CrI),a_3.x=q∧a_3.y=(yD a_1.l a_1.s).fst.price∧a_3.b=false∧zFf a_3 i c p w r m k l)) (∃(n:Unit),jG i.p i.s.tops=0∧zE i.s=zE c∧True)))
def z5m (p:Prd):Prop:=
 ∃(i:Prd),sb i.code=sb p.code∧iE i.months=iE p.months∧i.tick=p.tick∧i.low=p.low∧i.high=p.high∧i.wide=p.wide∧i.rule=p.rule∧i.top=p.top∧i.least=p.least∧i.part=p.part∧iE i.settle=iE p.settle∧(i.code.length≤1099511627776∧i.months.length≤1099511627776∧i.settle.length≤1099511627776)∧∀(o:Unit),True→cnd (i.check !=0) (∃(o:Unit),(1:Int)=(1:Int)∧True) (∃(o:Unit),(1:Int)=(1:Int)∧True)
open Go Cv Go.Proofs
theorem zCj {n k:Nat} {f:Nat→Bool} (hk:k<n) (h:f k=true):(List.range n).any f=true:=by
 rw[yYe];exact⟨k,by simpa using hk,h⟩
theorem mV {n:Nat} {f:Nat→Bool} (h:∀k<n,f k=false):(List.range n).any f=false:=by
 rw[yXj];intro k hk;simp[h k (by simpa using hk)]
theorem zGf (i:dN) (s:Int):(yL i s).length≤100:=yVa (yVk _ _) (zCc i s)
theorem yKs (i:BkI) (h:booksC.cnd i):z7m i:=by
 unfold z7m kH wO zS zFu zFf zEe zFg gG qO dI
 obtain⟨⟨h1,h2,h3⟩,⟨hb1,hb2⟩,⟨ht1,ht2⟩⟩:i.p.small∧i.s.cntOk∧j0 i.s.tops:=h
 refine⟨i.p,?_⟩
 simp only[ySh]
 (repeat'(first|exact rfl|exact trivial|assumption|apply And.intro|refine fun(_:Unit) (_:True)=>?_|refine Exists.intro () ?_|omega|(dsimp only;omega)))
 refine Cv.cnd.mk (fun c=>⟨(),by rw[jG,ySf (by simpa using c)],kp,trivial⟩) fun c=>⟨i.s,?_⟩
 (repeat'(first|exact rfl|exact trivial|assumption|apply And.intro|refine fun(_:Unit) (_:True)=>?_|refine Exists.intro () ?_|omega|(dsimp only;omega)))
 have c:i.p.check=0:=by simpa using c
 generalize hT:i.s.tops=T at*
 have e0:jG i.p T=if(List.range T.length).any (fun n=>aT (T.getD n top0))then 23 else if(List.range T.length).any (dS i.p T)then 21 else 0:=by
  rw[jG,ySe (by simp[c])]
 refine⟨0,rfl,fun j=>j≤T.length∧∀k<j,aT (T.getD k top0)=false,fun j=>T.length-j,⟨by omega,fun k hk=>by omega⟩,?_⟩
 rintro j ⟨g1,g2⟩
 refine zK (fun hlt=> ?_) (fun hlt=> ?_)
 ·have hj:j<T.length:=by omega
  obtain⟨t,ht⟩:=z6 hj
  have hg:T.getD j top0=t:=by rw[ySi,ht];rfl
  have bad (e:aT t=true):jG i.p T=23:=by
   rw[e0,ySf (zCj hj (by rw[hg];exact e))]
  have good (e:aT t=false):∀k<j+1,aT (T.getD k top0)=false:=fun k hk=>by
   rcases yUr k j with h|h
   ·exact g2 k h
   ·obtain rfl:k=j:=by omega
    rw[hg];exact e
  refine⟨⟨by omega,by omega⟩,t.has1,t.has2,t.p1,t.p2,t.q1,t.q2,elA ht (by simp[zU]) rfl,Cv.cnd.mk (fun b1=>⟨⟨t.p1,t.p2,t.has2⟩,rfl,rfl,rfl,trivial,fun _ _=> ?_⟩) (fun b1=>⟨⟨t.p1,t.p2,false⟩,rfl,rfl,rfl,trivial,fun _ _=> ?_⟩)⟩
  ·have ec:aT t=(t.has2 && decide (t.p2≤t.p1)):=by
    have b1:t.has1=true:=b1
    rw[aT,crossB,b1,yTm]
   refine Cv.cnd.mk (fun e=>⟨(),bad (by rw[ec];exact e),kp,trivial⟩) (fun e=>⟨j+1,by rw[w64 (by omega)];rfl,⟨by omega,good (by rw[ec];exact e)⟩,by(first|omega|(dsimp only;omega)),kp⟩)
  ·have ec:aT t=false:=by
    have b1:t.has1=false:=b1
    rw[aT,crossB,b1,yTz,yTz]
   refine Cv.cnd.mk (fun e=>absurd e (by simp)) (fun e=>⟨j+1,by rw[w64 (by omega)];rfl,⟨by omega,good ec⟩,by(first|omega|(dsimp only;omega)),kp⟩)
 ·obtain rfl:j=T.length:=by omega
  have e1:jG i.p T=if(List.range T.length).any (dS i.p T)then 21 else 0:=by
   rw[e0,ySe (by rw[mV g2];simp)]
  refine⟨0,rfl,kp,fun j=>j≤T.length∧∀k<j,dS i.p T k=false,fun j=>T.length-j,⟨by omega,fun k hk=>by omega⟩,?_⟩
  rintro j ⟨f1,f2⟩
  refine zK (fun hlt2=> ?_) (fun hlt2=> ?_)
  ·have hj:j<T.length:=by omega
   obtain⟨t,ht⟩:=z6 hj
   have hg:T.getD j top0=t:=by rw[ySi,ht];rfl
   have em:dS i.p T j=(crossB t.p1 (yD (yL ⟨i.p,T,j⟩ 2) 2).1.price (t.has1 && (yD (yL ⟨i.p,T,j⟩ 2) 2).2)||crossB (yD (yL ⟨i.p,T,j⟩ 1) 1).1.price t.p2 (t.has2 && (yD (yL ⟨i.p,T,j⟩ 1) 1).2)):=by
    simp only[dS,hg]
   have q1:=zGf ⟨i.p,T,j⟩ 1
   have q2:=zGf ⟨i.p,T,j⟩ 2
   have bad (e:dS i.p T j=true):jG i.p T=21:=by
    rw[e1,ySf (zCj hj e)]
   have good (e:dS i.p T j=false):∀k<j+1,dS i.p T k=false:=fun k hk=>by
    rcases yUr k j with h|h
    ·exact f2 k h
    ·obtain rfl:k=j:=by omega
     exact e
   refine⟨⟨by omega,by omega⟩,t.has1,t.has2,t.p1,t.p2,t.q1,t.q2,elA ht (by simp[zU]) rfl,⟨⟨i.p,T,j⟩,false⟩,?_⟩
   (repeat'(first|exact rfl|exact trivial|assumption|apply And.intro|refine fun(_:Unit) (_:True)=>?_|refine Exists.intro () ?_|omega|(dsimp only;omega)))
   refine⟨⟨yL ⟨i.p,T,j⟩ 1,1⟩,?_⟩
   (repeat'(first|exact rfl|exact trivial|assumption|apply And.intro|refine fun(_:Unit) (_:True)=>?_|refine Exists.intro () ?_|omega|(dsimp only;omega)))
   refine⟨⟨⟨i.p,T,j⟩,true⟩,?_⟩
   (repeat'(first|exact rfl|exact trivial|assumption|apply And.intro|refine fun(_:Unit) (_:True)=>?_|refine Exists.intro () ?_|omega|(dsimp only;omega)))
   refine⟨⟨yL ⟨i.p,T,j⟩ 2,2⟩,?_⟩
   (repeat'(first|exact rfl|exact trivial|assumption|apply And.intro|refine fun(_:Unit) (_:True)=>?_|refine Exists.intro () ?_|omega|(dsimp only;omega)))
   have inner:crossB t.p1 (yD (yL ⟨i.p,T,j⟩ 2) 2).1.price (t.has1 && (yD (yL ⟨i.p,T,j⟩ 2) 2).2)=false→dS i.p T j=crossB (yD (yL ⟨i.p,T,j⟩ 1) 1).1.price t.p2 (t.has2 && (yD (yL ⟨i.p,T,j⟩ 1) 1).2):=fun e=>by rw[em,e,yVn]
   refine Cv.cnd.mk (fun b1=>⟨⟨t.p1,(yD (yL ⟨i.p,T,j⟩ 2) 2).1.price,(yD (yL ⟨i.p,T,j⟩ 2) 2).2⟩,rfl,rfl,rfl,trivial,fun _ _=>Cv.cnd.mk (fun e=> ?_) (fun e=> ?_)⟩) (fun b1=>⟨⟨t.p1,(yD (yL ⟨i.p,T,j⟩ 2) 2).1.price,false⟩,rfl,rfl,rfl,trivial,fun _ _=>Cv.cnd.mk (fun e=> ?_) (fun e=> ?_)⟩)
   ·have b1:t.has1=true:=b1
    refine⟨(),bad ?_,kp,trivial⟩
    rw[em,b1,yTm,show crossB t.p1 (yD (yL ⟨i.p,T,j⟩ 2) 2).1.price (yD (yL ⟨i.p,T,j⟩ 2) 2).2=true from e,Bool.true_or]
   ·have b1:t.has1=true:=b1
    have eI:=inner (by rw[b1,yTm];exact e)
    refine Cv.cnd.mk (fun b2=>⟨⟨(yD (yL ⟨i.p,T,j⟩ 1) 1).1.price,t.p2,(yD (yL ⟨i.p,T,j⟩ 1) 1).2⟩,rfl,rfl,rfl,trivial,fun _ _=> ?_⟩) (fun b2=>⟨⟨(yD (yL ⟨i.p,T,j⟩ 1) 1).1.price,t.p2,false⟩,rfl,rfl,rfl,trivial,fun _ _=> ?_⟩)
    ·have b2:t.has2=true:=b2
     rw[b2,yTm]at eI
     refine Cv.cnd.mk (fun e2=>⟨(),bad (by rw[eI];exact e2),kp,trivial⟩) (fun e2=>⟨j+1,by rw[w64 (by omega)];rfl,kp,⟨by omega,good (by rw[eI];exact e2)⟩,by(first|omega|(dsimp only;omega)),kp⟩)
    ·have b2:t.has2=false:=b2
     rw[b2,yTz]at eI
     refine Cv.cnd.mk (fun e2=>absurd e2 (by simp)) (fun e2=>⟨j+1,by rw[w64 (by omega)];rfl,kp,⟨by omega,good (by rw[eI];rfl)⟩,by(first|omega|(dsimp only;omega)),kp⟩)
   ·exact absurd e (by simp)
   ·have b1:t.has1=false:=b1
    have eI:=inner (by rw[b1,yTz];rfl)
    refine Cv.cnd.mk (fun b2=>⟨⟨(yD (yL ⟨i.p,T,j⟩ 1) 1).1.price,t.p2,(yD (yL ⟨i.p,T,j⟩ 1) 1).2⟩,rfl,rfl,rfl,trivial,fun _ _=> ?_⟩) (fun b2=>⟨⟨(yD (yL ⟨i.p,T,j⟩ 1) 1).1.price,t.p2,false⟩,rfl,rfl,rfl,trivial,fun _ _=> ?_⟩)
    ·have b2:t.has2=true:=b2
     rw[b2,yTm]at eI
     refine Cv.cnd.mk (fun e2=>⟨(),bad (by rw[eI];exact e2),kp,trivial⟩) (fun e2=>⟨j+1,by rw[w64 (by omega)];rfl,kp,⟨by omega,good (by rw[eI];exact e2)⟩,by(first|omega|(dsimp only;omega)),kp⟩)
    ·have b2:t.has2=false:=b2
     rw[b2,yTz]at eI
     refine Cv.cnd.mk (fun e2=>absurd e2 (by simp)) (fun e2=>⟨j+1,by rw[w64 (by omega)];rfl,kp,⟨by omega,good (by rw[eI];rfl)⟩,by(first|omega|(dsimp only;omega)),kp⟩)
  ·obtain rfl:j=T.length:=by omega
   rw[e1,ySe (by rw[mV f2];simp)]
   exact kp
theorem z9g:booksC.ok Tryz.prog 36:=okw mixed (gokc bQ (gokc yEs (gokc z8b (gokc zQb (gokc zVr gok0))))) 0 (fun _=>[]) (fun i=>yLv i) [] Tryz.func36 yKs
theorem zUs:booksNilC.ok Tryz.prog 36:=okw (V:=z5m) mixed (gokc bQ gok0) 0 (fun _=>[]) (fun _=>[]) [] Tryz.func36 fun(p:Prd) h=>by
 obtain⟨h1,h2,h3⟩:p.small:=h
 refine⟨p,?_⟩;(repeat'(first|exact rfl|exact trivial|assumption|apply And.intro|refine fun(_:Unit) (_:True)=>?_|refine Exists.intro () ?_|omega|(dsimp only;omega)))
 refine Cv.cnd.mk (fun c=> ?_) (fun c=> ?_)<;>exact kp
open Go Cv Go.Proofs
structure Mkt where
 p:Prd
 s:MSt
 used:List Int
def z7 (l:List Int):List (Value×List D):=l.map fun x=>(.int .i64 x,[.v (.bool true)])
def y8 (m:Mkt):Nat→AObj
 |0=> .cells [sV m.p.code,.own 3,zA m.p.tick,zA m.p.low,zA m.p.high,zA m.p.wide,zA m.p.rule,zA m.p.top,zA m.p.least,zA m.p.part,.own 4,.nm 1 0,.mp 2] 90
 |1=>zE m.s
 |2=> .map (z7 m.used)
 |3=> .fro 1 (iE m.p.months)
 |4=> .fro 1 (iE m.p.settle)
 |_=> .gone
def fQ (m:Mkt):AObj:= .adt Mkt 5 y8 m
def newMC:Con where
 ι:=Prd
 pat:=fun p=>[prdV p]
 pre:=fun _=>[]
 cnd:=fun p=>p.small
 alts:=fun p=>[{o:=Unit,res:=fun _=> .tup [.nm 0 0,zA 0],post:=fun _=>[fQ ⟨p,h8 p,[]⟩],rel:=fun _=>p.check=0},{o:=Unit,res:=fun _=> .tup [.d (.v (.pointer none)),zA p.check],post:=fun _=>[],rel:=fun _=>p.check≠0}]
def stateC:Con:=con1 Mkt (fun _=>[.nm 0 0]) (fun m=>[fQ m]) (fun m=>m.s.small) (fun _=> .nm 1 0) (fun m=>[fQ m,zE m.s])
open Go Cv Go.Proofs
def zEu (a:Prd) (b:Prd) (c:Unit):Prop:=True∧(0+(iE a.settle).length)*(8:Nat)≤(70368744177664:Nat)∧((∃(d:Unit),(0:Int)=(0:Int)∧sb a.code=sb a.code∧a.tick=a.tick∧a.low=a.low∧a.high=a.high∧a.wide=a.wide∧a.rule=a.rule∧a.top=a.top∧a.least=a.least∧a.part=a.part∧zE (h8 a)=zE (h8 b)∧z7 []=[]∧iE a.months=[]++iE a.months∧iE a.settle=[]++iE a.settle∧a.check=0)∨∃(c:Unit),False)
def zEo (a:Prd) (b:Prd) (c:Unit):Prop:=True∧True∧(0+(iE a.months).length)*(8:Nat)≤(70368744177664:Nat)∧zEu a b c
def zDv (a:Prd) (b:Unit):Prop:=True∧(0+(iE a.settle).length)*(8:Nat)≤(70368744177664:Nat)∧((∃(c:Unit),(0:Int)=(0:Int)∧sb a.code=sb a.code∧a.tick=a.tick∧a.low=a.low∧a.high=a.high∧a.wide=a.wide∧a.rule=a.rule∧a.top=a.top∧a.least=a.least∧a.part=a.part∧False)∨∃(b:Unit),False)
def zEn (a:Prd) (b:Unit):Prop:=True∧True∧(0+(iE a.months).length)*(8:Nat)≤(70368744177664:Nat)∧zDv a b
def yJf (p:Prd):Prop:=
 ∃(a:Prd),sb a.code=sb p.code∧iE a.months=iE p.months∧a.tick=p.tick∧a.low=p.low∧a.high=p.high∧a.wide=p.wide∧a.rule=p.rule∧a.top=p.top∧a.least=p.least∧a.part=p.part∧iE a.settle=iE p.settle∧(zS a)∧(∀(b:Unit),a.check=0→(True∧True∧((0+(iE p.months).length)*(8:Nat)≤(70368744177664:Nat)∧True∧zEu p a b)∧zEo p a b)∧True∧True∧zEo p a b)∧∀(b:Unit),a.check≠0→cnd (a.check !=0) (c8 b p a) ((True∧True∧((0+(iE p.months).length)*(8:Nat)≤(70368744177664:Nat)∧True∧zDv p b)∧zEn p b)∧True∧True∧zEn p b)
def yMp (m:Mkt):Prop:=
 ∃(i:MSt),zE i=zE m.s∧(i.books.length≤1000000∧∀(b:Book),b∈i.books→(b.a.slots.length≤1000000∧b.a.queues.length≤1000000)∧b.buys.length≤1000000∧b.sells.length≤1000000∧b.spare.length≤1000000)∧∀(o:Unit),True→∃(o:Unit),sb m.p.code=sb m.p.code∧m.p.tick=m.p.tick∧m.p.low=m.p.low∧m.p.high=m.p.high∧m.p.wide=m.p.wide∧m.p.rule=m.p.rule∧m.p.top=m.p.top∧m.p.least=m.p.least∧m.p.part=m.p.part∧zE m.s=zE i∧z7 m.used=z7 m.used∧AObj.fro 1 (iE m.p.months)=AObj.fro 1 (iE m.p.months)∧AObj.fro 1 (iE m.p.settle)=AObj.fro 1 (iE m.p.settle)∧zE m.s=zE i∧True
open Go Cv Go.Proofs
theorem yDe:stateC.ok Tryz.prog 22:=okw (V:=yMp) mixed (gokc zBs gok0) 0 (fun _=>[]) (fun _=>[]) [0] Tryz.func22 fun(m:Mkt) h=>by
 obtain⟨h1,h2⟩:m.s.small:=h
 refine⟨m.s,rfl,⟨h1,h2⟩,fun _ _=>⟨(),?_⟩⟩
 exact kp
theorem yPm (p:Prd) (h:newMC.cnd p):yJf p:=by
 unfold yJf c8 zEn zDv zEo zEu zS
 obtain⟨h1,h2,h3⟩:p.small:=h
 refine⟨p,?_⟩
 simp only[yW]
 (repeat'(first|exact rfl|exact trivial|assumption|apply And.intro|refine fun(_:Unit) (_:True)=>?_|refine Exists.intro () ?_|omega|(dsimp only;omega)))
 ·intro _ c
  (repeat'(first|exact rfl|exact trivial|assumption|apply And.intro|refine fun(_:Unit) (_:True)=>?_|refine Exists.intro () ?_|omega|(dsimp only;omega)))
  all_goals(refine .inl ⟨(),?_⟩;(repeat'(first|exact rfl|exact trivial|assumption|apply And.intro|refine fun(_:Unit) (_:True)=>?_|refine Exists.intro () ?_|omega|(dsimp only;omega))))
 ·intro _ c
  refine Cv.cnd.mk (fun e=> .inr ⟨(),trivial,kp,c⟩) (fun e=>absurd (by simpa using e) c)
theorem newM_ok:newMC.ok Tryz.prog 10:=okw mixed (gokc yGr gok0) 0 (fun _=>[]) (fun _=>[]) [] Tryz.func10 yPm
open Go Cv Go.Proofs
structure Ledger where
 p:Prd
 left:List (Int×Int)
 inst:List (Int×Int)
 traded:List Int
 net:List Int
def yEn (l:Ledger):Nat→AObj
 |0=> .cells [sV l.p.code,.own 5,zA l.p.tick,zA l.p.low,zA l.p.high,zA l.p.wide,zA l.p.rule,zA l.p.top,zA l.p.least,zA l.p.part,.own 6,.mp 1,.mp 2,.own 3,.own 4] 124
 |1=> .map (zY l.left)
 |2=> .map (zY l.inst)
 |3=> .own 2 1 (iE l.traded)
 |4=> .own 2 1 (iE l.net)
 |5=> .fro 1 (iE l.p.months)
 |6=> .fro 1 (iE l.p.settle)
 |_=> .gone
def xO (l:Ledger):AObj:= .adt Ledger 7 yEn l
def y5 (p:Prd):Ledger:=⟨p,[],[],List.replicate p.count 0,List.replicate p.count 0⟩
def clIntRC:Con:=con1 (List Int) (fun l=>[iV l]) (fun _=>[]) (fun l=>l.length≤1000000) (fun l=>iV l) (fun _=>[])
def newLC:Con where
 ι:=Prd
 pat:=fun p=>[prdV p]
 pre:=fun _=>[]
 cnd:=fun p=>p.small
 alts:=fun p=>[{o:=Unit,res:=fun _=> .tup [.nm 0 0,zA 0],post:=fun _=>[xO (y5 p)],rel:=fun _=>p.check=0},{o:=Unit,res:=fun _=> .tup [.d (.v (.pointer none)),zA p.check],post:=fun _=>[],rel:=fun _=>p.check≠0}]
structure WiI where
 n:Int
 lo:Int
 hi:Int
def zH (n lo hi:Int):Int:=lo+n % (hi-lo+1)
def withinC:Con:=con1 WiI (fun i=>[zA i.n,zA i.lo,zA i.hi]) (fun _=>[]) (fun i=>yY i.n∧-1000000≤i.lo∧i.lo≤i.hi∧i.hi≤1000000) (fun i=>zA (zH i.n i.lo i.hi)) (fun _=>[])
def uX (rule:Int):Prd:=⟨[67,76],[320,321,323],5,0,1000,200,rule,4,2,40,[500,505,490]⟩
def threeC:Con:=con1 Int (fun n=>[zA n]) (fun _=>[]) (fun _=>True) (fun n=>prdV (uX n)) (fun _=>[])
open Go Cv Go.Proofs
def yFt (l:List Int):Prop:=
 ∀(b:Bool),(b=true→iE l=[])→cnd b (∃(o:Unit),iE l=[]∧True) ((0+(iE l).length)*(8:Nat)≤(70368744177664:Nat)∧∃(o:Unit),iE l=[]++iE l∧True)
def z5d (l:List Int):Prop:=
 ∀(b:Bool),(b=true→iE l=[])→cnd b (∃(o:Unit),iE l=[]∧True) ((0+(iE l).length)*(8:Nat)≤(70368744177664:Nat)∧∃(o:Unit),iE l=[]++iE l∧True)
def dJ (a:Prd):Prop:=0≤(↑a.count:Int)∧(↑a.count:Int)≤(↑a.count:Int)∧(↑a.count:Int)≤9223372036854775807∧(↑(8:Nat):Int)*(↑a.count:Int)≤2 ^ (48:Nat)
def uM (a:Prd):Prop:=sb a.code=sb a.code∧True∧a.tick=a.tick∧a.low=a.low∧a.high=a.high∧a.wide=a.wide∧a.rule=a.rule∧a.top=a.top∧a.least=a.least∧a.part=a.part∧True∧True
def zMi (a:Prd) (b:Prd) (c:List Int) (d:List Int) (e:Unit):Prop:=(uM a)∧((∃(f:Unit),(0:Int)=(0:Int)∧sb a.code=sb a.code∧a.tick=a.tick∧a.low=a.low∧a.high=a.high∧a.wide=a.wide∧a.rule=a.rule∧a.top=a.top∧a.least=a.least∧a.part=a.part∧zY []=[]∧zY []=[]∧iE (List.replicate a.count 0)=List.replicate (↑b.count:Int).toNat [dI 0]∧iE (List.replicate a.count 0)=List.replicate (↑b.count:Int).toNat [dI 0]∧AObj.fro 1 (iE a.months)=AObj.fro 1 (iE c)∧AObj.fro 1 (iE a.settle)=AObj.fro 1 (iE d)∧a.check=0)∨∃(e:Unit),False)
def zMq (a:Prd) (b:Prd) (c:List Int) (d:List Int) (e:Unit):Prop:=(uM a)∧(dJ b)∧zMi a b c d e
def zBx (a:Prd) (b:Prd) (c:List Int) (d:List Int) (e:Unit):Prop:=(uM a)∧zMi a b c d e
def zCx (a:Prd) (b:Prd) (c:List Int) (d:List Int) (e:Unit):Prop:=(uM a)∧(zMq a b c d e)∧(dJ b)∧zBx a b c d e
def zKc (a:Prd) (b:Prd) (c:List Int) (d:List Int) (e:Unit):Prop:=(dJ a)∧zCx b a c d e
def zMw (a:Prd) (b:Prd) (c:List Int) (d:List Int) (e:Unit):Prop:=(dJ a)∧zMq b a c d e
def zQl (a:Prd) (b:Prd) (c:List Int) (d:List Int) (e:Unit):Prop:=(uM a)∧((uM a)∧(zMw b a c d e)∧zMw b a c d e)∧(zKc b a c d e)∧zKc b a c d e
def zSc (a:Prd) (b:Prd) (c:List Int) (d:List Int) (e:Unit):Prop:=(dJ a)∧(uM b)∧(zCx b a c d e)∧(zCx b a c d e)∧(dJ a)∧(uM b)∧(zBx b a c d e)∧zBx b a c d e
def yIu (p:Prd):Prop:=
 ∃(a:Prd),sb a.code=sb p.code∧iE a.months=iE p.months∧a.tick=p.tick∧a.low=p.low∧a.high=p.high∧a.wide=p.wide∧a.rule=p.rule∧a.top=p.top∧a.least=p.least∧a.part=p.part∧iE a.settle=iE p.settle∧(zS a)∧∀(b:Unit),True→cnd (a.check !=0) (c8 b p a) (∃(c:Prd),sb c.code=sb p.code∧iE c.months=iE p.months∧c.tick=p.tick∧c.low=p.low∧c.high=p.high∧c.wide=p.wide∧c.rule=p.rule∧c.top=p.top∧c.least=p.least∧c.part=p.part∧iE c.settle=iE p.settle∧(zS c)∧∀(d:Unit),True→∃(e:List Int),iE e=iE p.months∧e.length≤1000000∧∀(f:Unit),True→True∧∃(g:List Int),iE g=iE p.settle∧g.length≤1000000∧∀(h:Unit),True→(zQl p c e g h)∧(zQl p c e g h)∧(zSc c p e g h)∧zSc c p e g h)
def cG (a:WiI):=(IntKind.i64.wrap (IntKind.i64.wrap (a.hi-a.lo)+1))
def aM (a:WiI):Prop:=IntKind.i64.wrap (IntKind.i64.wrap (a.hi-a.lo)+1)≠0∧cnd (decide (a.n.tmod (cG a)<0)) (∃(b:Unit),zH a.n a.lo a.hi=IntKind.i64.wrap (a.lo+IntKind.i64.wrap (IntKind.i64.wrap (IntKind.i64.wrap (a.n.tmod (cG a)+a.hi)-a.lo)+1))∧True) (∃(b:Unit),zH a.n a.lo a.hi=IntKind.i64.wrap (a.lo+a.n.tmod (cG a))∧True)
def z2k (i:WiI):Prop:=
 IntKind.i64=IntKind.i64∧aM i
def yCc (n:Int):Prop:=
 ∃(a:Unit),sb [(67:UInt8),(76:UInt8)]=ByteArray.mk #[(67:UInt8),(76:UInt8)]∧iE [(320:Int),(321:Int),(323:Int)]=[[dI 320],[dI 321],[dI 323]]∧(5:Int)=(5:Int)∧(0:Int)=(0:Int)∧(1000:Int)=(1000:Int)∧(200:Int)=(200:Int)∧n=n∧(4:Int)=(4:Int)∧(2:Int)=(2:Int)∧(40:Int)=(40:Int)∧iE [(500:Int),(505:Int),(490:Int)]=[[dI 500],[dI 505],[dI 490]]∧True
open Go Cv Go.Proofs
theorem z4u:clIntRC.ok Tryz.prog 58:=okw (V:=yFt) mixed gok0 0 (fun _=>[]) (fun _=>[]) [] Tryz.func58 fun(l:List Int) h=>by
 have h:l.length≤1000000:=h
 exact fun b hb=>Cv.cnd.mk (fun e=>⟨(),hb e,trivial⟩) (fun _=>⟨by rw[yTl,yW];omega,(),rfl,trivial⟩)
theorem zWs:clIntRC.ok Tryz.prog 59:=okw (V:=z5d) mixed gok0 0 (fun _=>[]) (fun _=>[]) [] Tryz.func59 fun(l:List Int) h=>by
 have h:l.length≤1000000:=h
 exact fun b hb=>Cv.cnd.mk (fun e=>⟨(),hb e,trivial⟩) (fun _=>⟨by rw[yTl,yW];omega,(),rfl,trivial⟩)
theorem yBg:threeC.ok Tryz.prog 11:=okw (V:=yCc) mixed gok0 0 (fun _=>[]) (fun _=>[]) [] Tryz.func11 fun(n:Int) _=>by
 unfold yCc dI;exact kp
theorem yFo (i:WiI) (h:withinC.cnd i):z2k i:=by
 obtain⟨⟨a1,a2⟩,a3,a4,a5⟩:yY i.n∧-1000000≤i.lo∧i.lo≤i.hi∧i.hi≤1000000:=h
 unfold z2k aM cG
 rw[w64 (x:=i.hi-i.lo) (by omega),w64 (x:=i.hi-i.lo+1) (by omega)]
 obtain⟨d,hd⟩:∃d:Int,i.hi-i.lo+1=d:=⟨_,rfl⟩
 rw[hd]
 have h1:i.n.tmod d=if 0≤i.n then i.n % d else-((-i.n) % d):=by
  split
  ·rename_i h;rw[yWq h]
  ·rename_i h
   have:i.n= -(-i.n):=by omega
   conv=>lhs;rw[this]
   rw[Int.neg_tmod,yWq (by omega)]
 have hb1:=yYi i.n (show d≠0 by omega)
 have hb2:=yYj i.n (show 0<d by omega)
 have hb3:=yYi (-i.n) (show d≠0 by omega)
 have hb4:=yYj (-i.n) (show 0<d by omega)
 have key:i.n.tmod d<0→i.n % d=i.n.tmod d+d:=fun hneg=>by
  have:=Int.emod_eq_of_lt (a:=i.n.tmod d+d) (b:=d) (by rw[h1]at hneg ⊢;split at hneg<;>split<;>omega) (by omega)
  rw[← this,Int.add_emod_right]
  have e:=Int.tmod_add_mul_tdiv i.n d
  conv=>lhs;rw[← e]
  rw[yXy]
 have key2:¬i.n.tmod d<0→i.n % d=i.n.tmod d:=fun hneg=>by
  have hlt:i.n.tmod d<d:=by rw[h1];split<;>omega
  have:=Int.emod_eq_of_lt (a:=i.n.tmod d) (b:=d) (by omega) hlt
  rw[← this]
  have e:=Int.tmod_add_mul_tdiv i.n d
  conv=>lhs;rw[← e]
  rw[yXy]
 refine⟨rfl,by omega,zK (fun c=>⟨(),?_,trivial⟩) (fun c=>⟨(),?_,trivial⟩)⟩
 ·have k:=key c
  rw[zH,hd,k]
  rw[w64 (x:=i.n.tmod d+i.hi) (by omega),w64 (x:=i.n.tmod d+i.hi-i.lo) (by omega),w64 (x:=i.n.tmod d+i.hi-i.lo+1) (by omega),w64 (by omega)]
  omega
 ·have k:=key2 c
  rw[zH,hd,k,w64 (by omega)]
theorem zOr:withinC.ok Tryz.prog 12:=okw mixed gok0 0 (fun _=>[]) (fun _=>[]) [] Tryz.func12 yFo
theorem yQo (p:Prd) (h:newLC.cnd p):yIu p:=by
 unfold yIu c8 zSc zQl zMw zKc zCx zBx zMq zMi uM dJ zS dI
 obtain⟨h1,h2,h3⟩:p.small:=h
 have p48:(2:Int) ^ (48:Nat)=281474976710656:=by decide
 refine⟨p,?_⟩
 simp only[yW,p48]
 (repeat'(first|exact rfl|exact trivial|assumption|apply And.intro|refine fun(_:Unit) (_:True)=>?_|refine Exists.intro () ?_|omega|(dsimp only;omega)))
 refine Cv.cnd.mk (fun c=> .inr ⟨(),trivial,kp,by simpa using c⟩) fun c=> ?_
 have c:p.check=0:=by simpa using c
 have m6:=(qG c).m6
 have s1:=(qG c).s1
 have hc:=xV p
 have er:iE (List.replicate p.count 0)=List.replicate p.count [D.v (.int .i64 0)]:=by rw[iE,yXw]
 refine⟨p,?_⟩
 (repeat'(first|exact rfl|exact trivial|assumption|apply And.intro|refine fun(_:Unit) (_:True)=>?_|refine Exists.intro () ?_|omega|(dsimp only;omega)))
 refine⟨p.months,?_⟩
 (repeat'(first|exact rfl|exact trivial|assumption|apply And.intro|refine fun(_:Unit) (_:True)=>?_|refine Exists.intro () ?_|omega|(dsimp only;omega)))
 refine⟨p.settle,?_⟩
 (repeat'(first|exact rfl|exact trivial|assumption|apply And.intro|refine fun(_:Unit) (_:True)=>?_|refine Exists.intro () ?_|omega|(dsimp only;omega)))
 all_goals(refine .inl ⟨(),?_⟩;(repeat'(first|exact rfl|exact trivial|assumption|apply And.intro|refine fun(_:Unit) (_:True)=>?_|refine Exists.intro () ?_|omega|(dsimp only;omega))))
 all_goals(simp only[y5,er,ySt])
theorem z3q:newLC.ok Tryz.prog 33:=okw mixed (gokc bQ (gokc cU (gokc z4u (gokc zWs gok0)))) 0 (fun _=>[]) (fun _=>[]) [] Tryz.func33 yQo
open Go Cv Go.Proofs
structure LgN where
 l:Ledger
 n:Int
def kP (l:List (Int×Int)) (k:Int):Option Int:=(l.find? fun x=>decide (x.1=k)).map (·.2)
def Ledger.isB (l:Ledger) (n:Int):Bool:=decide (0≤n) && decide (n<l.traded.length)
def Ledger.at (l:Ledger) (v:List Int) (n:Int):Int:=if l.isB n then v.getD n.toNat 0 else 0
@[reducible] def Ledger.ok (l:Ledger):Prop:=l.traded.length≤1000000∧l.net.length=l.traded.length
def lnetC:Con:=con1 LgN (fun i=>[.nm 0 0,zA i.n]) (fun i=>[xO i.l]) (fun i=>i.l.ok) (fun i=>zA (i.l.at i.l.net i.n)) (fun i=>[xO i.l])
open Go Cv Go.Proofs
def zEv (a:LgN):Prop:=sb a.l.p.code=sb a.l.p.code∧a.l.p.tick=a.l.p.tick∧a.l.p.low=a.l.p.low∧a.l.p.high=a.l.p.high∧a.l.p.wide=a.l.p.wide∧a.l.p.rule=a.l.p.rule∧a.l.p.top=a.l.p.top∧a.l.p.least=a.l.p.least∧a.l.p.part=a.l.p.part∧zY a.l.left=zY a.l.left∧zY a.l.inst=zY a.l.inst∧iE a.l.traded=iE a.l.traded∧iE a.l.net=iE a.l.net∧AObj.fro 1 (iE a.l.p.months)=AObj.fro 1 (iE a.l.p.months)∧AObj.fro 1 (iE a.l.p.settle)=AObj.fro 1 (iE a.l.p.settle)∧True
def zJn (a:LgN):Prop:=∃(b:Unit),a.l.at a.l.net a.n=0∧zEv a
def yIn (i:LgN):Prop:=
 cnd (decide (i.n≥0)) (cnd (!decide (i.n<(↑(iE i.l.traded).length:Int))) (zJn i) ((0≤i.n∧i.n<(↑(iE i.l.net).length:Int))∧∃(a:Int),zF (iE i.l.net) i.n.toNat 0 1=some [dI a]∧∃(b:Unit),i.l.at i.l.net i.n=a∧zEv i)) (zJn i)
open Go Cv Go.Proofs
theorem yAg (l:List (Int×Int)) (k:Int):∀p∈zY l,like (Value.int IntKind.i64 k) p.1=true:=by
 intro p hp
 obtain⟨x,_,rfl⟩:=yTh.1 hp
 rfl
theorem m7 (k:Int):∀l:List (Int×Int),wI (Value.int IntKind.i64 k) (zY l)=(kP l k).map fun v=>[D.v (.int .i64 v)]
 |[]=>rfl
 |(a,v)::l=>by
  have ih:=m7 k l
  show(bif (keq .i64 .i64 && decide (k=a))then _ else wI _ (zY l))=_
  by_cases h:k=a
  ·subst h;simp[kP,keq]
  ·have h':¬a=k:=fun e=>h e.symm
   rw[show(keq .i64 .i64 && decide (k=a))=false by simp[h],cond_false,ih]
   simp[kP,yYk,h']
theorem yPg (i:LgN) (h:lnetC.cnd i):yIn i:=by
 obtain⟨h1,h2⟩:i.l.ok:=h
 unfold yIn zJn zEv dI
 simp only[yW]
 refine zK (fun c=>Cv.cnd.mk (fun d=> ?_) (fun d=> ?_)) (fun c=> ?_)
 ·have d:¬i.n<(i.l.traded.length:Int):=by simpa using d
  rw[Ledger.at,Ledger.isB,ySp d]
  simp only[yWw,ySu,if_false];exact kp
 ·have d:i.n<(i.l.traded.length:Int):=by simpa using d
  obtain⟨v,hv⟩:=z6 (l:=i.l.net) (i:=i.n.toNat) (by omega)
  refine⟨⟨by omega,by omega⟩,v,elI hv,?_⟩
  rw[Ledger.at,Ledger.isB,ySw d,ySw (show 0≤i.n by omega),yTm,ySf rfl,ySi,hv]
  exact kp
 ·rw[Ledger.at,Ledger.isB,ySp (show ¬0≤i.n by omega)]
  simp only[yTz,ySu,if_false];exact kp
theorem z1j:lnetC.ok Tryz.prog 57:=okw mixed gok0 1 (fun _=>[]) (fun _=>[]) [0] Tryz.func57 yPg
open Go Cv Go.Proofs
structure Rep where
 kind:Int
 id:Int
 inst:Int
 side:Int
 price:Int
 qty:Int
 left:Int
 why:Int
 deriving DecidableEq
@[reducible] def yQj (r:Rep):V:= .agg [zA r.kind,zA r.id,zA r.inst,zA r.side,zA r.price,zA r.qty,zA r.left,zA r.why]
def yE (r:Rep):List D:=[.v (.int .i64 r.kind),.v (.int .i64 r.id),.v (.int .i64 r.inst),.v (.int .i64 r.side),.v (.int .i64 r.price),.v (.int .i64 r.qty),.v (.int .i64 r.left),.v (.int .i64 r.why)]
def g8 (k v:Int):List (Int×Int)→List (Int×Int)
 |[]=>[(k,v)]
 |(a,b)::l=>if k=a then(a,v)::l else(a,b)::g8 k v l
def zFl (k:Int):List (Int×Int)→List (Int×Int)
 |[]=>[]
 |(a,b)::l=>if k=a then l else(a,b)::zFl k l
def Ledger.acc (l:Ledger) (r:Rep):Ledger×Int:=
 if(kP l.left r.id).isSome=true then(l,25)else if r.qty<1∨r.qty≠r.left then(l,24)else({l with left:=g8 r.id r.left l.left,inst:=g8 r.id r.inst l.inst},0)
def Ledger.own (l:Ledger) (id:Int):Int:=(kP l.inst id).getD 0
def Ledger.legB (l:Ledger) (id inst:Int):Bool:=(kP l.inst id).isSome && ((l.p.legs (l.own id)).2.2 && (decide (inst=(l.p.legs (l.own id)).1)||decide (inst=(l.p.legs (l.own id)).2.1)))
def vC (l:List Int) (n:Nat) (x:Int):List Int:=l.set n (IntKind.i64.wrap (l.getD n 0+x))
def rZ (l:List Int) (n:Nat) (x:Int):List Int:=l.set n (IntKind.i64.wrap (l.getD n 0-x))
def Ledger.trade (l:Ledger) (r:Rep):Ledger:={l with traded:=vC l.traded r.inst.toNat r.qty,net:=if r.side=1 then vC l.net r.inst.toNat r.qty else if r.side=2 then rZ l.net r.inst.toNat r.qty else l.net}
def Ledger.close (l:Ledger) (id n:Int):Ledger:={l with left:=if n=0 then zFl id (g8 id n l.left)else g8 id n l.left}
def Rep.badK (r:Rep):Bool:=decide (r.kind<1)||decide (r.kind>5)
def Ledger.isLeg (l:Ledger) (r:Rep):Bool:=decide (r.kind=3) && l.legB r.id r.inst
def Ledger.e1 (l:Ledger) (r:Rep):Bool:=decide (r.kind=3) && decide (r.inst≠l.own r.id)
def Rep.e2 (r:Rep) (left:Int):Bool:=decide (r.kind=3) && (decide (r.qty<1)||(decide (r.qty>left)||decide (r.left≠IntKind.i64.wrap (left-r.qty))))
def Rep.e3 (r:Rep) (left:Int):Bool:=decide (r.kind=4) && decide (r.qty≠left)
def Rep.e4 (r:Rep) (left:Int):Bool:=decide (r.kind=5) && (decide (r.qty<0)||(decide (r.qty≥left)||decide (r.left≠IntKind.i64.wrap (left-r.qty))))
def Ledger.done (l:Ledger) (r:Rep):Ledger:=
 if r.kind=3 then(l.trade r).close r.id r.left else if r.kind=4 then l.close r.id 0 else l.close r.id r.left
def Ledger.add (l:Ledger) (r:Rep):Ledger×Int:=
 if r.badK=true then(l,31)else if r.kind=2 then(l,0)else if l.isB r.inst=false then(l,20)else if r.kind=1 then l.acc r
 else if l.isLeg r=true then(if r.qty<1 then(l,24)else(l.trade r,0))
 else match kP l.left r.id with
  |none=>(l,26)
  |some left=>if l.e1 r=true then(l,20)else if r.e2 left=true then(l,24)else if r.e3 left=true then(l,24)else if r.e4 left=true then(l,24)else(l.done r,0)
structure LgR where
 l:Ledger
 r:Rep
@[reducible] def Ledger.fit (l:Ledger):Prop:=l.ok∧l.p.small
def laddC:Con:=con1 LgR (fun i=>[.nm 0 0,yQj i.r]) (fun i=>[xO i.l]) (fun i=>i.l.fit) (fun i=>zA (i.l.add i.r).2) (fun i=>[xO (i.l.add i.r).1])
def Ledger.addAll:Ledger→List Rep→Ledger×Int
 |l,[]=>(l,0)
 |l,r::t=>if(l.add r).2≠0 then l.add r else Ledger.addAll (l.add r).1 t
def yS (p:Prd) (l:List Rep):Int:=
 if p.check≠0 then p.check else if((y5 p).addAll l).2≠0 then((y5 p).addAll l).2 else if(List.range p.months.length).any (fun n=>decide (((y5 p).addAll l).1.at ((y5 p).addAll l).1.net n≠0))then 21 else 0
structure RpI where
 p:Prd
 l:List Rep
def reportsC:Con:=con1 RpI (fun i=>[prdV i.p,roV 8 (i.l.map yE)]) (fun _=>[]) (fun i=>i.p.small∧i.l.length≤1099511627776) (fun i=>zA (yS i.p i.l)) (fun _=>[])
def zWv (i:RpI):List SAnn:=[
 {ι:=Nat,slots:=fun j=>[(5,.nm 0 0),(21,zA j)],rows:=fun j=>[xO ((y5 i.p).addAll (i.l.take j)).1]},
 {ι:=Nat,slots:=fun j=>[(35,zA j)],rows:=fun _=>[]}]
def known25C:Con:=con1 Unit (fun _=>[]) (fun _=>[]) (fun _=>True) (fun _=>yR true) (fun _=>[])
def bj (t:Nat):SAnn:={ι:=Bool,slots:=fun b=>[(t,yR b)],rows:=fun _=>[]}
def ij (t:Nat):SAnn:={ι:=Int,slots:=fun n=>[(t,zA n)],rows:=fun _=>[]}
def yPi:List (Nat×SAnn):=[(4,bj 7),(20,bj 20),(36,bj 43),(68,bj 63),(76,bj 79),(84,bj 103),(92,bj 113)]
open Go Cv Go.Proofs
def uZ (a:Bool→Prop) (b:Bool) (c:LgR):Prop:=a b∧Sx.AObj.cells [V.d (dI c.r.kind),V.d (dI c.r.id),V.d (dI c.r.inst),V.d (dI c.r.side),V.d (dI c.r.price),V.d (dI c.r.qty),V.d (dI c.r.left),V.d (dI c.r.why)] 41=Sx.AObj.cells [V.d (dI c.r.kind),V.d (dI c.r.id),V.d (dI c.r.inst),V.d (dI c.r.side),V.d (dI c.r.price),V.d (dI c.r.qty),V.d (dI c.r.left),V.d (dI c.r.why)] 41∧Sx.AObj.cells (gD (k9 0 1 7) [sV c.l.p.code,V.own 5,zA c.l.p.tick,zA c.l.p.low,zA c.l.p.high,zA c.l.p.wide,zA c.l.p.rule,zA c.l.p.top,zA c.l.p.least,zA c.l.p.part,V.own 6,V.mp 1,V.mp 2,V.own 3,V.own 4]) (124:TypeId)=Sx.AObj.cells (gD (k9 0 1 7) [sV c.l.p.code,V.own 5,zA c.l.p.tick,zA c.l.p.low,zA c.l.p.high,zA c.l.p.wide,zA c.l.p.rule,zA c.l.p.top,zA c.l.p.least,zA c.l.p.part,V.own 6,V.mp 1,V.mp 2,V.own 3,V.own 4]) (124:TypeId)∧Sx.AObj.map (zY c.l.left)=Sx.AObj.map (zY c.l.left)∧Sx.AObj.map (zY c.l.inst)=Sx.AObj.map (zY c.l.inst)∧AObj.own 2 1 (iE c.l.traded)=AObj.own 2 1 (iE c.l.traded)∧AObj.own 2 1 (iE c.l.net)=AObj.own 2 1 (iE c.l.net)∧AObj.fro 1 (iE c.l.p.months)=AObj.fro 1 (iE c.l.p.months)∧AObj.fro 1 (iE c.l.p.settle)=AObj.fro 1 (iE c.l.p.settle)
def zJi (a:LgR) (b:Int) (c:Bool→Prop):Prop:=∃(d:Bool),d=(a.r.left !=IntKind.i64.wrap (b-a.r.qty))∧uZ c d a
def cB (a:Bool→Prop) (b:LgR):Prop:=∃(c:Bool),c=false∧uZ a c b
def b6 (a:Bool→Prop) (b:LgR):Prop:=∃(c:Bool),c=true∧uZ a c b
def eN (a:LgR):Prop:=AObj.fro 1 (iE (a.l.add a.r).fst.p.months)=AObj.fro 1 (iE a.l.p.months)∧AObj.fro 1 (iE (a.l.add a.r).fst.p.settle)=AObj.fro 1 (iE a.l.p.settle)∧True
def zEz (a:LgR):Prop:=iE (a.l.add a.r).fst.net=iE a.l.net∧eN a
def zEi (a:LgR):Prop:=iE (a.l.add a.r).fst.traded=iE a.l.traded∧zEz a
def mF (a:LgR):Prop:=zY (a.l.add a.r).fst.inst=zY a.l.inst∧zEi a
def bJ (a:LgR):Prop:=sb (a.l.add a.r).fst.p.code=sb a.l.p.code∧(a.l.add a.r).fst.p.tick=a.l.p.tick∧(a.l.add a.r).fst.p.low=a.l.p.low∧(a.l.add a.r).fst.p.high=a.l.p.high∧(a.l.add a.r).fst.p.wide=a.l.p.wide∧(a.l.add a.r).fst.p.rule=a.l.p.rule∧(a.l.add a.r).fst.p.top=a.l.p.top∧(a.l.add a.r).fst.p.least=a.l.p.least∧(a.l.add a.r).fst.p.part=a.l.p.part∧zY (a.l.add a.r).fst.left=zY a.l.left∧mF a
def bW (a:LgR):Prop:=∃(b:Unit),(a.l.add a.r).snd=24∧bJ a
def zMv (a:LgR):Prop:=∃(b:Unit),(a.l.add a.r).snd=20∧bJ a
def eJ (a:LgR) (b:Int) (c:Int):Prop:=zY (a.l.add a.r).fst.inst=zY a.l.inst∧iE (a.l.add a.r).fst.traded=z9 (iE a.l.traded) a.r.inst.toNat 0 [dI (IntKind.i64.wrap (b+a.r.qty))]∧iE (a.l.add a.r).fst.net=z9 (iE a.l.net) a.r.inst.toNat 0 [dI (IntKind.i64.wrap (c-a.r.qty))]∧eN a
def eO (a:LgR) (b:Int) (c:Int):Prop:=zY (a.l.add a.r).fst.inst=zY a.l.inst∧iE (a.l.add a.r).fst.traded=z9 (iE a.l.traded) a.r.inst.toNat 0 [dI (IntKind.i64.wrap (b+a.r.qty))]∧iE (a.l.add a.r).fst.net=z9 (iE a.l.net) a.r.inst.toNat 0 [dI (IntKind.i64.wrap (c+a.r.qty))]∧eN a
def tE (a:LgR) (b:Int):Prop:=zY (a.l.add a.r).fst.inst=zY a.l.inst∧iE (a.l.add a.r).fst.traded=z9 (iE a.l.traded) a.r.inst.toNat 0 [dI (IntKind.i64.wrap (b+a.r.qty))]∧zEz a
def eQ (a:LgR) (b:Int) (c:Bool):Prop:=wI (Value.int IntKind.i64 a.r.id) (zY a.l.left)=some [dI b]∧c=true∨wI (Value.int IntKind.i64 a.r.id) (zY a.l.left)=none∧[dI b]=[dI 0]∧c=false
def sY (a:LgR) (b:Int) (c:Bool):Prop:=wI (Value.int IntKind.i64 a.r.id) (zY a.l.inst)=some [dI b]∧c=true∨wI (Value.int IntKind.i64 a.r.id) (zY a.l.inst)=none∧[dI b]=[dI 0]∧c=false
def mS (a:LgR):Prop:=∀(b:Value×List D),b∈jQ (Value.int IntKind.i64 a.r.id) [dI a.r.left] (zY a.l.left)→like (Value.int IntKind.i64 a.r.id) b.fst=true
def uK (a:LgR):Prop:=∀(b:Value×List D),b∈zY a.l.left→like (Value.int IntKind.i64 a.r.id) b.fst=true
def tH (a:LgR):Prop:=∀(b:Value×List D),b∈zY a.l.inst→like (Value.int IntKind.i64 a.r.id) b.fst=true
def aZ (a:LgR):Prop:=0≤a.r.inst∧a.r.inst<(↑(iE a.l.traded).length:Int)
def mN (a:LgR):=(jQ (Value.int IntKind.i64 a.r.id) [dI a.r.left] (zY a.l.left))
def v7 (a:LgR):=(↑(iE a.l.net).length:Int)
def yHt (i:LgR):Prop:=
 ∃(a:Bool),∃(b:Bool→Prop),cnd (decide (i.r.kind<1)) (b6 b i) (∃(c:Bool),c=decide (i.r.kind>5)∧uZ b c i)∧∀(c:Bool),b c→cnd c (∃(d:Unit),(i.l.add i.r).snd=31∧bJ i) (cnd (i.r.kind==2) (∃(d:Unit),(i.l.add i.r).snd=0∧bJ i) (∃(d:Bool),∃(e:Bool→Prop),cnd (decide (i.r.inst≥0)) (∃(f:Bool),f=!decide (i.r.inst<(↑(iE i.l.traded).length:Int))∧uZ e f i) (∃(f:Bool),f=!false∧uZ e f i)∧∀(f:Bool),e f→cnd f (zMv i) (cnd (i.r.kind==1) ((uK i)∧∃(g:Bool),∃(h:Int),(eQ i h g)∧cnd g (∃(j:Unit),(i.l.add i.r).snd=25∧bJ i) (cnd (decide (i.r.qty<1)) (bW i) (cnd (i.r.qty !=i.r.left) (bW i) ((uK i)∧∃(j:Bool),∃(k:Int),(eQ i k j)∧∀(l:Int),i.r.inst=i.r.inst∧i.r.left=i.r.left∧i.r.id=i.r.id∧l=l∧(∀(m:Value×List D),m∈jQ (Value.int IntKind.i64 i.r.id) [dI k] (zY i.l.left)→like (Value.int IntKind.i64 i.r.id) m.fst=true)∧i.r.inst=i.r.inst∧i.r.id=i.r.id∧(tH i)∧∃(m:Bool),∃(n:Int),(sY i n m)∧∀(p:Int),i.r.inst=i.r.inst∧p=p∧(∀(q:Value×List D),q∈jQ (Value.int IntKind.i64 i.r.id) [dI n] (zY i.l.inst)→like (Value.int IntKind.i64 i.r.id) q.fst=true)∧∃(q:Unit),(i.l.add i.r).snd=0∧sb (i.l.add i.r).fst.p.code=sb i.l.p.code∧(i.l.add i.r).fst.p.tick=i.l.p.tick∧(i.l.add i.r).fst.p.low=i.l.p.low∧(i.l.add i.r).fst.p.high=i.l.p.high∧(i.l.add i.r).fst.p.wide=i.l.p.wide∧(i.l.add i.r).fst.p.rule=i.l.p.rule∧(i.l.add i.r).fst.p.top=i.l.p.top∧(i.l.add i.r).fst.p.least=i.l.p.least∧(i.l.add i.r).fst.p.part=i.l.p.part∧zY (i.l.add i.r).fst.left=jQ (Value.int IntKind.i64 i.r.id) [dI i.r.left] (jQ (Value.int IntKind.i64 i.r.id) [dI k] (zY i.l.left))∧zY (i.l.add i.r).fst.inst=jQ (Value.int IntKind.i64 i.r.id) [dI i.r.inst] (jQ (Value.int IntKind.i64 i.r.id) [dI n] (zY i.l.inst))∧zEi i)))) (∃(g:Bool),∃(h:Bool→Prop),cnd (i.r.kind==3) ((tH i)∧∃(j:Bool),∃(k:Int),(sY i k j)∧∃(l:f9),sb l.p.code=sb i.l.p.code∧iE l.p.months=iE i.l.p.months∧l.p.tick=i.l.p.tick∧l.p.low=i.l.p.low∧l.p.high=i.l.p.high∧l.p.wide=i.l.p.wide∧l.p.rule=i.l.p.rule∧l.p.top=i.l.p.top∧l.p.least=i.l.p.least∧l.p.part=i.l.p.part∧iE l.p.settle=iE i.l.p.settle∧l.n=k∧(qR l)∧∀(m:Unit),True→cnd j (cnd (l.p.legs l.n).snd.snd (cnd (i.r.inst==(l.p.legs l.n).fst) (b6 h i) (∃(n:Bool),n=(i.r.inst==(l.p.legs l.n).snd.fst)∧uZ h n i)) (cB h i)) (cB h i)) (cB h i)∧∀(j:Bool),h j→cnd j (cnd (decide (i.r.qty<1)) (bW i) ((aZ i)∧∃(k:Int),zF (iE i.l.traded) i.r.inst.toNat 0 1=some [dI k]∧(aZ i)∧i.r.inst.toNat<(iE i.l.traded).length∧cnd (i.r.side==1) ((0≤i.r.inst∧i.r.inst<(v7 i))∧∃(l:Int),zF (iE i.l.net) i.r.inst.toNat 0 1=some [dI l]∧(0≤i.r.inst∧i.r.inst<(v7 i))∧i.r.inst.toNat<(iE i.l.net).length∧∃(m:Unit),(i.l.add i.r).snd=0∧sb (i.l.add i.r).fst.p.code=sb i.l.p.code∧(i.l.add i.r).fst.p.tick=i.l.p.tick∧(i.l.add i.r).fst.p.low=i.l.p.low∧(i.l.add i.r).fst.p.high=i.l.p.high∧(i.l.add i.r).fst.p.wide=i.l.p.wide∧(i.l.add i.r).fst.p.rule=i.l.p.rule∧(i.l.add i.r).fst.p.top=i.l.p.top∧(i.l.add i.r).fst.p.least=i.l.p.least∧(i.l.add i.r).fst.p.part=i.l.p.part∧zY (i.l.add i.r).fst.left=zY i.l.left∧eO i k l) (cnd (i.r.side==2) ((0≤i.r.inst∧i.r.inst<(v7 i))∧∃(l:Int),zF (iE i.l.net) i.r.inst.toNat 0 1=some [dI l]∧(0≤i.r.inst∧i.r.inst<(v7 i))∧i.r.inst.toNat<(iE i.l.net).length∧∃(m:Unit),(i.l.add i.r).snd=0∧sb (i.l.add i.r).fst.p.code=sb i.l.p.code∧(i.l.add i.r).fst.p.tick=i.l.p.tick∧(i.l.add i.r).fst.p.low=i.l.p.low∧(i.l.add i.r).fst.p.high=i.l.p.high∧(i.l.add i.r).fst.p.wide=i.l.p.wide∧(i.l.add i.r).fst.p.rule=i.l.p.rule∧(i.l.add i.r).fst.p.top=i.l.p.top∧(i.l.add i.r).fst.p.least=i.l.p.least∧(i.l.add i.r).fst.p.part=i.l.p.part∧zY (i.l.add i.r).fst.left=zY i.l.left∧eJ i k l) (∃(l:Unit),(i.l.add i.r).snd=0∧sb (i.l.add i.r).fst.p.code=sb i.l.p.code∧(i.l.add i.r).fst.p.tick=i.l.p.tick∧(i.l.add i.r).fst.p.low=i.l.p.low∧(i.l.add i.r).fst.p.high=i.l.p.high∧(i.l.add i.r).fst.p.wide=i.l.p.wide∧(i.l.add i.r).fst.p.rule=i.l.p.rule∧(i.l.add i.r).fst.p.top=i.l.p.top∧(i.l.add i.r).fst.p.least=i.l.p.least∧(i.l.add i.r).fst.p.part=i.l.p.part∧zY (i.l.add i.r).fst.left=zY i.l.left∧tE i k)))) ((uK i)∧∃(k:Bool),∃(l:Int),(eQ i l k)∧cnd (!k) (∃(m:Unit),(i.l.add i.r).snd=26∧bJ i) (∃(m:Bool),∃(n:Bool→Prop),cnd (i.r.kind==3) ((tH i)∧∃(p:Bool),∃(q:Int),(sY i q p)∧∃(r:Bool),r=(i.r.inst !=q)∧uZ n r i) (cB n i)∧∀(p:Bool),n p→cnd p (zMv i) (∃(q:Bool),∃(r:Bool→Prop),cnd (i.r.kind==3) (cnd (decide (i.r.qty<1)) (b6 r i) (cnd (decide (i.r.qty>l)) (b6 r i) (zJi i l r))) (cB r i)∧∀(s:Bool),r s→cnd s (bW i) (∃(t:Bool),∃(u:Bool→Prop),cnd (i.r.kind==4) (∃(v:Bool),v=(i.r.qty !=l)∧uZ u v i) (cB u i)∧∀(v:Bool),u v→cnd v (bW i) (∃(w:Bool),∃(x:Bool→Prop),cnd (i.r.kind==5) (cnd (decide (i.r.qty<0)) (b6 x i) (cnd (decide (i.r.qty≥l)) (b6 x i) (zJi i l x))) (cB x i)∧∀(y:Bool),x y→cnd y (bW i) (cnd (i.r.kind==3) ((aZ i)∧∃(z:Int),zF (iE i.l.traded) i.r.inst.toNat 0 1=some [dI z]∧(aZ i)∧i.r.inst.toNat<(iE i.l.traded).length∧cnd (i.r.side==1) ((0≤i.r.inst∧i.r.inst<(v7 i))∧∃(a_1:Int),zF (iE i.l.net) i.r.inst.toNat 0 1=some [dI a_1]∧(0≤i.r.inst∧i.r.inst<(v7 i))∧i.r.inst.toNat<(iE i.l.net).length∧(uK i)∧cnd (i.r.left==0) ((mS i)∧∃(a_2:Unit),(i.l.add i.r).snd=0∧sb (i.l.add i.r).fst.p.code=sb i.l.p.code∧(i.l.add i.r).fst.p.tick=i.l.p.tick∧(i.l.add i.r).fst.p.low=i.l.p.low∧(i.l.add i.r).fst.p.high=i.l.p.high∧(i.l.add i.r).fst.p.wide=i.l.p.wide∧(i.l.add i.r).fst.p.rule=i.l.p.rule∧(i.l.add i.r).fst.p.top=i.l.p.top∧(i.l.add i.r).fst.p.least=i.l.p.least∧(i.l.add i.r).fst.p.part=i.l.p.part∧zY (i.l.add i.r).fst.left=aX (Value.int IntKind.i64 i.r.id) (mN i)∧eO i z a_1) (∃(a_2:Unit),(i.l.add i.r).snd=0∧sb (i.l.add i.r).fst.p.code=sb i.l.p.code∧(i.l.add i.r).fst.p.tick=i.l.p.tick∧(i.l.add i.r).fst.p.low=i.l.p.low∧(i.l.add i.r).fst.p.high=i.l.p.high∧(i.l.add i.r).fst.p.wide=i.l.p.wide∧(i.l.add i.r).fst.p.rule=i.l.p.rule∧(i.l.add i.r).fst.p.top=i.l.p.top∧(i.l.add i.r).fst.p.least=i.l.p.least∧(i.l.add i.r).fst.p.part=i.l.p.part∧zY (i.l.add i.r).fst.left=jQ (Value.int IntKind.i64 i.r.id) [dI i.r.left] (zY i.l.left)∧eO i z a_1)) (cnd (i.r.side==2) ((0≤i.r.inst∧i.r.inst<(v7 i))∧∃(a_1:Int),zF (iE i.l.net) i.r.inst.toNat 0 1=some [dI a_1]∧(0≤i.r.inst∧i.r.inst<(v7 i))∧i.r.inst.toNat<(iE i.l.net).length∧(uK i)∧cnd (i.r.left==0) ((mS i)∧∃(a_2:Unit),(i.l.add i.r).snd=0∧sb (i.l.add i.r).fst.p.code=sb i.l.p.code∧(i.l.add i.r).fst.p.tick=i.l.p.tick∧(i.l.add i.r).fst.p.low=i.l.p.low∧(i.l.add i.r).fst.p.high=i.l.p.high∧(i.l.add i.r).fst.p.wide=i.l.p.wide∧(i.l.add i.r).fst.p.rule=i.l.p.rule∧(i.l.add i.r).fst.p.top=i.l.p.top∧(i.l.add i.r).fst.p.least=i.l.p.least∧(i.l.add i.r).fst.p.part=i.l.p.part∧zY (i.l.add i.r).fst.left=aX (Value.int IntKind.i64 i.r.id) (mN i)∧eJ i z a_1) (∃(a_2:Unit),(i.l.add i.r).snd=0∧sb (i.l.add i.r).fst.p.code=sb i.l.p.code∧(i.l.add i.r).fst.p.tick=i.l.p.tick∧(i.l.add i.r).fst.p.low=i.l.p.low∧(i.l.add i.r).fst.p.high=i.l.p.high∧(i.l.add i.r).fst.p.wide=i.l.p.wide∧(i.l.add i.r).fst.p.rule=i.l.p.rule∧(i.l.add i.r).fst.p.top=i.l.p.top∧(i.l.add i.r).fst.p.least=i.l.p.least∧(i.l.add i.r).fst.p.part=i.l.p.part∧zY (i.l.add i.r).fst.left=jQ (Value.int IntKind.i64 i.r.id) [dI i.r.left] (zY i.l.left)∧eJ i z a_1)) ((uK i)∧cnd (i.r.left==0) ((mS i)∧∃(a_1:Unit),(i.l.add i.r).snd=0∧sb (i.l.add i.r).fst.p.code=sb i.l.p.code∧(i.l.add i.r).fst.p.tick=i.l.p.tick∧(i.l.add i.r).fst.p.low=i.l.p.low∧(i.l.add i.r).fst.p.high=i.l.p.high∧(i.l.add i.r).fst.p.wide=i.l.p.wide∧(i.l.add i.r).fst.p.rule=i.l.p.rule∧(i.l.add i.r).fst.p.top=i.l.p.top∧(i.l.add i.r).fst.p.least=i.l.p.least∧(i.l.add i.r).fst.p.part=i.l.p.part∧zY (i.l.add i.r).fst.left=aX (Value.int IntKind.i64 i.r.id) (mN i)∧tE i z) (∃(a_1:Unit),(i.l.add i.r).snd=0∧sb (i.l.add i.r).fst.p.code=sb i.l.p.code∧(i.l.add i.r).fst.p.tick=i.l.p.tick∧(i.l.add i.r).fst.p.low=i.l.p.low∧(i.l.add i.r).fst.p.high=i.l.p.high∧(i.l.add i.r).fst.p.wide=i.l.p.wide∧(i.l.add i.r).fst.p.rule=i.l.p.rule∧(i.l.add i.r).fst.p.top=i.l.p.top∧(i.l.add i.r).fst.p.least=i.l.p.least∧(i.l.add i.r).fst.p.part=i.l.p.part∧zY (i.l.add i.r).fst.left=jQ (Value.int IntKind.i64 i.r.id) [dI i.r.left] (zY i.l.left)∧tE i z)))) (cnd (i.r.kind==4) ((uK i)∧(∀(z:Value×List D),z∈jQ (Value.int IntKind.i64 i.r.id) [dI 0] (zY i.l.left)→like (Value.int IntKind.i64 i.r.id) z.fst=true)∧∃(z:Unit),(i.l.add i.r).snd=0∧sb (i.l.add i.r).fst.p.code=sb i.l.p.code∧(i.l.add i.r).fst.p.tick=i.l.p.tick∧(i.l.add i.r).fst.p.low=i.l.p.low∧(i.l.add i.r).fst.p.high=i.l.p.high∧(i.l.add i.r).fst.p.wide=i.l.p.wide∧(i.l.add i.r).fst.p.rule=i.l.p.rule∧(i.l.add i.r).fst.p.top=i.l.p.top∧(i.l.add i.r).fst.p.least=i.l.p.least∧(i.l.add i.r).fst.p.part=i.l.p.part∧zY (i.l.add i.r).fst.left=aX (Value.int IntKind.i64 i.r.id) (jQ (Value.int IntKind.i64 i.r.id) [dI 0] (zY i.l.left))∧mF i) ((uK i)∧cnd (i.r.left==0) ((mS i)∧∃(z:Unit),(i.l.add i.r).snd=0∧sb (i.l.add i.r).fst.p.code=sb i.l.p.code∧(i.l.add i.r).fst.p.tick=i.l.p.tick∧(i.l.add i.r).fst.p.low=i.l.p.low∧(i.l.add i.r).fst.p.high=i.l.p.high∧(i.l.add i.r).fst.p.wide=i.l.p.wide∧(i.l.add i.r).fst.p.rule=i.l.p.rule∧(i.l.add i.r).fst.p.top=i.l.p.top∧(i.l.add i.r).fst.p.least=i.l.p.least∧(i.l.add i.r).fst.p.part=i.l.p.part∧zY (i.l.add i.r).fst.left=aX (Value.int IntKind.i64 i.r.id) (mN i)∧mF i) (∃(z:Unit),(i.l.add i.r).snd=0∧sb (i.l.add i.r).fst.p.code=sb i.l.p.code∧(i.l.add i.r).fst.p.tick=i.l.p.tick∧(i.l.add i.r).fst.p.low=i.l.p.low∧(i.l.add i.r).fst.p.high=i.l.p.high∧(i.l.add i.r).fst.p.wide=i.l.p.wide∧(i.l.add i.r).fst.p.rule=i.l.p.rule∧(i.l.add i.r).fst.p.top=i.l.p.top∧(i.l.add i.r).fst.p.least=i.l.p.least∧(i.l.add i.r).fst.p.part=i.l.p.part∧zY (i.l.add i.r).fst.left=jQ (Value.int IntKind.i64 i.r.id) [dI i.r.left] (zY i.l.left)∧mF i)))))))))))))
def rX (a:RpI):Prop:=Sx.AObj.cells [V.d (D.v (Value.string (sb a.p.code))),V.own 0,V.d (dI a.p.tick),V.d (dI a.p.low),V.d (dI a.p.high),V.d (dI a.p.wide),V.d (dI a.p.rule),V.d (dI a.p.top),V.d (dI a.p.least),V.d (dI a.p.part),V.own ((0:Nat)+(1:Nat))] 29=Sx.AObj.cells [V.d (D.v (Value.string (sb a.p.code))),V.own 0,V.d (dI a.p.tick),V.d (dI a.p.low),V.d (dI a.p.high),V.d (dI a.p.wide),V.d (dI a.p.rule),V.d (dI a.p.top),V.d (dI a.p.least),V.d (dI a.p.part),V.own ((0:Nat)+(1:Nat))] 29∧AObj.fro 1 (iE a.p.settle)=AObj.fro 1 (iE a.p.settle)∧AObj.fro 1 (iE a.p.months)=AObj.fro 1 (iE a.p.months)
def cP (a:LgR):Prop:=(a.l.traded.length≤1000000∧a.l.net.length=a.l.traded.length)∧a.l.p.code.length≤1099511627776∧a.l.p.months.length≤1099511627776∧a.l.p.settle.length≤1099511627776
def xW (a:RpI) (b:Nat):=((y5 a.p).addAll (List.take b a.l))
def zXf (i:RpI):Prop:=
 ∃(a:Prd),sb a.code=sb i.p.code∧iE a.months=iE i.p.months∧a.tick=i.p.tick∧a.low=i.p.low∧a.high=i.p.high∧a.wide=i.p.wide∧a.rule=i.p.rule∧a.top=i.p.top∧a.least=i.p.least∧a.part=i.p.part∧iE a.settle=iE i.p.settle∧(zS a)∧(∀(b:Unit),a.check=0→∃(c:Nat),(↑c:Int)=0∧xO (xW i c).fst=xO (y5 a)∧∃(d:Nat→Prop),∃(e:Nat→Nat),d c∧∀(f:Nat),d f→cnd (decide ((↑f:Int)<(↑(List.map yE i.l).length:Int))) ((0≤(↑f:Int)∧(↑f:Int)<(↑(List.map yE i.l).length:Int))∧∃(g:Int),∃(h:Int),∃(j:Int),∃(k:Int),∃(l:Int),∃(m:Int),∃(n:Int),∃(p:Int),zF (List.map yE i.l) (↑f:Int).toNat 0 8=some [dI g,dI h,dI j,dI k,dI l,dI m,dI n,dI p]∧∃(q:LgR),q.r.kind=g∧q.r.id=h∧q.r.inst=j∧q.r.side=k∧q.r.price=l∧q.r.qty=m∧q.r.left=n∧q.r.why=p∧xO q.l=xO (xW i f).fst∧(cP q)∧∀(r:Unit),True→cnd ((q.l.add q.r).snd !=0) (∃(s:Unit),yS i.p i.l=(q.l.add q.r).snd∧True) (∃(s:Nat),(↑s:Int)=IntKind.i64.wrap ((↑f:Int)+1)∧xO (xW i s).fst=xO (q.l.add q.r).fst∧d s∧e s<e f∧rX i)) (∃(g:Nat),(↑g:Int)=0∧∃(h:Nat→Prop),∃(j:Nat→Nat),h g∧∀(k:Nat),h k→cnd (decide ((↑k:Int)<(↑(iE i.p.months).length:Int))) (∃(l:LgN),l.n=(↑k:Int)∧xO l.l=xO (xW i f).fst∧(l.l.traded.length≤1000000∧l.l.net.length=l.l.traded.length)∧∀(m:Unit),True→cnd (l.l.at l.l.net l.n !=0) (∃(n:Unit),yS i.p i.l=21∧True) (∃(n:Nat),(↑n:Int)=IntKind.i64.wrap ((↑k:Int)+1)∧h n∧j n<j k∧xO l.l=xO (xW i f).fst∧rX i)) (∃(l:Unit),yS i.p i.l=0∧True)))∧∀(b:Unit),a.check≠0→cnd (a.check !=0) (∃(c:Unit),yS i.p i.l=a.check∧True) (∃(c:Nat),False)
def uH (a:Book):Prop:=(a.a.slots.length≤1000000∧a.a.queues.length≤1000000)∧a.buys.length≤1000000∧a.sells.length≤1000000∧a.spare.length≤1000000
def v9 (a:RpI):Prop:=(a.p.code.length≤1099511627776∧a.p.months.length≤1099511627776∧a.p.settle.length≤1099511627776)∧a.l.length≤1099511627776
def zVj (u:Unit):Prop:=
 ∃(a:Int),a=1∧True∧∀(b:Unit),True→∃(c:Prd),sb c.code=sb [(67:UInt8),(76:UInt8)]∧iE c.months=iE [(320:Int),(321:Int),(323:Int)]∧c.tick=5∧c.low=0∧c.high=1000∧c.wide=200∧c.rule=a∧c.top=4∧c.least=2∧c.part=40∧iE c.settle=iE [(500:Int),(505:Int),(490:Int)]∧(zS c)∧(∀(d:Unit),c.check=0→∃(e:RpI),sb e.p.code=sb [(67:UInt8),(76:UInt8)]∧iE e.p.months=iE [(320:Int),(321:Int),(323:Int)]∧e.p.tick=5∧e.p.low=0∧e.p.high=1000∧e.p.wide=200∧e.p.rule=a∧e.p.top=4∧e.p.least=2∧e.p.part=40∧iE e.p.settle=iE [(500:Int),(505:Int),(490:Int)]∧List.map yE e.l=[[dI 3,dI 1,dI 0,dI 1,dI 0,dI 1,dI 0,dI 0]]∧(v9 e)∧∀(f:Unit),True→∃(g:RpI),sb g.p.code=sb [(67:UInt8),(76:UInt8)]∧iE g.p.months=iE [(320:Int),(321:Int),(323:Int)]∧g.p.tick=5∧g.p.low=0∧g.p.high=1000∧g.p.wide=200∧g.p.rule=a∧g.p.top=4∧g.p.least=2∧g.p.part=40∧iE g.p.settle=iE [(500:Int),(505:Int),(490:Int)]∧List.map yE g.l=[]∧(v9 g)∧∀(h:Unit),True→cnd (yS g.p g.l==0) (cnd (yS e.p e.l==26) (∃(j:Mkt),fQ j=fQ (Mkt.mk c (h8 c) [])∧(j.s.books.length≤1000000∧∀(k:Book),k∈j.s.books→uH k)∧∀(k:Unit),True→(sb [(67:UInt8),(76:UInt8)]=sb [(67:UInt8),(76:UInt8)]∧True∧(5:Int)=(5:Int)∧(0:Int)=(0:Int)∧(1000:Int)=(1000:Int)∧(200:Int)=(200:Int)∧a=a∧(4:Int)=(4:Int)∧(2:Int)=(2:Int)∧(40:Int)=(40:Int)∧True∧True)∧((∃(l:BkI),sb l.p.code=sb [(67:UInt8),(76:UInt8)]∧iE l.p.months=iE [(320:Int),(321:Int),(323:Int)]∧l.p.tick=5∧l.p.low=0∧l.p.high=1000∧l.p.wide=200∧l.p.rule=a∧l.p.top=4∧l.p.least=2∧l.p.part=40∧iE l.p.settle=iE [(500:Int),(505:Int),(490:Int)]∧zE l.s=zE j.s∧((l.p.code.length≤1099511627776∧l.p.months.length≤1099511627776∧l.p.settle.length≤1099511627776)∧(l.s.books.length≤1000000∧∀(m:Book),m∈l.s.books→∀(n:fB),n∈m.a.queues→qO n)∧l.s.tops.length≤1000000∧∀(m:Top),m∈l.s.tops→wO m)∧∀(m:Unit),True→cnd (jG l.p l.s.tops==0) ((∃(n:BkI),sb n.p.code=sb [(67:UInt8),(76:UInt8)]∧iE n.p.months=iE [(320:Int),(321:Int),(323:Int)]∧n.p.tick=5∧n.p.low=0∧n.p.high=1000∧n.p.wide=200∧n.p.rule=a∧n.p.top=4∧n.p.least=2∧n.p.part=40∧iE n.p.settle=iE [(500:Int),(505:Int),(490:Int)]∧False)∨∃(i_6:Prd),sb i_6.code=sb [(67:UInt8),(76:UInt8)]∧iE i_6.months=iE [(320:Int),(321:Int),(323:Int)]∧i_6.tick=5∧i_6.low=0∧i_6.high=1000∧i_6.wide=200∧i_6.rule=a∧i_6.top=4∧i_6.least=2∧i_6.part=40∧iE i_6.settle=iE [(500:Int),(505:Int),(490:Int)]∧True∧(i_6.code.length≤1099511627776∧i_6.months.length≤1099511627776∧i_6.settle.length≤1099511627776)∧∀(m:Unit),True→∃(m:Unit),true=((1:Int)==(1:Int))∧True) (∃(n:Unit),true=false∧True))∨∃(i_5:Prd),sb i_5.code=sb [(67:UInt8),(76:UInt8)]∧iE i_5.months=iE [(320:Int),(321:Int),(323:Int)]∧i_5.tick=5∧i_5.low=0∧i_5.high=1000∧i_5.wide=200∧i_5.rule=a∧i_5.top=4∧i_5.least=2∧i_5.part=40∧iE i_5.settle=iE [(500:Int),(505:Int),(490:Int)]∧False)) (∃(j:Unit),true=false∧True)) (∃(j:Unit),true=false∧True))∧∀(d:Unit),c.check≠0→∃(e:Unit),true=false∧True
open Go Cv Go.Proofs
theorem kJ (l:List (Int×Int)) (k:Int):∀(p:Value×List D),p∈zY l→like (Value.int IntKind.i64 k) p.1=true:=fun p hp=>yAg l k p hp
theorem zLo (k v:Int):∀l,jQ (Value.int IntKind.i64 k) [D.v (.int .i64 v)] (zY l)=zY (g8 k v l)
 |[]=>rfl
 |(a,b)::l=>by
  have ih:=zLo k v l
  show(bif (keq .i64 .i64 && decide (k=a))then _ else _::jQ _ _ (zY l))=_
  rw[ih,g8]
  by_cases h:k=a
  ·subst h;simp[keq,zY]
  ·simp[h,zY]
theorem zMx (k:Int):∀l,aX (Value.int IntKind.i64 k) (zY l)=zY (zFl k l)
 |[]=>rfl
 |(a,b)::l=>by
  have ih:=zMx k l
  show(bif (keq .i64 .i64 && decide (k=a))then zY l else _::aX _ (zY l))=_
  rw[ih,zFl]
  by_cases h:k=a
  ·subst h;simp[keq]
  ·simp[h,zY]
theorem lR (l:List (Int×Int)) (k:Int):wI (Value.int IntKind.i64 k) (zY l)=some [D.v (.int .i64 ((kP l k).getD 0))]∧(kP l k).isSome=true∨wI (Value.int IntKind.i64 k) (zY l)=none∧[D.v (.int .i64 ((kP l k).getD 0))]=[D.v (.int .i64 0)]∧(kP l k).isSome=false:=by
 rw[m7]
 cases kP l k with
 |none=>exact .inr ⟨rfl,rfl,rfl⟩
 |some v=>exact .inl ⟨rfl,rfl⟩
theorem zQk (k v n:Int):∀l,g8 k v (g8 k n l)=g8 k v l
 |[]=>by simp[g8]
 |(a,b)::l=>by
  have ih:=zQk k v n l
  by_cases h:k=a
  ·subst h;simp[g8]
  ·simp[g8,h,ih]
theorem zXo (x:Int):∀(l:List Int) (n:Nat),z9 (iE l) n 0 [D.v (.int .i64 x)]=iE (l.set n x)
 |[],n=>by cases n<;>rfl
 |a::l,0=>rfl
 |a::l,n+1=>by
  have ih:=zXo x l n
  simp only[z9,iE,ySn,yWd,yVw]at ih ⊢
  rw[ih]
theorem tY {l:List Int} {n:Int} (h:0≤n∧n<(l.length:Int)):zF (iE l) n.toNat 0 1=some [D.v (.int .i64 (l.getD n.toNat 0))]:=by
 obtain⟨v,hv⟩:=z6 (l:=l) (i:=n.toNat) (by omega)
 rw[ySi,hv]
 exact elI hv
theorem zLp (a b:Int):(a==b)=decide (a=b):=by
 by_cases h:a=b
 ·subst h;simp
 ·simp[h]
theorem zBq (a b:Int):(a !=b)=decide (a≠b):=by
 by_cases h:a=b
 ·subst h;simp
 ·simp[h]
theorem yPr (i:LgR) (h:laddC.cnd i):yHt i:=by
 obtain⟨⟨h1,h2⟩,hs⟩:i.l.fit:=h
 have lk:=kJ i.l.left i.r.id
 have lk2:=kJ i.l.inst i.r.id
 have lk3:=kJ (g8 i.r.id i.r.left i.l.left) i.r.id
 have lk4:=kJ (g8 i.r.id 0 i.l.left) i.r.id
 unfold yHt zMv bW bJ b6 cB v7 zJi uZ mN aZ tH uK mS sY eQ mF zEi tE zEz eO eJ eN qR dI
 simp only[yW,zLo,zMx,zXo]
 refine⟨true,fun b=>b=i.r.badK,Cv.cnd.mk (fun c=>⟨true,rfl,?_,by(repeat'(first|exact trivial|exact rfl|apply And.intro))⟩) (fun c=>⟨_,rfl,?_,by(repeat'(first|exact trivial|exact rfl|apply And.intro))⟩),fun b hb=> ?_⟩
 ·simp only[Rep.badK,c,Bool.true_or]
 ·simp only[Rep.badK,c,yVn]
 subst hb
 refine Cv.cnd.mk (fun hb=> ?_) (fun hb=> ?_)
 ·have ha:i.l.add i.r=(i.l,31):=by simp only[Ledger.add,hb,if_true]
  simp only[ha];exact kp
 refine Cv.cnd.mk (fun k2=> ?_) (fun k2=> ?_)
 ·have k2:i.r.kind=2:=by simpa using k2
  have ha:i.l.add i.r=(i.l,0):=by simp only[Ledger.add,hb,k2,if_true,ySu,if_false]
  simp only[ha];exact kp
 have k2:¬i.r.kind=2:=by simpa using k2
 refine⟨true,fun b=>b= !i.l.isB i.r.inst,Cv.cnd.mk (fun c=>⟨_,rfl,?_,by(repeat'(first|exact trivial|exact rfl|apply And.intro))⟩) (fun c=>⟨_,rfl,?_,by(repeat'(first|exact trivial|exact rfl|apply And.intro))⟩),fun b hb=> ?_⟩
 ·have c:0≤i.r.inst:=by simpa using c
  simp only[Ledger.isB,ySw c,yTm]
 ·have c:¬0≤i.r.inst:=by simpa using c
  simp only[Ledger.isB,ySp c,yTz]
 subst hb
 refine Cv.cnd.mk (fun hi=> ?_) (fun hi=> ?_)
 ·have hi:i.l.isB i.r.inst=false:=by simpa using hi
  have ha:i.l.add i.r=(i.l,20):=by simp only[Ledger.add,hb,k2,hi,if_true,ySu,if_false]
  simp only[ha];exact kp
 have hi:i.l.isB i.r.inst=true:=by simpa using hi
 have hin:0≤i.r.inst∧i.r.inst<(i.l.traded.length:Int):=by simpa[Ledger.isB]using hi
 have hin2:0≤i.r.inst∧i.r.inst<(i.l.net.length:Int):=by rw[h2];exact hin
 refine Cv.cnd.mk (fun k1=> ?_) (fun k1=> ?_)
 ·have k1:i.r.kind=1:=by simpa using k1
  have e0:i.l.add i.r=i.l.acc i.r:=by simp only[Ledger.add,hb,k1,hi,if_true,ySu,if_false,reduceCtorEq,show ¬(1:Int)=2 by decide,show ¬(true=false)by decide]
  refine⟨lk,(kP i.l.left i.r.id).isSome,(kP i.l.left i.r.id).getD 0,lR _ _,Cv.cnd.mk (fun c=> ?_) (fun c=> ?_)⟩
  ·have ha:i.l.add i.r=(i.l,25):=by rw[e0,Ledger.acc,ySf c]
   simp only[ha];exact kp
  ·refine Cv.cnd.mk (fun d=> ?_) (fun d=> ?_)
   ·have d:i.r.qty<1:=by simpa using d
    have ha:i.l.add i.r=(i.l,24):=by rw[e0,Ledger.acc,ySe (by rw[c];decide),ySf (.inl d)]
    simp only[ha];exact kp
   have d:¬i.r.qty<1:=by simpa using d
   refine Cv.cnd.mk (fun e=> ?_) (fun e=> ?_)
   ·have e:i.r.qty≠i.r.left:=by simpa using e
    have ha:i.l.add i.r=(i.l,24):=by rw[e0,Ledger.acc,ySe (by rw[c];decide),ySf (.inr e)]
    simp only[ha];exact kp
   have e:i.r.qty=i.r.left:=by simpa using e
   have ha:i.l.add i.r=({i.l with left:=g8 i.r.id i.r.left i.l.left,inst:=g8 i.r.id i.r.inst i.l.inst},0):=by rw[e0,Ledger.acc,ySe (by rw[c];decide),ySe (by rintro(h|h);exact d h;exact h e)]
   refine⟨lk,(kP i.l.left i.r.id).isSome,(kP i.l.left i.r.id).getD 0,lR _ _,fun x=>⟨trivial,trivial,trivial,trivial,kJ _ _,trivial,trivial,lk2,(kP i.l.inst i.r.id).isSome,(kP i.l.inst i.r.id).getD 0,lR _ _,fun y=>⟨trivial,trivial,kJ _ _,?_⟩⟩⟩
   simp only[ha,zQk];exact kp
 have k1:¬i.r.kind=1:=by simpa using k1
 refine⟨true,fun b=>b=i.l.isLeg i.r,Cv.cnd.mk (fun k3=> ?_) (fun k3=>⟨_,rfl,?_,by(repeat'(first|exact trivial|exact rfl|apply And.intro))⟩),fun b hl=> ?_⟩
 ·have k3:i.r.kind=3:=by simpa using k3
  refine⟨lk2,(kP i.l.inst i.r.id).isSome,(kP i.l.inst i.r.id).getD 0,lR _ _,⟨i.l.p,i.l.own i.r.id⟩,rfl,rfl,rfl,rfl,rfl,rfl,rfl,rfl,rfl,rfl,rfl,rfl,hs,fun _ _=> ?_⟩
  refine Cv.cnd.mk (fun c=>Cv.cnd.mk (fun d=>Cv.cnd.mk (fun e=>⟨_,rfl,?_,by(repeat'(first|exact trivial|exact rfl|apply And.intro))⟩) (fun e=>⟨_,rfl,?_,by(repeat'(first|exact trivial|exact rfl|apply And.intro))⟩)) (fun d=>⟨_,rfl,?_,by(repeat'(first|exact trivial|exact rfl|apply And.intro))⟩)) (fun c=>⟨_,rfl,?_,by(repeat'(first|exact trivial|exact rfl|apply And.intro))⟩)
  ·have e:i.r.inst=(i.l.p.legs (i.l.own i.r.id)).1:=by simpa using e
   have d:(i.l.p.legs (i.l.own i.r.id)).2.2=true:=d
   simp only[Ledger.isLeg,k3,Ledger.legB,c,d,ySw e,decide_true,yTm,Bool.true_or]
  ·have e:¬i.r.inst=(i.l.p.legs (i.l.own i.r.id)).1:=by simpa using e
   have d:(i.l.p.legs (i.l.own i.r.id)).2.2=true:=d
   simp only[Ledger.isLeg,k3,Ledger.legB,c,d,ySp e,decide_true,yTm,yVn]
   exact zLp _ _
  ·have d:(i.l.p.legs (i.l.own i.r.id)).2.2=false:=d
   simp only[Ledger.isLeg,k3,Ledger.legB,c,d,decide_true,yTm,yTz]
  ·simp only[Ledger.isLeg,k3,Ledger.legB,c,decide_true,yTm,yTz]
 ·have k3:¬i.r.kind=3:=by simpa using k3
  simp only[Ledger.isLeg,ySp k3,yTz]
 subst hl
 refine Cv.cnd.mk (fun hl=> ?_) (fun hl=> ?_)
 ·refine Cv.cnd.mk (fun c=> ?_) (fun c=> ?_)
  ·have c:i.r.qty<1:=by simpa using c
   have ha:i.l.add i.r=(i.l,24):=by simp only[Ledger.add,hb,k2,hi,k1,hl,c,if_true,ySu,if_false,Bool.true_eq_false]
   simp only[ha];exact kp
  have c:¬i.r.qty<1:=by simpa using c
  have ha:i.l.add i.r=(i.l.trade i.r,0):=by simp only[Ledger.add,hb,k2,hi,k1,hl,c,if_true,ySu,if_false,Bool.true_eq_false]
  refine⟨hin,_,tY hin,hin,by omega,Cv.cnd.mk (fun s1=>⟨hin2,_,tY hin2,hin2,by omega,?_⟩) (fun s1=>Cv.cnd.mk (fun s2=>⟨hin2,_,tY hin2,hin2,by omega,?_⟩) (fun s2=> ?_))⟩
  ·have s1:i.r.side=1:=by simpa using s1
   simp only[ha,Ledger.trade,vC,s1,if_true];exact kp
  ·have s1:¬i.r.side=1:=by simpa using s1
   have s2:i.r.side=2:=by simpa using s2
   simp only[ha,Ledger.trade,vC,rZ,s2,if_true,show ¬(2:Int)=1 by decide,if_false];exact kp
  ·have s1:¬i.r.side=1:=by simpa using s1
   have s2:¬i.r.side=2:=by simpa using s2
   simp only[ha,Ledger.trade,vC,s1,s2,if_false];exact kp
 refine⟨lk,(kP i.l.left i.r.id).isSome,(kP i.l.left i.r.id).getD 0,lR _ _,Cv.cnd.mk (fun c=> ?_) (fun c=> ?_)⟩
 ·have c:kP i.l.left i.r.id=none:=by simpa using c
  have ha:i.l.add i.r=(i.l,26):=by simp only[Ledger.add,hb,k2,hi,k1,hl,c,if_true,ySu,if_false,Bool.true_eq_false]
  simp only[ha];exact kp
 obtain⟨left,hleft⟩:∃n,kP i.l.left i.r.id=some n:=yXg.1 (by simpa using c)
 have hadd:i.l.add i.r=if i.l.e1 i.r=true then(i.l,20)else if i.r.e2 left=true then(i.l,24)else if i.r.e3 left=true then(i.l,24)else if i.r.e4 left=true then(i.l,24)else(i.l.done i.r,0):=by
  simp only[Ledger.add,hb,k2,hi,k1,hl,hleft,ySu,if_false,Bool.true_eq_false]
 simp only[hleft,yUj]
 refine⟨true,fun b=>b=i.l.e1 i.r,Cv.cnd.mk (fun k3=>⟨lk2,(kP i.l.inst i.r.id).isSome,(kP i.l.inst i.r.id).getD 0,lR _ _,_,rfl,?_,by(repeat'(first|exact trivial|exact rfl|apply And.intro))⟩) (fun k3=>⟨_,rfl,?_,by(repeat'(first|exact trivial|exact rfl|apply And.intro))⟩),fun b e1=> ?_⟩
 ·have k3:i.r.kind=3:=by simpa using k3
  simp only[Ledger.e1,k3,decide_true,yTm,Ledger.own]
  exact zBq _ _
 ·have k3:¬i.r.kind=3:=by simpa using k3
  simp only[Ledger.e1,ySp k3,yTz]
 subst e1
 refine Cv.cnd.mk (fun e1=> ?_) (fun e1=> ?_)
 ·have ha:i.l.add i.r=(i.l,20):=by rw[hadd,ySf e1]
  simp only[ha];exact kp
 have e1:¬i.l.e1 i.r=true:=by simpa using e1
 refine⟨true,fun b=>b=i.r.e2 left,Cv.cnd.mk (fun k3=>Cv.cnd.mk (fun c=>⟨_,rfl,?_,by(repeat'(first|exact trivial|exact rfl|apply And.intro))⟩) (fun c=>Cv.cnd.mk (fun d=>⟨_,rfl,?_,by(repeat'(first|exact trivial|exact rfl|apply And.intro))⟩) (fun d=>⟨_,rfl,?_,by(repeat'(first|exact trivial|exact rfl|apply And.intro))⟩))) (fun k3=>⟨_,rfl,?_,by(repeat'(first|exact trivial|exact rfl|apply And.intro))⟩),fun b e2=> ?_⟩
 ·have k3:i.r.kind=3:=by simpa using k3
  simp only[Rep.e2,k3,c,decide_true,yTm,Bool.true_or]
 ·have k3:i.r.kind=3:=by simpa using k3
  simp only[Rep.e2,k3,c,d,decide_true,yTm,Bool.true_or,yVn]
 ·have k3:i.r.kind=3:=by simpa using k3
  simp only[Rep.e2,k3,c,d,decide_true,yTm,yVn]
  exact zBq _ _
 ·have k3:¬i.r.kind=3:=by simpa using k3
  simp only[Rep.e2,ySp k3,yTz]
 subst e2
 refine Cv.cnd.mk (fun e2=> ?_) (fun e2=> ?_)
 ·have ha:i.l.add i.r=(i.l,24):=by rw[hadd,ySe e1,ySf e2]
  simp only[ha];exact kp
 have e2:¬i.r.e2 left=true:=by simpa using e2
 refine⟨true,fun b=>b=i.r.e3 left,Cv.cnd.mk (fun k3=>⟨_,rfl,?_,by(repeat'(first|exact trivial|exact rfl|apply And.intro))⟩) (fun k3=>⟨_,rfl,?_,by(repeat'(first|exact trivial|exact rfl|apply And.intro))⟩),fun b e3=> ?_⟩
 ·have k3:i.r.kind=4:=by simpa using k3
  simp only[Rep.e3,k3,decide_true,yTm]
  exact zBq _ _
 ·have k3:¬i.r.kind=4:=by simpa using k3
  simp only[Rep.e3,ySp k3,yTz]
 subst e3
 refine Cv.cnd.mk (fun e3=> ?_) (fun e3=> ?_)
 ·have ha:i.l.add i.r=(i.l,24):=by rw[hadd,ySe e1,ySe e2,ySf e3]
  simp only[ha];exact kp
 have e3:¬i.r.e3 left=true:=by simpa using e3
 refine⟨true,fun b=>b=i.r.e4 left,Cv.cnd.mk (fun k3=>Cv.cnd.mk (fun c=>⟨_,rfl,?_,by(repeat'(first|exact trivial|exact rfl|apply And.intro))⟩) (fun c=>Cv.cnd.mk (fun d=>⟨_,rfl,?_,by(repeat'(first|exact trivial|exact rfl|apply And.intro))⟩) (fun d=>⟨_,rfl,?_,by(repeat'(first|exact trivial|exact rfl|apply And.intro))⟩))) (fun k3=>⟨_,rfl,?_,by(repeat'(first|exact trivial|exact rfl|apply And.intro))⟩),fun b e4=> ?_⟩
 ·have k3:i.r.kind=5:=by simpa using k3
  simp only[Rep.e4,k3,c,decide_true,yTm,Bool.true_or]
 ·have k3:i.r.kind=5:=by simpa using k3
  simp only[Rep.e4,k3,c,d,decide_true,yTm,Bool.true_or,yVn]
 ·have k3:i.r.kind=5:=by simpa using k3
  simp only[Rep.e4,k3,c,d,decide_true,yTm,yVn]
  exact zBq _ _
 ·have k3:¬i.r.kind=5:=by simpa using k3
  simp only[Rep.e4,ySp k3,yTz]
 subst e4
 refine Cv.cnd.mk (fun e4=> ?_) (fun e4=> ?_)
 ·have ha:i.l.add i.r=(i.l,24):=by rw[hadd,ySe e1,ySe e2,ySe e3,ySf e4]
  simp only[ha];exact kp
 have e4:¬i.r.e4 left=true:=by simpa using e4
 have ha:i.l.add i.r=(i.l.done i.r,0):=by rw[hadd,ySe e1,ySe e2,ySe e3,ySe e4]
 clear hadd
 refine Cv.cnd.mk (fun k3=> ?_) (fun k3=> ?_)
 ·have k3:i.r.kind=3:=by simpa using k3
  have hd:i.l.done i.r=(i.l.trade i.r).close i.r.id i.r.left:=by rw[Ledger.done,ySf k3]
  rw[hd]at ha
  refine⟨hin,_,tY hin,hin,by omega,Cv.cnd.mk (fun s1=>⟨hin2,_,tY hin2,hin2,by omega,lk,Cv.cnd.mk (fun c=>⟨lk3,?_⟩) (fun c=> ?_)⟩) (fun s1=>Cv.cnd.mk (fun s2=>⟨hin2,_,tY hin2,hin2,by omega,lk,Cv.cnd.mk (fun c=>⟨lk3,?_⟩) (fun c=> ?_)⟩) (fun s2=>⟨lk,Cv.cnd.mk (fun c=>⟨lk3,?_⟩) (fun c=> ?_)⟩))⟩
  all_goals first|have s1:i.r.side=1:=(by simpa using s1)|have s1:¬i.r.side=1:=(by simpa using s1)
  all_goals first|have c:i.r.left=0:=(by simpa using c)|have c:¬i.r.left=0:=(by simpa using c)
  all_goals first|have s2:i.r.side=2:=(by simpa using s2)|have s2:¬i.r.side=2:=(by simpa using s2)|skip
  all_goals(simp only[ha,Ledger.close,Ledger.trade,vC,rZ,s1,c,if_true,if_false];(try simp only[s2,if_true,if_false]);(repeat'(first|exact rfl|exact trivial|assumption|apply And.intro|refine fun(_:Unit) (_:True)=>?_|refine Exists.intro () ?_|omega|(dsimp only;omega))))
 have k3:¬i.r.kind=3:=by simpa using k3
 refine Cv.cnd.mk (fun k4=> ?_) (fun k4=> ?_)
 ·have k4:i.r.kind=4:=by simpa using k4
  have hd:i.l.done i.r=i.l.close i.r.id 0:=by rw[Ledger.done,ySe k3,ySf k4]
  rw[hd]at ha
  simp only[ha,Ledger.close,if_true];exact kp
 have k4:¬i.r.kind=4:=by simpa using k4
 have hd:i.l.done i.r=i.l.close i.r.id i.r.left:=by rw[Ledger.done,ySe k3,ySe k4]
 rw[hd]at ha
 refine⟨lk,Cv.cnd.mk (fun c=>⟨lk3,?_⟩) (fun c=> ?_)⟩
 ·have c:i.r.left=0:=by simpa using c
  simp only[ha,Ledger.close,c,if_true];exact kp
 ·have c:¬i.r.left=0:=by simpa using c
  simp only[ha,Ledger.close,c,if_false];exact kp
theorem z2x:laddC.ok Tryz.prog 34:=okw mixed (gokc pW gok0) 1 (fun _=>yPi) (fun _=>[]) [0] Tryz.func34 yPr
open Go Cv Go.Proofs
theorem zFs (l:List Int) (n:Nat) (x:Int):(vC l n x).length=l.length:=by simp[vC]
theorem z6g (l:List Int) (n:Nat) (x:Int):(rZ l n x).length=l.length:=by simp[rZ]
theorem Ledger.trade_fit {l:Ledger} (h:l.fit) (r:Rep):(l.trade r).fit:=by
 obtain⟨⟨h1,h2⟩,h3⟩:=h
 refine⟨⟨by rw[Ledger.trade];dsimp only;rw[zFs];exact h1,?_⟩,h3⟩
 rw[Ledger.trade];dsimp only
 rw[zFs]
 split
 ·rw[zFs];exact h2
 ·split
  ·rw[z6g];exact h2
  ·exact h2
theorem Ledger.add_fit {l:Ledger} (h:l.fit) (r:Rep):(l.add r).1.fit:=by
 have ht:=Ledger.trade_fit h r
 unfold Ledger.add Ledger.acc
 repeat' split
 all_goals first|exact h|exact ht|skip
 all_goals(unfold Ledger.done Ledger.close;repeat' split)
 all_goals first|exact h|exact ht
theorem bF:∀{xs:List Rep} {l:Ledger},l.fit→(l.addAll xs).1.fit
 |[],l,h=>h
 |r::xs,l,h=>by
  rw[Ledger.addAll]
  split
  ·exact Ledger.add_fit h r
  ·exact bF (Ledger.add_fit h r)
theorem gI:∀(a b:List Rep) (l:Ledger),l.addAll (a++b)=if(l.addAll a).2≠0 then l.addAll a else(l.addAll a).1.addAll b
 |[],b,l=>by simp[Ledger.addAll]
 |r::a,b,l=>by
  rw[yTt,Ledger.addAll,Ledger.addAll]
  by_cases h:(l.add r).2=0
  ·simp only[h,ne_eq,not_true_eq_false,if_false]
   exact gI a b _
  ·rw[ySf h,ySf h,ySf h]
theorem zMa (r:Rep) (l:Ledger):l.addAll [r]=l.add r:=by
 rw[Ledger.addAll]
 split
 ·rfl
 ·rename_i h
  have h:(l.add r).2=0:=by simpa using h
  rw[Ledger.addAll,← h]
theorem cH {xs:List Rep} {j:Nat} {r:Rep} (hr:xs[j]? =some r) {l:Ledger} (h:(l.addAll (xs.take j)).2=0):l.addAll (xs.take (j+1))=(l.addAll (xs.take j)).1.add r:=by
 rw[yUf,hr,yWv,gI,ySe (by simp[h]),zMa]
theorem zHc {xs:List Rep} {j:Nat} {r:Rep} (hr:xs[j]? =some r) {l:Ledger} (h:(l.addAll (xs.take j)).2=0) (he:((l.addAll (xs.take j)).1.add r).2≠0):l.addAll xs=(l.addAll (xs.take j)).1.add r:=by
 have e:=cH hr h
 have e2:=gI (xs.take (j+1)) (xs.drop (j+1)) l
 rw[yUm]at e2
 rw[e2,ySf (by rw[e];exact he),e]
theorem zGm {p:Prd} (h:p.small):(y5 p).fit:=by
 have:=xV p
 exact⟨⟨by simp only[y5,yUn];omega,by simp only[y5,yUn]⟩,h⟩
theorem yKl {l:List Rep} {k:Nat} {r:Rep} (h:l[k]? =some r):zF (l.map yE) k 0 8=some [D.v (.int .i64 r.kind),.v (.int .i64 r.id),.v (.int .i64 r.inst),.v (.int .i64 r.side),.v (.int .i64 r.price),.v (.int .i64 r.qty),.v (.int .i64 r.left),.v (.int .i64 r.why)]:=elA h (by simp[yE]) rfl
theorem z9c (i:RpI) (h:reportsC.cnd i):zXf i:=by
 obtain⟨hs,hlen⟩:i.p.small∧i.l.length≤1099511627776:=h
 have hs':=hs
 obtain⟨h1,h2,h3⟩:=hs'
 unfold zXf rX xW cP zS dI
 simp only[yW,ySh]
 refine⟨i.p,?_⟩
 (repeat'(first|exact rfl|exact trivial|assumption|apply And.intro|refine fun(_:Unit) (_:True)=>?_|refine Exists.intro () ?_|omega|(dsimp only;omega)))
 ·intro _ c
  have c:i.p.check=0:=c
  generalize hL:y5 i.p=L
  have hf:L.fit:=hL▸zGm hs
  have e0:yS i.p i.l=if(L.addAll i.l).2≠0 then(L.addAll i.l).2 else if(List.range i.p.months.length).any (fun n=>decide ((L.addAll i.l).1.at (L.addAll i.l).1.net n≠0))then 21 else 0:=by
   rw[yS,ySe (by simp[c]),hL]
  refine⟨0,rfl,by rw[yXs];rfl,fun j=>j≤i.l.length∧(L.addAll (i.l.take j)).2=0,fun j=>i.l.length-j,⟨by omega,rfl⟩,?_⟩
  rintro j ⟨g1,g2⟩
  refine zK (fun hlt=> ?_) (fun hlt=> ?_)
  ·obtain⟨r,hr⟩:=z6 (l:=i.l) (i:=j) (by omega)
   refine⟨⟨by omega,by omega⟩,r.kind,r.id,r.inst,r.side,r.price,r.qty,r.left,r.why,yKl hr,⟨(L.addAll (i.l.take j)).1,r⟩,rfl,rfl,rfl,rfl,rfl,rfl,rfl,rfl,rfl,bF hf,fun _ _=> ?_⟩
   dsimp only
   refine Cv.cnd.mk (fun e=>⟨(),?_,trivial⟩) (fun e=>⟨j+1,?_,?_,⟨by omega,?_⟩,by omega,by(repeat'(first|exact trivial|exact rfl|apply And.intro))⟩)
   ·have e:((L.addAll (i.l.take j)).1.add r).2≠0:=by simpa using e
    rw[e0,zHc hr g2 e,ySf e]
   ·rw[w64 (by omega)];rfl
   ·rw[cH hr g2]
   ·rw[cH hr g2];simpa using e
  ·have ej:i.l.take j=i.l:=ySz (by omega)
   rw[ej]at g2 ⊢
   have hfit:=bF hf (xs:=i.l)
   generalize L.addAll i.l=X at*
   have e1:yS i.p i.l=if(List.range i.p.months.length).any (fun n=>decide (X.1.at X.1.net n≠0))then 21 else 0:=by
    rw[e0,ySe (by simp[g2])]
   refine⟨0,rfl,fun k=>k≤i.p.months.length∧∀m<k,X.1.at X.1.net m=0,fun k=>i.p.months.length-k,⟨by omega,fun m hm=>by omega⟩,?_⟩
   rintro k ⟨g3,g4⟩
   refine zK (fun hlt=>⟨⟨X.1,k⟩,rfl,rfl,hfit.1,fun _ _=> ?_⟩) (fun hlt=>⟨(),?_,trivial⟩)
   ·dsimp only
    refine Cv.cnd.mk (fun e=>⟨(),?_,trivial⟩) (fun e=>⟨k+1,?_,⟨by omega,fun m hm=> ?_⟩,by omega,rfl,by(repeat'(first|exact trivial|exact rfl|apply And.intro))⟩)
    ·rw[e1,ySf (zCj (k:=k) (by omega) (by simpa using e))]
    ·rw[w64 (by omega)];rfl
    ·rcases yUr m k with h|h
     ·exact g4 m h
     ·obtain rfl:m=k:=by omega
      simpa using e
   ·rw[e1,ySe (by
     rw[Bool.not_eq_true]
     exact mV fun m hm=>by simpa using g4 m (by omega))]
 ·intro _ c
  refine Cv.cnd.mk (fun e=>⟨(),?_,trivial⟩) (fun e=>absurd (by simpa using e) c)
  rw[yS,ySf c]
theorem zYk:reportsC.ok Tryz.prog 31:=okw mixed (gokc z3q (gokc z2x (gokc z1j gok0))) 0 (fun _=>[]) (fun i=>zWv i) [] Tryz.func31 z9c
theorem zXk:(uX 1).check=0:=by decide+kernel
theorem dW (n:Int):(uX n).small:=⟨by simp[uX],by simp[uX],by simp[uX]⟩
theorem yBt (u:Unit) (h:known25C.cnd u):zVj u:=by
 unfold zVj qO v9 uH zS wO dI
 refine⟨1,rfl,trivial,fun _ _=>⟨uX 1,rfl,rfl,rfl,rfl,rfl,rfl,rfl,rfl,rfl,rfl,rfl,dW 1,fun _ _=> ?_,fun _ c=>absurd zXk c⟩⟩
 refine⟨⟨uX 1,[⟨3,1,0,1,0,1,0,0⟩]⟩,rfl,rfl,rfl,rfl,rfl,rfl,rfl,rfl,rfl,rfl,rfl,rfl,⟨dW 1,by simp⟩,fun _ _=> ?_⟩
 refine⟨⟨uX 1,[]⟩,rfl,rfl,rfl,rfl,rfl,rfl,rfl,rfl,rfl,rfl,rfl,rfl,⟨dW 1,by simp⟩,fun _ _=> ?_⟩
 have r1:yS (uX 1) []=0:=by decide+kernel
 have r2:yS (uX 1) [⟨3,1,0,1,0,1,0,0⟩]=26:=by decide+kernel
 dsimp only
 rw[r1,r2]
 have hst:(h8 (uX 1)).small:=⟨by decide+kernel,by decide+kernel⟩
 have hcnt:(h8 (uX 1)).cntOk:=⟨by decide+kernel,by decide+kernel⟩
 have htop:j0 (h8 (uX 1)).tops:=⟨by decide+kernel,by decide+kernel⟩
 have r3:jG (uX 1) (h8 (uX 1)).tops=0:=by decide+kernel
 refine Cv.cnd.mk (fun _=>Cv.cnd.mk (fun _=>⟨⟨uX 1,h8 (uX 1),[]⟩,rfl,hst,fun _ _=>⟨by(repeat'(first|exact trivial|exact rfl|apply And.intro)),?_⟩⟩) (fun e=>absurd e (by decide))) (fun e=>absurd e (by decide))
 refine .inl ⟨⟨uX 1,h8 (uX 1)⟩,rfl,rfl,rfl,rfl,rfl,rfl,rfl,rfl,rfl,rfl,rfl,rfl,⟨dW 1,hcnt,htop⟩,fun _ _=> ?_⟩
 dsimp only
 rw[r3]
 refine Cv.cnd.mk (fun _=> .inr ⟨uX 1,rfl,rfl,rfl,rfl,rfl,rfl,rfl,rfl,rfl,rfl,rfl,trivial,dW 1,fun _ _=>⟨(),rfl,trivial⟩⟩) (fun e=>absurd e (by decide))
theorem known25_ok:known25C.ok Tryz.prog 32:=okw mixed (gokc yBg (gokc newM_ok (gokc zYk (gokc yDe (gokc z9g (gokc zUs gok0)))))) 0 (fun _=>[]) (fun _=>[]) [] Tryz.func32 yBt
theorem xK {n lo hi:Int} (h:lo≤hi):lo≤zH n lo hi∧zH n lo hi≤hi:=by
 rw[zH]
 have h1:=yYi n (show hi-lo+1≠0 by omega)
 have h2:=yYj n (show 0<hi-lo+1 by omega)
 omega
end Sx
