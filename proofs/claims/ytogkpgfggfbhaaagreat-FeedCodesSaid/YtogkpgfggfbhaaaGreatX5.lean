/- Texts of ours, one behind the other: a walk that the kernel reckons, and contracts of functions. No condition. -/
import Derived.Laws.AppendOwn
import Derived.Lib.AppendZerosOnto
import Derived.Lib.Overlaps
import Derived.Test.YtogkpgfggfbhaaaGreatX4
namespace Sx
set_option linter.unusedVariables false
set_option linter.unusedSimpArgs false
set_option maxRecDepth 100000
open Go Cv Go.Proofs
theorem zTn {l:List Quote} {q:Quote} (s:Int) (h:l[0]? =some q):(zT (l.take (max 0 1)) s).1=q:=by
 cases l with
 |nil=>simp at h
 |cons a l=>simp at h;subst h;rfl
theorem zVc {l:List Quote} {j:Nat} {q:Quote} (s:Int) (h:l[j]? =some q):
 (zT (l.take (max (j+1) 1)) s).1=if btr s q.price (zT (l.take (max j 1)) s).1.price then q else(zT (l.take (max j 1)) s).1:=by
 cases l with
 |nil=>simp at h
 |cons a l=>
  cases j with
  |zero=>simp at h;subst h;simp[zT]
  |succ m=>
   simp only[yQj]at h
   rw[show max (m+1+1) 1=(m+1)+1 by omega,show max (m+1) 1=m+1 by omega,yQa,yQa,yQb,h]
   simp only[zT,yRy,yUo]
   rfl
theorem zZo {l:List Quote} (s:Int) (h:l≠[]):(zT l s).2=true:=by
 cases l with
 |nil=>exact absurd rfl h
 |cons a l=>rfl
theorem yHl (i:BsI) (h:bestQC.cnd i):z5f i:=by
 obtain⟨hs,hl⟩:(i.s=1∨i.s=2)∧i.l.length≤1000000:=h
 unfold z5f zIn zZ tV jX sN dI
 simp only[yOs]
 refine Cv.cnd.mk (fun c=> ?_) (fun c=> ?_)
 ·have e:i.l=[]:=yPo (by have:(i.l.length:Int)=0:=(by simpa using c);omega)
  rw[e];exact kp
 have h0:0<i.l.length:=by
  rcases Nat.eq_zero_or_pos i.l.length with h|h
  ·rw[h]at c;exact absurd c (by decide)
  ·exact h
 have hne:i.l≠[]:=by intro e;rw[e]at h0;simp at h0
 have two:=zZo i.s hne
 obtain⟨q,hq⟩:=z8 h0
 have b0:=zTn i.s hq
 have fin:(zT (i.l.take (max i.l.length 1)) i.s).1=(zT i.l i.s).1:=by
  rw[yPf (by omega)]
 have step:∀j:Nat,j<i.l.length→∀x:Quote,i.l[j]? =some x→(btr i.s x.price (zT (i.l.take (max j 1)) i.s).1.price=true→(zT (i.l.take (max (j+1) 1)) i.s).1=x)∧(btr i.s x.price (zT (i.l.take (max j 1)) i.s).1.price=false→(zT (i.l.take (max (j+1) 1)) i.s).1=(zT (i.l.take (max j 1)) i.s).1):=fun j hj x hx=>by
  have:=zVc i.s hx
  constructor
  ·intro e;rw[this,yOu e]
  ·intro e;rw[this,yOr (by rw[e];simp)]
 refine Cv.cnd.mk (fun c1=>Cv.cnd.mk (fun c2=> ?_) (fun c2=> ?_)) (fun c1=> ?_)
 ·exfalso
  have c1:i.s≠1:=by simpa using c1
  have c2:i.s≠2:=by simpa using c2
  omega
 all_goals
  refine⟨⟨by omega,by omega⟩,q.price,q.qty,q.a.inst,q.a.side,q.b.inst,q.b.side,elA hq (by simp[zH]) rfl,0,?_⟩
  rw[b0]
  (repeat'(first|exact rfl|exact trivial|assumption|apply And.intro|refine fun(_:Unit) (_:True)=>?_|refine Exists.intro () ?_|omega|(dsimp only;omega)))
  refine⟨fun j=>j≤i.l.length,fun j=>i.l.length-j,by omega,fun j hj=>zI (fun hlt=> ?_) (fun hlt=> ?_)⟩
  ·have hj':j<i.l.length:=by omega
   obtain⟨x,hx⟩:=z8 hj'
   obtain⟨st,sf⟩:=step j hj' x hx
   refine⟨⟨by omega,by omega⟩,x.price,x.qty,x.a.inst,x.a.side,x.b.inst,x.b.side,elA hx (by simp[zH]) rfl,⟨i.s,x.price,_⟩,rfl,rfl,rfl,trivial,fun _ _=>Cv.cnd.mk (fun e=>⟨j+1,by rw[w64 (by omega)];rfl,?_⟩) (fun e=>⟨j+1,by rw[w64 (by omega)];rfl,?_⟩)⟩
   ·rw[st e];exact kp
   ·rw[sf e];exact kp
  ·have hj:j≤i.l.length:=hj
   obtain rfl:j=i.l.length:=by omega
   rw[fin,two];exact kp
theorem zRt:bestQC.ok Tryz.prog 166:=okw mixed (gokc zUj gok0) 0 (fun _=>[]) (fun i=>yIz i) [] Tryz.func166 yHl
theorem eO (tops:List Top) (a b:Leg) (less:Bool):(mkq tops a b less).length≤1:=by
 unfold mkq
 dsimp only
 split<;>split<;>simp
theorem zMv {α:Type} {f:Nat→List α} (h:∀k,(f k).length≤1):∀n,((List.range n).flatMap f).length≤n
 |0=>by simp
 |n+1=>by
  rw[yUl,yQl,yOw]
  have:=zMv h n
  have:=h n
  simp only[yQh,yTk,yPp]
  omega
theorem tH (i:hY) (s:Int) (k:Nat):(qG i s k).length≤k:=zMv (fun _=>eO _ _ _ _) k
theorem aI (i:hY) (s:Int) (k:Nat):(kN i s k).length≤k:=zMv (fun _=>eO _ _ _ _) k
theorem eJ (i:hY) (s:Int):(x5 i s).length≤100:=by
 unfold x5
 split
 ·simp
 ·rename_i h
  have hc:=xR i.p
  have m6:=(wX (nQ (p:=i.p) (by omega))).m6
  split
  ·rw[yOs]
   have:=eO i.tops ⟨(i.p.legs i.inst).2.1,3-s⟩ ⟨(i.p.legs i.inst).1,s⟩ true
   have e:(yI i s).length≤1:=this
   omega
  ·rw[yOw]
   have h1:=tH i s (i.p.months.length-(i.inst.toNat+1))
   have h2:=aI i s i.inst.toNat
   omega
theorem z8r (j:nK) (h:quotesC.cnd j):zXt j:=by
 unfold zXt qZ vT sO uA qU xH dI
 obtain⟨hp,ht,hr⟩:j.i.p.small∧jN j.i.tops:=h
 obtain⟨h1,h2,h3⟩:=hp
 have hl:=eJ j.i (zC j.s)
 refine⟨j,?_⟩
 simp only[yOs]
 (repeat'(first|exact rfl|exact trivial|assumption|apply And.intro|refine fun(_:Unit) (_:True)=>?_|refine Exists.intro () ?_|omega|(dsimp only;omega)))
 refine⟨0,rfl,rfl,fun k=>k≤(x5 j.i (zC j.s)).length,fun k=>(x5 j.i (zC j.s)).length-k,by omega,fun k hk=>zI (fun hlt=> ?_) (fun hlt=> ?_)⟩
 ·have hk':k<(x5 j.i (zC j.s)).length:=by omega
  obtain⟨q,hq⟩:=z8 hk'
  have hf:(List.filter (fun q=>decide (j.i.p.price j.i.inst q.price=0)) (List.take k (x5 j.i (zC j.s)))).length≤100:=by
   have:=ySd (fun q:Quote=>decide (j.i.p.price j.i.inst q.price=0)) (List.take k (x5 j.i (zC j.s)))
   rw[yPl]at this
   omega
  refine⟨⟨by omega,by omega⟩,q.price,q.qty,q.a.inst,q.a.side,q.b.inst,q.b.side,elA hq (by simp[zH]) rfl,⟨j.i.p,j.i.inst,q.price⟩,?_⟩
  (repeat'(first|exact rfl|exact trivial|assumption|apply And.intro|refine fun(_:Unit) (_:True)=>?_|refine Exists.intro () ?_|omega|(dsimp only;omega)))
  refine Cv.cnd.mk (fun c=>⟨by omega,k+1,by rw[w64 (by omega)];rfl,?_⟩) (fun c=>⟨k+1,by rw[w64 (by omega)];rfl,?_⟩)
  ·have c:j.i.p.price j.i.inst q.price=0:=by simpa using c
   rw[yQb,hq,yRy,ySj,yTe (by simpa using c),yPc]
   exact kp
  ·have c:¬j.i.p.price j.i.inst q.price=0:=by simpa using c
   rw[yQb,hq,yRy,ySj,yTf (by simpa using c),List.filter_nil,yPp]
   exact kp
 ·have hk:k≤(x5 j.i (zC j.s)).length:=hk
  obtain rfl:k=(x5 j.i (zC j.s)).length:=by omega
  rw[yPf (yPy _)]
  exact kp
open Go Cv Go.Proofs
theorem zZs:∀n≤6,∀a<n,∀b<n,a<b→0≤(yY n a:Int)+b-a-1∧(yY n a:Int)+b-a-1<((n+n*(n-1) / 2:Nat):Int):=by decide
theorem fU {p:Prd} (hc:p.check=0) {a b:Nat} (hab:a<b) (hb:b<p.months.length):0≤(p.spread a b).1∧(p.spread a b).1<p.count:=by
 have m6:=(wX hc).m6
 have:=zZs p.months.length m6 a (by omega) b hb hab
 rw[Prd.spread,yOr (by omega),Prd.count,yOu hc]
 simpa using this
theorem yAs:∀n≤6,∀k<n+n*(n-1) / 2,n≤k→(qT n k n 0).2.2=true∧0≤(qT n k n 0).1∧(qT n k n 0).1<n∧0≤(qT n k n 0).2.1∧(qT n k n 0).2.1<n:=by decide
theorem gO {p:Prd} (hc:p.check=0) {k:Nat} (hk:k<p.count):((p.legs k).2.2=true∧0≤(p.legs k).1∧(p.legs k).1<p.months.length∧0≤(p.legs k).2.1∧(p.legs k).2.1<p.months.length)∨((p.legs k).2.2=false∧k<p.months.length):=by
 have m6:=(wX hc).m6
 have hk':=hk
 rw[Prd.count,yOu hc]at hk'
 by_cases h:k<p.months.length
 ·right
  rw[Prd.legs,yOr (by omega),yOu (by omega)]
  exact⟨rfl,h⟩
 ·left
  rw[Prd.legs,yOr (by omega),yOr (by omega)]
  exact yAs p.months.length m6 k hk' (by omega)
theorem zFs {p:Prd} (hc:p.check=0):p.months.length≤p.count:=by
 rw[Prd.count,yOu hc];omega
theorem zRr {i:hY} {s:Int} {k:Nat} (hk:k<(yI i s).length):List.map zH (List.map (gX i s) (List.take (k+1) (yI i s))++List.drop (k+1) (yI i s))=
 yA (List.map zH (List.map (gX i s) (List.take k (yI i s))++List.drop k (yI i s))) k (0+2) [D.v (.int .i64 (i.p.legs i.inst).1),D.v (.int .i64 s),D.v (.int .i64 (i.p.legs i.inst).2.1),D.v (.int .i64 (3-s))]:=by
 obtain⟨q,hq⟩:=z8 hk
 rw[zJs (a:=List.map zH (List.map (gX i s) (List.take k (yI i s)))) (b:=List.map zH (List.drop (k+1) (yI i s))) (x:=zH q) (y:=zH (gX i s q)) (by
  rw[yPc,yRh hk,(yOt.1 hq).2,yPd]) (by simp;omega) rfl]
 rw[yQb,hq,yRy,yPc,yPc,yPc,yPd,ySc,yPd,ySc,yPb]
 rfl
theorem yMs (i:hY) (h:all1C.cnd i):yDx i:=by
 unfold yDx yC gT vT lQ lT bJ jI bH rO cP jK xH pZ wL dI
 obtain⟨⟨h1,h2,h3⟩,ht,hr⟩:i.p.small∧jN i.tops:=h
 have hto:jN i.tops:=⟨ht,hr⟩
 refine⟨i.p,?_⟩
 simp only[yOs,y6]
 (repeat'(first|exact rfl|exact trivial|assumption|apply And.intro|refine fun(_:Unit) (_:True)=>?_|refine Exists.intro () ?_|omega|(dsimp only;omega)))
 have bad (hb:i.p.count=0∨(i.tops.length:Int)≠i.p.count∨i.inst<0∨(i.p.count:Int)≤i.inst):∃(o:Unit),List.map zH (x5 i 1)=[]∧True:=⟨(),by rw[x5,yOu hb];rfl,trivial⟩
 refine Cv.cnd.mk (fun c1=>bad (.inl (by have c1:(i.p.count:Int)=0:=(by simpa using c1);omega))) fun c1=>Cv.cnd.mk (fun c2=>bad (.inr (.inl (by simpa using c2)))) fun c2=>zI (fun c3=>bad (by omega)) fun c3=>zI (fun c4=>bad (by omega)) fun c4=>⟨⟨i.p,i.inst⟩,?_⟩
 have c1:i.p.count≠0:=by
  have c1:¬(i.p.count:Int)=0:=(by simpa using c1)
  omega
 have c2:(i.tops.length:Int)=i.p.count:=by simpa using c2
 have c4:i.inst<(i.p.count:Int):=by
  have c4:¬i.inst≥(i.p.count:Int):=c4
  omega
 have hc:=nQ c1
 have hm:=zFs hc
 have e0:x5 i 1=if(i.p.legs i.inst).2.2 then(yI i 1).map (gX i 1)else qG i 1 (i.p.months.length-(i.inst.toNat+1))++kN i 1 i.inst.toNat:=by
  rw[x5,yOr (by omega)]
 obtain⟨k,hk⟩:∃k:Nat,i.inst=k:=⟨i.inst.toNat,by omega⟩
 have hl:=gO hc (k:=k) (by omega)
 rw[← hk]at hl
 (repeat'(first|exact rfl|exact trivial|assumption|apply And.intro|refine fun(_:Unit) (_:True)=>?_|refine Exists.intro () ?_|omega|(dsimp only;omega)))
 refine Cv.cnd.mk (fun c5=> ?_) (fun c5=> ?_)
 ·have c5:(i.p.legs i.inst).2.2=true:=c5
  rw[e0,yOu c5]
  rcases hl with⟨_,l1,l2,l3,l4⟩|⟨l1,_⟩
  ·have hsl:(yI i 1).length≤1:=eO _ _ _ _
   refine⟨1,rfl,by omega,fun _ _=>⟨⟨⟨i.tops,[],(i.p.legs i.inst).2.1,(i.p.legs i.inst).1,true⟩,true,false⟩,rfl,rfl,rfl,rfl,rfl,rfl,rfl,⟨l3,by dsimp only;omega,l1,by dsimp only;omega,hto,by simp⟩,fun _ _=>⟨0,rfl,rfl,rfl,fun j=>j≤(yI i 1).length,fun j=>(yI i 1).length-j,by omega,?_⟩⟩⟩
   intro j hj
   have hj:j≤(yI i 1).length:=hj
   have hL:(List.map (gX i 1) (List.take j (yI i 1))++List.drop j (yI i 1)).length=(yI i 1).length:=by simp;omega
   refine zI (fun hlt=> ?_) (fun hlt=> ?_)
   ·have hlt:(j:Int)<((yI i 1).length:Int):=hlt
    refine⟨⟨by omega,by rw[hL];omega⟩,by rw[hL];omega,j+1,by rw[w64 (by omega)];rfl,kp,?_,?_⟩
    ·exact zRr (i:=i) (s:=1) (by omega)
    ·exact kp
   ·have hlt:¬(j:Int)<((yI i 1).length:Int):=hlt
    obtain rfl:j=(yI i 1).length:=by omega
    rw[yPf (yPy _),List.drop_length,yPp]
    exact kp
  ·rw[c5]at l1;cases l1
 ·have c5:(i.p.legs i.inst).2.2=false:=c5
  rw[e0,yOr (by rw[c5];simp)]
  rcases hl with⟨l1,_⟩|⟨_,l2⟩
  ·rw[c5]at l1;cases l1
  have m6:=(wX hc).m6
  have e1:i.inst.toNat=k:=by omega
  rw[e1]
  refine⟨0,by rw[w64 (by omega)];omega,kp,rfl,fun j=>j≤i.p.months.length-(k+1),fun j=>i.p.months.length-(k+1)-j,by omega,?_⟩
  intro j hj
  have hj:j≤i.p.months.length-(k+1):=hj
  have hq:=tH i 1 j
  refine zI (fun hlt=> ?_) (fun hlt=> ?_)
  ·obtain⟨b1,b2⟩:=fU hc (a:=k) (b:=k+1+j) (by omega) (by omega)
   have eb:((k+1+j:Nat):Int)=i.inst+1+j:=by omega
   rw[eb,← hk]at b1 b2
   refine⟨⟨i.p,i.inst,i.inst+1+j⟩,?_⟩
   (repeat'(first|exact rfl|exact trivial|assumption|apply And.intro|refine fun(_:Unit) (_:True)=>?_|refine Exists.intro () ?_|omega|(dsimp only;omega)))
   refine⟨⟨⟨i.tops,qG i 1 j,(i.p.spread i.inst (i.inst+1+j)).1,i.inst+1+j,false⟩,false,false⟩,rfl,rfl,rfl,rfl,rfl,kp,rfl,⟨b1,by dsimp only;omega,by dsimp only;omega,by dsimp only;omega,hto,by dsimp only;omega⟩,fun _ _=>⟨j+1,by rw[w64 (by omega)];omega,kp,?_,?_⟩⟩
   ·rw[qG,yUl,yQl]
    simp only[yQh,yTk,yPp]
    rfl
   ·exact kp
  ·obtain rfl:j=i.p.months.length-(k+1):=by omega
   refine⟨0,rfl,kp,by rw[kN];simp,fun j=>j≤k,fun j=>k-j,by omega,?_⟩
   intro j hj
   have hj:j≤k:=hj
   have hq2:=aI i 1 j
   refine zI (fun hlt2=> ?_) (fun hlt2=> ?_)
   ·obtain⟨b1,b2⟩:=fU hc (a:=j) (b:=k) (by omega) (by omega)
    rw[← hk]at b1 b2
    refine⟨⟨i.p,j,i.inst⟩,?_⟩
    (repeat'(first|exact rfl|exact trivial|assumption|apply And.intro|refine fun(_:Unit) (_:True)=>?_|refine Exists.intro () ?_|omega|(dsimp only;omega)))
    refine⟨1,rfl,by omega,fun _ _=>⟨⟨⟨i.tops,qG i 1 (i.p.months.length-(k+1))++kN i 1 j,(i.p.spread j i.inst).1,j,true⟩,true,false⟩,rfl,rfl,rfl,rfl,rfl,kp,rfl,⟨b1,by dsimp only;omega,by dsimp only;omega,by dsimp only;omega,hto,by dsimp only;rw[yOw];omega⟩,fun _ _=>⟨j+1,by rw[w64 (by omega)];omega,kp,?_,?_⟩⟩⟩
    ·rw[kN,yUl,yQl]
     simp only[yQh,yTk,yPp,yPb]
     rfl
    ·exact kp
   ·obtain rfl:j=k:=by omega
    exact kp
theorem yBa:all1C.ok Tryz.prog 152:=okw mixed (gokc fH (gokc pI (gokc zJk (gokc zLm (gokc zPq gok0))))) 0 (fun _=>[]) (fun i=>yLq i 1) [] Tryz.func152 yMs
theorem yKo (i:hY) (h:all2C.cnd i):yEn i:=by
 unfold yEn yC c8 rG cN gT vT lQ lT bJ jI jK xH pZ wL dI
 obtain⟨⟨h1,h2,h3⟩,ht,hr⟩:i.p.small∧jN i.tops:=h
 have hto:jN i.tops:=⟨ht,hr⟩
 refine⟨i.p,?_⟩
 simp only[yOs,y6]
 (repeat'(first|exact rfl|exact trivial|assumption|apply And.intro|refine fun(_:Unit) (_:True)=>?_|refine Exists.intro () ?_|omega|(dsimp only;omega)))
 have bad (hb:i.p.count=0∨(i.tops.length:Int)≠i.p.count∨i.inst<0∨(i.p.count:Int)≤i.inst):∃(o:Unit),List.map zH (x5 i 2)=[]∧True:=⟨(),by rw[x5,yOu hb];rfl,trivial⟩
 refine Cv.cnd.mk (fun c1=>bad (.inl (by have c1:(i.p.count:Int)=0:=(by simpa using c1);omega))) fun c1=>Cv.cnd.mk (fun c2=>bad (.inr (.inl (by simpa using c2)))) fun c2=>zI (fun c3=>bad (by omega)) fun c3=>zI (fun c4=>bad (by omega)) fun c4=>⟨⟨i.p,i.inst⟩,?_⟩
 have c1:i.p.count≠0:=by
  have c1:¬(i.p.count:Int)=0:=(by simpa using c1)
  omega
 have c2:(i.tops.length:Int)=i.p.count:=by simpa using c2
 have c4:i.inst<(i.p.count:Int):=by
  have c4:¬i.inst≥(i.p.count:Int):=c4
  omega
 have hc:=nQ c1
 have hm:=zFs hc
 have e0:x5 i 2=if(i.p.legs i.inst).2.2 then(yI i 2).map (gX i 2)else qG i 2 (i.p.months.length-(i.inst.toNat+1))++kN i 2 i.inst.toNat:=by
  rw[x5,yOr (by omega)]
 obtain⟨k,hk⟩:∃k:Nat,i.inst=k:=⟨i.inst.toNat,by omega⟩
 have hl:=gO hc (k:=k) (by omega)
 rw[← hk]at hl
 (repeat'(first|exact rfl|exact trivial|assumption|apply And.intro|refine fun(_:Unit) (_:True)=>?_|refine Exists.intro () ?_|omega|(dsimp only;omega)))
 refine Cv.cnd.mk (fun c5=> ?_) (fun c5=> ?_)
 ·have c5:(i.p.legs i.inst).2.2=true:=c5
  rw[e0,yOu c5]
  rcases hl with⟨_,l1,l2,l3,l4⟩|⟨l1,_⟩
  ·have hsl:(yI i 2).length≤1:=eO _ _ _ _
   refine⟨2,rfl,by omega,fun _ _=>⟨⟨⟨i.tops,[],(i.p.legs i.inst).2.1,(i.p.legs i.inst).1,true⟩,false,true⟩,rfl,rfl,rfl,rfl,rfl,rfl,rfl,⟨l3,by dsimp only;omega,l1,by dsimp only;omega,hto,by simp⟩,fun _ _=>⟨0,rfl,rfl,rfl,fun j=>j≤(yI i 2).length,fun j=>(yI i 2).length-j,by omega,?_⟩⟩⟩
   intro j hj
   have hj:j≤(yI i 2).length:=hj
   have hL:(List.map (gX i 2) (List.take j (yI i 2))++List.drop j (yI i 2)).length=(yI i 2).length:=by simp;omega
   refine zI (fun hlt=> ?_) (fun hlt=> ?_)
   ·have hlt:(j:Int)<((yI i 2).length:Int):=hlt
    refine⟨⟨by omega,by rw[hL];omega⟩,by rw[hL];omega,j+1,by rw[w64 (by omega)];rfl,kp,?_,?_⟩
    ·exact zRr (i:=i) (s:=2) (by omega)
    ·exact kp
   ·have hlt:¬(j:Int)<((yI i 2).length:Int):=hlt
    obtain rfl:j=(yI i 2).length:=by omega
    rw[yPf (yPy _),List.drop_length,yPp]
    exact kp
  ·rw[c5]at l1;cases l1
 ·have c5:(i.p.legs i.inst).2.2=false:=c5
  rw[e0,yOr (by rw[c5];simp)]
  rcases hl with⟨l1,_⟩|⟨_,l2⟩
  ·rw[c5]at l1;cases l1
  have m6:=(wX hc).m6
  have e1:i.inst.toNat=k:=by omega
  rw[e1]
  refine⟨0,by rw[w64 (by omega)];omega,kp,rfl,fun j=>j≤i.p.months.length-(k+1),fun j=>i.p.months.length-(k+1)-j,by omega,?_⟩
  intro j hj
  have hj:j≤i.p.months.length-(k+1):=hj
  have hq:=tH i 2 j
  refine zI (fun hlt=> ?_) (fun hlt=> ?_)
  ·obtain⟨b1,b2⟩:=fU hc (a:=k) (b:=k+1+j) (by omega) (by omega)
   have eb:((k+1+j:Nat):Int)=i.inst+1+j:=by omega
   rw[eb,← hk]at b1 b2
   refine⟨⟨i.p,i.inst,i.inst+1+j⟩,?_⟩
   (repeat'(first|exact rfl|exact trivial|assumption|apply And.intro|refine fun(_:Unit) (_:True)=>?_|refine Exists.intro () ?_|omega|(dsimp only;omega)))
   refine⟨⟨⟨i.tops,qG i 2 j,(i.p.spread i.inst (i.inst+1+j)).1,i.inst+1+j,false⟩,true,true⟩,rfl,rfl,rfl,rfl,rfl,kp,rfl,⟨b1,by dsimp only;omega,by dsimp only;omega,by dsimp only;omega,hto,by dsimp only;omega⟩,fun _ _=>⟨j+1,by rw[w64 (by omega)];omega,kp,?_,?_⟩⟩
   ·rw[qG,yUl,yQl]
    simp only[yQh,yTk,yPp]
    rfl
   ·exact kp
  ·obtain rfl:j=i.p.months.length-(k+1):=by omega
   refine⟨0,rfl,kp,by rw[kN];simp,fun j=>j≤k,fun j=>k-j,by omega,?_⟩
   intro j hj
   have hj:j≤k:=hj
   have hq2:=aI i 2 j
   refine zI (fun hlt2=> ?_) (fun hlt2=> ?_)
   ·obtain⟨b1,b2⟩:=fU hc (a:=j) (b:=k) (by omega) (by omega)
    rw[← hk]at b1 b2
    refine⟨⟨i.p,j,i.inst⟩,?_⟩
    (repeat'(first|exact rfl|exact trivial|assumption|apply And.intro|refine fun(_:Unit) (_:True)=>?_|refine Exists.intro () ?_|omega|(dsimp only;omega)))
    refine⟨2,rfl,by omega,fun _ _=>⟨⟨⟨i.tops,qG i 2 (i.p.months.length-(k+1))++kN i 2 j,(i.p.spread j i.inst).1,j,true⟩,false,true⟩,rfl,rfl,rfl,rfl,rfl,kp,rfl,⟨b1,by dsimp only;omega,by dsimp only;omega,by dsimp only;omega,hto,by dsimp only;rw[yOw];omega⟩,fun _ _=>⟨j+1,by rw[w64 (by omega)];omega,kp,?_,?_⟩⟩⟩
    ·rw[kN,yUl,yQl]
     simp only[yQh,yTk,yPp,yPb]
     rfl
    ·exact kp
   ·obtain rfl:j=k:=by omega
    exact kp
theorem z9y:all2C.ok Tryz.prog 152:=okw mixed (gokc fH (gokc pI (gokc zJk (gokc zLm (gokc zPq gok0))))) 0 (fun _=>[]) (fun i=>yLq i 2) [] Tryz.func152 yKo
theorem z2y:allC.ok Tryz.prog 152:=fun j=>match j with
 |⟨i,false⟩=>yBa i
 |⟨i,true⟩=>z9y i
theorem zJu:quotesC.ok Tryz.prog 119:=okw mixed (gokc z2y (gokc nU gok0)) 0 (fun _=>[]) (fun j=>z8s j) [] Tryz.func119 z8r
open Go Cv Go.Proofs
open Go Cv Go.Proofs
open Go Cv Go.Proofs
theorem zQj (i:hY) (s:Int):(xK i s).length≤100:=yRw (ySd _ _) (eJ i s)
open Go Cv Go.Proofs
structure Mkt where
 p:Prd
 s:MSt
 used:List Int
def zY (l:List Int):List (Value×List D):=l.map fun x=>(.int .i64 x,[.v (.bool true)])
def yR (m:Mkt):Nat→AObj
 |0=> .cells [sV m.p.code,.own 3,zA m.p.tick,zA m.p.low,zA m.p.high,zA m.p.wide,zA m.p.rule,zA m.p.top,zA m.p.least,zA m.p.part,.own 4,.nm 1 0,.mp 2] 121
 |1=>zD m.s
 |2=> .map (zY m.used)
 |3=> .fro 1 (iE m.p.months)
 |4=> .fro 1 (iE m.p.settle)
 |_=> .gone
def nA (m:Mkt):AObj:= .adt Mkt 5 yR m
def newMC:Con where
 ι:=Prd
 pat:=fun p=>[tA p]
 pre:=fun _=>[]
 cnd:=fun p=>p.small
 alts:=fun p=>[{o:=Unit,res:=fun _=> .tup [.nm 0 0,zA 0],post:=fun _=>[nA ⟨p,mH p,[]⟩],rel:=fun _=>p.check=0},{o:=Unit,res:=fun _=> .tup [.d (.v (.pointer none)),zA p.check],post:=fun _=>[],rel:=fun _=>p.check≠0}]
def stateC:Con:=con1 Mkt (fun _=>[.nm 0 0]) (fun m=>[nA m]) (fun m=>m.s.small) (fun _=> .nm 1 0) (fun m=>[nA m,zD m.s])
open Go Cv Go.Proofs
def zIg (a:Prd) (b:Prd) (c:Unit):Prop:=True∧(0+(iE a.settle).length)*(8:Nat)≤(140737488355328:Nat)∧((∃(d:Unit),(0:Int)=(0:Int)∧sb a.code=sb a.code∧a.tick=a.tick∧a.low=a.low∧a.high=a.high∧a.wide=a.wide∧a.rule=a.rule∧a.top=a.top∧a.least=a.least∧a.part=a.part∧zD (mH a)=zD (mH b)∧zY []=[]∧iE a.months=[]++iE a.months∧iE a.settle=[]++iE a.settle∧a.check=0)∨∃(c:Unit),False)
def zIb (a:Prd) (b:Prd) (c:Unit):Prop:=True∧True∧(0+(iE a.months).length)*(8:Nat)≤(140737488355328:Nat)∧zIg a b c
def zAm (a:Prd) (b:Unit):Prop:=True∧(0+(iE a.settle).length)*(8:Nat)≤(140737488355328:Nat)∧((∃(c:Unit),(0:Int)=(0:Int)∧sb a.code=sb a.code∧a.tick=a.tick∧a.low=a.low∧a.high=a.high∧a.wide=a.wide∧a.rule=a.rule∧a.top=a.top∧a.least=a.least∧a.part=a.part∧False)∨∃(b:Unit),False)
def zEp (a:Prd) (b:Unit):Prop:=True∧True∧(0+(iE a.months).length)*(8:Nat)≤(140737488355328:Nat)∧zAm a b
def yEi (p:Prd):Prop:=
 ∃(a:Prd),sb a.code=sb p.code∧iE a.months=iE p.months∧a.tick=p.tick∧a.low=p.low∧a.high=p.high∧a.wide=p.wide∧a.rule=p.rule∧a.top=p.top∧a.least=p.least∧a.part=p.part∧iE a.settle=iE p.settle∧(yC a)∧(∀(b:Unit),a.check=0→(True∧True∧((0+(iE p.months).length)*(8:Nat)≤(140737488355328:Nat)∧True∧zIg p a b)∧zIb p a b)∧True∧True∧zIb p a b)∧∀(b:Unit),a.check≠0→cnd (a.check !=0) ((∃(c:Unit),False)∨∃(b:Unit),True∧p.check=a.check∧(p.check=0→False)) ((True∧True∧((0+(iE p.months).length)*(8:Nat)≤(140737488355328:Nat)∧True∧zAm p b)∧zEp p b)∧True∧True∧zEp p b)
def yJn (m:Mkt):Prop:=
 ∃(i:MSt),zD i=zD m.s∧(i.books.length≤1000000∧∀(b:Book),b∈i.books→(b.a.slots.length≤1000000∧b.a.queues.length≤1000000)∧b.buys.length≤1000000∧b.sells.length≤1000000∧b.spare.length≤1000000)∧∀(o:Unit),True→∃(o:Unit),sb m.p.code=sb m.p.code∧m.p.tick=m.p.tick∧m.p.low=m.p.low∧m.p.high=m.p.high∧m.p.wide=m.p.wide∧m.p.rule=m.p.rule∧m.p.top=m.p.top∧m.p.least=m.p.least∧m.p.part=m.p.part∧zD m.s=zD i∧zY m.used=zY m.used∧AObj.fro 1 (iE m.p.months)=AObj.fro 1 (iE m.p.months)∧AObj.fro 1 (iE m.p.settle)=AObj.fro 1 (iE m.p.settle)∧zD m.s=zD i∧True
open Go Cv Go.Proofs
theorem z5z:stateC.ok Tryz.prog 64:=okw (V:=yJn) mixed (gokc eI gok0) 0 (fun _=>[]) (fun _=>[]) [0] Tryz.func64 fun(m:Mkt) h=>by
 obtain⟨h1,h2⟩:m.s.small:=h
 refine⟨m.s,rfl,⟨h1,h2⟩,fun _ _=>⟨(),?_⟩⟩
 exact kp
theorem yMt (p:Prd) (h:newMC.cnd p):yEi p:=by
 unfold yEi zEp zIb zIg zAm yC
 obtain⟨h1,h2,h3⟩:p.small:=h
 refine⟨p,?_⟩
 simp only[y6]
 (repeat'(first|exact rfl|exact trivial|assumption|apply And.intro|refine fun(_:Unit) (_:True)=>?_|refine Exists.intro () ?_|omega|(dsimp only;omega)))
 ·intro _ c
  (repeat'(first|exact rfl|exact trivial|assumption|apply And.intro|refine fun(_:Unit) (_:True)=>?_|refine Exists.intro () ?_|omega|(dsimp only;omega)))
  all_goals(refine .inl ⟨(),?_⟩;(repeat'(first|exact rfl|exact trivial|assumption|apply And.intro|refine fun(_:Unit) (_:True)=>?_|refine Exists.intro () ?_|omega|(dsimp only;omega))))
 ·intro _ c
  refine Cv.cnd.mk (fun e=> .inr ⟨(),trivial,kp,c⟩) (fun e=>absurd (by simpa using e) c)
theorem yCq:newMC.ok Tryz.prog 44:=okw mixed (gokc yBp gok0) 0 (fun _=>[]) (fun _=>[]) [] Tryz.func44 yMt
open Go Cv Go.Proofs
structure WiI where
 n:Int
 lo:Int
 hi:Int
def xD (n lo hi:Int):Int:=lo+n % (hi-lo+1)
def withinC:Con:=con1 WiI (fun i=>[zA i.n,zA i.lo,zA i.hi]) (fun _=>[]) (fun i=>i64r i.n∧-1000000≤i.lo∧i.lo≤i.hi∧i.hi≤1000000) (fun i=>zA (xD i.n i.lo i.hi)) (fun _=>[])
def kH (rule:Int):Prd:=⟨[67,76],[320,321,323],5,0,1000,200,rule,4,2,40,[500,505,490]⟩
def threeC:Con:=con1 Int (fun n=>[zA n]) (fun _=>[]) (fun _=>True) (fun n=>tA (kH n)) (fun _=>[])
open Go Cv Go.Proofs
def dZ (a:WiI):=(IntKind.i64.wrap (IntKind.i64.wrap (a.hi-a.lo)+1))
def zWd (i:WiI):Prop:=
 IntKind.i64=IntKind.i64∧IntKind.i64.wrap (IntKind.i64.wrap (i.hi-i.lo)+1)≠0∧cnd (decide (i.n.tmod (dZ i)<0)) (∃(a:Unit),xD i.n i.lo i.hi=IntKind.i64.wrap (i.lo+IntKind.i64.wrap (IntKind.i64.wrap (IntKind.i64.wrap (i.n.tmod (dZ i)+i.hi)-i.lo)+1))∧True) (∃(a:Unit),xD i.n i.lo i.hi=IntKind.i64.wrap (i.lo+i.n.tmod (dZ i))∧True)
def z5k (n:Int):Prop:=
 ∃(a:Unit),sb [(67:UInt8),(76:UInt8)]=ByteArray.mk #[(67:UInt8),(76:UInt8)]∧iE [(320:Int),(321:Int),(323:Int)]=[[dI 320],[dI 321],[dI 323]]∧(5:Int)=(5:Int)∧(0:Int)=(0:Int)∧(1000:Int)=(1000:Int)∧(200:Int)=(200:Int)∧n=n∧(4:Int)=(4:Int)∧(2:Int)=(2:Int)∧(40:Int)=(40:Int)∧iE [(500:Int),(505:Int),(490:Int)]=[[dI 500],[dI 505],[dI 490]]∧True
open Go Cv Go.Proofs
theorem z6h:threeC.ok Tryz.prog 13:=okw (V:=z5k) mixed gok0 0 (fun _=>[]) (fun _=>[]) [] Tryz.func13 fun(n:Int) _=>by
 unfold z5k dI;exact kp
theorem yBb (i:WiI) (h:withinC.cnd i):zWd i:=by
 obtain⟨⟨a1,a2⟩,a3,a4,a5⟩:i64r i.n∧-1000000≤i.lo∧i.lo≤i.hi∧i.hi≤1000000:=h
 unfold zWd dZ
 rw[w64 (x:=i.hi-i.lo) (by omega),w64 (x:=i.hi-i.lo+1) (by omega)]
 obtain⟨d,hd⟩:∃d:Int,i.hi-i.lo+1=d:=⟨_,rfl⟩
 rw[hd]
 have h1:i.n.tmod d=if 0≤i.n then i.n % d else-((-i.n) % d):=by
  split
  ·rename_i h;rw[Int.tmod_eq_emod_of_nonneg h]
  ·rename_i h
   have:i.n= -(-i.n):=by omega
   conv=>lhs;rw[this]
   rw[Int.neg_tmod,Int.tmod_eq_emod_of_nonneg (by omega)]
 have hb1:=Int.emod_nonneg i.n (show d≠0 by omega)
 have hb2:=Int.emod_lt_of_pos i.n (show 0<d by omega)
 have hb3:=Int.emod_nonneg (-i.n) (show d≠0 by omega)
 have hb4:=Int.emod_lt_of_pos (-i.n) (show 0<d by omega)
 have key:i.n.tmod d<0→i.n % d=i.n.tmod d+d:=fun hneg=>by
  have:=Int.emod_eq_of_lt (a:=i.n.tmod d+d) (b:=d) (by rw[h1]at hneg ⊢;split at hneg<;>split<;>omega) (by omega)
  rw[← this,Int.add_emod_right]
  have e:=Int.tmod_add_mul_tdiv i.n d
  conv=>lhs;rw[← e]
  rw[yTt]
 have key2:¬i.n.tmod d<0→i.n % d=i.n.tmod d:=fun hneg=>by
  have hlt:i.n.tmod d<d:=by rw[h1];split<;>omega
  have:=Int.emod_eq_of_lt (a:=i.n.tmod d) (b:=d) (by omega) hlt
  rw[← this]
  have e:=Int.tmod_add_mul_tdiv i.n d
  conv=>lhs;rw[← e]
  rw[yTt]
 refine⟨rfl,by omega,zI (fun c=>⟨(),?_,trivial⟩) (fun c=>⟨(),?_,trivial⟩)⟩
 ·have k:=key c
  rw[xD,hd,k]
  rw[w64 (x:=i.n.tmod d+i.hi) (by omega),w64 (x:=i.n.tmod d+i.hi-i.lo) (by omega),w64 (x:=i.n.tmod d+i.hi-i.lo+1) (by omega),w64 (by omega)]
  omega
 ·have k:=key2 c
  rw[xD,hd,k,w64 (by omega)]
theorem within_ok:withinC.ok Tryz.prog 17:=okw mixed gok0 0 (fun _=>[]) (fun _=>[]) [] Tryz.func17 yBb
open Go Cv Go.Proofs
def tT (l:List (Int×Int)) (k:Int):Option Int:=(l.find? fun x=>decide (x.1=k)).map (·.2)
open Go Cv Go.Proofs
open Go Cv Go.Proofs
theorem z3f (l:List (Int×Int)) (k:Int):∀p∈yM l,like (Value.int IntKind.i64 k) p.1=true:=by
 intro p hp
 obtain⟨x,_,rfl⟩:=yQk.1 hp
 rfl
theorem bG (k:Int):∀l:List (Int×Int),wF (Value.int IntKind.i64 k) (yM l)=(tT l k).map fun v=>[D.v (.int .i64 v)]
 |[]=>rfl
 |(a,v)::l=>by
  have ih:=bG k l
  show(bif (keq .i64 .i64 && decide (k=a))then _ else wF _ (yM l))=_
  by_cases h:k=a
  ·subst h;simp[tT,keq]
  ·have h':¬a=k:=fun e=>h e.symm
   rw[show(keq .i64 .i64 && decide (k=a))=false by simp[h],cond_false,ih]
   simp[tT,List.find?_cons,h']
open Go Cv Go.Proofs
structure Rep where
 kind:Int
 id:Int
 inst:Int
 side:Int
 price:Int
 qty:Int
 left:Int
 why:Int
 deriving DecidableEq
@[reducible] def yNm (r:Rep):V:= .agg [zA r.kind,zA r.id,zA r.inst,zA r.side,zA r.price,zA r.qty,zA r.left,zA r.why]
def xL (r:Rep):List D:=[.v (.int .i64 r.kind),.v (.int .i64 r.id),.v (.int .i64 r.inst),.v (.int .i64 r.side),.v (.int .i64 r.price),.v (.int .i64 r.qty),.v (.int .i64 r.left),.v (.int .i64 r.why)]
def zSl (k v:Int):List (Int×Int)→List (Int×Int)
 |[]=>[(k,v)]
 |(a,b)::l=>if k=a then(a,v)::l else(a,b)::zSl k v l
def zUf (k:Int):List (Int×Int)→List (Int×Int)
 |[]=>[]
 |(a,b)::l=>if k=a then l else(a,b)::zUf k l
def bj (t:Nat):SAnn:={ι:=Bool,slots:=fun b=>[(t,yB b)],rows:=fun _=>[]}
def ij (t:Nat):SAnn:={ι:=Int,slots:=fun n=>[(t,zA n)],rows:=fun _=>[]}
open Go Cv Go.Proofs
open Go Cv Go.Proofs
theorem gB (l:List (Int×Int)) (k:Int):∀(p:Value×List D),p∈yM l→like (Value.int IntKind.i64 k) p.1=true:=fun p hp=>z3f l k p hp
theorem zOq (k v:Int):∀l,uD (Value.int IntKind.i64 k) [D.v (.int .i64 v)] (yM l)=yM (zSl k v l)
 |[]=>rfl
 |(a,b)::l=>by
  have ih:=zOq k v l
  show(bif (keq .i64 .i64 && decide (k=a))then _ else _::uD _ _ (yM l))=_
  rw[ih,zSl]
  by_cases h:k=a
  ·subst h;simp[keq,yM]
  ·simp[h,yM]
theorem zQf (k:Int):∀l,rY (Value.int IntKind.i64 k) (yM l)=yM (zUf k l)
 |[]=>rfl
 |(a,b)::l=>by
  have ih:=zQf k l
  show(bif (keq .i64 .i64 && decide (k=a))then yM l else _::rY _ (yM l))=_
  rw[ih,zUf]
  by_cases h:k=a
  ·subst h;simp[keq]
  ·simp[h,yM]
theorem yIb (l:List (Int×Int)) (k:Int):wF (Value.int IntKind.i64 k) (yM l)=some [D.v (.int .i64 ((tT l k).getD 0))]∧(tT l k).isSome=true∨wF (Value.int IntKind.i64 k) (yM l)=none∧[D.v (.int .i64 ((tT l k).getD 0))]=[D.v (.int .i64 0)]∧(tT l k).isSome=false:=by
 rw[bG]
 cases tT l k with
 |none=>exact .inr ⟨rfl,rfl,rfl⟩
 |some v=>exact .inl ⟨rfl,rfl⟩
theorem zRb (a b:Int):(a==b)=decide (a=b):=by
 by_cases h:a=b
 ·subst h;simp
 ·simp[h]
open Go Cv Go.Proofs
open Go Go.RowKit Cv
theorem pP {P:Program} {dT sT ty e sz by_:Nat} {z:Array Value} (hi:wV P dT=some (e,sz,by_,z)) {w:World} {g o dLen dCap b so sLen sCap n:Nat} {cur src:List Value} {T T':TypeId} {fr:Nat×Nat}
 (hg:w.heap[g]? =some (.cells cur.toArray T (0,0))) (hs:w.heap[b]? =some (.cells src.toArray T' fr)) (hn:Nat.min sLen dLen=n) (h1:so+n*sz≤src.length) (h2:o+n*sz≤cur.length)
 (hone:∀v∈(src.drop so).take (n*sz),v.oneC=true):
 vQ P (Builtin.copy_ #[dT,sT] ty #[.slice (some ⟨g,o,none⟩) dLen dCap,.slice (some ⟨b,so,none⟩) sLen sCap]) w (.int .i64 n) (World.setB w g (.cells (spl cur o ((src.drop so).take (n*sz))).toArray T (0,0))):=by
 obtain⟨i,zv,q1,q2,rfl,rfl,q5,rfl⟩:=qN hi
 have hl:((src.drop so).take (n*i.size)).length=n*i.size:=by rw[yPl,yPq];omega
 have hst:=kK (P:=P) ((src.drop so).take (n*i.size)) 0 o cur w hg (by rw[hl];omega) hone
 simp only[ySo]at hst
 unfold vQ Builtin.copy_
 simp only[yQm,yQs,yQj,bind,pure,run_bind,Sem.bind,Sem.run,Cv.run_underlying q1,Cv.run_sizeOf q2,Builtin.lenOf,hn,Builtin.firstCells,vD hs h1,hst]
 rfl
theorem Hp.apart {k:Ko} {w:World} {b c:Nat} {o o':Obj} {L:List HP} (H:Hp k w (pt b o::pt c o'::L)):b≠c:=by
 obtain⟨hk,hs,hh⟩:=H
 cases hh with
 |cons ha hsub hd hr=>
  cases hr with
  |cons hb hsub2 hd2 hr2=>
   intro e
   subst e
   have:=hd _ yOx b
   rw[show _=one b o from ha,show _=one b o' from hb]at this
   simp[one]at this
def yIo (P:Program) (tS tI sz fO fR:Nat) (s:Option Addr) (sn sk:Nat) (i:Int) (v:Option Addr) (vn vk:Nat) (w:World) (R:Ending→World→Prop):Prop:=
slN s sn sk (some i) none sz fun a1 na1 ka1=>
cnd (((vn:Int):Int)==0) (
R (.returned (.slice s sn sk)) w) (
cnd ((i:Int)==(sn:Int)) (
∃(a2:Option Addr) (na2 ka2:Nat),∃w3:World,vQ P (Builtin.append_ #[tS,tS] tS #[.slice s sn sk,.slice v vn vk]) w (.slice a2 na2 ka2) w3∧
R (.returned (.slice a2 na2 ka2)) w3) (
cnd (decide ((IntKind.i64.wrap ((sn:Int)+(vn:Int)):Int)>(sk:Int))) (
slN s sn sk none (some i) sz fun a4 na4 ka4=>
∃(a5:Option Addr) (na5 ka5:Nat),∃w6:World,vQ P (Builtin.append_ #[tS,tI] tS #[.slice a4 na4 ka4,.int .i64 (IntKind.i64.wrap (IntKind.i64.wrap ((sn:Int)+(vn:Int))-i))]) w (.slice a5 na5 ka5) w6∧
slN a5 na5 ka5 (some i) none sz fun a7 na7 ka7=>
∃x8:Int,∃w9:World,vQ P (Builtin.copy_ #[tS,tS] tI #[.slice a7 na7 ka7,.slice v vn vk]) w6 (.int .i64 x8) w9∧
zYd w9 fun w10=>
slN a5 na5 ka5 (some (IntKind.i64.wrap (i+(vn:Int)))) none sz fun a11 na11 ka11=>
slN s sn sk (some i) none sz fun a12 na12 ka12=>
∃x13:Int,∃w14:World,vQ P (Builtin.copy_ #[tS,tS] tI #[.slice a11 na11 ka11,.slice a12 na12 ka12]) w10 (.int .i64 x13) w14∧
R (.returned (.slice a5 na5 ka5)) w14) (
slN s sn sk none (some (IntKind.i64.wrap ((sn:Int)+(vn:Int)))) sz fun a15 na15 ka15=>
slN a15 na15 ka15 (some (IntKind.i64.wrap (i+(vn:Int)))) none sz fun a16 na16 ka16=>
∃c17:Bool,∃w18:World,Cv.Ext P fO #[.slice v vn vk,.slice a16 na16 ka16] w (.bool c17) w18∧
cnd (!c17) (
zYd w18 fun w19=>
slN a15 na15 ka15 (some (IntKind.i64.wrap (i+(vn:Int)))) none sz fun a20 na20 ka20=>
slN a15 na15 ka15 (some i) none sz fun a21 na21 ka21=>
∃x22:Int,∃w23:World,vQ P (Builtin.copy_ #[tS,tS] tI #[.slice a20 na20 ka20,.slice a21 na21 ka21]) w19 (.int .i64 x22) w23∧
slN a15 na15 ka15 (some i) none sz fun a24 na24 ka24=>
∃x25:Int,∃w26:World,vQ P (Builtin.copy_ #[tS,tS] tI #[.slice a24 na24 ka24,.slice v vn vk]) w23 (.int .i64 x25) w26∧
R (.returned (.slice a15 na15 ka15)) w26) (
slN a15 na15 ka15 (some (sn:Int)) none sz fun a27 na27 ka27=>
∃x28:Int,∃w29:World,vQ P (Builtin.copy_ #[tS,tS] tI #[.slice a27 na27 ka27,.slice v vn vk]) w18 (.int .i64 x28) w29∧
slN a15 na15 ka15 (some i) none sz fun a30 na30 ka30=>
Calls P fR #[.slice a30 na30 ka30,.int .i64 (vn:Int)] w29 fun e32 w31=>e32= .returned (.tuple #[])∧
R (.returned (.slice a15 na15 ka15)) w31))))
theorem zZb {α:Type} {l m:Nat} {xs r ys:List α} (hl:l≤xs.length) (hy:ys.length=m) (hr:m≤r.length):
 ((xs++r).take (l+m)++xs.drop l++(xs++r).drop (l+m+(xs.drop l).length)).take l++ys++((xs++r).take (l+m)++xs.drop l++(xs++r).drop (l+m+(xs.drop l).length)).drop (l+ys.length)=(xs.take l++ys++xs.drop l)++r.drop m:=by
 have e1:(xs++r).drop (l+m+(xs.drop l).length)=r.drop m:=by
  rw[yPq,show l+m+(xs.length-l)=xs.length+m by omega,yTi]
  simp
 have e2:((xs++r).take (l+m)++xs.drop l++r.drop m).take l=xs.take l:=by
  rw[yPb,yPs (by rw[yPl,yOw];omega),List.take_take,yTa (by omega),yPs hl]
 have e3:((xs++r).take (l+m)++xs.drop l++r.drop m).drop (l+ys.length)=xs.drop l++r.drop m:=by
  have:((xs++r).take (l+m)).length=l+m:=by rw[yPl,yOw];omega
  rw[yPb,hy,yTi,this,yTz,ySa,yRz (by omega),yRc]
 rw[e1,e2,e3]
 simp
theorem zOe (A Z Y:List Value):spl (A++Z) A.length Y=A++Y++Z.drop Y.length:=by
 simp only[spl]
 rw[List.take_left,yTi]
 simp
theorem zCk {b o n c i:Nat} (h:c≠i):(if c=i then(some ⟨b,o,none⟩:Option Addr)else(some ⟨b,o,none⟩:Option Addr).map (·.add n))=some ⟨b,o+n,none⟩:=by
 rw[yOr h,yQp,wU]
def zNr (P:Program) (fO:Nat):Prop:=∀(w:World) (va sb so la ca lb cb:Nat) (c c':Array Value) (T T':TypeId),va≠sb→w.heap[va]?=some (.cells c T (0,0))→w.heap[sb]?=some (.cells c' T' (0,0))→c'.size≠0→
 Cv.Ext P fO #[.slice (some ⟨va,0,none⟩) la ca,.slice (some ⟨sb,so,none⟩) lb cb] w (.bool false) w
theorem yAi {P : Program} {fO tS tB e sz by_ : Nat} {z : Array Value} {fn : Func} (hf : P.funcs[fO]? = some fn) (hname : (fn.name == "runtime.NumGoroutine") = false) (hb : fn.body.isNone = true) (hn : Extern.findNext fn = none) (he : Extern.find fn = some (Extern.SlicesOverlaps.overlaps #[tS, tS] #[tB]))
 (hi:wV P tS=some (e,sz,by_,z)):zNr P fO:=by
 obtain⟨i,zv,q1,q2,rfl,rfl,q5,rfl⟩:=qN hi
 intro w va sb so la ca lb cb c c' T T' hne h1 h2 h3
 unfold Cv.Ext
 rw[run_callFunc_extern hf hname hb hn he,Lib.run_overlaps_apart w tS tB e q1 i.size (fun w=>Cv.run_sizeOf q2 w) ⟨va,0,none⟩ ⟨sb,so,none⟩ la ca lb cb hne T T' c.size c'.size (by simp[World.shape?,h1]) (by simp[World.shape?,h2]) h3 (by simp[World.frozen?,h1]) (by simp[World.frozen?,h1])]
 rfl
theorem yNn {P:Program} {tS tI e sz by_ fO fR:Nat} {z:Array Value} (hi:wV P tS=some (e,sz,by_,z)) (hz:z.size=sz) (hby:0<by_) (hsz:0<sz) (h2:zTf P tS=true) (hti:P.underlying tI=some (.int .i64)) (hov:zNr P fO)
 {k:Ko} {w:World} {L:List HP} {s v:Option Addr} {sn sk vn vk i:Nat} {xs ys:List Value} (H:Hp k w (slO e sz s sn sk xs::slO e sz v vn vk ys::L)) (h1:∀u∈xs,u.oneC=true) (hy:∀u∈ys,u.oneC=true) (hin:i≤sn) (hv:0<vn)
 (hb:(sn+vn)*by_≤140737488355328):
 yIo P tS tI sz fO fR s sn sk i v vn vk w fun en w'=>∃a kk,en= .returned (.slice a (sn+vn) kk)∧Hp k w' (slO e sz a (sn+vn) kk (xs.take (i*sz)++ys++xs.drop (i*sz))::slO e sz v vn vk ys::L):=by
 obtain⟨hxl,hnk⟩:=H.len
 obtain⟨hyl,hvk⟩:=H.swap.len
 have hnm:sn+vn≤140737488355328:=yRw (Nat.le_mul_of_pos_right _ hby) hb
 have w1:IntKind.i64.wrap ((sn:Int)+(vn:Int))=((sn+vn:Nat):Int):=by rw[Cv.wrap_i64 (by omega) (by omega)];simp
 have w2:IntKind.i64.wrap ((i:Int)+(vn:Int))=((i+vn:Nat):Int):=by rw[Cv.wrap_i64 (by omega) (by omega)];simp
 have w3:IntKind.i64.wrap (((sn+vn:Nat):Int)-(i:Int))=((sn+vn-i:Nat):Int):=by rw[Cv.wrap_i64 (by omega) (by omega)];omega
 have hle:i*sz≤xs.length:=by rw[hxl];exact yQq _ hin
 have htl:(xs.take (i*sz)).length=i*sz:=by rw[yPl];omega
 have hdl:(xs.drop (i*sz)).length=(sn-i)*sz:=by rw[yPq,hxl,Nat.sub_mul]
 have hsum:(i+vn)*sz=i*sz+vn*sz:=yRm _ _ _
 have hsum2:(sn+vn)*sz=i*sz+vn*sz+(sn-i)*sz:=by rw[← yRm,← yRm];congr 1;omega
 have hfin:(xs.take (i*sz)++ys++xs.drop (i*sz)).length=(sn+vn)*sz:=by
  rw[yOw,yOw,htl,hyl,hdl,hsum2]
 unfold yIo
 simp only[slN,w1,w2,w3,yPj]
 refine⟨⟨by omega,by omega,hnk⟩,Cv.cnd.mk (fun c=>absurd c (by simp;omega)) fun _=>Cv.cnd.mk (fun c=> ?_) fun c=>Cv.cnd.mk (fun hc=> ?_) fun hc=> ?_⟩
 ·have c:i=sn:=by have:(i:Int)=(sn:Int):=by simpa using c
                  omega
  subst c
  obtain⟨a',c',w',r1,r2⟩:=H.append (rt:=tS) hi h2 (x:= .slice v vn vk) (m:=vn) (ys:=ys) (.inl ⟨v,vk,rfl,H.swap.satR⟩) hy hz hby hb
  refine⟨a',_,c',w',r1,a',c',rfl,?_⟩
  rw[yPf (by omega),yRz (by omega),yPp]
  exact r2
 ·have c:i<sn:=by have:¬(i:Int)=(sn:Int):=by simpa using c
                  omega
  have hc:sk<sn+vn:=by have:=yRk hc;omega
  obtain⟨inf,zv,q1,q2,q3,q4,q5,q6⟩:=qN hi
  subst q3 q4 q6
  rcases H.slcases with⟨_,e0,_⟩|⟨b,r,rfl,g1,g2,g3,H0⟩
  ·omega
  rcases H0.swap.slcases with⟨_,e0,_⟩|⟨vb,rv,rfl,g4,g5,g6,H1⟩
  ·omega
  have hold:(Builtin.firstCells inf.size i (.slice (some ⟨b,0,none⟩) i sk)).run P w.drew= .ok (xs.take (i*inf.size)).toArray w.drew:=by
   have hbk:=(H1.drew).swap.get
   have:=vD (P:=P) (o:=0) (n:=i*inf.size) hbk (by rw[yOw];omega)
   unfold Builtin.firstCells
   rw[this,ySa,yPs hle]
  have hfit2:=zEu (need:=sn+vn) (cap:=sk) (by omega)
  have hfit3:=yQq inf.bytes hfit2
  have e2:2*(sn+vn)*inf.bytes=2*((sn+vn)*inf.bytes):=by rw[Nat.mul_assoc]
  have hkb:(sn+vn-i)*inf.bytes≤(sn+vn)*inf.bytes:=yQq _ (by omega)
  have hgr:=Lib.run_append_grow_zeros (P:=P) w tS tI tS e inf zv .i64 .i64 q1 hti q2 q5 (some ⟨b,0,none⟩) i sk (xs.take (i*inf.size)) hold (sn+vn-i) (by omega) hsz (by omega) (by omega) (by omega) (by rw[show i+(sn+vn-i)=sn+vn by omega];omega)
  rw[show i+(sn+vn-i)=sn+vn by omega]at hgr
  have hG:sn+vn≤grownCap w (sn+vn) sk e:=grownCap_ge w (sn+vn) sk e
  generalize grownCap w (sn+vn) sk e=G at hgr hG
  have harr:(xs.take (i*inf.size)).toArray++Builtin.zeroCells zv.cells (sn+vn-i)++Builtin.zeroCells zv.cells (G-(sn+vn))=(xs.take (i*inf.size)++((Builtin.zeroCells zv.cells (sn+vn-i)).toList++(Builtin.zeroCells zv.cells (G-(sn+vn))).toList)).toArray:=by
   apply Array.ext';simp
  rw[harr]at hgr
  have hZl:((Builtin.zeroCells zv.cells (sn+vn-i)).toList++(Builtin.zeroCells zv.cells (G-(sn+vn))).toList).length=(sn+vn-i)*inf.size+(G-(sn+vn))*inf.size:=by
   rw[yOw,yTg,yTg,size_zeroCells,size_zeroCells,hz]
  generalize (Builtin.zeroCells zv.cells (sn+vn-i)).toList++(Builtin.zeroCells zv.cells (G-(sn+vn))).toList=Z at hgr hZl
  have hZ2:(sn+vn-i)*inf.size=vn*inf.size+(sn-i)*inf.size:=by rw[← yRm];congr 1;omega
  have H2:=(H1.drew).new (.cells (xs.take (i*inf.size)++Z).toArray e)
  have hB:w.drew.heap.size=w.heap.size:=rfl
  rw[hB]at H2
  have hc1:=pP (P:=P) (sT:=tS) (ty:=tI) hi (g:=w.heap.size) (o:=0+i*inf.size) (dLen:=sn+vn-i) (dCap:=G-i) (b:=vb) (so:=0) (sLen:=vn) (sCap:=vk) (n:=vn) H2.get H2.swap.get (yTa (by omega)) (by rw[yOw];omega) (by rw[yOw,htl,hZl];omega) (by
   rw[ySa,yPs (by omega),yPf (by omega)];exact hy)
  rw[ySa,yPs (by omega),yPf (show ys.length≤vn*inf.size by omega),yPr]at hc1
  have es1:spl (xs.take (i*inf.size)++Z) (i*inf.size) ys=xs.take (i*inf.size)++ys++Z.drop ys.length:=by
   have:=zOe (xs.take (i*inf.size)) Z ys
   rwa [htl]at this
  rw[es1]at hc1
  have H3:=(H2.upd (.cells (xs.take (i*inf.size)++ys++Z.drop ys.length).toArray e)).drew
  have hg4:(xs++r).drop (i*inf.size)=xs.drop (i*inf.size)++r:=yRj hle
  have hc2:=pP (P:=P) (sT:=tS) (ty:=tI) hi (g:=w.heap.size) (o:=0+(i+vn)*inf.size) (dLen:=sn+vn-(i+vn)) (dCap:=G-(i+vn)) (b:=b) (so:=0+i*inf.size) (sLen:=sn-i) (sCap:=sk-i) (n:=sn-i) H3.get H3.swap.drop.swap.get (yTa (by omega)) (by rw[yOw,hxl,yPr,← yRm];exact yRw (yQq _ (by omega)) (Nat.le_add_right _ _)) (by
   rw[yOw,yOw,htl,hyl,yPq,hZl];omega) (by
   rw[yPr,hg4,yPs (by omega),yPf (by omega)]
   exact fun u hu=>h1 u (ySe hu))
  rw[yPr,yPr,hg4,yPs (by omega),yPf (show(xs.drop (i*inf.size)).length≤(sn-i)*inf.size by omega)]at hc2
  have es2:spl (xs.take (i*inf.size)++ys++Z.drop ys.length) ((i+vn)*inf.size) (xs.drop (i*inf.size))=xs.take (i*inf.size)++ys++xs.drop (i*inf.size)++(Z.drop ys.length).drop (xs.drop (i*inf.size)).length:=by
   have:=zOe (xs.take (i*inf.size)++ys) (Z.drop ys.length) (xs.drop (i*inf.size))
   rwa [show(xs.take (i*inf.size)++ys).length=(i+vn)*inf.size by rw[yOw,htl,hyl,hsum]]at this
  rw[es2]at hc2
  refine⟨⟨by omega,by omega⟩,_,_,_,_,hgr,?_⟩
  rw[zCk (show G≠i by omega),yPr]
  refine⟨⟨by omega,by omega,hG⟩,_,_,hc1,?_⟩
  rintro _ rfl
  rw[zCk (show G≠i+vn by omega),zCk (show sk≠i by omega),yPr,yPr]
  refine⟨⟨by omega,by omega,hG⟩,⟨by omega,by omega,hnk⟩,_,_,hc2,_,_,rfl,?_⟩
  have H4:=H3.upd (.cells (xs.take (i*inf.size)++ys++xs.drop (i*inf.size)++(Z.drop ys.length).drop (xs.drop (i*inf.size)).length).toArray e)
  have H5:=H4.slmk (n:=sn+vn) (c:=G) (sz:=inf.size) hfin (by
   rw[yOw,hfin,yPq,yPq,hZl,hyl,hdl]
   have:G*inf.size=(sn+vn)*inf.size+(G-(sn+vn))*inf.size:=by rw[← yRm];congr 1;omega
   omega) hG
  have H6:=H5.swap.slmk (n:=vn) (c:=vk) (sz:=inf.size) g4 g5 g6
  exact(H6.swap.perm (List.Perm.trans ((List.Perm.swap _ _ _).cons _) (List.Perm.swap _ _ _))).drop
 ·have c:i<sn:=by have:¬(i:Int)=(sn:Int):=by simpa using c
                  omega
  have hc:sn+vn≤sk:=by have:=yUk hc;omega
  rcases H.slcases with⟨_,e0,_⟩|⟨b,r,rfl,g1,g2,g3,H0⟩
  ·omega
  rcases H0.swap.slcases with⟨_,e0,_⟩|⟨vb,rv,rfl,g4,g5,g6,H1⟩
  ·omega
  have hrl:vn*sz≤r.length:=by
   have e1:(sn+vn)*sz≤sk*sz:=yQq _ hc
   rw[yOw,g1]at g2
   rw[yRm]at e1
   omega
  have H2:=H1.swap
  have hne:vb≠b:=Hp.apart H1
  have hg4:(xs++r).drop (i*sz)=xs.drop (i*sz)++r:=yRj hle
  have hex:=hov w vb b (0+(i+vn)*sz) vn vk (sn+vn-(i+vn)) (sk-(i+vn)) (ys++rv).toArray (xs++r).toArray e e hne H1.get H2.get (by
   rw[ySl,yOw,g1]
   have:=Nat.mul_pos (show 0<sn by omega) hsz
   omega)
  have H3:=H2.drew
  have hc1:=pP (P:=P) (sT:=tS) (ty:=tI) hi (g:=b) (o:=0+(i+vn)*sz) (dLen:=sn+vn-(i+vn)) (dCap:=sk-(i+vn)) (b:=b) (so:=0+i*sz) (sLen:=sn+vn-i) (sCap:=sk-i) (n:=sn-i) H3.get H3.get (by rw[show sn+vn-(i+vn)=sn-i by omega];exact Nat.min_eq_right (by omega)) (by
   rw[yOw,g1,yPr,← yRm];exact yRw (yQq _ (by omega)) (Nat.le_add_right _ _)) (by
   rw[yOw,g1,yPr,← yRm,show i+vn+(sn-i)=sn+vn by omega,yRm];omega) (by
   rw[yPr,hg4,yPs (by omega),yPf (by omega)]
   exact fun u hu=>h1 u (ySe hu))
  rw[yPr,yPr,hg4,yPs (by omega),yPf (show(xs.drop (i*sz)).length≤(sn-i)*sz by omega)]at hc1
  have H4:=H3.upd (.cells (spl (xs++r) ((i+vn)*sz) (xs.drop (i*sz))).toArray e)
  have hcl:(spl (xs++r) ((i+vn)*sz) (xs.drop (i*sz))).length=(xs++r).length:=by
   simp only[spl,yOw,yPl,hdl]
   rw[yPq,yOw,g1,hsum]
   have:sn*sz=i*sz+(sn-i)*sz:=by rw[← yRm];congr 1;omega
   omega
  have hc2:=pP (P:=P) (sT:=tS) (ty:=tI) hi (g:=b) (o:=0+i*sz) (dLen:=sn+vn-i) (dCap:=sk-i) (b:=vb) (so:=0) (sLen:=vn) (sCap:=vk) (n:=vn) H4.get H4.swap.get (yTa (by omega)) (by rw[yOw];omega) (by
   rw[hcl,yOw,yPr];omega) (by
   rw[ySa,yPs (by omega),yPf (by omega)];exact hy)
  rw[ySa,yPs (by omega),yPf (show ys.length≤vn*sz by omega),yPr]at hc2
  have es:spl (spl (xs++r) ((i+vn)*sz) (xs.drop (i*sz))) (i*sz) ys=(xs.take (i*sz)++ys++xs.drop (i*sz))++r.drop (vn*sz):=by
   have:=zZb (l:=i*sz) (m:=vn*sz) (xs:=xs) (r:=r) (ys:=ys) hle hyl hrl
   simp only[spl,hsum]
   exact this
  rw[es]at hc2
  refine⟨⟨by omega,by omega⟩,⟨by omega,by omega,by omega⟩,false,w,?_,Cv.cnd.mk (fun _=> ?_) (fun c=>absurd c (by decide))⟩
  ·rw[zCk (show sk≠i+vn by omega)];exact hex
  rintro _ rfl
  rw[zCk (show sk≠i+vn by omega),zCk (show sk≠i by omega),yPr,yPr]
  refine⟨⟨by omega,by omega,by omega⟩,⟨by omega,by omega,by omega⟩,_,_,hc1,⟨by omega,by omega,by omega⟩,_,_,hc2,_,_,rfl,?_⟩
  have H5:=H4.upd (.cells (xs.take (i*sz)++ys++xs.drop (i*sz)++r.drop (vn*sz)).toArray e)
  have H6:=H5.slmk (n:=sn+vn) (c:=sk) (sz:=sz) hfin (by
   rw[yOw,hfin,yPq,← g2,yOw,g1,yRm]
   omega) hc
  exact(H6.swap.slmk (n:=vn) (c:=vk) (sz:=sz) g4 g5 g6).swap
structure z1e where
 els:List (List D)
 el:List D
 i:Nat
def z8t (e sz by_:Nat):Con where
 ι:=z1e
 pat:=fun i=>[.own 0,.d (.v (.int .i64 i.i)),.own 1]
 pre:=fun i=>[.own e sz i.els,.own e sz [i.el]]
 cnd:=fun i=>i.i≤i.els.length∧(i.els.length+1)*by_≤140737488355328
 alts:=fun i=>[{o:=Unit,res:=fun _=> .own 2,post:=fun _=>[.gone,.gone,.own e sz (i.els.take i.i++i.el::i.els.drop i.i)],rel:=fun _=>True}]
theorem insX_ok {P:Program} (hm:P.follows .mixedOrders=true) {tS tI e sz by_ fI fO fR:Nat} {z:Array Value} {fn:Func} {c:Code} (hf:P.funcs[fI]? =some fn) (hb:fn.body=some c) (hbd:wB P fI=true) (hok:okC fn.ntmps c=true) (hfx:okF [] c=true) (hsz3:Nat.ble 3 fn.ntmps=true)
 (hi:wV P tS=some (e,sz,by_,z)) (hz:z.size=sz) (hby:0<by_) (hsz:0<sz) (h2:zTf P tS=true) (hti:P.underlying tI=some (.int .i64)) (hov:zNr P fO)
 (heq:∀(s:Option Addr) (sn sk:Nat) (i:Int) (v:Option Addr) (vn vk:Nat) (w:World) (R:Ending→World→Prop),yIo P tS tI sz fO fR s sn sk i v vn vk w R=cwp P [] c (zNq P fn R) (wM [.slice s sn sk,.int .i64 i,.slice v vn vk]) w):
 (z8t e sz by_).ok P fI:=by
 intro i hc k L E w ys R hv
 obtain⟨c1,c2⟩:i.i≤i.els.length∧(i.els.length+1)*by_≤140737488355328:=hc
 simp only[z8t,VRL,VR,DR]at hv
 obtain⟨y0,_,rfl,⟨l0,e0,_⟩,y1,_,rfl,⟨rfl,_⟩,y2,_,rfl,⟨l2,e2,_⟩,rfl⟩:=hv
 obtain⟨s,sk,xs,sub0,g1,hxs,hu,H⟩:=R.ownOpen (n:=0) (t:=e) (sz:=sz) (els:=i.els) rfl
 rw[e0]at g1;cases g1
 have hk2:∃v vk zs,y2= .slice v 1 vk∧DRL E.F i.el zs∧i.el.length=sz∧Hp k w (slO e sz s i.els.length sk xs::slO e sz v 1 vk zs::fz E.F::L):=by
  obtain⟨hk,hs,hh⟩:=H
  cases hh with
  |cons ha hsub hd hr=>
   simp only[z8t,vK,jO,yPd,ySc,yQe,yRc]at hr
   cases hr with
   |cons hb2 hsub2 hd2 hr2=>
    rcases hb2 with⟨q,_⟩|⟨⟨hv2,sub2⟩,q1,q2⟩
    ·cases q
    ·simp only at q1
     rw[e2]at q1;cases q1
     simp only[rowHP]at q2
     obtain⟨a,kk,zs,rfl,q3,q4,q5⟩:=q2
     simp only[yQw,List.flatten_nil,yPp]at q3
     exact⟨a,kk,zs,rfl,q3,q4 _ yOx,hk,_,.cons ha hsub hd (.cons q5 hsub2 hd2 hr2)⟩
 obtain⟨v,vk,zs,rfl,hzs,hel,H2⟩:=hk2
 have hv:=yNn (fR:=fR) (fO:=fO) hi hz hby hsz h2 hti hov (i:=i.i) H2 hxs.one hzs.one c1 (by omega) c2
 have hcall:=zDg (args:=[.slice s i.els.length sk,.int .i64 i.i,.slice v 1 vk]) hm hf hb [] hok hfx hsz3 (heq s i.els.length sk i.i v 1 vk w _) hv
 refine sY hbd (hcall.mono ?_)
 rintro en w' ⟨a,kk,rfl,H3⟩
 have H4:Hp k w' (slO e sz a (i.els.take i.i++i.el::i.els.drop i.i).length kk (xs.take (i.i*sz)++zs++xs.drop (i.i*sz))::(([]:List (Nat×AObj)).map (rHP E)++fz E.F::L)):=by
  have:(i.els.take i.i++i.el::i.els.drop i.i).length=i.els.length+1:=by
   rw[yOw,yOy,yPl,yPq];omega
  rw[this]
  exact H3.swap.drop
 obtain⟨E',r1,r2,r3⟩:=fZ (nx:=2) R.nx (by
  rw[List.flatten_append,yQw,← cZ i.i hu,← bX i.i hu,← yPb]
  exact((hxs.take _).append hzs).append (hxs.drop _)) (fun x hx=>by
   rcases yPv.1 hx with hx|hx
   ·exact hu x (yTw hx)
   ·rcases yPk.1 hx with rfl|hx
    ·exact hel
    ·exact hu x (ySe hx)) H4
 have hl:(i.els.take i.i++i.el::i.els.drop i.i).length=i.els.length+1:=by
  rw[yOw,yOy,yPl,yPq];omega
 rw[hl]at r3
 refine⟨_,rfl,_,yQr.2 rfl,(),trivial,E',r1,r3,⟨r2.nx,?_⟩⟩
 have q1:=((@wE k w' True _).2 ⟨trivial,r2.hp⟩).imp (B:=rHP E' (1,.gone)) fun x hx=> .inl ⟨rfl,hx.2⟩
 have q2:=((@wE k w' True _).2 ⟨trivial,q1⟩).imp (B:=rHP E' (0,.gone)) fun x hx=> .inl ⟨rfl,hx.2⟩
 exact q2
open Go Cv Go.Proofs
def bbetterC:Con:=con1 I3' (fun i=>[zA i.side,zA i.x,zA i.y]) (fun _=>[]) (fun _=>True) (fun i=>yB (btr i.side i.x i.y)) (fun _=>[])
@[reducible] def yKk (s:Slot):V:= .agg [yB s.used,zA s.n,zA s.id,zA s.qty,yB s.top,zA s.queue,zA s.ahead,zA s.back]
def pushFC:Con:=con1 Slot (fun s=>[yKk s]) (fun _=>[]) (fun _=>True) (fun s=>yB (!s.used)) (fun _=>[])
def qB (l:List Slot):Int:=zCw (l.findIdx? fun s=> !s.used)
def idxSlotC:Con:=con1 (List Slot) (fun _=>[.own 0,.fn 259 [] []]) (fun l=>[.own 305 8 (l.map zP)]) (fun l=>l.length≤1000000) (fun l=>zA (qB l)) (fun l=>[.own 305 8 (l.map zP)])
def z1s (l:List Slot):List SAnn:=[{ι:=Nat,slots:=fun j=>[(8,zA j)],rows:=fun _=>[]}]
def dB:gM:=⟨-1,-1,0,0⟩
def Arena.openQ (a:Arena):Arena:={a with queues:=a.queues++[dB]}
def aopenC:Con:=con1 Arena (fun _=>[.nm 0 0]) (fun a=>[qX a]) (fun a=>a.queues.length≤1000000) (fun a=>zA a.queues.length) (fun a=>[qX a.openQ])
structure z0y where
 a:Arena
 n:Int
 t:Bool
def Arena.usedAt (a:Arena) (n:Int):Bool:=decide (0≤n) && (decide (n<a.slots.length) && (a.slots.getD n.toNat slot0).used)
def Arena.topF (a:Arena) (n:Int) (t:Bool):Arena:=if a.usedAt n=true then{a with slots:=a.slots.modify n.toNat fun s=>{s with top:=t}}else a
def atopC:Con:=con1 z0y (fun i=>[.nm 0 0,zA i.n,yB i.t]) (fun i=>[qX i.a]) (fun i=>i.a.slots.length≤1000000) (fun i=>zA (if i.a.usedAt i.n=true then 0 else 26)) (fun i=>[qX (i.a.topF i.n i.t)])
structure PuI where
 a:Arena
 n:Int
 id:Int
 qty:Int
 top:Bool
def Arena.put (a:Arena) (n id qty:Int) (top:Bool):Arena:=
 let q:=a.queues.getD n.toNat dB
 let k:=qB a.slots
 let sl:=a.slots.set k.toNat ⟨true,k,id,qty,top,n,q.last,-1⟩
 ⟨if q.last= -1 then sl else sl.modify q.last.toNat fun s=>{s with back:=k},a.queues.set n.toNat ⟨if q.last= -1 then k else q.first,k,IntKind.i64.wrap (q.total+qty),IntKind.i64.wrap (q.count+1)⟩,IntKind.i64.wrap (a.free-1)⟩
def Arena.push (a:Arena) (n id qty:Int) (top:Bool):Arena×Int×Int:=
 if n<0∨a.queues.length≤n then(a,0,26)else if qty<1∨1000000<qty then(a,0,24)else if a.free=0 then(a,0,13)else(a.put n id qty top,qB a.slots,0)
def Arena.fit (a:Arena):Prop:=a.slots.length≤1000000∧(a.free≠0→∃s∈a.slots,s.used=false)∧∀q∈a.queues,q.last= -1∨(0≤q.last∧q.last<a.slots.length)
def apushC:Con:=con1 PuI (fun i=>[.nm 0 0,zA i.n,zA i.id,zA i.qty,yB i.top]) (fun i=>[qX i.a]) (fun i=>i.a.fit) (fun i=> .tup [zA (i.a.push i.n i.id i.qty i.top).2.1,zA (i.a.push i.n i.id i.qty i.top).2.2]) (fun i=>[qX (i.a.push i.n i.id i.qty i.top).1])
@[reducible] def zCt (b:Book):List AObj:=[zO b 0,zO b 1,zO b 2,zO b 3,zO b 4,zO b 5]
structure BkP where
 b:Book
 price:Int
def zS (s:Int) (l:List y3) (price:Int):Nat:=(l.takeWhile fun r=>btr s r.price price).length
def x6 (s:Int) (l:List y3) (price:Int):Bool:=match l[zS s l price]? with
 |some r=>decide (r.price=price)
 |none=>false
def Book.rungs (b:Book) (s:Int):List y3:=if s=1 then b.buys else b.sells
def z2f (s:Int):Con:=con1 BkP (fun i=>[.nm 0 0,zA s,zA i.price]) (fun i=>zCt i.b) (fun i=>i.b.small) (fun i=> .tup [zA (zS s (i.b.rungs s) i.price),yB (x6 s (i.b.rungs s) i.price)]) (fun i=>zCt i.b)
def find1C:Con:=z2f 1
def find2C:Con:=z2f 2
def yEe:List SAnn:=[{ι:=Nat,slots:=fun j=>[(9,zA j)],rows:=fun _=>[]}]
def pget (l:List (Int×Place)) (k:Int):Option Place:=(l.find? fun x=>decide (x.1=k)).map (·.2)
def aQ (k:Int) (v:Place):List (Int×Place)→List (Int×Place)
 |[]=>[(k,v)]
 |(a,b)::l=>if k=a then(a,v)::l else(a,b)::aQ k v l
structure LdI where
 b:Book
 id:Int
def Book.hasF (b:Book) (s:Int):Bool:=if s=1 then b.has1 else b.has2
def Book.topI (b:Book) (s:Int):Int:=if s=1 then b.top1 else b.top2
def Book.untop (b:Book) (s:Int):Arena:=if b.hasF s=true then(match pget b.at_ (b.topI s)with
 |some o=>if o.side=s then b.a.topF o.slot false else b.a
 |none=>b.a)else b.a
def Book.leadF (b:Book) (id s:Int):Book:=if s=1 then{b with a:=b.untop s,top1:=id,has1:=true}else{b with a:=b.untop s,top2:=id,has2:=true}
def z5c (s:Int):Con:=con1 LdI (fun i=>[.nm 0 0,zA i.id,zA s]) (fun i=>zCt i.b) (fun i=>i.b.small) (fun _=>eQ) (fun i=>zCt (i.b.leadF i.id s))
def lead1C:Con:=z5c 1
def lead2C:Con:=z5c 2
def Book.newQ (b:Book):Int×List Int×Arena:=if b.spare.length=0 then(b.a.queues.length,b.spare,b.a.openQ)else(b.spare.getD (b.spare.length-1) 0,b.spare.take (b.spare.length-1),b.a)
def Book.ins (b:Book) (s price:Int):List y3:=(b.rungs s).take (zS s (b.rungs s) price)++⟨price,b.newQ.1⟩::(b.rungs s).drop (zS s (b.rungs s) price)
def Book.queueF (b:Book) (s price:Int):Book×Int:=
 if x6 s (b.rungs s) price=true then(b,((b.rungs s).getD (zS s (b.rungs s) price) ⟨0,0⟩).queue)
 else(if s=1 then{b with a:=b.newQ.2.2,buys:=b.ins s price,spare:=b.newQ.2.1}else{b with a:=b.newQ.2.2,sells:=b.ins s price,spare:=b.newQ.2.1},b.newQ.1)
def yBc (b:Book):AObj:= .cells [.nm 1 0,.own 6,.own 3,.mp 4,zA b.top1,zA b.top2,.own 7,yB b.has1,yB b.has2] 244
def yBf (b:Book):AObj:= .cells [.nm 1 0,.own 2,.own 6,.mp 4,zA b.top1,zA b.top2,.own 7,yB b.has1,yB b.has2] 244
@[reducible] def yGk (b:Book):List AObj:=[yBc b,zO b 1,.gone,zO b 3,zO b 4,.gone,zO b 2,zO b 5]
@[reducible] def yHe (b:Book):List AObj:=[yBf b,zO b 1,zO b 2,.gone,zO b 4,.gone,zO b 3,zO b 5]
@[reducible] def Book.fit (b:Book):Prop:=b.a.fit∧b.a.queues.length≤100000∧b.buys.length≤100000∧b.sells.length≤100000∧b.spare.length≤100000
def queue1C:Con:=con1 BkP (fun i=>[.nm 0 0,zA 1,zA i.price]) (fun i=>zCt i.b) (fun i=>i.b.fit) (fun i=>zA (i.b.queueF 1 i.price).2) (fun i=>yGk (i.b.queueF 1 i.price).1)
def queue2C:Con:=con1 BkP (fun i=>[.nm 0 0,zA 2,zA i.price]) (fun i=>zCt i.b) (fun i=>i.b.fit) (fun i=>zA (i.b.queueF 2 i.price).2) (fun i=>yHe (i.b.queueF 2 i.price).1)
def insRC:Con:=z8t 301 2 16
open Go Cv Go.Proofs
def zPx (i:I3'):Prop:=
 cnd (i.side==1) (∃(a:Unit),btr i.side i.x i.y=decide (i.x>i.y)∧True) (∃(a:Unit),btr i.side i.x i.y=decide (i.x<i.y)∧True)
def z6d (s:Slot):Prop:=
 ∃(a:Unit),(!s.used)=!s.used∧True
def zPm (l:List Slot):Prop:=
 ∃(a:Nat),(↑a:Int)=0∧∃(b:Nat→Prop),∃(c:Nat→Nat),b a∧∀(d:Nat),b d→cnd (decide ((↑d:Int)<(↑(List.map zP l).length:Int))) ((0≤(↑d:Int)∧(↑d:Int)<(↑(List.map zP l).length:Int))∧∃(e:Bool),∃(f:Int),∃(g:Int),∃(h:Int),∃(j:Bool),∃(k:Int),∃(m:Int),∃(n:Int),zF (List.map zP l) (↑d:Int).toNat 0 8=some [D.v (.bool e),dI f,dI g,dI h,D.v (.bool j),dI k,dI m,dI n]∧∃(p:Slot),p.used=e∧p.n=f∧p.id=g∧p.qty=h∧p.top=j∧p.queue=k∧p.ahead=m∧p.back=n∧True∧∀(q:Unit),True→cnd (!p.used) (∃(r:Unit),qB l=(↑d:Int)∧List.map zP l=List.map zP l∧True) (∃(r:Nat),(↑r:Int)=IntKind.i64.wrap ((↑d:Int)+1)∧b r∧c r<c d∧AObj.own 305 8 (List.map zP l)=AObj.own 305 8 (List.map zP l))) (∃(e:Unit),qB l=(-1)∧List.map zP l=List.map zP l∧True)
def z1r (a:Arena):Prop:=
 ((List.map zM a.queues).length+1)*(32:Nat)≤(140737488355328:Nat)∧∃(b:Unit),(↑a.queues.length:Int)=IntKind.i64.wrap ((↑(List.map zM a.queues++[[dI (-1),dI (-1),dI 0,dI 0]]).length:Int)-1)∧a.free=a.free∧List.map zP a.slots=List.map zP a.slots∧List.map zM (a.queues++[dB])=List.map zM a.queues++[[dI (-1),dI (-1),dI 0,dI 0]]∧True
def pT (a:z0y):Prop:=∃(b:Unit),(if a.a.usedAt a.n=true then(0:Int)else(26:Int))=26∧(a.a.topF a.n a.t).free=a.a.free∧List.map zP (a.a.topF a.n a.t).slots=List.map zP a.a.slots∧List.map zM (a.a.topF a.n a.t).queues=List.map zM a.a.queues∧True
def yDz (i:z0y):Prop:=
 cnd (decide (i.n<0)) (pT i) (cnd (decide (i.n≥(↑(List.map zP i.a.slots).length:Int))) (pT i) ((0≤i.n∧i.n<(↑(List.map zP i.a.slots).length:Int))∧∃(a:Bool),zF (List.map zP i.a.slots) i.n.toNat ((0:Nat)+(0:Nat)) 1=some [D.v (.bool a)]∧cnd (!a) (pT i) ((0≤i.n∧i.n<(↑(List.map zP i.a.slots).length:Int))∧i.n.toNat<(List.map zP i.a.slots).length∧∃(b:Unit),(if i.a.usedAt i.n=true then(0:Int)else(26:Int))=0∧(i.a.topF i.n i.t).free=i.a.free∧List.map zP (i.a.topF i.n i.t).slots=yA (List.map zP i.a.slots) i.n.toNat ((0:Nat)+(1:Nat)+3) [D.v (.bool i.t)]∧List.map zM (i.a.topF i.n i.t).queues=List.map zM i.a.queues∧True)))
def yE (a:PuI):=(a.a.push a.n a.id a.qty a.top)
def aE (a:PuI):Prop:=(yE a).fst.free=a.a.free∧List.map zP (yE a).fst.slots=List.map zP a.a.slots∧List.map zM (yE a).fst.queues=List.map zM a.a.queues∧True
def zAy (a:PuI):Prop:=∃(b:Unit),(yE a).snd.fst=0∧(yE a).snd.snd=26∧aE a
def zCb (a:PuI):Prop:=∃(b:Unit),(yE a).snd.fst=0∧(yE a).snd.snd=24∧aE a
def mB (a:PuI) (b:List Slot):=(yA (yA (List.map zM a.a.queues) a.n.toNat ((0:Nat)+(0:Nat)) [dI (qB b)]) a.n.toNat ((0:Nat)+(1:Nat)) [dI (qB b)])
def aL (a:PuI) (b:List Slot) (c:Int):=(yA (mB a b) a.n.toNat ((0:Nat)+(2:Nat)) [dI (IntKind.i64.wrap (c+a.qty))])
def aH (a:PuI) (b:List Slot):=(yA (List.map zM a.a.queues) a.n.toNat ((0:Nat)+(1:Nat)) [dI (qB b)])
def aB (a:PuI) (b:List Slot) (c:Int):=(yA (aH a b) a.n.toNat ((0:Nat)+(2:Nat)) [dI (IntKind.i64.wrap (c+a.qty))])
def z4f (i:PuI):Prop:=
 cnd (decide (i.n≥0)) (cnd (!decide (i.n<(↑(List.map zM i.a.queues).length:Int))) (zAy i) (cnd (decide (i.qty<1)) (zCb i) (cnd (decide (i.qty>1000000)) (zCb i) (cnd (i.a.free==0) (∃(a:Unit),(yE i).snd.fst=0∧(yE i).snd.snd=13∧aE i) (∃(a:List Slot),List.map zP a=List.map zP i.a.slots∧a.length≤1000000∧∀(b:Unit),True→(0≤i.n∧i.n<(↑(List.map zM i.a.queues).length:Int))∧∃(c:Int),zF (List.map zM i.a.queues) i.n.toNat ((0:Nat)+(1:Nat)) 1=some [dI c]∧(0≤qB a∧qB a<(↑(List.map zP a).length:Int))∧(qB a).toNat<(List.map zP a).length∧∃(d:Int),zF (List.map zM i.a.queues) i.n.toNat ((0:Nat)+(1:Nat)) 1=some [dI d]∧cnd (d==(-1)) (i.n.toNat<(List.map zM i.a.queues).length∧i.n.toNat<(yA (List.map zM i.a.queues) i.n.toNat ((0:Nat)+(0:Nat)) [dI (qB a)]).length∧∃(e:Int),zF (mB i a) i.n.toNat ((0:Nat)+(2:Nat)) 1=some [dI e]∧i.n.toNat<(mB i a).length∧∃(f:Int),zF (aL i a e) i.n.toNat ((0:Nat)+(3:Nat)) 1=some [dI f]∧i.n.toNat<(aL i a e).length∧∃(g:Unit),(yE i).snd.fst=qB a∧(yE i).snd.snd=0∧(yE i).fst.free=IntKind.i64.wrap (i.a.free-1)∧List.map zP (yE i).fst.slots=yA (List.map zP a) (qB a).toNat 0 [D.v (.bool true),dI (qB a),dI i.id,dI i.qty,D.v (.bool i.top),dI i.n,dI c,dI (-1)]∧List.map zM (yE i).fst.queues=yA (aL i a e) i.n.toNat ((0:Nat)+(3:Nat)) [dI (IntKind.i64.wrap (f+1))]∧True) (∃(e:Int),zF (List.map zM i.a.queues) i.n.toNat ((0:Nat)+(1:Nat)) 1=some [dI e]∧(0≤e∧e<(↑(yA (List.map zP a) (qB a).toNat 0 [D.v (.bool true),dI (qB a),dI i.id,dI i.qty,D.v (.bool i.top),dI i.n,dI c,dI (-1)]).length:Int))∧e.toNat<(yA (List.map zP a) (qB a).toNat 0 [D.v (.bool true),dI (qB a),dI i.id,dI i.qty,D.v (.bool i.top),dI i.n,dI c,dI (-1)]).length∧i.n.toNat<(List.map zM i.a.queues).length∧∃(f:Int),zF (aH i a) i.n.toNat ((0:Nat)+(2:Nat)) 1=some [dI f]∧i.n.toNat<(aH i a).length∧∃(g:Int),zF (aB i a f) i.n.toNat ((0:Nat)+(3:Nat)) 1=some [dI g]∧i.n.toNat<(aB i a f).length∧∃(h:Unit),(yE i).snd.fst=qB a∧(yE i).snd.snd=0∧(yE i).fst.free=IntKind.i64.wrap (i.a.free-1)∧List.map zP (yE i).fst.slots=yA (yA (List.map zP a) (qB a).toNat 0 [D.v (.bool true),dI (qB a),dI i.id,dI i.qty,D.v (.bool i.top),dI i.n,dI c,dI (-1)]) e.toNat ((0:Nat)+(7:Nat)) [dI (qB a)]∧List.map zM (yE i).fst.queues=yA (aB i a f) i.n.toNat ((0:Nat)+(3:Nat)) [dI (IntKind.i64.wrap (g+1))]∧True)))))) (zAy i)
def xA (a:BkP):=(↑(zS 1 (a.b.rungs 1) a.price):Int)
def j9 (a:BkP):=(↑(List.map zB a.b.buys).length:Int)
def u7 (a:BkP):Prop:=a.b.top1=a.b.top1∧a.b.top2=a.b.top2∧a.b.has1=a.b.has1∧a.b.has2=a.b.has2∧AObj.adt Arena 3 zE a.b.a=zO a.b 1∧List.map zB a.b.buys=List.map zB a.b.buys∧List.map zB a.b.sells=List.map zB a.b.sells∧atE a.b.at_=atE a.b.at_∧iE a.b.spare=iE a.b.spare∧True
def zBx (a:Nat) (b:BkP):Prop:=(0≤(↑a:Int)∧(↑a:Int)<(j9 b))∧∃(c:Int),zF (List.map zB b.b.buys) (↑a:Int).toNat ((0:Nat)+(0:Nat)) 1=some [dI c]∧∃(d:Unit),(xA b)=(↑a:Int)∧x6 1 (b.b.rungs 1) b.price=(c==b.price)∧u7 b
def zBc (a:BkP) (b:Nat):Prop:=∃(c:Unit),(xA a)=(↑b:Int)∧x6 1 (a.b.rungs 1) a.price=false∧u7 a
def rT (a:Nat) (b:Nat→Prop) (c:Nat→Nat) (d:BkP):Prop:=∃(e:Nat),(↑e:Int)=IntKind.i64.wrap ((↑a:Int)+1)∧b e∧c e<c a∧zO d.b 0=zO d.b 0∧zO d.b 1=zO d.b 1∧zO d.b 2=zO d.b 2∧zO d.b 3=zO d.b 3∧zO d.b 4=zO d.b 4∧zO d.b 5=zO d.b 5
def a8 (a:Nat) (b:BkP):=(decide ((↑a:Int)<(j9 b)))
def z6i (i:BkP):Prop:=
 ∃(a:Nat),(↑a:Int)=0∧∃(b:Nat→Prop),∃(c:Nat→Nat),b a∧∀(d:Nat),b d→cnd (a8 d i) ((0≤(↑d:Int)∧(↑d:Int)<(j9 i))∧∃(e:Int),zF (List.map zB i.b.buys) (↑d:Int).toNat ((0:Nat)+(0:Nat)) 1=some [dI e]∧∃(f:I3'),f.side=1∧f.x=e∧f.y=i.price∧True∧∀(g:Unit),True→cnd (btr f.side f.x f.y) (rT d b c i) (cnd (a8 d i) (zBx d i) (zBc i d))) (cnd (a8 d i) (zBx d i) (zBc i d))
def xB (a:BkP):=(↑(zS 2 (a.b.rungs 2) a.price):Int)
def j0 (a:BkP):=(↑(List.map zB a.b.sells).length:Int)
def zBb (a:Nat) (b:BkP):Prop:=(0≤(↑a:Int)∧(↑a:Int)<(j0 b))∧∃(c:Int),zF (List.map zB b.b.sells) (↑a:Int).toNat ((0:Nat)+(0:Nat)) 1=some [dI c]∧∃(d:Unit),(xB b)=(↑a:Int)∧x6 2 (b.b.rungs 2) b.price=(c==b.price)∧u7 b
def zBt (a:BkP) (b:Nat):Prop:=∃(c:Unit),(xB a)=(↑b:Int)∧x6 2 (a.b.rungs 2) a.price=false∧u7 a
def mT (a:Nat) (b:BkP):=(decide ((↑a:Int)<(j0 b)))
def z6k (i:BkP):Prop:=
 ∃(a:Nat),(↑a:Int)=0∧∃(b:Nat→Prop),∃(c:Nat→Nat),b a∧∀(d:Nat),b d→cnd (mT d i) ((0≤(↑d:Int)∧(↑d:Int)<(j0 i))∧∃(e:Int),zF (List.map zB i.b.sells) (↑d:Int).toNat ((0:Nat)+(0:Nat)) 1=some [dI e]∧∃(f:I3'),f.side=2∧f.x=e∧f.y=i.price∧True∧∀(g:Unit),True→cnd (btr f.side f.x f.y) (rT d b c i) (cnd (mT d i) (zBb d i) (zBt i d))) (cnd (mT d i) (zBb d i) (zBt i d))
def hU (a:LdI):Prop:=List.map zB a.b.buys=List.map zB a.b.buys∧List.map zB a.b.sells=List.map zB a.b.sells∧atE a.b.at_=atE a.b.at_∧iE a.b.spare=iE a.b.spare∧True
def aD (a:LdI):Prop:=∃(b:Unit),a.id=a.id∧a.b.top2=a.b.top2∧true=true∧a.b.has2=a.b.has2∧AObj.adt Arena 3 zE (a.b.untop 1)=zO a.b 1∧hU a
def sU (a:LdI) (b:Int) (c:Int) (d:Int) (e:Bool):Prop:=wF (Value.int IntKind.i64 a.b.top1) (atE a.b.at_)=some [dI b,dI c,dI d]∧e=true∨wF (Value.int IntKind.i64 a.b.top1) (atE a.b.at_)=none∧[dI b,dI c,dI d]=[dI 0,dI 0,dI 0]∧e=false
def tJ (a:LdI):Prop:=∀(b:Value×List D),b∈atE a.b.at_→like (Value.int IntKind.i64 a.b.top1) b.fst=true
def z6t (i:LdI):Prop:=
 cnd i.b.has1 ((tJ i)∧∃(a:Bool),∃(b:Int),∃(c:Int),∃(d:Int),(sU i b c d a)∧((tJ i)∧∃(e:Bool),∃(f:Int),∃(g:Int),∃(h:Int),(sU i f g h e)∧(f=b∧g=c∧h=d∧True)∧e=a∧True)∧i.b.top1=i.b.top1∧True∧cnd a (cnd (b==1) (∃(e:z0y),e.n=d∧e.t=false∧AObj.adt Arena 3 zE e.a=zO i.b 1∧e.a.slots.length≤1000000∧∀(f:Unit),True→∃(g:Unit),i.id=i.id∧i.b.top2=i.b.top2∧true=true∧i.b.has2=i.b.has2∧AObj.adt Arena 3 zE (i.b.untop 1)=AObj.adt Arena 3 zE (e.a.topF e.n e.t)∧hU i) (aD i)) (aD i)) (aD i)
def a9 (a:LdI):Prop:=∃(b:Unit),a.b.top1=a.b.top1∧a.id=a.id∧a.b.has1=a.b.has1∧true=true∧AObj.adt Arena 3 zE (a.b.untop 2)=zO a.b 1∧hU a
def sF (a:LdI) (b:Int) (c:Int) (d:Int) (e:Bool):Prop:=wF (Value.int IntKind.i64 a.b.top2) (atE a.b.at_)=some [dI b,dI c,dI d]∧e=true∨wF (Value.int IntKind.i64 a.b.top2) (atE a.b.at_)=none∧[dI b,dI c,dI d]=[dI 0,dI 0,dI 0]∧e=false
def tX (a:LdI):Prop:=∀(b:Value×List D),b∈atE a.b.at_→like (Value.int IntKind.i64 a.b.top2) b.fst=true
def z3e (i:LdI):Prop:=
 cnd i.b.has2 ((tX i)∧∃(a:Bool),∃(b:Int),∃(c:Int),∃(d:Int),(sF i b c d a)∧((tX i)∧∃(e:Bool),∃(f:Int),∃(g:Int),∃(h:Int),(sF i f g h e)∧(f=b∧g=c∧h=d∧True)∧e=a∧True)∧i.b.top2=i.b.top2∧True∧cnd a (cnd (b==2) (∃(e:z0y),e.n=d∧e.t=false∧AObj.adt Arena 3 zE e.a=zO i.b 1∧e.a.slots.length≤1000000∧∀(f:Unit),True→∃(g:Unit),i.b.top1=i.b.top1∧i.id=i.id∧i.b.has1=i.b.has1∧true=true∧AObj.adt Arena 3 zE (i.b.untop 2)=AObj.adt Arena 3 zE (e.a.topF e.n e.t)∧hU i) (a9 i)) (a9 i)) (a9 i)
def xJ (a:BkP):Prop:=(a.b.a.slots.length≤1000000∧a.b.a.queues.length≤1000000)∧a.b.buys.length≤1000000∧a.b.sells.length≤1000000∧a.b.spare.length≤1000000
def v8 (a:BkP):Prop:=0≤(xA a)∧(xA a)<(j9 a)
def j8 (a:BkP):=((↑(iE a.b.spare).length:Int)-1)
def cA (a:BkP):Prop:=0≤IntKind.i64.wrap (j8 a)∧IntKind.i64.wrap (j8 a)≤(↑(iE a.b.spare).length:Int)
def cF (a:BkP):Prop:=0≤IntKind.i64.wrap (j8 a)∧IntKind.i64.wrap (j8 a)<(↑(iE a.b.spare).length:Int)
def vY (a:z1e):Prop:=a.i≤a.els.length∧(a.els.length+1)*(16:Nat)≤(140737488355328:Nat)
def vS (a:BkP):=(IntKind.i64.wrap (j8 a))
def zJ (a:BkP):=(a.b.queueF 1 a.price)
def zYl (i:BkP):Prop:=
 ∃(a:BkP),(1:Int)=(1:Int)∧a.price=i.price∧a.b.top1=i.b.top1∧a.b.top2=i.b.top2∧a.b.has1=i.b.has1∧a.b.has2=i.b.has2∧AObj.adt Arena 3 zE a.b.a=zO i.b 1∧List.map zB a.b.buys=List.map zB i.b.buys∧List.map zB a.b.sells=List.map zB i.b.sells∧atE a.b.at_=atE i.b.at_∧iE a.b.spare=iE i.b.spare∧(xJ a)∧∀(b:Unit),True→cnd (x6 1 (a.b.rungs 1) a.price) ((v8 a)∧∃(c:Int),zF (List.map zB a.b.buys) (xA a).toNat ((0:Nat)+(1:Nat)) 1=some [dI c]∧∃(d:Unit),(zJ i).snd=c∧(zJ i).fst.top1=a.b.top1∧(zJ i).fst.top2=a.b.top2∧(zJ i).fst.has1=a.b.has1∧(zJ i).fst.has2=a.b.has2∧AObj.adt Arena 3 zE (zJ i).fst.a=AObj.adt Arena 3 zE a.b.a∧List.map zB (zJ i).fst.sells=List.map zB a.b.sells∧atE (zJ i).fst.at_=atE a.b.at_∧List.map zB (zJ i).fst.buys=List.map zB a.b.buys∧iE (zJ i).fst.spare=iE a.b.spare∧True) (cnd (decide ((↑(iE a.b.spare).length:Int)>0)) ((cF a)∧∃(c:Int),zF (iE a.b.spare) (vS a).toNat 0 1=some [dI c]∧(cA a)∧True∧∃(d:z1e),(↑d.i:Int)=(xA a)∧d.els=List.map zB a.b.buys∧[d.el]=[[dI i.price,dI c]]∧(vY d)∧∀(e:Unit),True→∃(f:Unit),(zJ i).snd=c∧(zJ i).fst.top1=a.b.top1∧(zJ i).fst.top2=a.b.top2∧(zJ i).fst.has1=a.b.has1∧(zJ i).fst.has2=a.b.has2∧AObj.adt Arena 3 zE (zJ i).fst.a=AObj.adt Arena 3 zE a.b.a∧List.map zB (zJ i).fst.sells=List.map zB a.b.sells∧atE (zJ i).fst.at_=atE a.b.at_∧List.map zB (zJ i).fst.buys=List.take d.i d.els++d.el::List.drop d.i d.els∧iE (zJ i).fst.spare=List.take (vS a).toNat (iE a.b.spare)∧True) (∃(c:Arena),AObj.adt Arena 3 zE c=AObj.adt Arena 3 zE a.b.a∧c.queues.length≤1000000∧∀(d:Unit),True→True∧∃(e:z1e),(↑e.i:Int)=(xA a)∧e.els=List.map zB a.b.buys∧[e.el]=[[dI i.price,dI (↑c.queues.length:Int)]]∧(vY e)∧∀(f:Unit),True→∃(g:Unit),(zJ i).snd=(↑c.queues.length:Int)∧(zJ i).fst.top1=a.b.top1∧(zJ i).fst.top2=a.b.top2∧(zJ i).fst.has1=a.b.has1∧(zJ i).fst.has2=a.b.has2∧AObj.adt Arena 3 zE (zJ i).fst.a=AObj.adt Arena 3 zE c.openQ∧List.map zB (zJ i).fst.sells=List.map zB a.b.sells∧atE (zJ i).fst.at_=atE a.b.at_∧List.map zB (zJ i).fst.buys=List.take e.i e.els++e.el::List.drop e.i e.els∧iE (zJ i).fst.spare=iE a.b.spare∧True))
def v7 (a:BkP):Prop:=0≤(xB a)∧(xB a)<(j0 a)
def zL (a:BkP):=(a.b.queueF 2 a.price)
def zYe (i:BkP):Prop:=
 ∃(a:BkP),(2:Int)=(2:Int)∧a.price=i.price∧a.b.top1=i.b.top1∧a.b.top2=i.b.top2∧a.b.has1=i.b.has1∧a.b.has2=i.b.has2∧AObj.adt Arena 3 zE a.b.a=zO i.b 1∧List.map zB a.b.buys=List.map zB i.b.buys∧List.map zB a.b.sells=List.map zB i.b.sells∧atE a.b.at_=atE i.b.at_∧iE a.b.spare=iE i.b.spare∧(xJ a)∧∀(b:Unit),True→cnd (x6 2 (a.b.rungs 2) a.price) ((v7 a)∧∃(c:Int),zF (List.map zB a.b.sells) (xB a).toNat ((0:Nat)+(1:Nat)) 1=some [dI c]∧∃(d:Unit),(zL i).snd=c∧(zL i).fst.top1=a.b.top1∧(zL i).fst.top2=a.b.top2∧(zL i).fst.has1=a.b.has1∧(zL i).fst.has2=a.b.has2∧AObj.adt Arena 3 zE (zL i).fst.a=AObj.adt Arena 3 zE a.b.a∧List.map zB (zL i).fst.buys=List.map zB a.b.buys∧atE (zL i).fst.at_=atE a.b.at_∧List.map zB (zL i).fst.sells=List.map zB a.b.sells∧iE (zL i).fst.spare=iE a.b.spare∧True) (cnd (decide ((↑(iE a.b.spare).length:Int)>0)) ((cF a)∧∃(c:Int),zF (iE a.b.spare) (vS a).toNat 0 1=some [dI c]∧(cA a)∧True∧∃(d:z1e),(↑d.i:Int)=(xB a)∧d.els=List.map zB a.b.sells∧[d.el]=[[dI i.price,dI c]]∧(vY d)∧∀(e:Unit),True→∃(f:Unit),(zL i).snd=c∧(zL i).fst.top1=a.b.top1∧(zL i).fst.top2=a.b.top2∧(zL i).fst.has1=a.b.has1∧(zL i).fst.has2=a.b.has2∧AObj.adt Arena 3 zE (zL i).fst.a=AObj.adt Arena 3 zE a.b.a∧List.map zB (zL i).fst.buys=List.map zB a.b.buys∧atE (zL i).fst.at_=atE a.b.at_∧List.map zB (zL i).fst.sells=List.take d.i d.els++d.el::List.drop d.i d.els∧iE (zL i).fst.spare=List.take (vS a).toNat (iE a.b.spare)∧True) (∃(c:Arena),AObj.adt Arena 3 zE c=AObj.adt Arena 3 zE a.b.a∧c.queues.length≤1000000∧∀(d:Unit),True→True∧∃(e:z1e),(↑e.i:Int)=(xB a)∧e.els=List.map zB a.b.sells∧[e.el]=[[dI i.price,dI (↑c.queues.length:Int)]]∧(vY e)∧∀(f:Unit),True→∃(g:Unit),(zL i).snd=(↑c.queues.length:Int)∧(zL i).fst.top1=a.b.top1∧(zL i).fst.top2=a.b.top2∧(zL i).fst.has1=a.b.has1∧(zL i).fst.has2=a.b.has2∧AObj.adt Arena 3 zE (zL i).fst.a=AObj.adt Arena 3 zE c.openQ∧List.map zB (zL i).fst.buys=List.map zB a.b.buys∧atE (zL i).fst.at_=atE a.b.at_∧List.map zB (zL i).fst.sells=List.take e.i e.els++e.el::List.drop e.i e.els∧iE (zL i).fst.spare=iE a.b.spare∧True))
open Go Cv Go.Proofs
theorem fX:bbetterC.ok Tryz.prog 71:=okw (V:=zPx) mixed gok0 0 (fun _=>[]) (fun _=>[]) [] Tryz.func71 fun(i:I3') _=>by
 unfold zPx
 refine Cv.cnd.mk (fun c=> ?_) (fun c=> ?_)
 ·have c:i.side=1:=by simpa using c
  rw[btr,yOu c];exact kp
 ·have c:¬i.side=1:=by simpa using c
  rw[btr,yOr c];exact kp
theorem z2k:pushFC.ok Tryz.prog 259:=okw (V:=z6d) mixed gok0 0 (fun _=>[]) (fun _=>[]) [] Tryz.func259 fun(s:Slot) _=>by
 unfold z6d;exact kp
theorem yNh {l:List Slot} {k:Nat} {s:Slot} (h:l[k]? =some s):zF (l.map zP) k 0 8=some [D.v (.bool s.used),.v (.int .i64 s.n),.v (.int .i64 s.id),.v (.int .i64 s.qty),.v (.bool s.top),.v (.int .i64 s.queue),.v (.int .i64 s.ahead),.v (.int .i64 s.back)]:=elA h (by simp[zP]) rfl
theorem z7f (l:List Slot) (h:idxSlotC.cnd l):zPm l:=by
 have h:l.length≤1000000:=h
 unfold zPm dI
 simp only[yOs]
 refine⟨0,rfl,fun j=>j≤l.length∧∀k<j,∀x,l[k]? =some x→(!x.used)=false,fun j=>l.length-j,⟨by omega,fun k hk=>by omega⟩,?_⟩
 rintro j ⟨h3,h4⟩
 refine zI (fun hj=> ?_) (fun hj=> ?_)
 ·obtain⟨s,hs⟩:=z8 (l:=l) (i:=j) (by omega)
  refine⟨⟨by omega,by omega⟩,s.used,s.n,s.id,s.qty,s.top,s.queue,s.ahead,s.back,yNh hs,s,rfl,rfl,rfl,rfl,rfl,rfl,rfl,rfl,trivial,fun _ _=>Cv.cnd.mk (fun e=> ?_) (fun e=> ?_)⟩
  ·rw[qB,zAn hs e h4];exact kp
  ·refine⟨j+1,by rw[w64 (by omega)];rfl,⟨by omega,fun k hk x hx=> ?_⟩,by(first|omega|(dsimp only;omega)),by(repeat'(first|exact trivial|exact rfl|apply And.intro))⟩
   rcases yRn k j with hk'|hk'
   ·exact h4 k hk' x hx
   ·obtain rfl:k=j:=by omega
    rw[hs]at hx;cases hx;exact e
 ·rw[qB,zAx fun k x hx=>h4 k (by have:=(yOt.1 hx).1;omega) x hx];exact kp
theorem zUg:idxSlotC.ok Tryz.prog 258:=okw mixed (gokc z2k gok0) 0 (fun _=>[]) (fun l=>z1s l) [] Tryz.func258 z7f
theorem zQv:aopenC.ok Tryz.prog 260:=okw (V:=z1r) mixed gok0 0 (fun _=>[]) (fun _=>[]) [0] Tryz.func260 fun(a:Arena) h=>by
 have h:a.queues.length≤1000000:=h
 unfold z1r dI
 rw[yOw,yOs,w64 (by simp only[yOy,yRi];omega)]
 refine⟨by omega,(),?_,rfl,rfl,?_,trivial⟩
 ·simp
 ·rw[yPc];rfl
theorem gK {α:Type} {f:α→α}:∀{l:List α} {i:Nat} {x:α},l[i]? =some x→l.modify i f=l.set i (f x)
 |[],i,x,h=>by simp at h
 |a::l,0,x,h=>by simp at h;subst h;rfl
 |a::l,i+1,x,h=>by
  simp only[yQj]at h
  simp only[yTr,yUj,gK h]
theorem yD {α:Type} {f:α→List D} {l:List α} {i g:Nat} {x y:α} {ds:List D} (hi:l[i]? =some x) (hh:(f x).take g++(ds++(f x).drop (g+ds.length))=f y):yA (l.map f) i g ds=(l.set i y).map f:=by
 have hlt:=(yOt.1 hi).1
 rw[yA,gK (by rw[yQg,hi];rfl),hh,List.map_set]
theorem wI {α:Type} {l:List α} {i:Nat} {x y:α} (hi:l[i]? =some x):(l.set i y)[i]? =some y:=List.getElem?_set_self (yOt.1 hi).1
theorem zQ {α:Type} {l:List α} {i:Nat} {x d:α} (h:l[i]? =some x):l.getD i d=x:=by rw[yPa,h];rfl
theorem yJs (i:z0y) (h:atopC.cnd i):yDz i:=by
 have h:i.a.slots.length≤1000000:=h
 unfold yDz pT
 simp only[yOs]
 have no (e:i.a.usedAt i.n=false):i.a.topF i.n i.t=i.a:=by rw[Arena.topF,yOr (by rw[e];decide)]
 refine zI (fun c=> ?_) (fun c=>zI (fun d=> ?_) (fun d=> ?_))
 ·have e:i.a.usedAt i.n=false:=by rw[Arena.usedAt,yPm (by omega),yRv]
  rw[no e,e];exact kp
 ·have e:i.a.usedAt i.n=false:=by rw[Arena.usedAt,yPm (show ¬i.n<(i.a.slots.length:Int)by omega),yRv,yTj]
  rw[no e,e];exact kp
 ·obtain⟨s,hs⟩:=z8 (l:=i.a.slots) (i:=i.n.toNat) (by omega)
  have eu:i.a.usedAt i.n=s.used:=by rw[Arena.usedAt,yPn (show 0≤i.n by omega),yPn (show i.n<(i.a.slots.length:Int)by omega),zQ hs];simp
  refine⟨⟨by omega,by omega⟩,s.used,elA hs (by simp[zP]) rfl,Cv.cnd.mk (fun u=> ?_) (fun u=> ?_)⟩
  ·have e:i.a.usedAt i.n=false:=by rw[eu];simpa using u
   rw[no e,e];exact kp
  ·have e:i.a.usedAt i.n=true:=by rw[eu];simpa using u
   have et:i.a.topF i.n i.t={i.a with slots:=i.a.slots.set i.n.toNat {s with top:=i.t}}:=by
    rw[Arena.topF,yOu e,gK hs]
   rw[et,e,yD hs (y:={s with top:=i.t}) rfl]
   refine⟨⟨by omega,by omega⟩,by omega,(),rfl,rfl,rfl,rfl,trivial⟩
theorem zYi:atopC.ok Tryz.prog 256:=okw mixed gok0 1 (fun _=>[]) (fun _=>[]) [0] Tryz.func256 yJs
theorem z5w {l:List Slot} (h:∃s∈l,s.used=false):∃k:Nat,qB l=k∧k<l.length:=by
 obtain⟨s,hs,hu⟩:=h
 cases hf:l.findIdx? fun s=> !s.used with
 |none=>
  rw[ySx]at hf
  have:=hf s hs
  rw[hu]at this;cases this
 |some k=>
  rw[yRu]at hf
  exact⟨k,by rw[qB,show(l.findIdx? fun s=> !s.used)=some k by rw[yRu];exact hf];rfl,hf.1⟩
theorem yIc (i:PuI) (h:apushC.cnd i):z4f i:=by
 obtain⟨h1,h2,h3⟩:i.a.fit:=h
 unfold z4f zCb zAy aB aH aL mB aE yE dI
 simp only[yOs]
 have out (e:i.n<0∨i.a.queues.length≤i.n):i.a.push i.n i.id i.qty i.top=(i.a,0,26):=by rw[Arena.push,yOu e]
 refine zI (fun c=>Cv.cnd.mk (fun d=> ?_) (fun d=> ?_)) (fun c=> ?_)
 ·have d:¬i.n<(i.a.queues.length:Int):=by simpa using d
  rw[out (.inr (by omega))];exact kp
 ·have d:i.n<(i.a.queues.length:Int):=by simpa using d
  have hn:¬(i.n<0∨(i.a.queues.length:Int)≤i.n):=by omega
  refine zI (fun q1=> ?_) (fun q1=>zI (fun q2=> ?_) (fun q2=>Cv.cnd.mk (fun fr=> ?_) (fun fr=> ?_)))
  ·rw[Arena.push,yOr hn,yOu (.inl q1)];exact kp
  ·rw[Arena.push,yOr hn,yOu (.inr q2)];exact kp
  ·rw[Arena.push,yOr hn,yOr (by omega),yOu (by simpa using fr)];exact kp
  ·have fr:i.a.free≠0:=by simpa using fr
   have ep:i.a.push i.n i.id i.qty i.top=(i.a.put i.n i.id i.qty i.top,qB i.a.slots,0):=by rw[Arena.push,yOr hn,yOr (by omega),yOr fr]
   obtain⟨k,hk,hkl⟩:=z5w (h2 fr)
   obtain⟨q,hq⟩:=z8 (l:=i.a.queues) (i:=i.n.toNat) (by omega)
   have hqm:=yPe hq
   have hl:=h3 q hqm
   obtain⟨s,hs⟩:=z8 hkl
   refine⟨i.a.slots,rfl,h1,fun _ _=>⟨⟨by omega,by omega⟩,q.last,elA hq (by simp[zM]) rfl,⟨by omega,by omega⟩,by rw[hk];exact hkl,q.last,elA hq (by simp[zM]) rfl,?_⟩⟩
   rw[ep]
   have eput:i.a.put i.n i.id i.qty i.top=⟨if q.last= -1 then i.a.slots.set k ⟨true,k,i.id,i.qty,i.top,i.n,q.last,-1⟩else(i.a.slots.set k ⟨true,k,i.id,i.qty,i.top,i.n,q.last,-1⟩).modify q.last.toNat fun s=>{s with back:=k},i.a.queues.set i.n.toNat ⟨if q.last= -1 then k else q.first,k,IntKind.i64.wrap (q.total+i.qty),IntKind.i64.wrap (q.count+1)⟩,IntKind.i64.wrap (i.a.free-1)⟩:=by
    simp only[Arena.put,zQ hq,hk,yPj]
   rw[eput,hk]
   simp only[yPj]
   have es:yA (List.map zP i.a.slots) k 0 [D.v (.bool true),D.v (.int .i64 k),D.v (.int .i64 i.id),D.v (.int .i64 i.qty),D.v (.bool i.top),D.v (.int .i64 i.n),D.v (.int .i64 q.last),D.v (.int .i64 (-1))]=List.map zP (i.a.slots.set k ⟨true,k,i.id,i.qty,i.top,i.n,q.last,-1⟩):=yD hs rfl
   rw[es]
   refine Cv.cnd.mk (fun e=> ?_) (fun e=> ?_)
   ·have e:q.last= -1:=by simpa using e
    have e1:yA (List.map zM i.a.queues) i.n.toNat (0+0) [D.v (.int .i64 k)]=List.map zM (i.a.queues.set i.n.toNat {q with first:=k}):=yD hq rfl
    have g1:=wI (y:={q with first:=(k:Int)}) hq
    have e2:yA (List.map zM (i.a.queues.set i.n.toNat {q with first:=k})) i.n.toNat (0+1) [D.v (.int .i64 k)]=List.map zM (i.a.queues.set i.n.toNat {q with first:=k,last:=k}):=by
     rw[yD g1 (y:={q with first:=(k:Int),last:=(k:Int)}) rfl,ySq]
    have g2:=wI (y:={q with first:=(k:Int),last:=(k:Int)}) hq
    have e3:yA (List.map zM (i.a.queues.set i.n.toNat {q with first:=k,last:=k})) i.n.toNat (0+2) [D.v (.int .i64 (IntKind.i64.wrap (q.total+i.qty)))]=List.map zM (i.a.queues.set i.n.toNat {q with first:=k,last:=k,total:=IntKind.i64.wrap (q.total+i.qty)}):=by
     rw[yD g2 (y:={q with first:=(k:Int),last:=(k:Int),total:=IntKind.i64.wrap (q.total+i.qty)}) rfl,ySq]
    have g3:=wI (y:={q with first:=(k:Int),last:=(k:Int),total:=IntKind.i64.wrap (q.total+i.qty)}) hq
    have e4:yA (List.map zM (i.a.queues.set i.n.toNat {q with first:=k,last:=k,total:=IntKind.i64.wrap (q.total+i.qty)})) i.n.toNat (0+3) [D.v (.int .i64 (IntKind.i64.wrap (q.count+1)))]=List.map zM (i.a.queues.set i.n.toNat ⟨k,k,IntKind.i64.wrap (q.total+i.qty),IntKind.i64.wrap (q.count+1)⟩):=by
     rw[yD g3 (y:=⟨k,k,IntKind.i64.wrap (q.total+i.qty),IntKind.i64.wrap (q.count+1)⟩) rfl,ySq]
    rw[e1,e2]
    simp only[yOu e]
    refine⟨by omega,by simp only[yOs,yPw];omega,q.total,elA g2 (by simp[zM]) rfl,by simp only[yOs,yPw];omega,q.count,?_,by rw[e3];simp only[yOs,yPw];omega,(),?_⟩
    ·rw[e3];exact elA g3 (by simp[zM]) rfl
    ·rw[e3,e4];exact kp
   ·have e:¬q.last= -1:=by simpa using e
    have hl:0≤q.last∧q.last<i.a.slots.length:=hl.resolve_left e
    have e2:yA (List.map zM i.a.queues) i.n.toNat (0+1) [D.v (.int .i64 k)]=List.map zM (i.a.queues.set i.n.toNat {q with last:=k}):=yD hq rfl
    have g2:=wI (y:={q with last:=(k:Int)}) hq
    have e3:yA (List.map zM (i.a.queues.set i.n.toNat {q with last:=k})) i.n.toNat (0+2) [D.v (.int .i64 (IntKind.i64.wrap (q.total+i.qty)))]=List.map zM (i.a.queues.set i.n.toNat {q with last:=k,total:=IntKind.i64.wrap (q.total+i.qty)}):=by
     rw[yD g2 (y:={q with last:=(k:Int),total:=IntKind.i64.wrap (q.total+i.qty)}) rfl,ySq]
    have g3:=wI (y:={q with last:=(k:Int),total:=IntKind.i64.wrap (q.total+i.qty)}) hq
    have e4:yA (List.map zM (i.a.queues.set i.n.toNat {q with last:=k,total:=IntKind.i64.wrap (q.total+i.qty)})) i.n.toNat (0+3) [D.v (.int .i64 (IntKind.i64.wrap (q.count+1)))]=List.map zM (i.a.queues.set i.n.toNat ⟨q.first,k,IntKind.i64.wrap (q.total+i.qty),IntKind.i64.wrap (q.count+1)⟩):=by
     rw[yD g3 (y:=⟨q.first,k,IntKind.i64.wrap (q.total+i.qty),IntKind.i64.wrap (q.count+1)⟩) rfl,ySq]
    obtain⟨s2,hs2⟩:=z8 (l:=i.a.slots.set k ⟨true,k,i.id,i.qty,i.top,i.n,q.last,-1⟩) (i:=q.last.toNat) (by rw[yPw];omega)
    have e5:yA (List.map zP (i.a.slots.set k ⟨true,k,i.id,i.qty,i.top,i.n,q.last,-1⟩)) q.last.toNat (0+7) [D.v (.int .i64 k)]=List.map zP ((i.a.slots.set k ⟨true,k,i.id,i.qty,i.top,i.n,q.last,-1⟩).modify q.last.toNat fun s=>{s with back:=k}):=by
     rw[yD hs2 (y:={s2 with back:=(k:Int)}) rfl,gK hs2]
    rw[e2]
    simp only[yOr e]
    refine⟨q.last,elA hq (by simp[zM]) rfl,⟨by omega,by simp only[yOs,yPw];omega⟩,by simp only[yOs,yPw];omega,by omega,q.total,elA g2 (by simp[zM]) rfl,by simp only[yOs,yPw];omega,q.count,?_,by rw[e3];simp only[yOs,yPw];omega,(),?_⟩
    ·rw[e3];exact elA g3 (by simp[zM]) rfl
    ·rw[e3,e4,e5];exact kp
 ·rw[out (.inl (by omega))];exact kp
theorem zPy:apushC.ok Tryz.prog 225:=okw mixed (gokc zUg gok0) 1 (fun _=>[]) (fun _=>[]) [0] Tryz.func225 yIc
theorem bV {s price:Int}:∀{l:List y3} {j:Nat},j≤l.length→(∀k<j,∀r,l[k]? =some r→btr s r.price price=true)→(∀r,l[j]? =some r→btr s r.price price=false)→zS s l price=j
 |[],j,hj,_,_=>by
  obtain rfl:j=0:=by simpa using hj
  rfl
 |r::l,0,_,_,he=>by
  have:=he r rfl
  rw[zS,List.takeWhile_cons,this];rfl
 |r::l,j+1,hj,h,he=>by
  have h0:=h 0 (by omega) r rfl
  have ih:=bV (l:=l) (j:=j) (by simpa using hj) (fun k hk x hx=>h (k+1) (by omega) x (by simpa using hx)) (fun x hx=>he x (by simpa using hx))
  rw[zS]at ih ⊢
  rw[List.takeWhile_cons,h0,yOu rfl,yOy,ih]
theorem lS (s price:Int) (l:List y3):zS s l price≤l.length:=(List.takeWhile_sublist _).length_le
theorem aC (b:Book):b.rungs 1=b.buys:=rfl
theorem mS (b:Book):b.rungs 2=b.sells:=rfl
theorem yHw (i:BkP) (h:find1C.cnd i):z6i i:=by
 obtain⟨_,h1,h2,_⟩:i.b.small:=h
 unfold z6i rT zBc zBx u7 xA a8 j9 dI
 simp only[yOs,aC]
 refine⟨0,rfl,fun j=>j≤i.b.buys.length∧∀k<j,∀r,i.b.buys[k]? =some r→btr 1 r.price i.price=true,fun j=>i.b.buys.length-j,⟨by omega,fun k hk=>by omega⟩,?_⟩
 rintro j ⟨h3,h4⟩
 refine zI (fun hj=> ?_) (fun hj=> ?_)
 ·obtain⟨r,hr⟩:=z8 (l:=i.b.buys) (i:=j) (by omega)
  refine⟨⟨by omega,by omega⟩,r.price,elA hr (by simp[zB]) rfl,⟨1,r.price,i.price⟩,rfl,rfl,rfl,trivial,fun _ _=> ?_⟩
  dsimp only
  refine Cv.cnd.mk (fun e=>⟨j+1,by rw[w64 (by omega)];rfl,⟨by omega,fun k hk x hx=> ?_⟩,by(first|omega|(dsimp only;omega)),by(repeat'(first|exact trivial|exact rfl|apply And.intro))⟩) (fun e=>zI (fun _=> ?_) (fun c=>absurd hj c))
  ·rcases yRn k j with hk'|hk'
   ·exact h4 k hk' x hx
   ·obtain rfl:k=j:=by omega
    rw[hr]at hx;cases hx;exact e
  ·have en:zS 1 i.b.buys i.price=j:=bV h3 h4 fun x hx=>by rw[hr]at hx;cases hx;exact e
   have eb:x6 1 i.b.buys i.price=(r.price==i.price):=by rw[x6,en,hr];exact(zRb _ _).symm
   refine⟨⟨by omega,by omega⟩,r.price,elA hr (by simp[zB]) rfl,(),by rw[en],eb,?_⟩
   (repeat'(first|exact trivial|exact rfl|apply And.intro))
 ·have en:zS 1 i.b.buys i.price=j:=bV h3 h4 fun x hx=>by have:=(yOt.1 hx).1;omega
  have eb:x6 1 i.b.buys i.price=false:=by rw[x6,en,yPt (by omega)]
  refine zI (fun c=>absurd c hj) (fun _=>⟨(),by rw[en],eb,?_⟩)
  (repeat'(first|exact trivial|exact rfl|apply And.intro))
theorem zHq:find1C.ok Tryz.prog 228:=okw mixed (gokc fX gok0) 0 (fun _=>[]) (fun _=>yEe) [] Tryz.func228 yHw
theorem kD (l:List (Int×Place)) (k:Int):∀(p:Value×List D),p∈atE l→like (Value.int IntKind.i64 k) p.1=true:=by
 intro p hp
 obtain⟨x,_,rfl⟩:=yQk.1 hp
 rfl
theorem rB (k:Int):∀l:List (Int×Place),wF (Value.int IntKind.i64 k) (atE l)=(pget l k).map zTc
 |[]=>rfl
 |(a,v)::l=>by
  have ih:=rB k l
  show(bif (keq .i64 .i64 && decide (k=a))then _ else wF _ (atE l))=_
  by_cases h:k=a
  ·subst h;simp[pget,keq]
  ·have h':¬a=k:=fun e=>h e.symm
   rw[show(keq .i64 .i64 && decide (k=a))=false by simp[h],cond_false,ih]
   simp[pget,List.find?_cons,h']
def zBe:Place:=⟨0,0,0⟩
theorem zJy (l:List (Int×Place)) (k:Int):wF (Value.int IntKind.i64 k) (atE l)=some [D.v (.int .i64 ((pget l k).getD zBe).side),D.v (.int .i64 ((pget l k).getD zBe).price),D.v (.int .i64 ((pget l k).getD zBe).slot)]∧(pget l k).isSome=true∨wF (Value.int IntKind.i64 k) (atE l)=none∧[D.v (.int .i64 ((pget l k).getD zBe).side),D.v (.int .i64 ((pget l k).getD zBe).price),D.v (.int .i64 ((pget l k).getD zBe).slot)]=[D.v (.int .i64 0),D.v (.int .i64 0),D.v (.int .i64 0)]∧(pget l k).isSome=false:=by
 rw[rB]
 cases pget l k with
 |none=>exact .inr ⟨rfl,rfl,rfl⟩
 |some v=>exact .inl ⟨rfl,rfl⟩
theorem zMa (k:Int) (v:Place):∀l,uD (Value.int IntKind.i64 k) (zTc v) (atE l)=atE (aQ k v l)
 |[]=>rfl
 |(a,b)::l=>by
  have ih:=zMa k v l
  show(bif (keq .i64 .i64 && decide (k=a))then _ else _::uD _ _ (atE l))=_
  rw[ih,aQ]
  by_cases h:k=a
  ·subst h;simp[keq,atE]
  ·simp[h,atE]
theorem yGr (i:LdI) (h:lead1C.cnd i):z6t i:=by
 obtain⟨⟨ha,_⟩,h1,h2,_⟩:i.b.small:=h
 unfold z6t tJ sU aD hU dI
 have no (e:i.b.untop 1=i.b.a):AObj.adt Arena 3 zE (i.b.untop 1)=zO i.b 1:=by rw[e];rfl
 refine Cv.cnd.mk (fun c=> ?_) (fun c=>⟨(),?_⟩)
 ·have c:i.b.hasF 1=true:=c
  refine⟨kD _ _,(pget i.b.at_ i.b.top1).isSome,_,_,_,zJy _ _,⟨kD _ _,(pget i.b.at_ i.b.top1).isSome,_,_,_,zJy _ _,⟨rfl,rfl,rfl,trivial⟩,rfl,trivial⟩,rfl,trivial,Cv.cnd.mk (fun d=>Cv.cnd.mk (fun e=> ?_) (fun e=>⟨(),?_⟩)) (fun d=>⟨(),?_⟩)⟩
  ·obtain⟨o,ho⟩:=yUb.1 d
   have e:o.side=1:=by rw[ho]at e;simpa using e
   have eu:i.b.untop 1=i.b.a.topF o.slot false:=by
    have ht:pget i.b.at_ (i.b.topI 1)=some o:=ho
    rw[Book.untop,yOu c,ht];dsimp only;rw[yOu e]
   refine⟨⟨i.b.a,o.slot,false⟩,by rw[ho];rfl,rfl,rfl,ha,fun _ _=>⟨(),?_⟩⟩
   rw[eu];(repeat'(first|exact trivial|exact rfl|apply And.intro))
  ·obtain⟨o,ho⟩:=yUb.1 d
   have e:¬o.side=1:=by rw[ho]at e;simpa using e
   have ht:pget i.b.at_ (i.b.topI 1)=some o:=ho
   rw[no (by rw[Book.untop,yOu c,ht];dsimp only;rw[yOr e])];(repeat'(first|exact trivial|exact rfl|apply And.intro))
  ·have ht:pget i.b.at_ (i.b.topI 1)=none:=by
    show pget i.b.at_ i.b.top1=none
    simpa using d
   rw[no (by rw[Book.untop,yOu c,ht])];(repeat'(first|exact trivial|exact rfl|apply And.intro))
 ·have c:¬i.b.hasF 1=true:=by rw[show i.b.hasF 1=i.b.has1 from rfl,c];decide
  rw[no (by rw[Book.untop,yOr c])];(repeat'(first|exact trivial|exact rfl|apply And.intro))
theorem z3i:lead1C.ok Tryz.prog 224:=okw mixed (gokc zYi gok0) 0 (fun _=>[]) (fun _=>[]) [] Tryz.func224 yGr
theorem zPh {s price:Int} {l:List y3} (h:x6 s l price=true):∃r,l[zS s l price]? =some r:=by
 rw[x6]at h
 split at h
 ·rename_i r hr;exact⟨r,hr⟩
 ·cases h
theorem yCk (i:BkP) (h:queue1C.cnd i):zYl i:=by
 obtain⟨⟨ha,_⟩,ha',h1,h2,h3⟩:i.b.fit:=h
 have hle:=lS 1 i.price i.b.buys
 unfold zYl zJ vS vY cF cA j8 v8 j9 xJ xA dI
 refine⟨i,rfl,rfl,rfl,rfl,rfl,rfl,rfl,rfl,rfl,rfl,rfl,⟨⟨ha,by omega⟩,by omega,by omega,by omega⟩,fun _ _=> ?_⟩
 simp only[yOs,y6,aC]
 refine Cv.cnd.mk (fun c=> ?_) (fun c=> ?_)
 ·obtain⟨r,hr⟩:=zPh c
  have hlt:=(yOt.1 hr).1
  have e:i.b.queueF 1 i.price=(i.b,r.queue):=by rw[Book.queueF,yOu (by rw[aC];exact c),aC,zQ hr]
  rw[e]
  refine⟨⟨by omega,by omega⟩,r.queue,elA (by simpa using hr) (by simp[zB]) rfl,(),?_⟩
  (repeat'(first|exact trivial|exact rfl|apply And.intro))
 ·have e:i.b.queueF 1 i.price=({i.b with a:=i.b.newQ.2.2,buys:=i.b.ins 1 i.price,spare:=i.b.newQ.2.1},i.b.newQ.1):=by
   rw[Book.queueF,yOr (by rw[aC,c];decide),yOu rfl]
  have hins:List.map zB (i.b.ins 1 i.price)=List.take (zS 1 i.b.buys i.price) (List.map zB i.b.buys)++zB ⟨i.price,i.b.newQ.1⟩::List.drop (zS 1 i.b.buys i.price) (List.map zB i.b.buys):=by
   rw[Book.ins,aC,yPc,yPd,ySr,yTu]
  rw[e]
  refine zI (fun d=> ?_) (fun d=> ?_)
  ·have w:IntKind.i64.wrap ((i.b.spare.length:Int)-1)=((i.b.spare.length-1:Nat):Int):=by rw[w64 (by omega)];omega
   rw[w]
   simp only[yPj]
   obtain⟨q,hq⟩:=z8 (l:=i.b.spare) (i:=i.b.spare.length-1) (by omega)
   have eq:i.b.newQ=(q,i.b.spare.take (i.b.spare.length-1),i.b.a):=by rw[Book.newQ,yOr (by omega),zQ hq]
   rw[eq]at hins ⊢
   refine⟨⟨by omega,by omega⟩,q,elI hq,⟨by omega,by omega⟩,trivial,⟨i.b.buys.map zB,zB ⟨i.price,q⟩,zS 1 i.b.buys i.price⟩,rfl,rfl,rfl,⟨by rw[yOs];exact hle,by rw[yOs];omega⟩,fun _ _=>⟨(),?_⟩⟩
   have hs:iE (i.b.spare.take (i.b.spare.length-1))=(iE i.b.spare).take (i.b.spare.length-1):=by simp only[iE,ySr]
   exact kp
  ·have eq:i.b.newQ=((i.b.a.queues.length:Int),i.b.spare,i.b.a.openQ):=by rw[Book.newQ,yOu (by omega)]
   rw[eq]at hins ⊢
   refine⟨i.b.a,rfl,by omega,fun _ _=>⟨trivial,⟨i.b.buys.map zB,zB ⟨i.price,i.b.a.queues.length⟩,zS 1 i.b.buys i.price⟩,rfl,rfl,rfl,⟨by rw[yOs];exact hle,by rw[yOs];omega⟩,fun _ _=>⟨(),?_⟩⟩⟩
   exact kp
theorem zCi:wV Tryz.prog 238=some (301,2,16,#[.int .i64 0,.int .i64 0]):=by kernel_rfl
theorem zYh:insRC.ok Tryz.prog 261:=
 insX_ok (tS:=238) (tI:=3) (fO:=279) (fR:=280) (z:= #[.int .i64 0,.int .i64 0]) mixed Tryz.func261 rfl (by kernel_rfl) (by kernel_rfl) (by kernel_rfl) (by kernel_rfl) zCi rfl (by decide) (by decide) (by kernel_rfl) Tryz.underlying3
  (yAi (tS:=238) (tB:=4) Tryz.func279 (by kernel_rfl) (by kernel_rfl) (by kernel_rfl) (by kernel_rfl) zCi) (fun s sn sk i v vn vk w R=>by kernel_rfl)
theorem z0j:queue1C.ok Tryz.prog 226:=okw mixed (gokc zHq (gokc zQv (gokc zYh gok0))) 0 (fun _=>[]) (fun _=>[]) [] Tryz.func226 yCk
theorem yIe (i:BkP) (h:find2C.cnd i):z6k i:=by
 obtain⟨_,h1,h2,_⟩:i.b.small:=h
 unfold z6k zBt zBb xB u7 mT j0 rT dI
 simp only[yOs,mS]
 refine⟨0,rfl,fun j=>j≤i.b.sells.length∧∀k<j,∀r,i.b.sells[k]? =some r→btr 2 r.price i.price=true,fun j=>i.b.sells.length-j,⟨by omega,fun k hk=>by omega⟩,?_⟩
 rintro j ⟨h3,h4⟩
 refine zI (fun hj=> ?_) (fun hj=> ?_)
 ·obtain⟨r,hr⟩:=z8 (l:=i.b.sells) (i:=j) (by omega)
  refine⟨⟨by omega,by omega⟩,r.price,elA hr (by simp[zB]) rfl,⟨2,r.price,i.price⟩,rfl,rfl,rfl,trivial,fun _ _=> ?_⟩
  dsimp only
  refine Cv.cnd.mk (fun e=>⟨j+1,by rw[w64 (by omega)];rfl,⟨by omega,fun k hk x hx=> ?_⟩,by(first|omega|(dsimp only;omega)),by(repeat'(first|exact trivial|exact rfl|apply And.intro))⟩) (fun e=>zI (fun _=> ?_) (fun c=>absurd hj c))
  ·rcases yRn k j with hk'|hk'
   ·exact h4 k hk' x hx
   ·obtain rfl:k=j:=by omega
    rw[hr]at hx;cases hx;exact e
  ·have en:zS 2 i.b.sells i.price=j:=bV h3 h4 fun x hx=>by rw[hr]at hx;cases hx;exact e
   have eb:x6 2 i.b.sells i.price=(r.price==i.price):=by rw[x6,en,hr];exact(zRb _ _).symm
   refine⟨⟨by omega,by omega⟩,r.price,elA hr (by simp[zB]) rfl,(),by rw[en],eb,?_⟩
   (repeat'(first|exact trivial|exact rfl|apply And.intro))
 ·have en:zS 2 i.b.sells i.price=j:=bV h3 h4 fun x hx=>by have:=(yOt.1 hx).1;omega
  have eb:x6 2 i.b.sells i.price=false:=by rw[x6,en,yPt (by omega)]
  refine zI (fun c=>absurd c hj) (fun _=>⟨(),by rw[en],eb,?_⟩)
  (repeat'(first|exact trivial|exact rfl|apply And.intro))
theorem zIh:find2C.ok Tryz.prog 228:=okw mixed (gokc fX gok0) 0 (fun _=>[]) (fun _=>yEe) [] Tryz.func228 yIe
theorem yIn (i:LdI) (h:lead2C.cnd i):z3e i:=by
 obtain⟨⟨ha,_⟩,h1,h2,_⟩:i.b.small:=h
 unfold z3e tX sF a9 hU dI
 have no (e:i.b.untop 2=i.b.a):AObj.adt Arena 3 zE (i.b.untop 2)=zO i.b 1:=by rw[e];rfl
 refine Cv.cnd.mk (fun c=> ?_) (fun c=>⟨(),?_⟩)
 ·have c:i.b.hasF 2=true:=c
  refine⟨kD _ _,(pget i.b.at_ i.b.top2).isSome,_,_,_,zJy _ _,⟨kD _ _,(pget i.b.at_ i.b.top2).isSome,_,_,_,zJy _ _,⟨rfl,rfl,rfl,trivial⟩,rfl,trivial⟩,rfl,trivial,Cv.cnd.mk (fun d=>Cv.cnd.mk (fun e=> ?_) (fun e=>⟨(),?_⟩)) (fun d=>⟨(),?_⟩)⟩
  ·obtain⟨o,ho⟩:=yUb.1 d
   have e:o.side=2:=by rw[ho]at e;simpa using e
   have eu:i.b.untop 2=i.b.a.topF o.slot false:=by
    have ht:pget i.b.at_ (i.b.topI 2)=some o:=ho
    rw[Book.untop,yOu c,ht];dsimp only;rw[yOu e]
   refine⟨⟨i.b.a,o.slot,false⟩,by rw[ho];rfl,rfl,rfl,ha,fun _ _=>⟨(),?_⟩⟩
   rw[eu];(repeat'(first|exact trivial|exact rfl|apply And.intro))
  ·obtain⟨o,ho⟩:=yUb.1 d
   have e:¬o.side=2:=by rw[ho]at e;simpa using e
   have ht:pget i.b.at_ (i.b.topI 2)=some o:=ho
   rw[no (by rw[Book.untop,yOu c,ht];dsimp only;rw[yOr e])];(repeat'(first|exact trivial|exact rfl|apply And.intro))
  ·have ht:pget i.b.at_ (i.b.topI 2)=none:=by
    show pget i.b.at_ i.b.top2=none
    simpa using d
   rw[no (by rw[Book.untop,yOu c,ht])];(repeat'(first|exact trivial|exact rfl|apply And.intro))
 ·have c:¬i.b.hasF 2=true:=by rw[show i.b.hasF 2=i.b.has2 from rfl,c];decide
  rw[no (by rw[Book.untop,yOr c])];(repeat'(first|exact trivial|exact rfl|apply And.intro))
theorem z3a:lead2C.ok Tryz.prog 224:=okw mixed (gokc zYi gok0) 0 (fun _=>[]) (fun _=>[]) [] Tryz.func224 yIn
theorem z9g (i:BkP) (h:queue2C.cnd i):zYe i:=by
 obtain⟨⟨ha,_⟩,ha',h1,h2,h3⟩:i.b.fit:=h
 have hle:=lS 2 i.price i.b.sells
 unfold zYe zL v7 j0 vS vY cF cA j8 xJ xB dI
 refine⟨i,rfl,rfl,rfl,rfl,rfl,rfl,rfl,rfl,rfl,rfl,rfl,⟨⟨ha,by omega⟩,by omega,by omega,by omega⟩,fun _ _=> ?_⟩
 simp only[yOs,y6,mS]
 refine Cv.cnd.mk (fun c=> ?_) (fun c=> ?_)
 ·obtain⟨r,hr⟩:=zPh c
  have hlt:=(yOt.1 hr).1
  have e:i.b.queueF 2 i.price=(i.b,r.queue):=by rw[Book.queueF,yOu (by rw[mS];exact c),mS,zQ hr]
  rw[e]
  refine⟨⟨by omega,by omega⟩,r.queue,elA (by simpa using hr) (by simp[zB]) rfl,(),?_⟩
  (repeat'(first|exact trivial|exact rfl|apply And.intro))
 ·have e:i.b.queueF 2 i.price=({i.b with a:=i.b.newQ.2.2,sells:=i.b.ins 2 i.price,spare:=i.b.newQ.2.1},i.b.newQ.1):=by
   rw[Book.queueF,yOr (by rw[mS,c];decide),yOr (by decide)]
  have hins:List.map zB (i.b.ins 2 i.price)=List.take (zS 2 i.b.sells i.price) (List.map zB i.b.sells)++zB ⟨i.price,i.b.newQ.1⟩::List.drop (zS 2 i.b.sells i.price) (List.map zB i.b.sells):=by
   rw[Book.ins,mS,yPc,yPd,ySr,yTu]
  rw[e]
  refine zI (fun d=> ?_) (fun d=> ?_)
  ·have w:IntKind.i64.wrap ((i.b.spare.length:Int)-1)=((i.b.spare.length-1:Nat):Int):=by rw[w64 (by omega)];omega
   rw[w]
   simp only[yPj]
   obtain⟨q,hq⟩:=z8 (l:=i.b.spare) (i:=i.b.spare.length-1) (by omega)
   have eq:i.b.newQ=(q,i.b.spare.take (i.b.spare.length-1),i.b.a):=by rw[Book.newQ,yOr (by omega),zQ hq]
   rw[eq]at hins ⊢
   refine⟨⟨by omega,by omega⟩,q,elI hq,⟨by omega,by omega⟩,trivial,⟨i.b.sells.map zB,zB ⟨i.price,q⟩,zS 2 i.b.sells i.price⟩,rfl,rfl,rfl,⟨by rw[yOs];exact hle,by rw[yOs];omega⟩,fun _ _=>⟨(),?_⟩⟩
   have hs:iE (i.b.spare.take (i.b.spare.length-1))=(iE i.b.spare).take (i.b.spare.length-1):=by simp only[iE,ySr]
   exact kp
  ·have eq:i.b.newQ=((i.b.a.queues.length:Int),i.b.spare,i.b.a.openQ):=by rw[Book.newQ,yOu (by omega)]
   rw[eq]at hins ⊢
   refine⟨i.b.a,rfl,by omega,fun _ _=>⟨trivial,⟨i.b.sells.map zB,zB ⟨i.price,i.b.a.queues.length⟩,zS 2 i.b.sells i.price⟩,rfl,rfl,rfl,⟨by rw[yOs];exact hle,by rw[yOs];omega⟩,fun _ _=>⟨(),?_⟩⟩⟩
   exact kp
theorem z0s:queue2C.ok Tryz.prog 226:=okw mixed (gokc zIh (gokc zQv (gokc zYh gok0))) 0 (fun _=>[]) (fun _=>[]) [] Tryz.func226 z9g
open Go Cv Go.Proofs
structure BaI where
 b:Book
 id:Int
 price:Int
 qty:Int
def Book.leads (b:Book) (s price:Int):Bool:=match b.rungs s with
 |[]=>true
 |r::_=>btr s price r.price
def Book.led (b:Book) (id s price:Int):Book:=if b.leads s price=true then b.leadF id s else b
def Book.stand (b:Book) (s id price qty:Int):Book:=
 let b2:=(b.led id s price).queueF s price
 let x:=b2.1.a.push b2.2 id qty (b.leads s price)
 {b2.1 with a:=x.1,at_:=aQ id ⟨s,price,x.2.1⟩ b2.1.at_}
def Book.addF (b:Book) (s id price qty:Int):Book×Int:=
 if qty<1∨1000000<qty then(b,24)else if(pget b.at_ id).isSome=true then(b,25)else if 250≤b.at_.length then(b,13)else(b.stand s id price qty,0)
def z4m (s:Int):Con:=con1 BaI (fun i=>[.nm 0 0,zA i.id,zA s,zA i.price,zA i.qty]) (fun i=>[zW i.b]) (fun i=>i.b.fit) (fun i=>zA (i.b.addF s i.id i.price i.qty).2) (fun i=>[zW (i.b.addF s i.id i.price i.qty).1])
def yCt:List (Nat×SAnn):=[(44,bj 14)]
def badd1C:Con:=z4m 1
def badd2C:Con:=z4m 2
structure BaJ where
 i:BaI
 s:Bool
def baddC:Con:=con1 BaJ (fun j=>[.nm 0 0,zA j.i.id,zA (zC j.s),zA j.i.price,zA j.i.qty]) (fun j=>[zW j.i.b]) (fun j=>j.i.b.fit) (fun j=>zA (j.i.b.addF (zC j.s) j.i.id j.i.price j.i.qty).2) (fun j=>[zW (j.i.b.addF (zC j.s) j.i.id j.i.price j.i.qty).1])
structure SaI where
 s:MSt
 inst:Int
 id:Int
 sd:Bool
 price:Int
 qty:Int
def MSt.bookAt (s:MSt) (n:Int):Book:=s.books.getD n.toNat book0
def MSt.addF (i:SaI):MSt×Int:=
 if i.inst<0∨i.s.books.length≤i.inst then(i.s,20)else if(tT i.s.wh i.id).isSome=true then(i.s,25)else if 250≤i.s.wh.length then(i.s,13)else if i.s.p.price i.inst i.price≠0 then(i.s,i.s.p.price i.inst i.price)
 else
  let x:=(i.s.bookAt i.inst).addF (zC i.sd) i.id i.price i.qty
  ({i.s with books:=i.s.books.set i.inst.toNat x.1,wh:=if x.2=0 then zSl i.id i.inst i.s.wh else i.s.wh},x.2)
@[reducible] def MSt.fit (s:MSt):Prop:=s.p.small∧s.books.length≤1000000∧∀b∈s.books,b.fit
def saddC:Con:=con1 SaI (fun i=>[.nm 0 0,zA i.inst,zA i.id,zA (zC i.sd),zA i.price,zA i.qty]) (fun i=>[zD i.s]) (fun i=>i.s.fit) (fun i=>zA (MSt.addF i).2) (fun i=>[zD (MSt.addF i).1])
open Go Cv Go.Proofs
def bY (a:PuI):Prop:=a.a.slots.length≤1000000∧(a.a.free≠0→∃(b:Slot),b∈a.a.slots∧b.used=false)∧∀(b:gM),b∈a.a.queues→b.last=(-1)∨0≤b.last∧b.last<(↑a.a.slots.length:Int)
def yG (a:BaI):=(a.b.addF 1 a.id a.price a.qty)
def rR (a:BkP):Prop:=(a.b.a.slots.length≤1000000∧(a.b.a.free≠0→∃(b:Slot),b∈a.b.a.slots∧b.used=false)∧∀(b:gM),b∈a.b.a.queues→b.last=(-1)∨0≤b.last∧b.last<(↑a.b.a.slots.length:Int))∧a.b.a.queues.length≤100000∧a.b.buys.length≤100000∧a.b.sells.length≤100000∧a.b.spare.length≤100000
def zAw (a:BkP) (b:BaI) (c:Bool):Prop:=(rR a)∧∀(d:Unit),True→True∧∃(e:PuI),e.n=(zJ a).snd∧e.id=b.id∧e.qty=b.qty∧e.top=c∧AObj.adt Arena 3 zE e.a=AObj.adt Arena 3 zE (zJ a).fst.a∧(bY e)∧∀(f:Unit),True→(∀(g:Value×List D),g∈atE (zJ a).fst.at_→like (Value.int IntKind.i64 b.id) g.fst=true)∧∃(g:Unit),(yG b).snd=0∧(yG b).fst.top1=(zJ a).fst.top1∧(yG b).fst.top2=(zJ a).fst.top2∧(yG b).fst.has1=(zJ a).fst.has1∧(yG b).fst.has2=(zJ a).fst.has2∧AObj.adt Arena 3 zE (yG b).fst.a=AObj.adt Arena 3 zE (yE e).fst∧List.map zB (yG b).fst.buys=List.map zB (zJ a).fst.buys∧List.map zB (yG b).fst.sells=List.map zB (zJ a).fst.sells∧atE (yG b).fst.at_=uD (Value.int IntKind.i64 b.id) [dI 1,dI b.price,dI ((yE e).snd.fst)] (atE (zJ a).fst.at_)∧iE (yG b).fst.spare=iE (zJ a).fst.spare∧True
def rH (a:Bool→Prop) (b:Bool) (c:Int) (d:Int) (e:Int) (f:BaI):Prop:=a b∧Sx.AObj.cells [V.d (dI c),V.d (dI d),V.d (dI e)] 235=Sx.AObj.cells [V.d (dI c),V.d (dI d),V.d (dI e)] 235∧Sx.AObj.cells (wT (qQ 0 1 6) [V.nm 1 0,V.own 2,V.own 3,V.mp 4,zA f.b.top1,zA f.b.top2,V.own 5,yB f.b.has1,yB f.b.has2]) (244:TypeId)=Sx.AObj.cells (wT (qQ 0 1 6) [V.nm 1 0,V.own 2,V.own 3,V.mp 4,zA f.b.top1,zA f.b.top2,V.own 5,yB f.b.has1,yB f.b.has2]) (244:TypeId)∧AObj.adt Arena 3 zE f.b.a=AObj.adt Arena 3 zE f.b.a∧AObj.own 301 2 (List.map zB f.b.buys)=AObj.own 301 2 (List.map zB f.b.buys)∧AObj.own 301 2 (List.map zB f.b.sells)=AObj.own 301 2 (List.map zB f.b.sells)∧Sx.AObj.map (atE f.b.at_)=Sx.AObj.map (atE f.b.at_)∧AObj.own 3 1 (iE f.b.spare)=AObj.own 3 1 (iE f.b.spare)
def pO (a:I3') (b:BaI) (c:Int) (d:Bool→Prop) (e:Int) (f:Int) (g:Int):Prop:=a.x=b.price∧a.y=c∧True∧∀(h:Unit),True→∃(j:Bool),j=btr a.side a.x a.y∧rH d j e f g b
def pH (a:Bool→Prop) (b:Int) (c:Int) (d:Int) (e:BaI):Prop:=∃(f:Bool),f=true∧rH a f b c d e
def bR (a:BaI):Prop:=(yG a).fst.top1=a.b.top1∧(yG a).fst.top2=a.b.top2∧(yG a).fst.has1=a.b.has1∧(yG a).fst.has2=a.b.has2∧AObj.adt Arena 3 zE (yG a).fst.a=AObj.adt Arena 3 zE a.b.a∧List.map zB (yG a).fst.buys=List.map zB a.b.buys∧List.map zB (yG a).fst.sells=List.map zB a.b.sells∧atE (yG a).fst.at_=atE a.b.at_∧iE (yG a).fst.spare=iE a.b.spare∧True
def zAs (a:BaI):Prop:=∃(b:Unit),(yG a).snd=24∧bR a
def aT (a:BaI) (b:Int) (c:Int) (d:Int) (e:Bool):Prop:=wF (Value.int IntKind.i64 a.id) (atE a.b.at_)=some [dI b,dI c,dI d]∧e=true∨wF (Value.int IntKind.i64 a.id) (atE a.b.at_)=none∧[dI b,dI c,dI d]=[dI 0,dI 0,dI 0]∧e=false
def mN (a:LdI):Prop:=(a.b.a.slots.length≤1000000∧a.b.a.queues.length≤1000000)∧a.b.buys.length≤1000000∧a.b.sells.length≤1000000∧a.b.spare.length≤1000000
def xX (a:Int):=(!(decide (a=1)||decide (a=2)))
def z6s (i:BaI):Prop:=
 (∀(a:Value×List D),a∈atE i.b.at_→like (Value.int IntKind.i64 i.id) a.fst=true)∧∃(a:Bool),∃(b:Int),∃(c:Int),∃(d:Int),(aT i b c d a)∧∃(e:Int),e=1∧True∧∀(f:Unit),True→cnd (xX e) (∃(g:Unit),(yG i).snd=21∧bR i) (cnd (decide (i.qty<1)) (zAs i) (cnd (decide (i.qty>1000000)) (zAs i) (cnd a (∃(g:Unit),(yG i).snd=25∧bR i) (cnd (decide ((↑(atE i.b.at_).length:Int)≥250)) (∃(g:Unit),(yG i).snd=13∧bR i) (∃(g:Bool),∃(h:Bool→Prop),cnd ((↑(List.map zB i.b.buys).length:Int)==0) (pH h b c d i) (((0:Int)≤(0:Int)∧0<(↑(List.map zB i.b.buys).length:Int))∧∃(j:Int),zF (List.map zB i.b.buys) (Int.toNat 0) ((0:Nat)+(0:Nat)) 1=some [dI j]∧∃(k:I3'),k.side=1∧pO k i j h b c d)∧∀(j:Bool),h j→cnd j (∃(k:LdI),k.id=i.id∧(1:Int)=(1:Int)∧k.b.top1=i.b.top1∧k.b.top2=i.b.top2∧k.b.has1=i.b.has1∧k.b.has2=i.b.has2∧AObj.adt Arena 3 zE k.b.a=AObj.adt Arena 3 zE i.b.a∧List.map zB k.b.buys=List.map zB i.b.buys∧List.map zB k.b.sells=List.map zB i.b.sells∧atE k.b.at_=atE i.b.at_∧iE k.b.spare=iE i.b.spare∧(mN k)∧∀(l:Unit),True→∃(m:BkP),(1:Int)=(1:Int)∧m.price=i.price∧m.b.top1=k.id∧m.b.top2=k.b.top2∧m.b.has1=true∧m.b.has2=k.b.has2∧AObj.adt Arena 3 zE m.b.a=AObj.adt Arena 3 zE (k.b.untop 1)∧List.map zB m.b.buys=List.map zB k.b.buys∧List.map zB m.b.sells=List.map zB k.b.sells∧atE m.b.at_=atE k.b.at_∧iE m.b.spare=iE k.b.spare∧zAw m i j) (∃(k:BkP),(1:Int)=(1:Int)∧k.price=i.price∧k.b.top1=i.b.top1∧k.b.top2=i.b.top2∧k.b.has1=i.b.has1∧k.b.has2=i.b.has2∧AObj.adt Arena 3 zE k.b.a=AObj.adt Arena 3 zE i.b.a∧List.map zB k.b.buys=List.map zB i.b.buys∧List.map zB k.b.sells=List.map zB i.b.sells∧atE k.b.at_=atE i.b.at_∧iE k.b.spare=iE i.b.spare∧zAw k i j))))))
def yH (a:BaI):=(a.b.addF 2 a.id a.price a.qty)
def zCd (a:BkP) (b:BaI) (c:Bool):Prop:=(rR a)∧∀(d:Unit),True→True∧∃(e:PuI),e.n=(zL a).snd∧e.id=b.id∧e.qty=b.qty∧e.top=c∧AObj.adt Arena 3 zE e.a=AObj.adt Arena 3 zE (zL a).fst.a∧(bY e)∧∀(f:Unit),True→(∀(g:Value×List D),g∈atE (zL a).fst.at_→like (Value.int IntKind.i64 b.id) g.fst=true)∧∃(g:Unit),(yH b).snd=0∧(yH b).fst.top1=(zL a).fst.top1∧(yH b).fst.top2=(zL a).fst.top2∧(yH b).fst.has1=(zL a).fst.has1∧(yH b).fst.has2=(zL a).fst.has2∧AObj.adt Arena 3 zE (yH b).fst.a=AObj.adt Arena 3 zE (yE e).fst∧List.map zB (yH b).fst.buys=List.map zB (zL a).fst.buys∧List.map zB (yH b).fst.sells=List.map zB (zL a).fst.sells∧atE (yH b).fst.at_=uD (Value.int IntKind.i64 b.id) [dI 2,dI b.price,dI ((yE e).snd.fst)] (atE (zL a).fst.at_)∧iE (yH b).fst.spare=iE (zL a).fst.spare∧True
def cX (a:BaI):Prop:=(yH a).fst.top1=a.b.top1∧(yH a).fst.top2=a.b.top2∧(yH a).fst.has1=a.b.has1∧(yH a).fst.has2=a.b.has2∧AObj.adt Arena 3 zE (yH a).fst.a=AObj.adt Arena 3 zE a.b.a∧List.map zB (yH a).fst.buys=List.map zB a.b.buys∧List.map zB (yH a).fst.sells=List.map zB a.b.sells∧atE (yH a).fst.at_=atE a.b.at_∧iE (yH a).fst.spare=iE a.b.spare∧True
def zBz (a:BaI):Prop:=∃(b:Unit),(yH a).snd=24∧cX a
def z2e (i:BaI):Prop:=
 (∀(a:Value×List D),a∈atE i.b.at_→like (Value.int IntKind.i64 i.id) a.fst=true)∧∃(a:Bool),∃(b:Int),∃(c:Int),∃(d:Int),(aT i b c d a)∧∃(e:Int),e=2∧True∧∀(f:Unit),True→cnd (xX e) (∃(g:Unit),(yH i).snd=21∧cX i) (cnd (decide (i.qty<1)) (zBz i) (cnd (decide (i.qty>1000000)) (zBz i) (cnd a (∃(g:Unit),(yH i).snd=25∧cX i) (cnd (decide ((↑(atE i.b.at_).length:Int)≥250)) (∃(g:Unit),(yH i).snd=13∧cX i) (∃(g:Bool),∃(h:Bool→Prop),cnd ((↑(List.map zB i.b.sells).length:Int)==0) (pH h b c d i) (((0:Int)≤(0:Int)∧0<(↑(List.map zB i.b.sells).length:Int))∧∃(j:Int),zF (List.map zB i.b.sells) (Int.toNat 0) ((0:Nat)+(0:Nat)) 1=some [dI j]∧∃(k:I3'),k.side=2∧pO k i j h b c d)∧∀(j:Bool),h j→cnd j (∃(k:LdI),k.id=i.id∧(2:Int)=(2:Int)∧k.b.top1=i.b.top1∧k.b.top2=i.b.top2∧k.b.has1=i.b.has1∧k.b.has2=i.b.has2∧AObj.adt Arena 3 zE k.b.a=AObj.adt Arena 3 zE i.b.a∧List.map zB k.b.buys=List.map zB i.b.buys∧List.map zB k.b.sells=List.map zB i.b.sells∧atE k.b.at_=atE i.b.at_∧iE k.b.spare=iE i.b.spare∧(mN k)∧∀(l:Unit),True→∃(m:BkP),(2:Int)=(2:Int)∧m.price=i.price∧m.b.top1=k.b.top1∧m.b.top2=k.id∧m.b.has1=k.b.has1∧m.b.has2=true∧AObj.adt Arena 3 zE m.b.a=AObj.adt Arena 3 zE (k.b.untop 2)∧List.map zB m.b.buys=List.map zB k.b.buys∧List.map zB m.b.sells=List.map zB k.b.sells∧atE m.b.at_=atE k.b.at_∧iE m.b.spare=iE k.b.spare∧zCd m i j) (∃(k:BkP),(2:Int)=(2:Int)∧k.price=i.price∧k.b.top1=i.b.top1∧k.b.top2=i.b.top2∧k.b.has1=i.b.has1∧k.b.has2=i.b.has2∧AObj.adt Arena 3 zE k.b.a=AObj.adt Arena 3 zE i.b.a∧List.map zB k.b.buys=List.map zB i.b.buys∧List.map zB k.b.sells=List.map zB i.b.sells∧atE k.b.at_=atE i.b.at_∧iE k.b.spare=iE i.b.spare∧zCd k i j))))))
def zCn (a:SaI):Prop:=AObj.fro 1 (iE (MSt.addF a).fst.p.months)=AObj.fro 1 (iE a.s.p.months)∧AObj.fro 1 (iE (MSt.addF a).fst.p.settle)=AObj.fro 1 (iE a.s.p.settle)∧True
def zBy (a:SaI):Prop:=yM (MSt.addF a).fst.wh=yM a.s.wh∧zCn a
def nE (a:SaI):Prop:=sb (MSt.addF a).fst.p.code=sb a.s.p.code∧(MSt.addF a).fst.p.tick=a.s.p.tick∧(MSt.addF a).fst.p.low=a.s.p.low∧(MSt.addF a).fst.p.high=a.s.p.high∧(MSt.addF a).fst.p.wide=a.s.p.wide∧(MSt.addF a).fst.p.rule=a.s.p.rule∧(MSt.addF a).fst.p.top=a.s.p.top∧(MSt.addF a).fst.p.least=a.s.p.least∧(MSt.addF a).fst.p.part=a.s.p.part∧AObj.objs 184 Book 6 zO (MSt.addF a).fst.books none=AObj.objs 184 Book 6 zO a.s.books none∧zBy a
def zHv (a:SaI):Prop:=∃(b:Unit),(MSt.addF a).snd=20∧nE a
def bU (a:BaJ):=(a.i.b.addF (zC a.s) a.i.id a.i.price a.i.qty)
def yCv (i:SaI):Prop:=
 (∀(a:Value×List D),a∈yM i.s.wh→like (Value.int IntKind.i64 i.id) a.fst=true)∧∃(a:Bool),∃(b:Int),(wF (Value.int IntKind.i64 i.id) (yM i.s.wh)=some [dI b]∧a=true∨wF (Value.int IntKind.i64 i.id) (yM i.s.wh)=none∧[dI b]=[dI 0]∧a=false)∧cnd (decide (i.inst≥0)) (cnd (!decide (i.inst<(↑i.s.books.length:Int))) (zHv i) (cnd a (∃(c:Unit),(MSt.addF i).snd=25∧nE i) (cnd (decide ((↑(yM i.s.wh).length:Int)≥250)) (∃(c:Unit),(MSt.addF i).snd=13∧nE i) (∃(c:mY),sb c.p.code=sb i.s.p.code∧iE c.p.months=iE i.s.p.months∧c.p.tick=i.s.p.tick∧c.p.low=i.s.p.low∧c.p.high=i.s.p.high∧c.p.wide=i.s.p.wide∧c.p.rule=i.s.p.rule∧c.p.top=i.s.p.top∧c.p.least=i.s.p.least∧c.p.part=i.s.p.part∧iE c.p.settle=iE i.s.p.settle∧c.a=i.inst∧c.b=i.price∧(xH c)∧∀(d:Unit),True→cnd (c.p.price c.a c.b !=0) (∃(e:Unit),(MSt.addF i).snd=c.p.price c.a c.b∧nE i) ((0≤i.inst∧i.inst<(↑i.s.books.length:Int))∧i.inst.toNat<i.s.books.length∧∃(e:Book),i.s.books[i.inst.toNat]?=some e∧∃(f:BaJ),f.i.id=i.id∧zC f.s=zC i.sd∧f.i.price=i.price∧f.i.qty=i.qty∧zW f.i.b=zW e∧((f.i.b.a.slots.length≤1000000∧(f.i.b.a.free≠0→∃(g:Slot),g∈f.i.b.a.slots∧g.used=false)∧∀(g:gM),g∈f.i.b.a.queues→g.last=(-1)∨0≤g.last∧g.last<(↑f.i.b.a.slots.length:Int))∧f.i.b.a.queues.length≤100000∧f.i.b.buys.length≤100000∧f.i.b.sells.length≤100000∧f.i.b.spare.length≤100000)∧∀(g:Unit),True→∃(h:Book),zW (bU f).fst=zW h∧i.inst.toNat=i.inst.toNat∧i.inst.toNat<i.s.books.length∧cnd ((bU f).snd==0) ((∀(j:Value×List D),j∈yM i.s.wh→like (Value.int IntKind.i64 i.id) j.fst=true)∧∃(j:Unit),(MSt.addF i).snd=(bU f).snd∧sb (MSt.addF i).fst.p.code=sb i.s.p.code∧(MSt.addF i).fst.p.tick=i.s.p.tick∧(MSt.addF i).fst.p.low=i.s.p.low∧(MSt.addF i).fst.p.high=i.s.p.high∧(MSt.addF i).fst.p.wide=i.s.p.wide∧(MSt.addF i).fst.p.rule=i.s.p.rule∧(MSt.addF i).fst.p.top=i.s.p.top∧(MSt.addF i).fst.p.least=i.s.p.least∧(MSt.addF i).fst.p.part=i.s.p.part∧AObj.objs 184 Book 6 zO (MSt.addF i).fst.books none=AObj.objs 184 Book 6 zO (i.s.books.set i.inst.toNat h) none∧yM (MSt.addF i).fst.wh=uD (Value.int IntKind.i64 i.id) [dI i.inst] (yM i.s.wh)∧zCn i) (∃(j:Unit),(MSt.addF i).snd=(bU f).snd∧sb (MSt.addF i).fst.p.code=sb i.s.p.code∧(MSt.addF i).fst.p.tick=i.s.p.tick∧(MSt.addF i).fst.p.low=i.s.p.low∧(MSt.addF i).fst.p.high=i.s.p.high∧(MSt.addF i).fst.p.wide=i.s.p.wide∧(MSt.addF i).fst.p.rule=i.s.p.rule∧(MSt.addF i).fst.p.top=i.s.p.top∧(MSt.addF i).fst.p.least=i.s.p.least∧(MSt.addF i).fst.p.part=i.s.p.part∧AObj.objs 184 Book 6 zO (MSt.addF i).fst.books none=AObj.objs 184 Book 6 zO (i.s.books.set i.inst.toNat h) none∧zBy i)))))) (zHv i)
open Go Cv Go.Proofs
theorem zGj {α:Type} {f:α→α} {Q:α→Prop} (hf:∀x,Q x→Q (f x)):∀{l:List α} (i:Nat),(∃x∈l,Q x)→∃x∈l.modify i f,Q x
 |[],i,⟨x,hx,_⟩=>by cases hx
 |a::l,0,⟨x,hx,q⟩=>by
  rcases yPk.1 hx with rfl|hx
  ·exact⟨f x,yOx,hf x q⟩
  ·exact⟨x,yOz _ hx,q⟩
 |a::l,i+1,⟨x,hx,q⟩=>by
  rw[yTr]
  rcases yPk.1 hx with rfl|hx
  ·exact⟨x,yOx,q⟩
  ·obtain⟨y,hy,hq⟩:=zGj hf (l:=l) i ⟨x,hx,q⟩
   exact⟨y,yOz _ hy,hq⟩
theorem z7o {a:Arena} (h:a.fit) (n:Int) (t:Bool):(a.topF n t).fit:=by
 obtain⟨h1,h2,h3⟩:=h
 rw[Arena.topF]
 split
 ·refine⟨by simpa using h1,fun hf=> ?_,by simpa using h3⟩
  exact zGj (f:=fun s:Slot=>{s with top:=t}) (Q:=fun s=>s.used=false) (fun x hx=>hx) _ (h2 hf)
 ·exact⟨h1,h2,h3⟩
theorem zYv {b:Book} (h:b.a.fit) (s:Int):(b.untop s).fit:=by
 rw[Book.untop]
 repeat' split
 all_goals first|exact h|exact z7o h _ _
theorem z1h {a:Arena} (h:a.fit):a.openQ.fit:=by
 obtain⟨h1,h2,h3⟩:=h
 refine⟨h1,h2,fun q hq=> ?_⟩
 rcases yPv.1 hq with hq|hq
 ·exact h3 q hq
 ·rw[yQr.1 hq];exact .inl rfl
theorem zRh {b:Book} (h:b.a.fit):b.newQ.2.2.fit:=by
 rw[Book.newQ]
 split
 ·exact z1h h
 ·exact h
theorem mC {b:Book} (h:b.a.fit) (s p:Int):(b.queueF s p).1.a.fit:=by
 rw[Book.queueF]
 repeat' split
 ·exact h
 ·exact zRh h
 ·exact zRh h
theorem zYs (b:Book) (s:Int):(b.untop s).slots.length=b.a.slots.length∧(b.untop s).queues=b.a.queues:=by
 have ht:∀n t,(b.a.topF n t).slots.length=b.a.slots.length∧(b.a.topF n t).queues=b.a.queues:=by
  intro n t
  rw[Arena.topF]
  split
  ·exact⟨by simp,rfl⟩
  ·exact⟨rfl,rfl⟩
 rw[Book.untop]
 repeat' split
 all_goals first|exact⟨rfl,rfl⟩|exact ht _ _
theorem zLa {b:Book} (h:b.fit) (id s:Int):(b.leadF id s).fit:=by
 obtain⟨h1,h2,h3,h4,h5⟩:=h
 have hl:=zYs b s
 rw[Book.leadF]
 split
 all_goals exact⟨zYv h1 s,by rw[hl.2];exact h2,h3,h4,h5⟩
theorem zKl {b:Book} (h:b.fit):b.small:=by
 obtain⟨⟨h1,_⟩,h2,h3,h4,h5⟩:=h
 exact⟨⟨h1,by omega⟩,by omega,by omega,by omega⟩
theorem yFi (i:BaI) (h:badd1C.cnd i):z6s i:=by
 have hfit:i.b.fit:=h
 have hsm:=zKl hfit
 unfold z6s zAs bR pH pO rH xX zAw zJ rR yG bY yE mN aT dI
 have plc:∀(b:Book) (x:Int),uD (Value.int IntKind.i64 i.id) [D.v (.int .i64 1),D.v (.int .i64 i.price),D.v (.int .i64 x)] (atE b.at_)=atE (aQ i.id ⟨1,i.price,x⟩ b.at_):=fun b x=>zMa i.id ⟨1,i.price,x⟩ b.at_
 refine⟨kD _ _,(pget i.b.at_ i.id).isSome,_,_,_,zJy _ _,1,rfl,trivial,fun _ _=> ?_⟩
 refine Cv.cnd.mk (fun c=>absurd c (by decide)) fun _=> ?_
 refine zI (fun c=> ?_) (fun c=>zI (fun d=> ?_) (fun d=> ?_))
 ·have ha:i.b.addF 1 i.id i.price i.qty=(i.b,24):=by rw[Book.addF,yOu (.inl c)]
  rw[ha];exact kp
 ·have ha:i.b.addF 1 i.id i.price i.qty=(i.b,24):=by rw[Book.addF,yOu (.inr d)]
  rw[ha];exact kp
 have hq:¬(i.qty<1∨1000000<i.qty):=by omega
 refine Cv.cnd.mk (fun e=> ?_) (fun e=> ?_)
 ·have ha:i.b.addF 1 i.id i.price i.qty=(i.b,25):=by rw[Book.addF,yOr hq,yOu e]
  rw[ha];exact kp
 have hlen:(atE i.b.at_).length=i.b.at_.length:=by simp[atE]
 rw[hlen]
 refine zI (fun f=> ?_) (fun f=> ?_)
 ·have ha:i.b.addF 1 i.id i.price i.qty=(i.b,13):=by rw[Book.addF,yOr hq,yOr (by rw[e];decide),yOu (by omega)]
  rw[ha];exact kp
 have ha:i.b.addF 1 i.id i.price i.qty=(i.b.stand 1 i.id i.price i.qty,0):=by rw[Book.addF,yOr hq,yOr (by rw[e];decide),yOr (by omega)]
 rw[ha]
 simp only[yOs]
 refine⟨true,fun x=>x=i.b.leads 1 i.price,Cv.cnd.mk (fun g=>⟨true,rfl,?_,by(repeat'(first|exact trivial|exact rfl|apply And.intro))⟩) (fun g=> ?_),fun x hx=> ?_⟩
 ·have:i.b.buys=[]:=yPo (by have:(i.b.buys.length:Int)=0:=(by simpa using g);omega)
  rw[Book.leads,aC,this]
 ·obtain⟨r,l,hl⟩:∃r l,i.b.buys=r::l:=by
   cases hb:i.b.buys with
   |nil=>rw[hb]at g;exact absurd g (by decide)
   |cons r l=>exact⟨r,l,rfl⟩
  refine⟨⟨by omega,by rw[hl,yOy];omega⟩,r.price,elA (x:=r) (by rw[hl];rfl) (by simp[zB]) rfl,⟨1,i.price,r.price⟩,rfl,rfl,rfl,trivial,fun _ _=>⟨_,rfl,?_,by(repeat'(first|exact trivial|exact rfl|apply And.intro))⟩⟩
  rw[Book.leads,aC,hl]
 subst hx
 refine Cv.cnd.mk (fun g=> ?_) (fun g=> ?_)
 ·have hled:i.b.led i.id 1 i.price=i.b.leadF i.id 1:=by rw[Book.led,yOu g]
  have hf1:=zLa hfit i.id 1
  have hst:i.b.stand 1 i.id i.price i.qty={((i.b.leadF i.id 1).queueF 1 i.price).1 with a:=(((i.b.leadF i.id 1).queueF 1 i.price).1.a.push ((i.b.leadF i.id 1).queueF 1 i.price).2 i.id i.qty (i.b.leads 1 i.price)).1,at_:=aQ i.id ⟨1,i.price,(((i.b.leadF i.id 1).queueF 1 i.price).1.a.push ((i.b.leadF i.id 1).queueF 1 i.price).2 i.id i.qty (i.b.leads 1 i.price)).2.1⟩ ((i.b.leadF i.id 1).queueF 1 i.price).1.at_}:=by
   simp only[Book.stand,hled]
  refine⟨⟨i.b,i.id⟩,rfl,trivial,rfl,rfl,rfl,rfl,rfl,rfl,rfl,rfl,rfl,hsm,fun _ _=>⟨⟨i.b.leadF i.id 1,i.price⟩,trivial,rfl,rfl,rfl,rfl,rfl,rfl,rfl,rfl,rfl,rfl,hf1,fun _ _=>⟨trivial,?_⟩⟩⟩
  refine⟨⟨((i.b.leadF i.id 1).queueF 1 i.price).1.a,((i.b.leadF i.id 1).queueF 1 i.price).2,i.id,i.qty,i.b.leads 1 i.price⟩,rfl,rfl,rfl,rfl,rfl,mC hf1.1 1 i.price,fun _ _=>⟨kD _ _,(),?_⟩⟩
  dsimp only
  rw[hst,plc]
  exact kp
 ·have hled:i.b.led i.id 1 i.price=i.b:=by rw[Book.led,yOr (by rw[g];decide)]
  have hst:i.b.stand 1 i.id i.price i.qty={(i.b.queueF 1 i.price).1 with a:=((i.b.queueF 1 i.price).1.a.push (i.b.queueF 1 i.price).2 i.id i.qty (i.b.leads 1 i.price)).1,at_:=aQ i.id ⟨1,i.price,((i.b.queueF 1 i.price).1.a.push (i.b.queueF 1 i.price).2 i.id i.qty (i.b.leads 1 i.price)).2.1⟩ (i.b.queueF 1 i.price).1.at_}:=by
   simp only[Book.stand,hled]
  refine⟨⟨i.b,i.price⟩,trivial,rfl,rfl,rfl,rfl,rfl,rfl,rfl,rfl,rfl,rfl,hfit,fun _ _=>⟨trivial,?_⟩⟩
  refine⟨⟨(i.b.queueF 1 i.price).1.a,(i.b.queueF 1 i.price).2,i.id,i.qty,i.b.leads 1 i.price⟩,rfl,rfl,rfl,rfl,rfl,mC hfit.1 1 i.price,fun _ _=>⟨kD _ _,(),?_⟩⟩
  dsimp only
  rw[hst,plc]
  exact kp
theorem z6e:badd1C.ok Tryz.prog 194:=okw mixed (gokc nX (gokc fX (gokc z3i (gokc z0j (gokc zPy gok0))))) 0 (fun _=>yCt) (fun _=>[]) [0] Tryz.func194 yFi
theorem yHt (i:BaI) (h:badd2C.cnd i):z2e i:=by
 have hfit:i.b.fit:=h
 have hsm:=zKl hfit
 unfold z2e zBz cX zCd zL yH rR bY yE pH pO rH xX mN aT dI
 have plc:∀(b:Book) (x:Int),uD (Value.int IntKind.i64 i.id) [D.v (.int .i64 2),D.v (.int .i64 i.price),D.v (.int .i64 x)] (atE b.at_)=atE (aQ i.id ⟨2,i.price,x⟩ b.at_):=fun b x=>zMa i.id ⟨2,i.price,x⟩ b.at_
 refine⟨kD _ _,(pget i.b.at_ i.id).isSome,_,_,_,zJy _ _,2,rfl,trivial,fun _ _=> ?_⟩
 refine Cv.cnd.mk (fun c=>absurd c (by decide)) fun _=> ?_
 refine zI (fun c=> ?_) (fun c=>zI (fun d=> ?_) (fun d=> ?_))
 ·have ha:i.b.addF 2 i.id i.price i.qty=(i.b,24):=by rw[Book.addF,yOu (.inl c)]
  rw[ha];exact kp
 ·have ha:i.b.addF 2 i.id i.price i.qty=(i.b,24):=by rw[Book.addF,yOu (.inr d)]
  rw[ha];exact kp
 have hq:¬(i.qty<1∨1000000<i.qty):=by omega
 refine Cv.cnd.mk (fun e=> ?_) (fun e=> ?_)
 ·have ha:i.b.addF 2 i.id i.price i.qty=(i.b,25):=by rw[Book.addF,yOr hq,yOu e]
  rw[ha];exact kp
 have hlen:(atE i.b.at_).length=i.b.at_.length:=by simp[atE]
 rw[hlen]
 refine zI (fun f=> ?_) (fun f=> ?_)
 ·have ha:i.b.addF 2 i.id i.price i.qty=(i.b,13):=by rw[Book.addF,yOr hq,yOr (by rw[e];decide),yOu (by omega)]
  rw[ha];exact kp
 have ha:i.b.addF 2 i.id i.price i.qty=(i.b.stand 2 i.id i.price i.qty,0):=by rw[Book.addF,yOr hq,yOr (by rw[e];decide),yOr (by omega)]
 rw[ha]
 simp only[yOs]
 refine⟨true,fun x=>x=i.b.leads 2 i.price,Cv.cnd.mk (fun g=>⟨true,rfl,?_,by(repeat'(first|exact trivial|exact rfl|apply And.intro))⟩) (fun g=> ?_),fun x hx=> ?_⟩
 ·have:i.b.sells=[]:=yPo (by have:(i.b.sells.length:Int)=0:=(by simpa using g);omega)
  rw[Book.leads,mS,this]
 ·obtain⟨r,l,hl⟩:∃r l,i.b.sells=r::l:=by
   cases hb:i.b.sells with
   |nil=>rw[hb]at g;exact absurd g (by decide)
   |cons r l=>exact⟨r,l,rfl⟩
  refine⟨⟨by omega,by rw[hl,yOy];omega⟩,r.price,elA (x:=r) (by rw[hl];rfl) (by simp[zB]) rfl,⟨2,i.price,r.price⟩,rfl,rfl,rfl,trivial,fun _ _=>⟨_,rfl,?_,by(repeat'(first|exact trivial|exact rfl|apply And.intro))⟩⟩
  rw[Book.leads,mS,hl]
 subst hx
 refine Cv.cnd.mk (fun g=> ?_) (fun g=> ?_)
 ·have hled:i.b.led i.id 2 i.price=i.b.leadF i.id 2:=by rw[Book.led,yOu g]
  have hf1:=zLa hfit i.id 2
  have hst:i.b.stand 2 i.id i.price i.qty={((i.b.leadF i.id 2).queueF 2 i.price).1 with a:=(((i.b.leadF i.id 2).queueF 2 i.price).1.a.push ((i.b.leadF i.id 2).queueF 2 i.price).2 i.id i.qty (i.b.leads 2 i.price)).1,at_:=aQ i.id ⟨2,i.price,(((i.b.leadF i.id 2).queueF 2 i.price).1.a.push ((i.b.leadF i.id 2).queueF 2 i.price).2 i.id i.qty (i.b.leads 2 i.price)).2.1⟩ ((i.b.leadF i.id 2).queueF 2 i.price).1.at_}:=by
   simp only[Book.stand,hled]
  refine⟨⟨i.b,i.id⟩,rfl,trivial,rfl,rfl,rfl,rfl,rfl,rfl,rfl,rfl,rfl,hsm,fun _ _=>⟨⟨i.b.leadF i.id 2,i.price⟩,trivial,rfl,rfl,rfl,rfl,rfl,rfl,rfl,rfl,rfl,rfl,hf1,fun _ _=>⟨trivial,?_⟩⟩⟩
  refine⟨⟨((i.b.leadF i.id 2).queueF 2 i.price).1.a,((i.b.leadF i.id 2).queueF 2 i.price).2,i.id,i.qty,i.b.leads 2 i.price⟩,rfl,rfl,rfl,rfl,rfl,mC hf1.1 2 i.price,fun _ _=>⟨kD _ _,(),?_⟩⟩
  dsimp only
  rw[hst,plc]
  exact kp
 ·have hled:i.b.led i.id 2 i.price=i.b:=by rw[Book.led,yOr (by rw[g];decide)]
  have hst:i.b.stand 2 i.id i.price i.qty={(i.b.queueF 2 i.price).1 with a:=((i.b.queueF 2 i.price).1.a.push (i.b.queueF 2 i.price).2 i.id i.qty (i.b.leads 2 i.price)).1,at_:=aQ i.id ⟨2,i.price,((i.b.queueF 2 i.price).1.a.push (i.b.queueF 2 i.price).2 i.id i.qty (i.b.leads 2 i.price)).2.1⟩ (i.b.queueF 2 i.price).1.at_}:=by
   simp only[Book.stand,hled]
  refine⟨⟨i.b,i.price⟩,trivial,rfl,rfl,rfl,rfl,rfl,rfl,rfl,rfl,rfl,rfl,hfit,fun _ _=>⟨trivial,?_⟩⟩
  refine⟨⟨(i.b.queueF 2 i.price).1.a,(i.b.queueF 2 i.price).2,i.id,i.qty,i.b.leads 2 i.price⟩,rfl,rfl,rfl,rfl,rfl,mC hfit.1 2 i.price,fun _ _=>⟨kD _ _,(),?_⟩⟩
  dsimp only
  rw[hst,plc]
  exact kp
theorem z4q:badd2C.ok Tryz.prog 194:=okw mixed (gokc nX (gokc fX (gokc z3a (gokc z0s (gokc zPy gok0))))) 0 (fun _=>yCt) (fun _=>[]) [0] Tryz.func194 yHt
theorem z8y:baddC.ok Tryz.prog 194:=fun j=>match j with
 |⟨i,false⟩=>z6e i
 |⟨i,true⟩=>z4q i
theorem yMh (i:SaI) (h:saddC.cnd i):yCv i:=by
 obtain⟨hp,hbl,hb⟩:i.s.fit:=h
 unfold yCv zHv nE bU zBy zCn xH dI
 simp only[zOq]
 have hml:(yM i.s.wh).length=i.s.wh.length:=by simp[yM]
 rw[hml]
 have out (e:i.inst<0∨i.s.books.length≤i.inst):MSt.addF i=(i.s,20):=by rw[MSt.addF,yOu e]
 refine⟨gB _ _,(tT i.s.wh i.id).isSome,_,yIb _ _,zI (fun c=>Cv.cnd.mk (fun d=> ?_) (fun d=> ?_)) (fun c=> ?_)⟩
 ·have d:¬i.inst<(i.s.books.length:Int):=by simpa using d
  rw[out (.inr (by omega))];exact kp
 ·have d:i.inst<(i.s.books.length:Int):=by simpa using d
  have hn:¬(i.inst<0∨(i.s.books.length:Int)≤i.inst):=by omega
  refine Cv.cnd.mk (fun e=> ?_) (fun e=>zI (fun f=> ?_) (fun f=> ?_))
  ·rw[MSt.addF,yOr hn,yOu e];exact kp
  ·rw[MSt.addF,yOr hn,yOr (by rw[e];decide),yOu (by omega)];exact kp
  ·refine⟨⟨i.s.p,i.inst,i.price⟩,rfl,rfl,rfl,rfl,rfl,rfl,rfl,rfl,rfl,rfl,rfl,rfl,rfl,hp,fun _ _=>Cv.cnd.mk (fun g=> ?_) (fun g=> ?_)⟩
   ·have g:i.s.p.price i.inst i.price≠0:=by simpa using g
    rw[MSt.addF,yOr hn,yOr (by rw[e];decide),yOr (by omega),yOu g];exact kp
   ·have g:i.s.p.price i.inst i.price=0:=by simpa using g
    obtain⟨x,hx⟩:=z8 (l:=i.s.books) (i:=i.inst.toNat) (by omega)
    have hba:i.s.bookAt i.inst=x:=zQ hx
    have ha:MSt.addF i=({i.s with books:=i.s.books.set i.inst.toNat (x.addF (zC i.sd) i.id i.price i.qty).1,wh:=if(x.addF (zC i.sd) i.id i.price i.qty).2=0 then zSl i.id i.inst i.s.wh else i.s.wh},(x.addF (zC i.sd) i.id i.price i.qty).2):=by
     rw[MSt.addF,yOr hn,yOr (by rw[e];decide),yOr (by omega),yOr (by simp[g])]
     simp only[hba]
    refine⟨⟨by omega,by omega⟩,by omega,x,hx,⟨⟨x,i.id,i.price,i.qty⟩,i.sd⟩,rfl,rfl,rfl,rfl,rfl,hb x (yPe hx),fun _ _=>⟨(x.addF (zC i.sd) i.id i.price i.qty).1,rfl,trivial,by omega,Cv.cnd.mk (fun z=>⟨gB _ _,?_⟩) (fun z=> ?_)⟩⟩
    ·have z:(x.addF (zC i.sd) i.id i.price i.qty).2=0:=by simpa using z
     rw[ha,z]
     simp only[if_true]
     exact kp
    ·have z:¬(x.addF (zC i.sd) i.id i.price i.qty).2=0:=by simpa using z
     rw[ha,yOr z]
     exact kp
 ·rw[out (.inl (by omega))];exact kp
theorem yAy:saddC.ok Tryz.prog 156:=okw mixed (gokc nU (gokc z8y gok0)) 1 (fun _=>[]) (fun _=>[]) [0] Tryz.func156 yMh
open Go Cv Go.Proofs
end Sx
