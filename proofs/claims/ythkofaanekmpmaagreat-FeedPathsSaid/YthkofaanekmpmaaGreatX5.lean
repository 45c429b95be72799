/- Texts of ours, one behind the other: a walk that the kernel reckons, and contracts of functions. No condition. -/
import Derived.Laws.AppendOwn
import Derived.Lib.AppendZerosOnto
import Derived.Lib.Overlaps
import Derived.Test.YthkofaanekmpmaaGreatX4
namespace Sx
set_option linter.unusedVariables false
set_option linter.unusedSimpArgs false
set_option maxRecDepth 100000
open Go Cv Go.Proofs
theorem zZn {l:List Quote} {q:Quote} (s:Int) (h:l[0]? =some q):(zU (l.take (max 0 1)) s).1=q:=by
 cases l with
 |nil=>simp at h
 |cons a l=>simp at h;subst h;rfl
theorem z1j {l:List Quote} {j:Nat} {q:Quote} (s:Int) (h:l[j]? =some q):
 (zU (l.take (max (j+1) 1)) s).1=if btr s q.price (zU (l.take (max j 1)) s).1.price then q else(zU (l.take (max j 1)) s).1:=by
 cases l with
 |nil=>simp at h
 |cons a l=>
  cases j with
  |zero=>simp at h;subst h;simp[zU]
  |succ m=>
   simp only[yYe]at h
   rw[show max (m+1+1) 1=(m+1)+1 by omega,show max (m+1) 1=m+1 by omega,yXv,yXv,yXw,h]
   simp only[zU,yZx,y1l]
   rfl
theorem z6v {l:List Quote} (s:Int) (h:l≠[]):(zU l s).2=true:=by
 cases l with
 |nil=>exact absurd rfl h
 |cons a l=>rfl
theorem yMl (i:BsI) (h:bestQC.cnd i):yDs i:=by
 obtain⟨hs,hl⟩:(i.s=1∨i.s=2)∧i.l.length≤1000000:=h
 unfold yDs zAl zEh vQ yC zBt dI
 simp only[yWm]
 refine Cv.cnd.mk (fun c=> ?_) (fun c=> ?_)
 ·have e:i.l=[]:=yXn (by have:(i.l.length:Int)=0:=(by simpa using c);omega)
  rw[e];exact kp
 have h0:0<i.l.length:=by
  rcases Nat.eq_zero_or_pos i.l.length with h|h
  ·rw[h]at c;exact absurd c (by decide)
  ·exact h
 have hne:i.l≠[]:=by intro e;rw[e]at h0;simp at h0
 have two:=z6v i.s hne
 obtain⟨q,hq⟩:=z6 h0
 have b0:=zZn i.s hq
 have fin:(zU (i.l.take (max i.l.length 1)) i.s).1=(zU i.l i.s).1:=by
  rw[yXc (by omega)]
 have step:∀j:Nat,j<i.l.length→∀x:Quote,i.l[j]? =some x→(btr i.s x.price (zU (i.l.take (max j 1)) i.s).1.price=true→(zU (i.l.take (max (j+1) 1)) i.s).1=x)∧(btr i.s x.price (zU (i.l.take (max j 1)) i.s).1.price=false→(zU (i.l.take (max (j+1) 1)) i.s).1=(zU (i.l.take (max j 1)) i.s).1):=fun j hj x hx=>by
  have:=z1j i.s hx
  constructor
  ·intro e;rw[this,yWl e]
  ·intro e;rw[this,yWk (by rw[e];simp)]
 refine Cv.cnd.mk (fun c1=>Cv.cnd.mk (fun c2=> ?_) (fun c2=> ?_)) (fun c1=> ?_)
 ·exfalso
  have c1:i.s≠1:=by simpa using c1
  have c2:i.s≠2:=by simpa using c2
  omega
 all_goals
  refine⟨⟨by omega,by omega⟩,q.price,q.qty,q.a.inst,q.a.side,q.b.inst,q.b.side,elA hq (by simp[zL]) rfl,0,?_⟩
  rw[b0]
  (repeat'(first|exact rfl|exact trivial|assumption|apply And.intro|refine fun(_:Unit) (_:True)=>?_|refine Exists.intro () ?_|omega|(dsimp only;omega)))
  refine⟨fun j=>j≤i.l.length,fun j=>i.l.length-j,by omega,fun j hj=>zK (fun hlt=> ?_) (fun hlt=> ?_)⟩
  ·have hj':j<i.l.length:=by omega
   obtain⟨x,hx⟩:=z6 hj'
   obtain⟨st,sf⟩:=step j hj' x hx
   refine⟨⟨by omega,by omega⟩,x.price,x.qty,x.a.inst,x.a.side,x.b.inst,x.b.side,elA hx (by simp[zL]) rfl,⟨i.s,x.price,_⟩,rfl,rfl,rfl,trivial,fun _ _=>Cv.cnd.mk (fun e=>⟨j+1,by rw[w64 (by omega)];rfl,?_⟩) (fun e=>⟨j+1,by rw[w64 (by omega)];rfl,?_⟩)⟩
   ·rw[st e];exact kp
   ·rw[sf e];exact kp
  ·have hj:j≤i.l.length:=hj
   obtain rfl:j=i.l.length:=by omega
   rw[fin,two];exact kp
theorem zUy:bestQC.ok Tryz.prog 159:=okw mixed (gokc zZp gok0) 0 (fun _=>[]) (fun i=>yPo i) [] Tryz.func159 yMl
theorem zCs (tops:List Top) (a b:Leg) (less:Bool):(mkq tops a b less).length≤1:=by
 unfold mkq
 dsimp only
 split<;>split<;>simp
theorem zTu {α:Type} {f:Nat→List α} (h:∀k,(f k).length≤1):∀n,((List.range n).flatMap f).length≤n
 |0=>by simp
 |n+1=>by
  rw[y1k,yYi,yWp]
  have:=zTu h n
  have:=h n
  simp only[yYf,y1u,yXi]
  omega
theorem zBc (i:dB) (s:Int) (k:Nat):(kQ i s k).length≤k:=zTu (fun _=>zCs _ _ _ _) k
theorem pT (i:dB) (s:Int) (k:Nat):(j6 i s k).length≤k:=zTu (fun _=>zCs _ _ _ _) k
theorem zDu (i:dB) (s:Int):(kE i s).length≤100:=by
 unfold kE
 split
 ·simp
 ·rename_i h
  have hc:=xS i.p
  have m6:=(jM (sK (p:=i.p) (by omega))).m6
  split
  ·rw[yWm]
   have:=zCs i.tops ⟨(i.p.legs i.inst).2.1,3-s⟩ ⟨(i.p.legs i.inst).1,s⟩ true
   have e:(yP i s).length≤1:=this
   omega
  ·rw[yWp]
   have h1:=zBc i s (i.p.months.length-(i.inst.toNat+1))
   have h2:=pT i s i.inst.toNat
   omega
theorem yIs (j:tK) (h:quotesC.cnd j):z5n j:=by
 unfold z5n zAp gL k0 kC gX x0 dI
 obtain⟨hp,ht,hr⟩:j.i.p.small∧vE j.i.tops:=h
 obtain⟨h1,h2,h3⟩:=hp
 have hl:=zDu j.i (zD j.s)
 refine⟨j,?_⟩
 simp only[yWm]
 (repeat'(first|exact rfl|exact trivial|assumption|apply And.intro|refine fun(_:Unit) (_:True)=>?_|refine Exists.intro () ?_|omega|(dsimp only;omega)))
 refine⟨0,rfl,rfl,fun k=>k≤(kE j.i (zD j.s)).length,fun k=>(kE j.i (zD j.s)).length-k,by omega,fun k hk=>zK (fun hlt=> ?_) (fun hlt=> ?_)⟩
 ·have hk':k<(kE j.i (zD j.s)).length:=by omega
  obtain⟨q,hq⟩:=z6 hk'
  have hf:(List.filter (fun q=>decide (j.i.p.price j.i.inst q.price=0)) (List.take k (kE j.i (zD j.s)))).length≤100:=by
   have:=y0a (fun q:Quote=>decide (j.i.p.price j.i.inst q.price=0)) (List.take k (kE j.i (zD j.s)))
   rw[yXg]at this
   omega
  refine⟨⟨by omega,by omega⟩,q.price,q.qty,q.a.inst,q.a.side,q.b.inst,q.b.side,elA hq (by simp[zL]) rfl,⟨j.i.p,j.i.inst,q.price⟩,?_⟩
  (repeat'(first|exact rfl|exact trivial|assumption|apply And.intro|refine fun(_:Unit) (_:True)=>?_|refine Exists.intro () ?_|omega|(dsimp only;omega)))
  refine Cv.cnd.mk (fun c=>⟨by omega,k+1,by rw[w64 (by omega)];rfl,?_⟩) (fun c=>⟨k+1,by rw[w64 (by omega)];rfl,?_⟩)
  ·have c:j.i.p.price j.i.inst q.price=0:=by simpa using c
   rw[yXw,hq,yZx,yZj,y1n (by simpa using c),yWw]
   exact kp
  ·have c:¬j.i.p.price j.i.inst q.price=0:=by simpa using c
   rw[yXw,hq,yZx,yZj,y1o (by simpa using c),List.filter_nil,yXi]
   exact kp
 ·have hk:k≤(kE j.i (zD j.s)).length:=hk
  obtain rfl:k=(kE j.i (zD j.s)).length:=by omega
  rw[yXc (yXs _)]
  exact kp
open Go Cv Go.Proofs
theorem z6g:∀n≤6,∀a<n,∀b<n,a<b→0≤(yK n a:Int)+b-a-1∧(yK n a:Int)+b-a-1<((n+n*(n-1) / 2:Nat):Int):=by decide
theorem bE {p:Prd} (hc:p.check=0) {a b:Nat} (hab:a<b) (hb:b<p.months.length):0≤(p.spread a b).1∧(p.spread a b).1<p.count:=by
 have m6:=(jM hc).m6
 have:=z6g p.months.length m6 a (by omega) b hb hab
 rw[Prd.spread,yWk (by omega),Prd.count,yWl hc]
 simpa using this
theorem yHk:∀n≤6,∀k<n+n*(n-1) / 2,n≤k→(kI n k n 0).2.2=true∧0≤(kI n k n 0).1∧(kI n k n 0).1<n∧0≤(kI n k n 0).2.1∧(kI n k n 0).2.1<n:=by decide
theorem cA {p:Prd} (hc:p.check=0) {k:Nat} (hk:k<p.count):((p.legs k).2.2=true∧0≤(p.legs k).1∧(p.legs k).1<p.months.length∧0≤(p.legs k).2.1∧(p.legs k).2.1<p.months.length)∨((p.legs k).2.2=false∧k<p.months.length):=by
 have m6:=(jM hc).m6
 have hk':=hk
 rw[Prd.count,yWl hc]at hk'
 by_cases h:k<p.months.length
 ·right
  rw[Prd.legs,yWk (by omega),yWl (by omega)]
  exact⟨rfl,h⟩
 ·left
  rw[Prd.legs,yWk (by omega),yWk (by omega)]
  exact yHk p.months.length m6 k hk' (by omega)
theorem zLz {p:Prd} (hc:p.check=0):p.months.length≤p.count:=by
 rw[Prd.count,yWl hc];omega
theorem zUq {i:dB} {s:Int} {k:Nat} (hk:k<(yP i s).length):List.map zL (List.map (cN i s) (List.take (k+1) (yP i s))++List.drop (k+1) (yP i s))=
 zH (List.map zL (List.map (cN i s) (List.take k (yP i s))++List.drop k (yP i s))) k (0+2) [D.v (.int .i64 (i.p.legs i.inst).1),D.v (.int .i64 s),D.v (.int .i64 (i.p.legs i.inst).2.1),D.v (.int .i64 (3-s))]:=by
 obtain⟨q,hq⟩:=z6 hk
 rw[zQa (a:=List.map zL (List.map (cN i s) (List.take k (yP i s)))) (b:=List.map zL (List.drop (k+1) (yP i s))) (x:=zL q) (y:=zL (cN i s q)) (by
  rw[yWw,yZk hk,(yWn.1 hq).2,yWy]) (by simp;omega) rfl]
 rw[yXw,hq,yZx,yWw,yWw,yWw,yWy,y0d,yWy,y0d,yWv]
 rfl
theorem yRm (i:dB) (h:all1C.cnd i):yKl i:=by
 unfold yKl zY zCx zDn mV vA mU lD mR kU x0 eI uC g8 gX dI
 obtain⟨⟨h1,h2,h3⟩,ht,hr⟩:i.p.small∧vE i.tops:=h
 have hto:vE i.tops:=⟨ht,hr⟩
 refine⟨i.p,?_⟩
 simp only[yWm,xF]
 (repeat'(first|exact rfl|exact trivial|assumption|apply And.intro|refine fun(_:Unit) (_:True)=>?_|refine Exists.intro () ?_|omega|(dsimp only;omega)))
 have bad (hb:i.p.count=0∨(i.tops.length:Int)≠i.p.count∨i.inst<0∨(i.p.count:Int)≤i.inst):∃(o:Unit),List.map zL (kE i 1)=[]∧True:=⟨(),by rw[kE,yWl hb];rfl,trivial⟩
 refine Cv.cnd.mk (fun c1=>bad (.inl (by have c1:(i.p.count:Int)=0:=(by simpa using c1);omega))) fun c1=>Cv.cnd.mk (fun c2=>bad (.inr (.inl (by simpa using c2)))) fun c2=>zK (fun c3=>bad (by omega)) fun c3=>zK (fun c4=>bad (by omega)) fun c4=>⟨⟨i.p,i.inst⟩,?_⟩
 have c1:i.p.count≠0:=by
  have c1:¬(i.p.count:Int)=0:=(by simpa using c1)
  omega
 have c2:(i.tops.length:Int)=i.p.count:=by simpa using c2
 have c4:i.inst<(i.p.count:Int):=by
  have c4:¬i.inst≥(i.p.count:Int):=c4
  omega
 have hc:=sK c1
 have hm:=zLz hc
 have e0:kE i 1=if(i.p.legs i.inst).2.2 then(yP i 1).map (cN i 1)else kQ i 1 (i.p.months.length-(i.inst.toNat+1))++j6 i 1 i.inst.toNat:=by
  rw[kE,yWk (by omega)]
 obtain⟨k,hk⟩:∃k:Nat,i.inst=k:=⟨i.inst.toNat,by omega⟩
 have hl:=cA hc (k:=k) (by omega)
 rw[← hk]at hl
 (repeat'(first|exact rfl|exact trivial|assumption|apply And.intro|refine fun(_:Unit) (_:True)=>?_|refine Exists.intro () ?_|omega|(dsimp only;omega)))
 refine Cv.cnd.mk (fun c5=> ?_) (fun c5=> ?_)
 ·have c5:(i.p.legs i.inst).2.2=true:=c5
  rw[e0,yWl c5]
  rcases hl with⟨_,l1,l2,l3,l4⟩|⟨l1,_⟩
  ·have hsl:(yP i 1).length≤1:=zCs _ _ _ _
   refine⟨1,rfl,by omega,fun _ _=>⟨⟨⟨i.tops,[],(i.p.legs i.inst).2.1,(i.p.legs i.inst).1,true⟩,true,false⟩,rfl,rfl,rfl,rfl,rfl,rfl,rfl,⟨l3,by dsimp only;omega,l1,by dsimp only;omega,hto,by simp⟩,fun _ _=>⟨0,rfl,rfl,rfl,fun j=>j≤(yP i 1).length,fun j=>(yP i 1).length-j,by omega,?_⟩⟩⟩
   intro j hj
   have hj:j≤(yP i 1).length:=hj
   have hL:(List.map (cN i 1) (List.take j (yP i 1))++List.drop j (yP i 1)).length=(yP i 1).length:=by simp;omega
   refine zK (fun hlt=> ?_) (fun hlt=> ?_)
   ·have hlt:(j:Int)<((yP i 1).length:Int):=hlt
    refine⟨⟨by omega,by rw[hL];omega⟩,by rw[hL];omega,j+1,by rw[w64 (by omega)];rfl,kp,?_,?_⟩
    ·exact zUq (i:=i) (s:=1) (by omega)
    ·exact kp
   ·have hlt:¬(j:Int)<((yP i 1).length:Int):=hlt
    obtain rfl:j=(yP i 1).length:=by omega
    rw[yXc (yXs _),List.drop_length,yXi]
    exact kp
  ·rw[c5]at l1;cases l1
 ·have c5:(i.p.legs i.inst).2.2=false:=c5
  rw[e0,yWk (by rw[c5];simp)]
  rcases hl with⟨l1,_⟩|⟨_,l2⟩
  ·rw[c5]at l1;cases l1
  have m6:=(jM hc).m6
  have e1:i.inst.toNat=k:=by omega
  rw[e1]
  refine⟨0,by rw[w64 (by omega)];omega,kp,rfl,fun j=>j≤i.p.months.length-(k+1),fun j=>i.p.months.length-(k+1)-j,by omega,?_⟩
  intro j hj
  have hj:j≤i.p.months.length-(k+1):=hj
  have hq:=zBc i 1 j
  refine zK (fun hlt=> ?_) (fun hlt=> ?_)
  ·obtain⟨b1,b2⟩:=bE hc (a:=k) (b:=k+1+j) (by omega) (by omega)
   have eb:((k+1+j:Nat):Int)=i.inst+1+j:=by omega
   rw[eb,← hk]at b1 b2
   refine⟨⟨i.p,i.inst,i.inst+1+j⟩,?_⟩
   (repeat'(first|exact rfl|exact trivial|assumption|apply And.intro|refine fun(_:Unit) (_:True)=>?_|refine Exists.intro () ?_|omega|(dsimp only;omega)))
   refine⟨⟨⟨i.tops,kQ i 1 j,(i.p.spread i.inst (i.inst+1+j)).1,i.inst+1+j,false⟩,false,false⟩,rfl,rfl,rfl,rfl,rfl,kp,rfl,⟨b1,by dsimp only;omega,by dsimp only;omega,by dsimp only;omega,hto,by dsimp only;omega⟩,fun _ _=>⟨j+1,by rw[w64 (by omega)];omega,kp,?_,?_⟩⟩
   ·rw[kQ,y1k,yYi]
    simp only[yYf,y1u,yXi]
    rfl
   ·exact kp
  ·obtain rfl:j=i.p.months.length-(k+1):=by omega
   refine⟨0,rfl,kp,by rw[j6];simp,fun j=>j≤k,fun j=>k-j,by omega,?_⟩
   intro j hj
   have hj:j≤k:=hj
   have hq2:=pT i 1 j
   refine zK (fun hlt2=> ?_) (fun hlt2=> ?_)
   ·obtain⟨b1,b2⟩:=bE hc (a:=j) (b:=k) (by omega) (by omega)
    rw[← hk]at b1 b2
    refine⟨⟨i.p,j,i.inst⟩,?_⟩
    (repeat'(first|exact rfl|exact trivial|assumption|apply And.intro|refine fun(_:Unit) (_:True)=>?_|refine Exists.intro () ?_|omega|(dsimp only;omega)))
    refine⟨1,rfl,by omega,fun _ _=>⟨⟨⟨i.tops,kQ i 1 (i.p.months.length-(k+1))++j6 i 1 j,(i.p.spread j i.inst).1,j,true⟩,true,false⟩,rfl,rfl,rfl,rfl,rfl,kp,rfl,⟨b1,by dsimp only;omega,by dsimp only;omega,by dsimp only;omega,hto,by dsimp only;rw[yWp];omega⟩,fun _ _=>⟨j+1,by rw[w64 (by omega)];omega,kp,?_,?_⟩⟩⟩
    ·rw[j6,y1k,yYi]
     simp only[yYf,y1u,yXi,yWv]
     rfl
    ·exact kp
   ·obtain rfl:j=k:=by omega
    exact kp
theorem yGn:all1C.ok Tryz.prog 160:=okw mixed (gokc bI (gokc eO (gokc zQr (gokc zOm (gokc zYd gok0))))) 0 (fun _=>[]) (fun i=>ySm i 1) [] Tryz.func160 yRm
theorem ySc (i:dB) (h:all2C.cnd i):yKz i:=by
 unfold yKz zY nB eR mE zCx zDn mV vA kU x0 eI uC g8 gX dI
 obtain⟨⟨h1,h2,h3⟩,ht,hr⟩:i.p.small∧vE i.tops:=h
 have hto:vE i.tops:=⟨ht,hr⟩
 refine⟨i.p,?_⟩
 simp only[yWm,xF]
 (repeat'(first|exact rfl|exact trivial|assumption|apply And.intro|refine fun(_:Unit) (_:True)=>?_|refine Exists.intro () ?_|omega|(dsimp only;omega)))
 have bad (hb:i.p.count=0∨(i.tops.length:Int)≠i.p.count∨i.inst<0∨(i.p.count:Int)≤i.inst):∃(o:Unit),List.map zL (kE i 2)=[]∧True:=⟨(),by rw[kE,yWl hb];rfl,trivial⟩
 refine Cv.cnd.mk (fun c1=>bad (.inl (by have c1:(i.p.count:Int)=0:=(by simpa using c1);omega))) fun c1=>Cv.cnd.mk (fun c2=>bad (.inr (.inl (by simpa using c2)))) fun c2=>zK (fun c3=>bad (by omega)) fun c3=>zK (fun c4=>bad (by omega)) fun c4=>⟨⟨i.p,i.inst⟩,?_⟩
 have c1:i.p.count≠0:=by
  have c1:¬(i.p.count:Int)=0:=(by simpa using c1)
  omega
 have c2:(i.tops.length:Int)=i.p.count:=by simpa using c2
 have c4:i.inst<(i.p.count:Int):=by
  have c4:¬i.inst≥(i.p.count:Int):=c4
  omega
 have hc:=sK c1
 have hm:=zLz hc
 have e0:kE i 2=if(i.p.legs i.inst).2.2 then(yP i 2).map (cN i 2)else kQ i 2 (i.p.months.length-(i.inst.toNat+1))++j6 i 2 i.inst.toNat:=by
  rw[kE,yWk (by omega)]
 obtain⟨k,hk⟩:∃k:Nat,i.inst=k:=⟨i.inst.toNat,by omega⟩
 have hl:=cA hc (k:=k) (by omega)
 rw[← hk]at hl
 (repeat'(first|exact rfl|exact trivial|assumption|apply And.intro|refine fun(_:Unit) (_:True)=>?_|refine Exists.intro () ?_|omega|(dsimp only;omega)))
 refine Cv.cnd.mk (fun c5=> ?_) (fun c5=> ?_)
 ·have c5:(i.p.legs i.inst).2.2=true:=c5
  rw[e0,yWl c5]
  rcases hl with⟨_,l1,l2,l3,l4⟩|⟨l1,_⟩
  ·have hsl:(yP i 2).length≤1:=zCs _ _ _ _
   refine⟨2,rfl,by omega,fun _ _=>⟨⟨⟨i.tops,[],(i.p.legs i.inst).2.1,(i.p.legs i.inst).1,true⟩,false,true⟩,rfl,rfl,rfl,rfl,rfl,rfl,rfl,⟨l3,by dsimp only;omega,l1,by dsimp only;omega,hto,by simp⟩,fun _ _=>⟨0,rfl,rfl,rfl,fun j=>j≤(yP i 2).length,fun j=>(yP i 2).length-j,by omega,?_⟩⟩⟩
   intro j hj
   have hj:j≤(yP i 2).length:=hj
   have hL:(List.map (cN i 2) (List.take j (yP i 2))++List.drop j (yP i 2)).length=(yP i 2).length:=by simp;omega
   refine zK (fun hlt=> ?_) (fun hlt=> ?_)
   ·have hlt:(j:Int)<((yP i 2).length:Int):=hlt
    refine⟨⟨by omega,by rw[hL];omega⟩,by rw[hL];omega,j+1,by rw[w64 (by omega)];rfl,kp,?_,?_⟩
    ·exact zUq (i:=i) (s:=2) (by omega)
    ·exact kp
   ·have hlt:¬(j:Int)<((yP i 2).length:Int):=hlt
    obtain rfl:j=(yP i 2).length:=by omega
    rw[yXc (yXs _),List.drop_length,yXi]
    exact kp
  ·rw[c5]at l1;cases l1
 ·have c5:(i.p.legs i.inst).2.2=false:=c5
  rw[e0,yWk (by rw[c5];simp)]
  rcases hl with⟨l1,_⟩|⟨_,l2⟩
  ·rw[c5]at l1;cases l1
  have m6:=(jM hc).m6
  have e1:i.inst.toNat=k:=by omega
  rw[e1]
  refine⟨0,by rw[w64 (by omega)];omega,kp,rfl,fun j=>j≤i.p.months.length-(k+1),fun j=>i.p.months.length-(k+1)-j,by omega,?_⟩
  intro j hj
  have hj:j≤i.p.months.length-(k+1):=hj
  have hq:=zBc i 2 j
  refine zK (fun hlt=> ?_) (fun hlt=> ?_)
  ·obtain⟨b1,b2⟩:=bE hc (a:=k) (b:=k+1+j) (by omega) (by omega)
   have eb:((k+1+j:Nat):Int)=i.inst+1+j:=by omega
   rw[eb,← hk]at b1 b2
   refine⟨⟨i.p,i.inst,i.inst+1+j⟩,?_⟩
   (repeat'(first|exact rfl|exact trivial|assumption|apply And.intro|refine fun(_:Unit) (_:True)=>?_|refine Exists.intro () ?_|omega|(dsimp only;omega)))
   refine⟨⟨⟨i.tops,kQ i 2 j,(i.p.spread i.inst (i.inst+1+j)).1,i.inst+1+j,false⟩,true,true⟩,rfl,rfl,rfl,rfl,rfl,kp,rfl,⟨b1,by dsimp only;omega,by dsimp only;omega,by dsimp only;omega,hto,by dsimp only;omega⟩,fun _ _=>⟨j+1,by rw[w64 (by omega)];omega,kp,?_,?_⟩⟩
   ·rw[kQ,y1k,yYi]
    simp only[yYf,y1u,yXi]
    rfl
   ·exact kp
  ·obtain rfl:j=i.p.months.length-(k+1):=by omega
   refine⟨0,rfl,kp,by rw[j6];simp,fun j=>j≤k,fun j=>k-j,by omega,?_⟩
   intro j hj
   have hj:j≤k:=hj
   have hq2:=pT i 2 j
   refine zK (fun hlt2=> ?_) (fun hlt2=> ?_)
   ·obtain⟨b1,b2⟩:=bE hc (a:=j) (b:=k) (by omega) (by omega)
    rw[← hk]at b1 b2
    refine⟨⟨i.p,j,i.inst⟩,?_⟩
    (repeat'(first|exact rfl|exact trivial|assumption|apply And.intro|refine fun(_:Unit) (_:True)=>?_|refine Exists.intro () ?_|omega|(dsimp only;omega)))
    refine⟨2,rfl,by omega,fun _ _=>⟨⟨⟨i.tops,kQ i 2 (i.p.months.length-(k+1))++j6 i 2 j,(i.p.spread j i.inst).1,j,true⟩,false,true⟩,rfl,rfl,rfl,rfl,rfl,kp,rfl,⟨b1,by dsimp only;omega,by dsimp only;omega,by dsimp only;omega,hto,by dsimp only;rw[yWp];omega⟩,fun _ _=>⟨j+1,by rw[w64 (by omega)];omega,kp,?_,?_⟩⟩⟩
    ·rw[j6,y1k,yYi]
     simp only[yYf,y1u,yXi,yWv]
     rfl
    ·exact kp
   ·obtain rfl:j=k:=by omega
    exact kp
theorem yJl:all2C.ok Tryz.prog 160:=okw mixed (gokc bI (gokc eO (gokc zQr (gokc zOm (gokc zYd gok0))))) 0 (fun _=>[]) (fun i=>ySm i 2) [] Tryz.func160 ySc
theorem z9m:allC.ok Tryz.prog 160:=fun j=>match j with
 |⟨i,false⟩=>yGn i
 |⟨i,true⟩=>yJl i
theorem zPz:quotesC.ok Tryz.prog 109:=okw mixed (gokc z9m (gokc sW gok0)) 0 (fun _=>[]) (fun j=>yHn j) [] Tryz.func109 yIs
open Go Cv Go.Proofs
open Go Cv Go.Proofs
open Go Cv Go.Proofs
theorem zGz (i:dB) (s:Int):(xR i s).length≤100:=y0j (y0a _ _) (zDu i s)
open Go Cv Go.Proofs
structure Mkt where
 p:Prd
 s:MSt
 used:List Int
def yD (l:List Int):List (Value×List D):=l.map fun x=>(.int .i64 x,[.v (.bool true)])
def y3 (m:Mkt):Nat→AObj
 |0=> .cells [sV m.p.code,.own 3,zA m.p.tick,zA m.p.low,zA m.p.high,zA m.p.wide,zA m.p.rule,zA m.p.top,zA m.p.least,zA m.p.part,.own 4,.nm 1 0,.mp 2] 179
 |1=>zE m.s
 |2=> .map (yD m.used)
 |3=> .fro 1 (iE m.p.months)
 |4=> .fro 1 (iE m.p.settle)
 |_=> .gone
def fQ (m:Mkt):AObj:= .adt Mkt 5 y3 m
def newMC:Con where
 ι:=Prd
 pat:=fun p=>[prdV p]
 pre:=fun _=>[]
 cnd:=fun p=>p.small
 alts:=fun p=>[{o:=Unit,res:=fun _=> .tup [.nm 0 0,zA 0],post:=fun _=>[fQ ⟨p,a9 p,[]⟩],rel:=fun _=>p.check=0},{o:=Unit,res:=fun _=> .tup [.d (.v (.pointer none)),zA p.check],post:=fun _=>[],rel:=fun _=>p.check≠0}]
def stateC:Con:=con1 Mkt (fun _=>[.nm 0 0]) (fun m=>[fQ m]) (fun m=>m.s.small) (fun _=> .nm 1 0) (fun m=>[fQ m,zE m.s])
open Go Cv Go.Proofs
def zJc (a:Prd) (b:Prd) (c:Unit):Prop:=True∧(0+(iE a.settle).length)*(8:Nat)≤(140737488355328:Nat)∧((∃(d:Unit),(0:Int)=(0:Int)∧sb a.code=sb a.code∧a.tick=a.tick∧a.low=a.low∧a.high=a.high∧a.wide=a.wide∧a.rule=a.rule∧a.top=a.top∧a.least=a.least∧a.part=a.part∧zE (a9 a)=zE (a9 b)∧yD []=[]∧iE a.months=[]++iE a.months∧iE a.settle=[]++iE a.settle∧a.check=0)∨∃(c:Unit),False)
def zKj (a:Prd) (b:Prd) (c:Unit):Prop:=True∧True∧(0+(iE a.months).length)*(8:Nat)≤(140737488355328:Nat)∧zJc a b c
def zEq (a:Prd) (b:Unit):Prop:=True∧(0+(iE a.settle).length)*(8:Nat)≤(140737488355328:Nat)∧((∃(c:Unit),(0:Int)=(0:Int)∧sb a.code=sb a.code∧a.tick=a.tick∧a.low=a.low∧a.high=a.high∧a.wide=a.wide∧a.rule=a.rule∧a.top=a.top∧a.least=a.least∧a.part=a.part∧False)∨∃(b:Unit),False)
def zGl (a:Prd) (b:Unit):Prop:=True∧True∧(0+(iE a.months).length)*(8:Nat)≤(140737488355328:Nat)∧zEq a b
def yLo (p:Prd):Prop:=
 ∃(a:Prd),sb a.code=sb p.code∧iE a.months=iE p.months∧a.tick=p.tick∧a.low=p.low∧a.high=p.high∧a.wide=p.wide∧a.rule=p.rule∧a.top=p.top∧a.least=p.least∧a.part=p.part∧iE a.settle=iE p.settle∧(zY a)∧(∀(b:Unit),a.check=0→(True∧True∧((0+(iE p.months).length)*(8:Nat)≤(140737488355328:Nat)∧True∧zJc p a b)∧zKj p a b)∧True∧True∧zKj p a b)∧∀(b:Unit),a.check≠0→cnd (a.check !=0) ((∃(c:Unit),False)∨∃(b:Unit),True∧p.check=a.check∧(p.check=0→False)) ((True∧True∧((0+(iE p.months).length)*(8:Nat)≤(140737488355328:Nat)∧True∧zEq p b)∧zGl p b)∧True∧True∧zGl p b)
def yMt (m:Mkt):Prop:=
 ∃(i:MSt),zE i=zE m.s∧(i.books.length≤1000000∧∀(b:Book),b∈i.books→(b.a.slots.length≤1000000∧b.a.queues.length≤1000000)∧b.buys.length≤1000000∧b.sells.length≤1000000∧b.spare.length≤1000000)∧∀(o:Unit),True→∃(o:Unit),sb m.p.code=sb m.p.code∧m.p.tick=m.p.tick∧m.p.low=m.p.low∧m.p.high=m.p.high∧m.p.wide=m.p.wide∧m.p.rule=m.p.rule∧m.p.top=m.p.top∧m.p.least=m.p.least∧m.p.part=m.p.part∧zE m.s=zE i∧yD m.used=yD m.used∧AObj.fro 1 (iE m.p.months)=AObj.fro 1 (iE m.p.months)∧AObj.fro 1 (iE m.p.settle)=AObj.fro 1 (iE m.p.settle)∧zE m.s=zE i∧True
open Go Cv Go.Proofs
theorem zWz:stateC.ok Tryz.prog 49:=okw (V:=yMt) mixed (gokc zCc gok0) 0 (fun _=>[]) (fun _=>[]) [0] Tryz.func49 fun(m:Mkt) h=>by
 obtain⟨h1,h2⟩:m.s.small:=h
 refine⟨m.s,rfl,⟨h1,h2⟩,fun _ _=>⟨(),?_⟩⟩
 exact kp
theorem yTu (p:Prd) (h:newMC.cnd p):yLo p:=by
 unfold yLo zKj zJc zGl zEq zY
 obtain⟨h1,h2,h3⟩:p.small:=h
 refine⟨p,?_⟩
 simp only[xF]
 (repeat'(first|exact rfl|exact trivial|assumption|apply And.intro|refine fun(_:Unit) (_:True)=>?_|refine Exists.intro () ?_|omega|(dsimp only;omega)))
 ·intro _ c
  (repeat'(first|exact rfl|exact trivial|assumption|apply And.intro|refine fun(_:Unit) (_:True)=>?_|refine Exists.intro () ?_|omega|(dsimp only;omega)))
  all_goals(refine .inl ⟨(),?_⟩;(repeat'(first|exact rfl|exact trivial|assumption|apply And.intro|refine fun(_:Unit) (_:True)=>?_|refine Exists.intro () ?_|omega|(dsimp only;omega))))
 ·intro _ c
  refine Cv.cnd.mk (fun e=> .inr ⟨(),trivial,kp,c⟩) (fun e=>absurd (by simpa using e) c)
theorem z4r:newMC.ok Tryz.prog 47:=okw mixed (gokc yGq gok0) 0 (fun _=>[]) (fun _=>[]) [] Tryz.func47 yTu
open Go Cv Go.Proofs
structure WiI where
 n:Int
 lo:Int
 hi:Int
def zI (n lo hi:Int):Int:=lo+n % (hi-lo+1)
def withinC:Con:=con1 WiI (fun i=>[zA i.n,zA i.lo,zA i.hi]) (fun _=>[]) (fun i=>yV i.n∧-1000000≤i.lo∧i.lo≤i.hi∧i.hi≤1000000) (fun i=>zA (zI i.n i.lo i.hi)) (fun _=>[])
def jX (rule:Int):Prd:=⟨[67,76],[320,321,323],5,0,1000,200,rule,4,2,40,[500,505,490]⟩
def threeC:Con:=con1 Int (fun n=>[zA n]) (fun _=>[]) (fun _=>True) (fun n=>prdV (jX n)) (fun _=>[])
open Go Cv Go.Proofs
def aV (a:WiI):=(IntKind.i64.wrap (IntKind.i64.wrap (a.hi-a.lo)+1))
def z3l (i:WiI):Prop:=
 IntKind.i64=IntKind.i64∧IntKind.i64.wrap (IntKind.i64.wrap (i.hi-i.lo)+1)≠0∧cnd (decide (i.n.tmod (aV i)<0)) (∃(a:Unit),zI i.n i.lo i.hi=IntKind.i64.wrap (i.lo+IntKind.i64.wrap (IntKind.i64.wrap (IntKind.i64.wrap (i.n.tmod (aV i)+i.hi)-i.lo)+1))∧True) (∃(a:Unit),zI i.n i.lo i.hi=IntKind.i64.wrap (i.lo+i.n.tmod (aV i))∧True)
def z9h (n:Int):Prop:=
 ∃(a:Unit),sb [(67:UInt8),(76:UInt8)]=ByteArray.mk #[(67:UInt8),(76:UInt8)]∧iE [(320:Int),(321:Int),(323:Int)]=[[dI 320],[dI 321],[dI 323]]∧(5:Int)=(5:Int)∧(0:Int)=(0:Int)∧(1000:Int)=(1000:Int)∧(200:Int)=(200:Int)∧n=n∧(4:Int)=(4:Int)∧(2:Int)=(2:Int)∧(40:Int)=(40:Int)∧iE [(500:Int),(505:Int),(490:Int)]=[[dI 500],[dI 505],[dI 490]]∧True
open Go Cv Go.Proofs
theorem yFa:threeC.ok Tryz.prog 60:=okw (V:=z9h) mixed gok0 0 (fun _=>[]) (fun _=>[]) [] Tryz.func60 fun(n:Int) _=>by
 unfold z9h dI;exact kp
theorem yHj (i:WiI) (h:withinC.cnd i):z3l i:=by
 obtain⟨⟨a1,a2⟩,a3,a4,a5⟩:yV i.n∧-1000000≤i.lo∧i.lo≤i.hi∧i.hi≤1000000:=h
 unfold z3l aV
 rw[w64 (x:=i.hi-i.lo) (by omega),w64 (x:=i.hi-i.lo+1) (by omega)]
 obtain⟨d,hd⟩:∃d:Int,i.hi-i.lo+1=d:=⟨_,rfl⟩
 rw[hd]
 have h1:i.n.tmod d=if 0≤i.n then i.n % d else-((-i.n) % d):=by
  split
  ·rename_i h;rw[Int.tmod_eq_emod_of_nonneg h]
  ·rename_i h
   have:i.n= -(-i.n):=by omega
   conv=>lhs;rw[this]
   rw[Int.neg_tmod,Int.tmod_eq_emod_of_nonneg (by omega)]
 have hb1:=Int.emod_nonneg i.n (show d≠0 by omega)
 have hb2:=Int.emod_lt_of_pos i.n (show 0<d by omega)
 have hb3:=Int.emod_nonneg (-i.n) (show d≠0 by omega)
 have hb4:=Int.emod_lt_of_pos (-i.n) (show 0<d by omega)
 have key:i.n.tmod d<0→i.n % d=i.n.tmod d+d:=fun hneg=>by
  have:=Int.emod_eq_of_lt (a:=i.n.tmod d+d) (b:=d) (by rw[h1]at hneg ⊢;split at hneg<;>split<;>omega) (by omega)
  rw[← this,Int.add_emod_right]
  have e:=Int.tmod_add_mul_tdiv i.n d
  conv=>lhs;rw[← e]
  rw[Int.add_mul_emod_self_left]
 have key2:¬i.n.tmod d<0→i.n % d=i.n.tmod d:=fun hneg=>by
  have hlt:i.n.tmod d<d:=by rw[h1];split<;>omega
  have:=Int.emod_eq_of_lt (a:=i.n.tmod d) (b:=d) (by omega) hlt
  rw[← this]
  have e:=Int.tmod_add_mul_tdiv i.n d
  conv=>lhs;rw[← e]
  rw[Int.add_mul_emod_self_left]
 refine⟨rfl,by omega,zK (fun c=>⟨(),?_,trivial⟩) (fun c=>⟨(),?_,trivial⟩)⟩
 ·have k:=key c
  rw[zI,hd,k]
  rw[w64 (x:=i.n.tmod d+i.hi) (by omega),w64 (x:=i.n.tmod d+i.hi-i.lo) (by omega),w64 (x:=i.n.tmod d+i.hi-i.lo+1) (by omega),w64 (by omega)]
  omega
 ·have k:=key2 c
  rw[zI,hd,k,w64 (by omega)]
theorem within_ok:withinC.ok Tryz.prog 14:=okw mixed gok0 0 (fun _=>[]) (fun _=>[]) [] Tryz.func14 yHj
open Go Cv Go.Proofs
def zAw (l:List (Int×Int)) (k:Int):Option Int:=(l.find? fun x=>decide (x.1=k)).map (·.2)
open Go Cv Go.Proofs
open Go Cv Go.Proofs
theorem yDu (l:List (Int×Int)) (k:Int):∀p∈yW l,like (Value.int IntKind.i64 k) p.1=true:=by
 intro p hp
 obtain⟨x,_,rfl⟩:=yXm.1 hp
 rfl
theorem nH (k:Int):∀l:List (Int×Int),uB (Value.int IntKind.i64 k) (yW l)=(zAw l k).map fun v=>[D.v (.int .i64 v)]
 |[]=>rfl
 |(a,v)::l=>by
  have ih:=nH k l
  show(bif (keq .i64 .i64 && decide (k=a))then _ else uB _ (yW l))=_
  by_cases h:k=a
  ·subst h;simp[zAw,keq]
  ·have h':¬a=k:=fun e=>h e.symm
   rw[show(keq .i64 .i64 && decide (k=a))=false by simp[h],cond_false,ih]
   simp[zAw,y2o,h']
open Go Cv Go.Proofs
structure Rep where
 kind:Int
 id:Int
 inst:Int
 side:Int
 price:Int
 qty:Int
 left:Int
 why:Int
 deriving DecidableEq
@[reducible] def yVk (r:Rep):V:= .agg [zA r.kind,zA r.id,zA r.inst,zA r.side,zA r.price,zA r.qty,zA r.left,zA r.why]
def x6 (r:Rep):List D:=[.v (.int .i64 r.kind),.v (.int .i64 r.id),.v (.int .i64 r.inst),.v (.int .i64 r.side),.v (.int .i64 r.price),.v (.int .i64 r.qty),.v (.int .i64 r.left),.v (.int .i64 r.why)]
def zWu (k v:Int):List (Int×Int)→List (Int×Int)
 |[]=>[(k,v)]
 |(a,b)::l=>if k=a then(a,v)::l else(a,b)::zWu k v l
def z1n (k:Int):List (Int×Int)→List (Int×Int)
 |[]=>[]
 |(a,b)::l=>if k=a then l else(a,b)::z1n k l
def bj (t:Nat):SAnn:={ι:=Bool,slots:=fun b=>[(t,yG b)],rows:=fun _=>[]}
def ij (t:Nat):SAnn:={ι:=Int,slots:=fun n=>[(t,zA n)],rows:=fun _=>[]}
open Go Cv Go.Proofs
open Go Cv Go.Proofs
theorem dK (l:List (Int×Int)) (k:Int):∀(p:Value×List D),p∈yW l→like (Value.int IntKind.i64 k) p.1=true:=fun p hp=>yDu l k p hp
theorem zUi (k v:Int):∀l,fB (Value.int IntKind.i64 k) [D.v (.int .i64 v)] (yW l)=yW (zWu k v l)
 |[]=>rfl
 |(a,b)::l=>by
  have ih:=zUi k v l
  show(bif (keq .i64 .i64 && decide (k=a))then _ else _::fB _ _ (yW l))=_
  rw[ih,zWu]
  by_cases h:k=a
  ·subst h;simp[keq,yW]
  ·simp[h,yW]
theorem zXw (k:Int):∀l,lQ (Value.int IntKind.i64 k) (yW l)=yW (z1n k l)
 |[]=>rfl
 |(a,b)::l=>by
  have ih:=zXw k l
  show(bif (keq .i64 .i64 && decide (k=a))then yW l else _::lQ _ (yW l))=_
  rw[ih,z1n]
  by_cases h:k=a
  ·subst h;simp[keq]
  ·simp[h,yW]
theorem yPy (l:List (Int×Int)) (k:Int):uB (Value.int IntKind.i64 k) (yW l)=some [D.v (.int .i64 ((zAw l k).getD 0))]∧(zAw l k).isSome=true∨uB (Value.int IntKind.i64 k) (yW l)=none∧[D.v (.int .i64 ((zAw l k).getD 0))]=[D.v (.int .i64 0)]∧(zAw l k).isSome=false:=by
 rw[nH]
 cases zAw l k with
 |none=>exact .inr ⟨rfl,rfl,rfl⟩
 |some v=>exact .inl ⟨rfl,rfl⟩
theorem zUd (a b:Int):(a==b)=decide (a=b):=by
 by_cases h:a=b
 ·subst h;simp
 ·simp[h]
open Go Cv Go.Proofs
theorem xI {n lo hi:Int} (h:lo≤hi):lo≤zI n lo hi∧zI n lo hi≤hi:=by
 rw[zI]
 have h1:=Int.emod_nonneg n (show hi-lo+1≠0 by omega)
 have h2:=Int.emod_lt_of_pos n (show 0<hi-lo+1 by omega)
 omega
open Go Go.RowKit Cv
theorem eH {P:Program} {dT sT ty e sz by_:Nat} {z:Array Value} (hi:vL P dT=some (e,sz,by_,z)) {w:World} {g o dLen dCap b so sLen sCap n:Nat} {cur src:List Value} {T T':TypeId} {fr:Nat×Nat}
 (hg:w.heap[g]? =some (.cells cur.toArray T (0,0))) (hs:w.heap[b]? =some (.cells src.toArray T' fr)) (hn:Nat.min sLen dLen=n) (h1:so+n*sz≤src.length) (h2:o+n*sz≤cur.length)
 (hone:∀v∈(src.drop so).take (n*sz),v.oneC=true):
 hZ P (Builtin.copy_ #[dT,sT] ty #[.slice (some ⟨g,o,none⟩) dLen dCap,.slice (some ⟨b,so,none⟩) sLen sCap]) w (.int .i64 n) (World.setB w g (.cells (spl cur o ((src.drop so).take (n*sz))).toArray T (0,0))):=by
 obtain⟨i,zv,q1,q2,rfl,rfl,q5,rfl⟩:=jC hi
 have hl:((src.drop so).take (n*i.size)).length=n*i.size:=by rw[yXg,yXk];omega
 have hst:=j8 (P:=P) ((src.drop so).take (n*i.size)) 0 o cur w hg (by rw[hl];omega) hone
 simp only[y1b]at hst
 unfold hZ Builtin.copy_
 simp only[yYj,yYo,yYe,bind,pure,run_bind,Sem.bind,Sem.run,Cv.run_underlying q1,Cv.run_sizeOf q2,Builtin.lenOf,hn,Builtin.firstCells,uW hs h1,hst]
 rfl
theorem Hp.apart {k:Ko} {w:World} {b c:Nat} {o o':Obj} {L:List HP} (H:Hp k w (pt b o::pt c o'::L)):b≠c:=by
 obtain⟨hk,hs,hh⟩:=H
 cases hh with
 |cons ha hsub hd hr=>
  cases hr with
  |cons hb hsub2 hd2 hr2=>
   intro e
   subst e
   have:=hd _ yWr b
   rw[show _=one b o from ha,show _=one b o' from hb]at this
   simp[one]at this
def yOq (P:Program) (tS tI sz fO fR:Nat) (s:Option Addr) (sn sk:Nat) (i:Int) (v:Option Addr) (vn vk:Nat) (w:World) (R:Ending→World→Prop):Prop:=
slN s sn sk (some i) none sz fun a1 na1 ka1=>
cnd (((vn:Int):Int)==0) (
R (.returned (.slice s sn sk)) w) (
cnd ((i:Int)==(sn:Int)) (
∃(a2:Option Addr) (na2 ka2:Nat),∃w3:World,hZ P (Builtin.append_ #[tS,tS] tS #[.slice s sn sk,.slice v vn vk]) w (.slice a2 na2 ka2) w3∧
R (.returned (.slice a2 na2 ka2)) w3) (
cnd (decide ((IntKind.i64.wrap ((sn:Int)+(vn:Int)):Int)>(sk:Int))) (
slN s sn sk none (some i) sz fun a4 na4 ka4=>
∃(a5:Option Addr) (na5 ka5:Nat),∃w6:World,hZ P (Builtin.append_ #[tS,tI] tS #[.slice a4 na4 ka4,.int .i64 (IntKind.i64.wrap (IntKind.i64.wrap ((sn:Int)+(vn:Int))-i))]) w (.slice a5 na5 ka5) w6∧
slN a5 na5 ka5 (some i) none sz fun a7 na7 ka7=>
∃x8:Int,∃w9:World,hZ P (Builtin.copy_ #[tS,tS] tI #[.slice a7 na7 ka7,.slice v vn vk]) w6 (.int .i64 x8) w9∧
z5k w9 fun w10=>
slN a5 na5 ka5 (some (IntKind.i64.wrap (i+(vn:Int)))) none sz fun a11 na11 ka11=>
slN s sn sk (some i) none sz fun a12 na12 ka12=>
∃x13:Int,∃w14:World,hZ P (Builtin.copy_ #[tS,tS] tI #[.slice a11 na11 ka11,.slice a12 na12 ka12]) w10 (.int .i64 x13) w14∧
R (.returned (.slice a5 na5 ka5)) w14) (
slN s sn sk none (some (IntKind.i64.wrap ((sn:Int)+(vn:Int)))) sz fun a15 na15 ka15=>
slN a15 na15 ka15 (some (IntKind.i64.wrap (i+(vn:Int)))) none sz fun a16 na16 ka16=>
∃c17:Bool,∃w18:World,Cv.Ext P fO #[.slice v vn vk,.slice a16 na16 ka16] w (.bool c17) w18∧
cnd (!c17) (
z5k w18 fun w19=>
slN a15 na15 ka15 (some (IntKind.i64.wrap (i+(vn:Int)))) none sz fun a20 na20 ka20=>
slN a15 na15 ka15 (some i) none sz fun a21 na21 ka21=>
∃x22:Int,∃w23:World,hZ P (Builtin.copy_ #[tS,tS] tI #[.slice a20 na20 ka20,.slice a21 na21 ka21]) w19 (.int .i64 x22) w23∧
slN a15 na15 ka15 (some i) none sz fun a24 na24 ka24=>
∃x25:Int,∃w26:World,hZ P (Builtin.copy_ #[tS,tS] tI #[.slice a24 na24 ka24,.slice v vn vk]) w23 (.int .i64 x25) w26∧
R (.returned (.slice a15 na15 ka15)) w26) (
slN a15 na15 ka15 (some (sn:Int)) none sz fun a27 na27 ka27=>
∃x28:Int,∃w29:World,hZ P (Builtin.copy_ #[tS,tS] tI #[.slice a27 na27 ka27,.slice v vn vk]) w18 (.int .i64 x28) w29∧
slN a15 na15 ka15 (some i) none sz fun a30 na30 ka30=>
Calls P fR #[.slice a30 na30 ka30,.int .i64 (vn:Int)] w29 fun e32 w31=>e32= .returned (.tuple #[])∧
R (.returned (.slice a15 na15 ka15)) w31))))
theorem z7s {α:Type} {l m:Nat} {xs r ys:List α} (hl:l≤xs.length) (hy:ys.length=m) (hr:m≤r.length):
 ((xs++r).take (l+m)++xs.drop l++(xs++r).drop (l+m+(xs.drop l).length)).take l++ys++((xs++r).take (l+m)++xs.drop l++(xs++r).drop (l+m+(xs.drop l).length)).drop (l+ys.length)=(xs.take l++ys++xs.drop l)++r.drop m:=by
 have e1:(xs++r).drop (l+m+(xs.drop l).length)=r.drop m:=by
  rw[yXk,show l+m+(xs.length-l)=xs.length+m by omega,y1s]
  simp
 have e2:((xs++r).take (l+m)++xs.drop l++r.drop m).take l=xs.take l:=by
  rw[yWv,yXo (by rw[yXg,yWp];omega),List.take_take,y1j (by omega),yXo hl]
 have e3:((xs++r).take (l+m)++xs.drop l++r.drop m).drop (l+ys.length)=xs.drop l++r.drop m:=by
  have:((xs++r).take (l+m)).length=l+m:=by rw[yXg,yWp];omega
  rw[yWv,hy,y1s,this,y2d,y0i,y0e (by omega),yYt]
 rw[e1,e2,e3]
 simp
theorem zSq (A Z Y:List Value):spl (A++Z) A.length Y=A++Y++Z.drop Y.length:=by
 simp only[spl]
 rw[List.take_left,y1s]
 simp
theorem zFx {b o n c i:Nat} (h:c≠i):(if c=i then(some ⟨b,o,none⟩:Option Addr)else(some ⟨b,o,none⟩:Option Addr).map (·.add n))=some ⟨b,o+n,none⟩:=by
 rw[yWk h,yYl,vR]
def zRq (P:Program) (fO:Nat):Prop:=∀(w:World) (va sb so la ca lb cb:Nat) (c c':Array Value) (T T':TypeId),va≠sb→w.heap[va]?=some (.cells c T (0,0))→w.heap[sb]?=some (.cells c' T' (0,0))→c'.size≠0→
 Cv.Ext P fO #[.slice (some ⟨va,0,none⟩) la ca,.slice (some ⟨sb,so,none⟩) lb cb] w (.bool false) w
theorem z2n {P : Program} {fO tS tB e sz by_ : Nat} {z : Array Value} {fn : Func} (hf : P.funcs[fO]? = some fn) (hname : (fn.name == "runtime.NumGoroutine") = false) (hb : fn.body.isNone = true) (hn : Extern.findNext fn = none) (he : Extern.find fn = some (Extern.SlicesOverlaps.overlaps #[tS, tS] #[tB]))
 (hi:vL P tS=some (e,sz,by_,z)):zRq P fO:=by
 obtain⟨i,zv,q1,q2,rfl,rfl,q5,rfl⟩:=jC hi
 intro w va sb so la ca lb cb c c' T T' hne h1 h2 h3
 unfold Cv.Ext
 rw[run_callFunc_extern hf hname hb hn he,Lib.run_overlaps_apart w tS tB e q1 i.size (fun w=>Cv.run_sizeOf q2 w) ⟨va,0,none⟩ ⟨sb,so,none⟩ la ca lb cb hne T T' c.size c'.size (by simp[World.shape?,h1]) (by simp[World.shape?,h2]) h3 (by simp[World.frozen?,h1]) (by simp[World.frozen?,h1])]
 rfl
theorem yVr {P:Program} {tS tI e sz by_ fO fR:Nat} {z:Array Value} (hi:vL P tS=some (e,sz,by_,z)) (hz:z.size=sz) (hby:0<by_) (hsz:0<sz) (h2:zZb P tS=true) (hti:P.underlying tI=some (.int .i64)) (hov:zRq P fO)
 {k:Ko} {w:World} {L:List HP} {s v:Option Addr} {sn sk vn vk i:Nat} {xs ys:List Value} (H:Hp k w (slO e sz s sn sk xs::slO e sz v vn vk ys::L)) (h1:∀u∈xs,u.oneC=true) (hy:∀u∈ys,u.oneC=true) (hin:i≤sn) (hv:0<vn)
 (hb:(sn+vn)*by_≤140737488355328):
 yOq P tS tI sz fO fR s sn sk i v vn vk w fun en w'=>∃a kk,en= .returned (.slice a (sn+vn) kk)∧Hp k w' (slO e sz a (sn+vn) kk (xs.take (i*sz)++ys++xs.drop (i*sz))::slO e sz v vn vk ys::L):=by
 obtain⟨hxl,hnk⟩:=H.len
 obtain⟨hyl,hvk⟩:=H.swap.len
 have hnm:sn+vn≤140737488355328:=y0j (Nat.le_mul_of_pos_right _ hby) hb
 have w1:IntKind.i64.wrap ((sn:Int)+(vn:Int))=((sn+vn:Nat):Int):=by rw[Cv.wrap_i64 (by omega) (by omega)];simp
 have w2:IntKind.i64.wrap ((i:Int)+(vn:Int))=((i+vn:Nat):Int):=by rw[Cv.wrap_i64 (by omega) (by omega)];simp
 have w3:IntKind.i64.wrap (((sn+vn:Nat):Int)-(i:Int))=((sn+vn-i:Nat):Int):=by rw[Cv.wrap_i64 (by omega) (by omega)];omega
 have hle:i*sz≤xs.length:=by rw[hxl];exact yXz _ hin
 have htl:(xs.take (i*sz)).length=i*sz:=by rw[yXg];omega
 have hdl:(xs.drop (i*sz)).length=(sn-i)*sz:=by rw[yXk,hxl,Nat.sub_mul]
 have hsum:(i+vn)*sz=i*sz+vn*sz:=yZq _ _ _
 have hsum2:(sn+vn)*sz=i*sz+vn*sz+(sn-i)*sz:=by rw[← yZq,← yZq];congr 1;omega
 have hfin:(xs.take (i*sz)++ys++xs.drop (i*sz)).length=(sn+vn)*sz:=by
  rw[yWp,yWp,htl,hyl,hdl,hsum2]
 unfold yOq
 simp only[slN,w1,w2,w3,yXf]
 refine⟨⟨by omega,by omega,hnk⟩,Cv.cnd.mk (fun c=>absurd c (by simp;omega)) fun _=>Cv.cnd.mk (fun c=> ?_) fun c=>Cv.cnd.mk (fun hc=> ?_) fun hc=> ?_⟩
 ·have c:i=sn:=by have:(i:Int)=(sn:Int):=by simpa using c
                  omega
  subst c
  obtain⟨a',c',w',r1,r2⟩:=H.append (rt:=tS) hi h2 (x:= .slice v vn vk) (m:=vn) (ys:=ys) (.inl ⟨v,vk,rfl,H.swap.satR⟩) hy hz hby hb
  refine⟨a',_,c',w',r1,a',c',rfl,?_⟩
  rw[yXc (by omega),y0e (by omega),yXi]
  exact r2
 ·have c:i<sn:=by have:¬(i:Int)=(sn:Int):=by simpa using c
                  omega
  have hc:sk<sn+vn:=by have:=yYq hc;omega
  obtain⟨inf,zv,q1,q2,q3,q4,q5,q6⟩:=jC hi
  subst q3 q4 q6
  rcases H.slcases with⟨_,e0,_⟩|⟨b,r,rfl,g1,g2,g3,H0⟩
  ·omega
  rcases H0.swap.slcases with⟨_,e0,_⟩|⟨vb,rv,rfl,g4,g5,g6,H1⟩
  ·omega
  have hold:(Builtin.firstCells inf.size i (.slice (some ⟨b,0,none⟩) i sk)).run P w.drew= .ok (xs.take (i*inf.size)).toArray w.drew:=by
   have hbk:=(H1.drew).swap.get
   have:=uW (P:=P) (o:=0) (n:=i*inf.size) hbk (by rw[yWp];omega)
   unfold Builtin.firstCells
   rw[this,y0i,yXo hle]
  have hfit2:=zLi (need:=sn+vn) (cap:=sk) (by omega)
  have hfit3:=yXz inf.bytes hfit2
  have e2:2*(sn+vn)*inf.bytes=2*((sn+vn)*inf.bytes):=by rw[Nat.mul_assoc]
  have hkb:(sn+vn-i)*inf.bytes≤(sn+vn)*inf.bytes:=yXz _ (by omega)
  have hgr:=Lib.run_append_grow_zeros (P:=P) w tS tI tS e inf zv .i64 .i64 q1 hti q2 q5 (some ⟨b,0,none⟩) i sk (xs.take (i*inf.size)) hold (sn+vn-i) (by omega) hsz (by omega) (by omega) (by omega) (by rw[show i+(sn+vn-i)=sn+vn by omega];omega)
  rw[show i+(sn+vn-i)=sn+vn by omega]at hgr
  have hG:sn+vn≤grownCap w (sn+vn) sk e:=grownCap_ge w (sn+vn) sk e
  generalize grownCap w (sn+vn) sk e=G at hgr hG
  have harr:(xs.take (i*inf.size)).toArray++Builtin.zeroCells zv.cells (sn+vn-i)++Builtin.zeroCells zv.cells (G-(sn+vn))=(xs.take (i*inf.size)++((Builtin.zeroCells zv.cells (sn+vn-i)).toList++(Builtin.zeroCells zv.cells (G-(sn+vn))).toList)).toArray:=by
   apply Array.ext';simp
  rw[harr]at hgr
  have hZl:((Builtin.zeroCells zv.cells (sn+vn-i)).toList++(Builtin.zeroCells zv.cells (G-(sn+vn))).toList).length=(sn+vn-i)*inf.size+(G-(sn+vn))*inf.size:=by
   rw[yWp,y1p,y1p,size_zeroCells,size_zeroCells,hz]
  generalize (Builtin.zeroCells zv.cells (sn+vn-i)).toList++(Builtin.zeroCells zv.cells (G-(sn+vn))).toList=Z at hgr hZl
  have hZ2:(sn+vn-i)*inf.size=vn*inf.size+(sn-i)*inf.size:=by rw[← yZq];congr 1;omega
  have H2:=(H1.drew).new (.cells (xs.take (i*inf.size)++Z).toArray e)
  have hB:w.drew.heap.size=w.heap.size:=rfl
  rw[hB]at H2
  have hc1:=eH (P:=P) (sT:=tS) (ty:=tI) hi (g:=w.heap.size) (o:=0+i*inf.size) (dLen:=sn+vn-i) (dCap:=G-i) (b:=vb) (so:=0) (sLen:=vn) (sCap:=vk) (n:=vn) H2.get H2.swap.get (y1j (by omega)) (by rw[yWp];omega) (by rw[yWp,htl,hZl];omega) (by
   rw[y0i,yXo (by omega),yXc (by omega)];exact hy)
  rw[y0i,yXo (by omega),yXc (show ys.length≤vn*inf.size by omega),yXl]at hc1
  have es1:spl (xs.take (i*inf.size)++Z) (i*inf.size) ys=xs.take (i*inf.size)++ys++Z.drop ys.length:=by
   have:=zSq (xs.take (i*inf.size)) Z ys
   rwa [htl]at this
  rw[es1]at hc1
  have H3:=(H2.upd (.cells (xs.take (i*inf.size)++ys++Z.drop ys.length).toArray e)).drew
  have hg4:(xs++r).drop (i*inf.size)=xs.drop (i*inf.size)++r:=yZb hle
  have hc2:=eH (P:=P) (sT:=tS) (ty:=tI) hi (g:=w.heap.size) (o:=0+(i+vn)*inf.size) (dLen:=sn+vn-(i+vn)) (dCap:=G-(i+vn)) (b:=b) (so:=0+i*inf.size) (sLen:=sn-i) (sCap:=sk-i) (n:=sn-i) H3.get H3.swap.drop.swap.get (y1j (by omega)) (by rw[yWp,hxl,yXl,← yZq];exact y0j (yXz _ (by omega)) (Nat.le_add_right _ _)) (by
   rw[yWp,yWp,htl,hyl,yXk,hZl];omega) (by
   rw[yXl,hg4,yXo (by omega),yXc (by omega)]
   exact fun u hu=>h1 u (y0n hu))
  rw[yXl,yXl,hg4,yXo (by omega),yXc (show(xs.drop (i*inf.size)).length≤(sn-i)*inf.size by omega)]at hc2
  have es2:spl (xs.take (i*inf.size)++ys++Z.drop ys.length) ((i+vn)*inf.size) (xs.drop (i*inf.size))=xs.take (i*inf.size)++ys++xs.drop (i*inf.size)++(Z.drop ys.length).drop (xs.drop (i*inf.size)).length:=by
   have:=zSq (xs.take (i*inf.size)++ys) (Z.drop ys.length) (xs.drop (i*inf.size))
   rwa [show(xs.take (i*inf.size)++ys).length=(i+vn)*inf.size by rw[yWp,htl,hyl,hsum]]at this
  rw[es2]at hc2
  refine⟨⟨by omega,by omega⟩,_,_,_,_,hgr,?_⟩
  rw[zFx (show G≠i by omega),yXl]
  refine⟨⟨by omega,by omega,hG⟩,_,_,hc1,?_⟩
  rintro _ rfl
  rw[zFx (show G≠i+vn by omega),zFx (show sk≠i by omega),yXl,yXl]
  refine⟨⟨by omega,by omega,hG⟩,⟨by omega,by omega,hnk⟩,_,_,hc2,_,_,rfl,?_⟩
  have H4:=H3.upd (.cells (xs.take (i*inf.size)++ys++xs.drop (i*inf.size)++(Z.drop ys.length).drop (xs.drop (i*inf.size)).length).toArray e)
  have H5:=H4.slmk (n:=sn+vn) (c:=G) (sz:=inf.size) hfin (by
   rw[yWp,hfin,yXk,yXk,hZl,hyl,hdl]
   have:G*inf.size=(sn+vn)*inf.size+(G-(sn+vn))*inf.size:=by rw[← yZq];congr 1;omega
   omega) hG
  have H6:=H5.swap.slmk (n:=vn) (c:=vk) (sz:=inf.size) g4 g5 g6
  exact(H6.swap.perm (List.Perm.trans ((List.Perm.swap _ _ _).cons _) (List.Perm.swap _ _ _))).drop
 ·have c:i<sn:=by have:¬(i:Int)=(sn:Int):=by simpa using c
                  omega
  have hc:sn+vn≤sk:=by have:=y1f hc;omega
  rcases H.slcases with⟨_,e0,_⟩|⟨b,r,rfl,g1,g2,g3,H0⟩
  ·omega
  rcases H0.swap.slcases with⟨_,e0,_⟩|⟨vb,rv,rfl,g4,g5,g6,H1⟩
  ·omega
  have hrl:vn*sz≤r.length:=by
   have e1:(sn+vn)*sz≤sk*sz:=yXz _ hc
   rw[yWp,g1]at g2
   rw[yZq]at e1
   omega
  have H2:=H1.swap
  have hne:vb≠b:=Hp.apart H1
  have hg4:(xs++r).drop (i*sz)=xs.drop (i*sz)++r:=yZb hle
  have hex:=hov w vb b (0+(i+vn)*sz) vn vk (sn+vn-(i+vn)) (sk-(i+vn)) (ys++rv).toArray (xs++r).toArray e e hne H1.get H2.get (by
   rw[y0y,yWp,g1]
   have:=Nat.mul_pos (show 0<sn by omega) hsz
   omega)
  have H3:=H2.drew
  have hc1:=eH (P:=P) (sT:=tS) (ty:=tI) hi (g:=b) (o:=0+(i+vn)*sz) (dLen:=sn+vn-(i+vn)) (dCap:=sk-(i+vn)) (b:=b) (so:=0+i*sz) (sLen:=sn+vn-i) (sCap:=sk-i) (n:=sn-i) H3.get H3.get (by rw[show sn+vn-(i+vn)=sn-i by omega];exact Nat.min_eq_right (by omega)) (by
   rw[yWp,g1,yXl,← yZq];exact y0j (yXz _ (by omega)) (Nat.le_add_right _ _)) (by
   rw[yWp,g1,yXl,← yZq,show i+vn+(sn-i)=sn+vn by omega,yZq];omega) (by
   rw[yXl,hg4,yXo (by omega),yXc (by omega)]
   exact fun u hu=>h1 u (y0n hu))
  rw[yXl,yXl,hg4,yXo (by omega),yXc (show(xs.drop (i*sz)).length≤(sn-i)*sz by omega)]at hc1
  have H4:=H3.upd (.cells (spl (xs++r) ((i+vn)*sz) (xs.drop (i*sz))).toArray e)
  have hcl:(spl (xs++r) ((i+vn)*sz) (xs.drop (i*sz))).length=(xs++r).length:=by
   simp only[spl,yWp,yXg,hdl]
   rw[yXk,yWp,g1,hsum]
   have:sn*sz=i*sz+(sn-i)*sz:=by rw[← yZq];congr 1;omega
   omega
  have hc2:=eH (P:=P) (sT:=tS) (ty:=tI) hi (g:=b) (o:=0+i*sz) (dLen:=sn+vn-i) (dCap:=sk-i) (b:=vb) (so:=0) (sLen:=vn) (sCap:=vk) (n:=vn) H4.get H4.swap.get (y1j (by omega)) (by rw[yWp];omega) (by
   rw[hcl,yWp,yXl];omega) (by
   rw[y0i,yXo (by omega),yXc (by omega)];exact hy)
  rw[y0i,yXo (by omega),yXc (show ys.length≤vn*sz by omega),yXl]at hc2
  have es:spl (spl (xs++r) ((i+vn)*sz) (xs.drop (i*sz))) (i*sz) ys=(xs.take (i*sz)++ys++xs.drop (i*sz))++r.drop (vn*sz):=by
   have:=z7s (l:=i*sz) (m:=vn*sz) (xs:=xs) (r:=r) (ys:=ys) hle hyl hrl
   simp only[spl,hsum]
   exact this
  rw[es]at hc2
  refine⟨⟨by omega,by omega⟩,⟨by omega,by omega,by omega⟩,false,w,?_,Cv.cnd.mk (fun _=> ?_) (fun c=>absurd c (by decide))⟩
  ·rw[zFx (show sk≠i+vn by omega)];exact hex
  rintro _ rfl
  rw[zFx (show sk≠i+vn by omega),zFx (show sk≠i by omega),yXl,yXl]
  refine⟨⟨by omega,by omega,by omega⟩,⟨by omega,by omega,by omega⟩,_,_,hc1,⟨by omega,by omega,by omega⟩,_,_,hc2,_,_,rfl,?_⟩
  have H5:=H4.upd (.cells (xs.take (i*sz)++ys++xs.drop (i*sz)++r.drop (vn*sz)).toArray e)
  have H6:=H5.slmk (n:=sn+vn) (c:=sk) (sz:=sz) hfin (by
   rw[yWp,hfin,yXk,← g2,yWp,g1,yZq]
   omega) hc
  exact(H6.swap.slmk (n:=vn) (c:=vk) (sz:=sz) g4 g5 g6).swap
structure zCo where
 els:List (List D)
 el:List D
 i:Nat
def yAx (e sz by_:Nat):Con where
 ι:=zCo
 pat:=fun i=>[.own 0,.d (.v (.int .i64 i.i)),.own 1]
 pre:=fun i=>[.own e sz i.els,.own e sz [i.el]]
 cnd:=fun i=>i.i≤i.els.length∧(i.els.length+1)*by_≤140737488355328
 alts:=fun i=>[{o:=Unit,res:=fun _=> .own 2,post:=fun _=>[.gone,.gone,.own e sz (i.els.take i.i++i.el::i.els.drop i.i)],rel:=fun _=>True}]
theorem insX_ok {P:Program} (hm:P.follows .mixedOrders=true) {tS tI e sz by_ fI fO fR:Nat} {z:Array Value} {fn:Func} {c:Code} (hf:P.funcs[fI]? =some fn) (hb:fn.body=some c) (hbd:uG P fI=true) (hok:okC fn.ntmps c=true) (hfx:okF [] c=true) (hsz3:Nat.ble 3 fn.ntmps=true)
 (hi:vL P tS=some (e,sz,by_,z)) (hz:z.size=sz) (hby:0<by_) (hsz:0<sz) (h2:zZb P tS=true) (hti:P.underlying tI=some (.int .i64)) (hov:zRq P fO)
 (heq:∀(s:Option Addr) (sn sk:Nat) (i:Int) (v:Option Addr) (vn vk:Nat) (w:World) (R:Ending→World→Prop),yOq P tS tI sz fO fR s sn sk i v vn vk w R=cwp P [] c (zSa P fn R) (uK [.slice s sn sk,.int .i64 i,.slice v vn vk]) w):
 (yAx e sz by_).ok P fI:=by
 intro i hc k L E w ys R hv
 obtain⟨c1,c2⟩:i.i≤i.els.length∧(i.els.length+1)*by_≤140737488355328:=hc
 simp only[yAx,VRL,VR,DR]at hv
 obtain⟨y0,_,rfl,⟨l0,e0,_⟩,y1,_,rfl,⟨rfl,_⟩,y2,_,rfl,⟨l2,e2,_⟩,rfl⟩:=hv
 obtain⟨s,sk,xs,sub0,g1,hxs,hu,H⟩:=R.ownOpen (n:=0) (t:=e) (sz:=sz) (els:=i.els) rfl
 rw[e0]at g1;cases g1
 have hk2:∃v vk zs,y2= .slice v 1 vk∧DRL E.F i.el zs∧i.el.length=sz∧Hp k w (slO e sz s i.els.length sk xs::slO e sz v 1 vk zs::fz E.F::L):=by
  obtain⟨hk,hs,hh⟩:=H
  cases hh with
  |cons ha hsub hd hr=>
   simp only[yAx,gG,wV,yWy,y0d,yYh,yYt]at hr
   cases hr with
   |cons hb2 hsub2 hd2 hr2=>
    rcases hb2 with⟨q,_⟩|⟨⟨hv2,sub2⟩,q1,q2⟩
    ·cases q
    ·simp only at q1
     rw[e2]at q1;cases q1
     simp only[rowHP]at q2
     obtain⟨a,kk,zs,rfl,q3,q4,q5⟩:=q2
     simp only[yYx,List.flatten_nil,yXi]at q3
     exact⟨a,kk,zs,rfl,q3,q4 _ yWr,hk,_,.cons ha hsub hd (.cons q5 hsub2 hd2 hr2)⟩
 obtain⟨v,vk,zs,rfl,hzs,hel,H2⟩:=hk2
 have hv:=yVr (fR:=fR) (fO:=fO) hi hz hby hsz h2 hti hov (i:=i.i) H2 hxs.one hzs.one c1 (by omega) c2
 have hcall:=zHa (args:=[.slice s i.els.length sk,.int .i64 i.i,.slice v 1 vk]) hm hf hb [] hok hfx hsz3 (heq s i.els.length sk i.i v 1 vk w _) hv
 refine zBs hbd (hcall.mono ?_)
 rintro en w' ⟨a,kk,rfl,H3⟩
 have H4:Hp k w' (slO e sz a (i.els.take i.i++i.el::i.els.drop i.i).length kk (xs.take (i.i*sz)++zs++xs.drop (i.i*sz))::(([]:List (Nat×AObj)).map (rHP E)++fz E.F::L)):=by
  have:(i.els.take i.i++i.el::i.els.drop i.i).length=i.els.length+1:=by
   rw[yWp,yWs,yXg,yXk];omega
  rw[this]
  exact H3.swap.drop
 obtain⟨E',r1,r2,r3⟩:=aI (nx:=2) R.nx (by
  rw[List.flatten_append,yYx,← nJ i.i hu,← mQ i.i hu,← yWv]
  exact((hxs.take _).append hzs).append (hxs.drop _)) (fun x hx=>by
   rcases yXh.1 hx with hx|hx
   ·exact hu x (y2b hx)
   ·rcases yWz.1 hx with rfl|hx
    ·exact hel
    ·exact hu x (y0n hx)) H4
 have hl:(i.els.take i.i++i.el::i.els.drop i.i).length=i.els.length+1:=by
  rw[yWp,yWs,yXg,yXk];omega
 rw[hl]at r3
 refine⟨_,rfl,_,yXx.2 rfl,(),trivial,E',r1,r3,⟨r2.nx,?_⟩⟩
 have q1:=((@vZ k w' True _).2 ⟨trivial,r2.hp⟩).imp (B:=rHP E' (1,.gone)) fun x hx=> .inl ⟨rfl,hx.2⟩
 have q2:=((@vZ k w' True _).2 ⟨trivial,q1⟩).imp (B:=rHP E' (0,.gone)) fun x hx=> .inl ⟨rfl,hx.2⟩
 exact q2
open Go Cv Go.Proofs
def bbetterC:Con:=con1 I3' (fun i=>[zA i.side,zA i.x,zA i.y]) (fun _=>[]) (fun _=>True) (fun i=>yG (btr i.side i.x i.y)) (fun _=>[])
@[reducible] def ySn (s:Slot):V:= .agg [yG s.used,zA s.n,zA s.id,zA s.qty,yG s.top,zA s.queue,zA s.ahead,zA s.back]
def pushFC:Con:=con1 Slot (fun s=>[ySn s]) (fun _=>[]) (fun _=>True) (fun s=>yG (!s.used)) (fun _=>[])
def kM (l:List Slot):Int:=zHg (l.findIdx? fun s=> !s.used)
def idxSlotC:Con:=con1 (List Slot) (fun _=>[.own 0,.fn 293 [] []]) (fun l=>[.own 362 8 (l.map zR)]) (fun l=>l.length≤1000000) (fun l=>zA (kM l)) (fun l=>[.own 362 8 (l.map zR)])
def yCs (l:List Slot):List SAnn:=[{ι:=Nat,slots:=fun j=>[(8,zA j)],rows:=fun _=>[]}]
def bL:cF:=⟨-1,-1,0,0⟩
def Arena.openQ (a:Arena):Arena:={a with queues:=a.queues++[bL]}
def aopenC:Con:=con1 Arena (fun _=>[.nm 0 0]) (fun a=>[jP a]) (fun a=>a.queues.length≤1000000) (fun a=>zA a.queues.length) (fun a=>[jP a.openQ])
structure z8h where
 a:Arena
 n:Int
 t:Bool
def Arena.usedAt (a:Arena) (n:Int):Bool:=decide (0≤n) && (decide (n<a.slots.length) && (a.slots.getD n.toNat slot0).used)
def Arena.topF (a:Arena) (n:Int) (t:Bool):Arena:=if a.usedAt n=true then{a with slots:=a.slots.modify n.toNat fun s=>{s with top:=t}}else a
def atopC:Con:=con1 z8h (fun i=>[.nm 0 0,zA i.n,yG i.t]) (fun i=>[jP i.a]) (fun i=>i.a.slots.length≤1000000) (fun i=>zA (if i.a.usedAt i.n=true then 0 else 26)) (fun i=>[jP (i.a.topF i.n i.t)])
structure PuI where
 a:Arena
 n:Int
 id:Int
 qty:Int
 top:Bool
def Arena.put (a:Arena) (n id qty:Int) (top:Bool):Arena:=
 let q:=a.queues.getD n.toNat bL
 let k:=kM a.slots
 let sl:=a.slots.set k.toNat ⟨true,k,id,qty,top,n,q.last,-1⟩
 ⟨if q.last= -1 then sl else sl.modify q.last.toNat fun s=>{s with back:=k},a.queues.set n.toNat ⟨if q.last= -1 then k else q.first,k,IntKind.i64.wrap (q.total+qty),IntKind.i64.wrap (q.count+1)⟩,IntKind.i64.wrap (a.free-1)⟩
def Arena.push (a:Arena) (n id qty:Int) (top:Bool):Arena×Int×Int:=
 if n<0∨a.queues.length≤n then(a,0,26)else if qty<1∨1000000<qty then(a,0,24)else if a.free=0 then(a,0,13)else(a.put n id qty top,kM a.slots,0)
def Arena.fit (a:Arena):Prop:=a.slots.length≤1000000∧(a.free≠0→∃s∈a.slots,s.used=false)∧∀q∈a.queues,q.last= -1∨(0≤q.last∧q.last<a.slots.length)
def apushC:Con:=con1 PuI (fun i=>[.nm 0 0,zA i.n,zA i.id,zA i.qty,yG i.top]) (fun i=>[jP i.a]) (fun i=>i.a.fit) (fun i=> .tup [zA (i.a.push i.n i.id i.qty i.top).2.1,zA (i.a.push i.n i.id i.qty i.top).2.2]) (fun i=>[jP (i.a.push i.n i.id i.qty i.top).1])
@[reducible] def zGx (b:Book):List AObj:=[zS b 0,zS b 1,zS b 2,zS b 3,zS b 4,zS b 5]
structure BkP where
 b:Book
 price:Int
def zW (s:Int) (l:List xH) (price:Int):Nat:=(l.takeWhile fun r=>btr s r.price price).length
def kH (s:Int) (l:List xH) (price:Int):Bool:=match l[zW s l price]? with
 |some r=>decide (r.price=price)
 |none=>false
def Book.rungs (b:Book) (s:Int):List xH:=if s=1 then b.buys else b.sells
def yAz (s:Int):Con:=con1 BkP (fun i=>[.nm 0 0,zA s,zA i.price]) (fun i=>zGx i.b) (fun i=>i.b.small) (fun i=> .tup [zA (zW s (i.b.rungs s) i.price),yG (kH s (i.b.rungs s) i.price)]) (fun i=>zGx i.b)
def find1C:Con:=yAz 1
def find2C:Con:=yAz 2
def yKc:List SAnn:=[{ι:=Nat,slots:=fun j=>[(9,zA j)],rows:=fun _=>[]}]
def pget (l:List (Int×Place)) (k:Int):Option Place:=(l.find? fun x=>decide (x.1=k)).map (·.2)
def pK (k:Int) (v:Place):List (Int×Place)→List (Int×Place)
 |[]=>[(k,v)]
 |(a,b)::l=>if k=a then(a,v)::l else(a,b)::pK k v l
structure LdI where
 b:Book
 id:Int
def Book.hasF (b:Book) (s:Int):Bool:=if s=1 then b.has1 else b.has2
def Book.topI (b:Book) (s:Int):Int:=if s=1 then b.top1 else b.top2
def Book.untop (b:Book) (s:Int):Arena:=if b.hasF s=true then(match pget b.at_ (b.topI s)with
 |some o=>if o.side=s then b.a.topF o.slot false else b.a
 |none=>b.a)else b.a
def Book.leadF (b:Book) (id s:Int):Book:=if s=1 then{b with a:=b.untop s,top1:=id,has1:=true}else{b with a:=b.untop s,top2:=id,has2:=true}
def z9k (s:Int):Con:=con1 LdI (fun i=>[.nm 0 0,zA i.id,zA s]) (fun i=>zGx i.b) (fun i=>i.b.small) (fun _=>zLs) (fun i=>zGx (i.b.leadF i.id s))
def lead1C:Con:=z9k 1
def lead2C:Con:=z9k 2
def Book.newQ (b:Book):Int×List Int×Arena:=if b.spare.length=0 then(b.a.queues.length,b.spare,b.a.openQ)else(b.spare.getD (b.spare.length-1) 0,b.spare.take (b.spare.length-1),b.a)
def Book.ins (b:Book) (s price:Int):List xH:=(b.rungs s).take (zW s (b.rungs s) price)++⟨price,b.newQ.1⟩::(b.rungs s).drop (zW s (b.rungs s) price)
def Book.queueF (b:Book) (s price:Int):Book×Int:=
 if kH s (b.rungs s) price=true then(b,((b.rungs s).getD (zW s (b.rungs s) price) ⟨0,0⟩).queue)
 else(if s=1 then{b with a:=b.newQ.2.2,buys:=b.ins s price,spare:=b.newQ.2.1}else{b with a:=b.newQ.2.2,sells:=b.ins s price,spare:=b.newQ.2.1},b.newQ.1)
def yIl (b:Book):AObj:= .cells [.nm 1 0,.own 6,.own 3,.mp 4,zA b.top1,zA b.top2,.own 7,yG b.has1,yG b.has2] 299
def yGo (b:Book):AObj:= .cells [.nm 1 0,.own 2,.own 6,.mp 4,zA b.top1,zA b.top2,.own 7,yG b.has1,yG b.has2] 299
@[reducible] def yOm (b:Book):List AObj:=[yIl b,zS b 1,.gone,zS b 3,zS b 4,.gone,zS b 2,zS b 5]
@[reducible] def yNt (b:Book):List AObj:=[yGo b,zS b 1,zS b 2,.gone,zS b 4,.gone,zS b 3,zS b 5]
@[reducible] def Book.fit (b:Book):Prop:=b.a.fit∧b.a.queues.length≤100000∧b.buys.length≤100000∧b.sells.length≤100000∧b.spare.length≤100000
def queue1C:Con:=con1 BkP (fun i=>[.nm 0 0,zA 1,zA i.price]) (fun i=>zGx i.b) (fun i=>i.b.fit) (fun i=>zA (i.b.queueF 1 i.price).2) (fun i=>yOm (i.b.queueF 1 i.price).1)
def queue2C:Con:=con1 BkP (fun i=>[.nm 0 0,zA 2,zA i.price]) (fun i=>zGx i.b) (fun i=>i.b.fit) (fun i=>zA (i.b.queueF 2 i.price).2) (fun i=>yNt (i.b.queueF 2 i.price).1)
def insRC:Con:=yAx 304 2 16
open Go Cv Go.Proofs
def zXu (i:I3'):Prop:=
 cnd (i.side==1) (∃(a:Unit),btr i.side i.x i.y=decide (i.x>i.y)∧True) (∃(a:Unit),btr i.side i.x i.y=decide (i.x<i.y)∧True)
def z9e (s:Slot):Prop:=
 ∃(a:Unit),(!s.used)=!s.used∧True
def zVi (l:List Slot):Prop:=
 ∃(a:Nat),(↑a:Int)=0∧∃(b:Nat→Prop),∃(c:Nat→Nat),b a∧∀(d:Nat),b d→cnd (decide ((↑d:Int)<(↑(List.map zR l).length:Int))) ((0≤(↑d:Int)∧(↑d:Int)<(↑(List.map zR l).length:Int))∧∃(e:Bool),∃(f:Int),∃(g:Int),∃(h:Int),∃(j:Bool),∃(k:Int),∃(m:Int),∃(n:Int),zF (List.map zR l) (↑d:Int).toNat 0 8=some [D.v (.bool e),dI f,dI g,dI h,D.v (.bool j),dI k,dI m,dI n]∧∃(p:Slot),p.used=e∧p.n=f∧p.id=g∧p.qty=h∧p.top=j∧p.queue=k∧p.ahead=m∧p.back=n∧True∧∀(q:Unit),True→cnd (!p.used) (∃(r:Unit),kM l=(↑d:Int)∧List.map zR l=List.map zR l∧True) (∃(r:Nat),(↑r:Int)=IntKind.i64.wrap ((↑d:Int)+1)∧b r∧c r<c d∧AObj.own 362 8 (List.map zR l)=AObj.own 362 8 (List.map zR l))) (∃(e:Unit),kM l=(-1)∧List.map zR l=List.map zR l∧True)
def yDr (a:Arena):Prop:=
 ((List.map zQ a.queues).length+1)*(32:Nat)≤(140737488355328:Nat)∧∃(b:Unit),(↑a.queues.length:Int)=IntKind.i64.wrap ((↑(List.map zQ a.queues++[[dI (-1),dI (-1),dI 0,dI 0]]).length:Int)-1)∧a.free=a.free∧List.map zR a.slots=List.map zR a.slots∧List.map zQ (a.queues++[bL])=List.map zQ a.queues++[[dI (-1),dI (-1),dI 0,dI 0]]∧True
def eQ (a:z8h):Prop:=∃(b:Unit),(if a.a.usedAt a.n=true then(0:Int)else(26:Int))=26∧(a.a.topF a.n a.t).free=a.a.free∧List.map zR (a.a.topF a.n a.t).slots=List.map zR a.a.slots∧List.map zQ (a.a.topF a.n a.t).queues=List.map zQ a.a.queues∧True
def yMa (i:z8h):Prop:=
 cnd (decide (i.n<0)) (eQ i) (cnd (decide (i.n≥(↑(List.map zR i.a.slots).length:Int))) (eQ i) ((0≤i.n∧i.n<(↑(List.map zR i.a.slots).length:Int))∧∃(a:Bool),zF (List.map zR i.a.slots) i.n.toNat ((0:Nat)+(0:Nat)) 1=some [D.v (.bool a)]∧cnd (!a) (eQ i) ((0≤i.n∧i.n<(↑(List.map zR i.a.slots).length:Int))∧i.n.toNat<(List.map zR i.a.slots).length∧∃(b:Unit),(if i.a.usedAt i.n=true then(0:Int)else(26:Int))=0∧(i.a.topF i.n i.t).free=i.a.free∧List.map zR (i.a.topF i.n i.t).slots=zH (List.map zR i.a.slots) i.n.toNat ((0:Nat)+(1:Nat)+3) [D.v (.bool i.t)]∧List.map zQ (i.a.topF i.n i.t).queues=List.map zQ i.a.queues∧True)))
def yJ (a:PuI):=(a.a.push a.n a.id a.qty a.top)
def pI (a:PuI):Prop:=(yJ a).fst.free=a.a.free∧List.map zR (yJ a).fst.slots=List.map zR a.a.slots∧List.map zQ (yJ a).fst.queues=List.map zQ a.a.queues∧True
def zBn (a:PuI):Prop:=∃(b:Unit),(yJ a).snd.fst=0∧(yJ a).snd.snd=26∧pI a
def zBb (a:PuI):Prop:=∃(b:Unit),(yJ a).snd.fst=0∧(yJ a).snd.snd=24∧pI a
def pN (a:PuI) (b:List Slot):=(zH (zH (List.map zQ a.a.queues) a.n.toNat ((0:Nat)+(0:Nat)) [dI (kM b)]) a.n.toNat ((0:Nat)+(1:Nat)) [dI (kM b)])
def nX (a:PuI) (b:List Slot) (c:Int):=(zH (pN a b) a.n.toNat ((0:Nat)+(2:Nat)) [dI (IntKind.i64.wrap (c+a.qty))])
def nT (a:PuI) (b:List Slot):=(zH (List.map zQ a.a.queues) a.n.toNat ((0:Nat)+(1:Nat)) [dI (kM b)])
def rQ (a:PuI) (b:List Slot) (c:Int):=(zH (nT a b) a.n.toNat ((0:Nat)+(2:Nat)) [dI (IntKind.i64.wrap (c+a.qty))])
def yDh (i:PuI):Prop:=
 cnd (decide (i.n≥0)) (cnd (!decide (i.n<(↑(List.map zQ i.a.queues).length:Int))) (zBn i) (cnd (decide (i.qty<1)) (zBb i) (cnd (decide (i.qty>1000000)) (zBb i) (cnd (i.a.free==0) (∃(a:Unit),(yJ i).snd.fst=0∧(yJ i).snd.snd=13∧pI i) (∃(a:List Slot),List.map zR a=List.map zR i.a.slots∧a.length≤1000000∧∀(b:Unit),True→(0≤i.n∧i.n<(↑(List.map zQ i.a.queues).length:Int))∧∃(c:Int),zF (List.map zQ i.a.queues) i.n.toNat ((0:Nat)+(1:Nat)) 1=some [dI c]∧(0≤kM a∧kM a<(↑(List.map zR a).length:Int))∧(kM a).toNat<(List.map zR a).length∧∃(d:Int),zF (List.map zQ i.a.queues) i.n.toNat ((0:Nat)+(1:Nat)) 1=some [dI d]∧cnd (d==(-1)) (i.n.toNat<(List.map zQ i.a.queues).length∧i.n.toNat<(zH (List.map zQ i.a.queues) i.n.toNat ((0:Nat)+(0:Nat)) [dI (kM a)]).length∧∃(e:Int),zF (pN i a) i.n.toNat ((0:Nat)+(2:Nat)) 1=some [dI e]∧i.n.toNat<(pN i a).length∧∃(f:Int),zF (nX i a e) i.n.toNat ((0:Nat)+(3:Nat)) 1=some [dI f]∧i.n.toNat<(nX i a e).length∧∃(g:Unit),(yJ i).snd.fst=kM a∧(yJ i).snd.snd=0∧(yJ i).fst.free=IntKind.i64.wrap (i.a.free-1)∧List.map zR (yJ i).fst.slots=zH (List.map zR a) (kM a).toNat 0 [D.v (.bool true),dI (kM a),dI i.id,dI i.qty,D.v (.bool i.top),dI i.n,dI c,dI (-1)]∧List.map zQ (yJ i).fst.queues=zH (nX i a e) i.n.toNat ((0:Nat)+(3:Nat)) [dI (IntKind.i64.wrap (f+1))]∧True) (∃(e:Int),zF (List.map zQ i.a.queues) i.n.toNat ((0:Nat)+(1:Nat)) 1=some [dI e]∧(0≤e∧e<(↑(zH (List.map zR a) (kM a).toNat 0 [D.v (.bool true),dI (kM a),dI i.id,dI i.qty,D.v (.bool i.top),dI i.n,dI c,dI (-1)]).length:Int))∧e.toNat<(zH (List.map zR a) (kM a).toNat 0 [D.v (.bool true),dI (kM a),dI i.id,dI i.qty,D.v (.bool i.top),dI i.n,dI c,dI (-1)]).length∧i.n.toNat<(List.map zQ i.a.queues).length∧∃(f:Int),zF (nT i a) i.n.toNat ((0:Nat)+(2:Nat)) 1=some [dI f]∧i.n.toNat<(nT i a).length∧∃(g:Int),zF (rQ i a f) i.n.toNat ((0:Nat)+(3:Nat)) 1=some [dI g]∧i.n.toNat<(rQ i a f).length∧∃(h:Unit),(yJ i).snd.fst=kM a∧(yJ i).snd.snd=0∧(yJ i).fst.free=IntKind.i64.wrap (i.a.free-1)∧List.map zR (yJ i).fst.slots=zH (zH (List.map zR a) (kM a).toNat 0 [D.v (.bool true),dI (kM a),dI i.id,dI i.qty,D.v (.bool i.top),dI i.n,dI c,dI (-1)]) e.toNat ((0:Nat)+(7:Nat)) [dI (kM a)]∧List.map zQ (yJ i).fst.queues=zH (rQ i a f) i.n.toNat ((0:Nat)+(3:Nat)) [dI (IntKind.i64.wrap (g+1))]∧True)))))) (zBn i)
def xP (a:BkP):=(↑(zW 1 (a.b.rungs 1) a.price):Int)
def vS (a:BkP):=(↑(List.map zC a.b.buys).length:Int)
def fU (a:BkP):Prop:=a.b.top1=a.b.top1∧a.b.top2=a.b.top2∧a.b.has1=a.b.has1∧a.b.has2=a.b.has2∧AObj.adt Arena 3 zG a.b.a=zS a.b 1∧List.map zC a.b.buys=List.map zC a.b.buys∧List.map zC a.b.sells=List.map zC a.b.sells∧atE a.b.at_=atE a.b.at_∧iE a.b.spare=iE a.b.spare∧True
def zFs (a:Nat) (b:BkP):Prop:=(0≤(↑a:Int)∧(↑a:Int)<(vS b))∧∃(c:Int),zF (List.map zC b.b.buys) (↑a:Int).toNat ((0:Nat)+(0:Nat)) 1=some [dI c]∧∃(d:Unit),(xP b)=(↑a:Int)∧kH 1 (b.b.rungs 1) b.price=(c==b.price)∧fU b
def zAj (a:BkP) (b:Nat):Prop:=∃(c:Unit),(xP a)=(↑b:Int)∧kH 1 (a.b.rungs 1) a.price=false∧fU a
def rB (a:Nat) (b:Nat→Prop) (c:Nat→Nat) (d:BkP):Prop:=∃(e:Nat),(↑e:Int)=IntKind.i64.wrap ((↑a:Int)+1)∧b e∧c e<c a∧zS d.b 0=zS d.b 0∧zS d.b 1=zS d.b 1∧zS d.b 2=zS d.b 2∧zS d.b 3=zS d.b 3∧zS d.b 4=zS d.b 4∧zS d.b 5=zS d.b 5
def rH (a:Nat) (b:BkP):=(decide ((↑a:Int)<(vS b)))
def yCe (i:BkP):Prop:=
 ∃(a:Nat),(↑a:Int)=0∧∃(b:Nat→Prop),∃(c:Nat→Nat),b a∧∀(d:Nat),b d→cnd (rH d i) ((0≤(↑d:Int)∧(↑d:Int)<(vS i))∧∃(e:Int),zF (List.map zC i.b.buys) (↑d:Int).toNat ((0:Nat)+(0:Nat)) 1=some [dI e]∧∃(f:I3'),f.side=1∧f.x=e∧f.y=i.price∧True∧∀(g:Unit),True→cnd (btr f.side f.x f.y) (rB d b c i) (cnd (rH d i) (zFs d i) (zAj i d))) (cnd (rH d i) (zFs d i) (zAj i d))
def xN (a:BkP):=(↑(zW 2 (a.b.rungs 2) a.price):Int)
def vI (a:BkP):=(↑(List.map zC a.b.sells).length:Int)
def zFj (a:Nat) (b:BkP):Prop:=(0≤(↑a:Int)∧(↑a:Int)<(vI b))∧∃(c:Int),zF (List.map zC b.b.sells) (↑a:Int).toNat ((0:Nat)+(0:Nat)) 1=some [dI c]∧∃(d:Unit),(xN b)=(↑a:Int)∧kH 2 (b.b.rungs 2) b.price=(c==b.price)∧fU b
def zGs (a:BkP) (b:Nat):Prop:=∃(c:Unit),(xN a)=(↑b:Int)∧kH 2 (a.b.rungs 2) a.price=false∧fU a
def pL (a:Nat) (b:BkP):=(decide ((↑a:Int)<(vI b)))
def yDk (i:BkP):Prop:=
 ∃(a:Nat),(↑a:Int)=0∧∃(b:Nat→Prop),∃(c:Nat→Nat),b a∧∀(d:Nat),b d→cnd (pL d i) ((0≤(↑d:Int)∧(↑d:Int)<(vI i))∧∃(e:Int),zF (List.map zC i.b.sells) (↑d:Int).toNat ((0:Nat)+(0:Nat)) 1=some [dI e]∧∃(f:I3'),f.side=2∧f.x=e∧f.y=i.price∧True∧∀(g:Unit),True→cnd (btr f.side f.x f.y) (rB d b c i) (cnd (pL d i) (zFj d i) (zGs i d))) (cnd (pL d i) (zFj d i) (zGs i d))
def dQ (a:LdI):Prop:=List.map zC a.b.buys=List.map zC a.b.buys∧List.map zC a.b.sells=List.map zC a.b.sells∧atE a.b.at_=atE a.b.at_∧iE a.b.spare=iE a.b.spare∧True
def rA (a:LdI):Prop:=∃(b:Unit),a.id=a.id∧a.b.top2=a.b.top2∧true=true∧a.b.has2=a.b.has2∧AObj.adt Arena 3 zG (a.b.untop 1)=zS a.b 1∧dQ a
def l6 (a:LdI) (b:Int) (c:Int) (d:Int) (e:Bool):Prop:=uB (Value.int IntKind.i64 a.b.top1) (atE a.b.at_)=some [dI b,dI c,dI d]∧e=true∨uB (Value.int IntKind.i64 a.b.top1) (atE a.b.at_)=none∧[dI b,dI c,dI d]=[dI 0,dI 0,dI 0]∧e=false
def zAd (a:LdI):Prop:=∀(b:Value×List D),b∈atE a.b.at_→like (Value.int IntKind.i64 a.b.top1) b.fst=true
def z8x (i:LdI):Prop:=
 cnd i.b.has1 ((zAd i)∧∃(a:Bool),∃(b:Int),∃(c:Int),∃(d:Int),(l6 i b c d a)∧((zAd i)∧∃(e:Bool),∃(f:Int),∃(g:Int),∃(h:Int),(l6 i f g h e)∧(f=b∧g=c∧h=d∧True)∧e=a∧True)∧i.b.top1=i.b.top1∧True∧cnd a (cnd (b==1) (∃(e:z8h),e.n=d∧e.t=false∧AObj.adt Arena 3 zG e.a=zS i.b 1∧e.a.slots.length≤1000000∧∀(f:Unit),True→∃(g:Unit),i.id=i.id∧i.b.top2=i.b.top2∧true=true∧i.b.has2=i.b.has2∧AObj.adt Arena 3 zG (i.b.untop 1)=AObj.adt Arena 3 zG (e.a.topF e.n e.t)∧dQ i) (rA i)) (rA i)) (rA i)
def pX (a:LdI):Prop:=∃(b:Unit),a.b.top1=a.b.top1∧a.id=a.id∧a.b.has1=a.b.has1∧true=true∧AObj.adt Arena 3 zG (a.b.untop 2)=zS a.b 1∧dQ a
def zAt (a:LdI) (b:Int) (c:Int) (d:Int) (e:Bool):Prop:=uB (Value.int IntKind.i64 a.b.top2) (atE a.b.at_)=some [dI b,dI c,dI d]∧e=true∨uB (Value.int IntKind.i64 a.b.top2) (atE a.b.at_)=none∧[dI b,dI c,dI d]=[dI 0,dI 0,dI 0]∧e=false
def lY (a:LdI):Prop:=∀(b:Value×List D),b∈atE a.b.at_→like (Value.int IntKind.i64 a.b.top2) b.fst=true
def yBp (i:LdI):Prop:=
 cnd i.b.has2 ((lY i)∧∃(a:Bool),∃(b:Int),∃(c:Int),∃(d:Int),(zAt i b c d a)∧((lY i)∧∃(e:Bool),∃(f:Int),∃(g:Int),∃(h:Int),(zAt i f g h e)∧(f=b∧g=c∧h=d∧True)∧e=a∧True)∧i.b.top2=i.b.top2∧True∧cnd a (cnd (b==2) (∃(e:z8h),e.n=d∧e.t=false∧AObj.adt Arena 3 zG e.a=zS i.b 1∧e.a.slots.length≤1000000∧∀(f:Unit),True→∃(g:Unit),i.b.top1=i.b.top1∧i.id=i.id∧i.b.has1=i.b.has1∧true=true∧AObj.adt Arena 3 zG (i.b.untop 2)=AObj.adt Arena 3 zG (e.a.topF e.n e.t)∧dQ i) (pX i)) (pX i)) (pX i)
def x4 (a:BkP):Prop:=(a.b.a.slots.length≤1000000∧a.b.a.queues.length≤1000000)∧a.b.buys.length≤1000000∧a.b.sells.length≤1000000∧a.b.spare.length≤1000000
def gM (a:BkP):Prop:=0≤(xP a)∧(xP a)<(vS a)
def vV (a:BkP):=((↑(iE a.b.spare).length:Int)-1)
def aO (a:BkP):Prop:=0≤IntKind.i64.wrap (vV a)∧IntKind.i64.wrap (vV a)≤(↑(iE a.b.spare).length:Int)
def aR (a:BkP):Prop:=0≤IntKind.i64.wrap (vV a)∧IntKind.i64.wrap (vV a)<(↑(iE a.b.spare).length:Int)
def gY (a:zCo):Prop:=a.i≤a.els.length∧(a.els.length+1)*(16:Nat)≤(140737488355328:Nat)
def gT (a:BkP):=(IntKind.i64.wrap (vV a))
def zO (a:BkP):=(a.b.queueF 1 a.price)
def z2d (i:BkP):Prop:=
 ∃(a:BkP),(1:Int)=(1:Int)∧a.price=i.price∧a.b.top1=i.b.top1∧a.b.top2=i.b.top2∧a.b.has1=i.b.has1∧a.b.has2=i.b.has2∧AObj.adt Arena 3 zG a.b.a=zS i.b 1∧List.map zC a.b.buys=List.map zC i.b.buys∧List.map zC a.b.sells=List.map zC i.b.sells∧atE a.b.at_=atE i.b.at_∧iE a.b.spare=iE i.b.spare∧(x4 a)∧∀(b:Unit),True→cnd (kH 1 (a.b.rungs 1) a.price) ((gM a)∧∃(c:Int),zF (List.map zC a.b.buys) (xP a).toNat ((0:Nat)+(1:Nat)) 1=some [dI c]∧∃(d:Unit),(zO i).snd=c∧(zO i).fst.top1=a.b.top1∧(zO i).fst.top2=a.b.top2∧(zO i).fst.has1=a.b.has1∧(zO i).fst.has2=a.b.has2∧AObj.adt Arena 3 zG (zO i).fst.a=AObj.adt Arena 3 zG a.b.a∧List.map zC (zO i).fst.sells=List.map zC a.b.sells∧atE (zO i).fst.at_=atE a.b.at_∧List.map zC (zO i).fst.buys=List.map zC a.b.buys∧iE (zO i).fst.spare=iE a.b.spare∧True) (cnd (decide ((↑(iE a.b.spare).length:Int)>0)) ((aR a)∧∃(c:Int),zF (iE a.b.spare) (gT a).toNat 0 1=some [dI c]∧(aO a)∧True∧∃(d:zCo),(↑d.i:Int)=(xP a)∧d.els=List.map zC a.b.buys∧[d.el]=[[dI i.price,dI c]]∧(gY d)∧∀(e:Unit),True→∃(f:Unit),(zO i).snd=c∧(zO i).fst.top1=a.b.top1∧(zO i).fst.top2=a.b.top2∧(zO i).fst.has1=a.b.has1∧(zO i).fst.has2=a.b.has2∧AObj.adt Arena 3 zG (zO i).fst.a=AObj.adt Arena 3 zG a.b.a∧List.map zC (zO i).fst.sells=List.map zC a.b.sells∧atE (zO i).fst.at_=atE a.b.at_∧List.map zC (zO i).fst.buys=List.take d.i d.els++d.el::List.drop d.i d.els∧iE (zO i).fst.spare=List.take (gT a).toNat (iE a.b.spare)∧True) (∃(c:Arena),AObj.adt Arena 3 zG c=AObj.adt Arena 3 zG a.b.a∧c.queues.length≤1000000∧∀(d:Unit),True→True∧∃(e:zCo),(↑e.i:Int)=(xP a)∧e.els=List.map zC a.b.buys∧[e.el]=[[dI i.price,dI (↑c.queues.length:Int)]]∧(gY e)∧∀(f:Unit),True→∃(g:Unit),(zO i).snd=(↑c.queues.length:Int)∧(zO i).fst.top1=a.b.top1∧(zO i).fst.top2=a.b.top2∧(zO i).fst.has1=a.b.has1∧(zO i).fst.has2=a.b.has2∧AObj.adt Arena 3 zG (zO i).fst.a=AObj.adt Arena 3 zG c.openQ∧List.map zC (zO i).fst.sells=List.map zC a.b.sells∧atE (zO i).fst.at_=atE a.b.at_∧List.map zC (zO i).fst.buys=List.take e.i e.els++e.el::List.drop e.i e.els∧iE (zO i).fst.spare=iE a.b.spare∧True))
def gO (a:BkP):Prop:=0≤(xN a)∧(xN a)<(vI a)
def zP (a:BkP):=(a.b.queueF 2 a.price)
def z4t (i:BkP):Prop:=
 ∃(a:BkP),(2:Int)=(2:Int)∧a.price=i.price∧a.b.top1=i.b.top1∧a.b.top2=i.b.top2∧a.b.has1=i.b.has1∧a.b.has2=i.b.has2∧AObj.adt Arena 3 zG a.b.a=zS i.b 1∧List.map zC a.b.buys=List.map zC i.b.buys∧List.map zC a.b.sells=List.map zC i.b.sells∧atE a.b.at_=atE i.b.at_∧iE a.b.spare=iE i.b.spare∧(x4 a)∧∀(b:Unit),True→cnd (kH 2 (a.b.rungs 2) a.price) ((gO a)∧∃(c:Int),zF (List.map zC a.b.sells) (xN a).toNat ((0:Nat)+(1:Nat)) 1=some [dI c]∧∃(d:Unit),(zP i).snd=c∧(zP i).fst.top1=a.b.top1∧(zP i).fst.top2=a.b.top2∧(zP i).fst.has1=a.b.has1∧(zP i).fst.has2=a.b.has2∧AObj.adt Arena 3 zG (zP i).fst.a=AObj.adt Arena 3 zG a.b.a∧List.map zC (zP i).fst.buys=List.map zC a.b.buys∧atE (zP i).fst.at_=atE a.b.at_∧List.map zC (zP i).fst.sells=List.map zC a.b.sells∧iE (zP i).fst.spare=iE a.b.spare∧True) (cnd (decide ((↑(iE a.b.spare).length:Int)>0)) ((aR a)∧∃(c:Int),zF (iE a.b.spare) (gT a).toNat 0 1=some [dI c]∧(aO a)∧True∧∃(d:zCo),(↑d.i:Int)=(xN a)∧d.els=List.map zC a.b.sells∧[d.el]=[[dI i.price,dI c]]∧(gY d)∧∀(e:Unit),True→∃(f:Unit),(zP i).snd=c∧(zP i).fst.top1=a.b.top1∧(zP i).fst.top2=a.b.top2∧(zP i).fst.has1=a.b.has1∧(zP i).fst.has2=a.b.has2∧AObj.adt Arena 3 zG (zP i).fst.a=AObj.adt Arena 3 zG a.b.a∧List.map zC (zP i).fst.buys=List.map zC a.b.buys∧atE (zP i).fst.at_=atE a.b.at_∧List.map zC (zP i).fst.sells=List.take d.i d.els++d.el::List.drop d.i d.els∧iE (zP i).fst.spare=List.take (gT a).toNat (iE a.b.spare)∧True) (∃(c:Arena),AObj.adt Arena 3 zG c=AObj.adt Arena 3 zG a.b.a∧c.queues.length≤1000000∧∀(d:Unit),True→True∧∃(e:zCo),(↑e.i:Int)=(xN a)∧e.els=List.map zC a.b.sells∧[e.el]=[[dI i.price,dI (↑c.queues.length:Int)]]∧(gY e)∧∀(f:Unit),True→∃(g:Unit),(zP i).snd=(↑c.queues.length:Int)∧(zP i).fst.top1=a.b.top1∧(zP i).fst.top2=a.b.top2∧(zP i).fst.has1=a.b.has1∧(zP i).fst.has2=a.b.has2∧AObj.adt Arena 3 zG (zP i).fst.a=AObj.adt Arena 3 zG c.openQ∧List.map zC (zP i).fst.buys=List.map zC a.b.buys∧atE (zP i).fst.at_=atE a.b.at_∧List.map zC (zP i).fst.sells=List.take e.i e.els++e.el::List.drop e.i e.els∧iE (zP i).fst.spare=iE a.b.spare∧True))
open Go Cv Go.Proofs
theorem bQ:bbetterC.ok Tryz.prog 58:=okw (V:=zXu) mixed gok0 0 (fun _=>[]) (fun _=>[]) [] Tryz.func58 fun(i:I3') _=>by
 unfold zXu
 refine Cv.cnd.mk (fun c=> ?_) (fun c=> ?_)
 ·have c:i.side=1:=by simpa using c
  rw[btr,yWl c];exact kp
 ·have c:¬i.side=1:=by simpa using c
  rw[btr,yWk c];exact kp
theorem z8z:pushFC.ok Tryz.prog 293:=okw (V:=z9e) mixed gok0 0 (fun _=>[]) (fun _=>[]) [] Tryz.func293 fun(s:Slot) _=>by
 unfold z9e;exact kp
theorem yVm {l:List Slot} {k:Nat} {s:Slot} (h:l[k]? =some s):zF (l.map zR) k 0 8=some [D.v (.bool s.used),.v (.int .i64 s.n),.v (.int .i64 s.id),.v (.int .i64 s.qty),.v (.bool s.top),.v (.int .i64 s.queue),.v (.int .i64 s.ahead),.v (.int .i64 s.back)]:=elA h (by simp[zR]) rfl
theorem yBg (l:List Slot) (h:idxSlotC.cnd l):zVi l:=by
 have h:l.length≤1000000:=h
 unfold zVi dI
 simp only[yWm]
 refine⟨0,rfl,fun j=>j≤l.length∧∀k<j,∀x,l[k]? =some x→(!x.used)=false,fun j=>l.length-j,⟨by omega,fun k hk=>by omega⟩,?_⟩
 rintro j ⟨h3,h4⟩
 refine zK (fun hj=> ?_) (fun hj=> ?_)
 ·obtain⟨s,hs⟩:=z6 (l:=l) (i:=j) (by omega)
  refine⟨⟨by omega,by omega⟩,s.used,s.n,s.id,s.qty,s.top,s.queue,s.ahead,s.back,yVm hs,s,rfl,rfl,rfl,rfl,rfl,rfl,rfl,rfl,trivial,fun _ _=>Cv.cnd.mk (fun e=> ?_) (fun e=> ?_)⟩
  ·rw[kM,zFn hs e h4];exact kp
  ·refine⟨j+1,by rw[w64 (by omega)];rfl,⟨by omega,fun k hk x hx=> ?_⟩,by(first|omega|(dsimp only;omega)),by(repeat'(first|exact trivial|exact rfl|apply And.intro))⟩
   rcases yZi k j with hk'|hk'
   ·exact h4 k hk' x hx
   ·obtain rfl:k=j:=by omega
    rw[hs]at hx;cases hx;exact e
 ·rw[kM,zFm fun k x hx=>h4 k (by have:=(yWn.1 hx).1;omega) x hx];exact kp
theorem z0f:idxSlotC.ok Tryz.prog 292:=okw mixed (gokc z8z gok0) 0 (fun _=>[]) (fun l=>yCs l) [] Tryz.func292 yBg
theorem zUl:aopenC.ok Tryz.prog 294:=okw (V:=yDr) mixed gok0 0 (fun _=>[]) (fun _=>[]) [0] Tryz.func294 fun(a:Arena) h=>by
 have h:a.queues.length≤1000000:=h
 unfold yDr dI
 rw[yWp,yWm,w64 (by simp only[yWs,yZg];omega)]
 refine⟨by omega,(),?_,rfl,rfl,?_,trivial⟩
 ·simp
 ·rw[yWw];rfl
theorem dZ {α:Type} {f:α→α}:∀{l:List α} {i:Nat} {x:α},l[i]? =some x→l.modify i f=l.set i (f x)
 |[],i,x,h=>by simp at h
 |a::l,0,x,h=>by simp at h;subst h;rfl
 |a::l,i+1,x,h=>by
  simp only[yYe]at h
  simp only[y1z,y2n,dZ h]
theorem yI {α:Type} {f:α→List D} {l:List α} {i g:Nat} {x y:α} {ds:List D} (hi:l[i]? =some x) (hh:(f x).take g++(ds++(f x).drop (g+ds.length))=f y):zH (l.map f) i g ds=(l.set i y).map f:=by
 have hlt:=(yWn.1 hi).1
 rw[zH,dZ (by rw[yXj,hi];rfl),hh,List.map_set]
theorem uL {α:Type} {l:List α} {i:Nat} {x y:α} (hi:l[i]? =some x):(l.set i y)[i]? =some y:=List.getElem?_set_self (yWn.1 hi).1
theorem zT {α:Type} {l:List α} {i:Nat} {x d:α} (h:l[i]? =some x):l.getD i d=x:=by rw[yWt,h];rfl
theorem yTp (i:z8h) (h:atopC.cnd i):yMa i:=by
 have h:i.a.slots.length≤1000000:=h
 unfold yMa eQ
 simp only[yWm]
 have no (e:i.a.usedAt i.n=false):i.a.topF i.n i.t=i.a:=by rw[Arena.topF,yWk (by rw[e];decide)]
 refine zK (fun c=> ?_) (fun c=>zK (fun d=> ?_) (fun d=> ?_))
 ·have e:i.a.usedAt i.n=false:=by rw[Arena.usedAt,yWx (by omega),yZy]
  rw[no e,e];exact kp
 ·have e:i.a.usedAt i.n=false:=by rw[Arena.usedAt,yWx (show ¬i.n<(i.a.slots.length:Int)by omega),yZy,y1t]
  rw[no e,e];exact kp
 ·obtain⟨s,hs⟩:=z6 (l:=i.a.slots) (i:=i.n.toNat) (by omega)
  have eu:i.a.usedAt i.n=s.used:=by rw[Arena.usedAt,yXb (show 0≤i.n by omega),yXb (show i.n<(i.a.slots.length:Int)by omega),zT hs];simp
  refine⟨⟨by omega,by omega⟩,s.used,elA hs (by simp[zR]) rfl,Cv.cnd.mk (fun u=> ?_) (fun u=> ?_)⟩
  ·have e:i.a.usedAt i.n=false:=by rw[eu];simpa using u
   rw[no e,e];exact kp
  ·have e:i.a.usedAt i.n=true:=by rw[eu];simpa using u
   have et:i.a.topF i.n i.t={i.a with slots:=i.a.slots.set i.n.toNat {s with top:=i.t}}:=by
    rw[Arena.topF,yWl e,dZ hs]
   rw[et,e,yI hs (y:={s with top:=i.t}) rfl]
   refine⟨⟨by omega,by omega⟩,by omega,(),rfl,rfl,rfl,rfl,trivial⟩
theorem z3u:atopC.ok Tryz.prog 291:=okw mixed gok0 1 (fun _=>[]) (fun _=>[]) [0] Tryz.func291 yTp
theorem yFe {l:List Slot} (h:∃s∈l,s.used=false):∃k:Nat,kM l=k∧k<l.length:=by
 obtain⟨s,hs,hu⟩:=h
 cases hf:l.findIdx? fun s=> !s.used with
 |none=>
  rw[y0s]at hf
  have:=hf s hs
  rw[hu]at this;cases this
 |some k=>
  rw[yZo]at hf
  exact⟨k,by rw[kM,show(l.findIdx? fun s=> !s.used)=some k by rw[yZo];exact hf];rfl,hf.1⟩
theorem yMb (i:PuI) (h:apushC.cnd i):yDh i:=by
 obtain⟨h1,h2,h3⟩:i.a.fit:=h
 unfold yDh rQ nT nX pN zBb zBn pI yJ dI
 simp only[yWm]
 have out (e:i.n<0∨i.a.queues.length≤i.n):i.a.push i.n i.id i.qty i.top=(i.a,0,26):=by rw[Arena.push,yWl e]
 refine zK (fun c=>Cv.cnd.mk (fun d=> ?_) (fun d=> ?_)) (fun c=> ?_)
 ·have d:¬i.n<(i.a.queues.length:Int):=by simpa using d
  rw[out (.inr (by omega))];exact kp
 ·have d:i.n<(i.a.queues.length:Int):=by simpa using d
  have hn:¬(i.n<0∨(i.a.queues.length:Int)≤i.n):=by omega
  refine zK (fun q1=> ?_) (fun q1=>zK (fun q2=> ?_) (fun q2=>Cv.cnd.mk (fun fr=> ?_) (fun fr=> ?_)))
  ·rw[Arena.push,yWk hn,yWl (.inl q1)];exact kp
  ·rw[Arena.push,yWk hn,yWl (.inr q2)];exact kp
  ·rw[Arena.push,yWk hn,yWk (by omega),yWl (by simpa using fr)];exact kp
  ·have fr:i.a.free≠0:=by simpa using fr
   have ep:i.a.push i.n i.id i.qty i.top=(i.a.put i.n i.id i.qty i.top,kM i.a.slots,0):=by rw[Arena.push,yWk hn,yWk (by omega),yWk fr]
   obtain⟨k,hk,hkl⟩:=yFe (h2 fr)
   obtain⟨q,hq⟩:=z6 (l:=i.a.queues) (i:=i.n.toNat) (by omega)
   have hqm:=yWu hq
   have hl:=h3 q hqm
   obtain⟨s,hs⟩:=z6 hkl
   refine⟨i.a.slots,rfl,h1,fun _ _=>⟨⟨by omega,by omega⟩,q.last,elA hq (by simp[zQ]) rfl,⟨by omega,by omega⟩,by rw[hk];exact hkl,q.last,elA hq (by simp[zQ]) rfl,?_⟩⟩
   rw[ep]
   have eput:i.a.put i.n i.id i.qty i.top=⟨if q.last= -1 then i.a.slots.set k ⟨true,k,i.id,i.qty,i.top,i.n,q.last,-1⟩else(i.a.slots.set k ⟨true,k,i.id,i.qty,i.top,i.n,q.last,-1⟩).modify q.last.toNat fun s=>{s with back:=k},i.a.queues.set i.n.toNat ⟨if q.last= -1 then k else q.first,k,IntKind.i64.wrap (q.total+i.qty),IntKind.i64.wrap (q.count+1)⟩,IntKind.i64.wrap (i.a.free-1)⟩:=by
    simp only[Arena.put,zT hq,hk,yXf]
   rw[eput,hk]
   simp only[yXf]
   have es:zH (List.map zR i.a.slots) k 0 [D.v (.bool true),D.v (.int .i64 k),D.v (.int .i64 i.id),D.v (.int .i64 i.qty),D.v (.bool i.top),D.v (.int .i64 i.n),D.v (.int .i64 q.last),D.v (.int .i64 (-1))]=List.map zR (i.a.slots.set k ⟨true,k,i.id,i.qty,i.top,i.n,q.last,-1⟩):=yI hs rfl
   rw[es]
   refine Cv.cnd.mk (fun e=> ?_) (fun e=> ?_)
   ·have e:q.last= -1:=by simpa using e
    have e1:zH (List.map zQ i.a.queues) i.n.toNat (0+0) [D.v (.int .i64 k)]=List.map zQ (i.a.queues.set i.n.toNat {q with first:=k}):=yI hq rfl
    have g1:=uL (y:={q with first:=(k:Int)}) hq
    have e2:zH (List.map zQ (i.a.queues.set i.n.toNat {q with first:=k})) i.n.toNat (0+1) [D.v (.int .i64 k)]=List.map zQ (i.a.queues.set i.n.toNat {q with first:=k,last:=k}):=by
     rw[yI g1 (y:={q with first:=(k:Int),last:=(k:Int)}) rfl,y0p]
    have g2:=uL (y:={q with first:=(k:Int),last:=(k:Int)}) hq
    have e3:zH (List.map zQ (i.a.queues.set i.n.toNat {q with first:=k,last:=k})) i.n.toNat (0+2) [D.v (.int .i64 (IntKind.i64.wrap (q.total+i.qty)))]=List.map zQ (i.a.queues.set i.n.toNat {q with first:=k,last:=k,total:=IntKind.i64.wrap (q.total+i.qty)}):=by
     rw[yI g2 (y:={q with first:=(k:Int),last:=(k:Int),total:=IntKind.i64.wrap (q.total+i.qty)}) rfl,y0p]
    have g3:=uL (y:={q with first:=(k:Int),last:=(k:Int),total:=IntKind.i64.wrap (q.total+i.qty)}) hq
    have e4:zH (List.map zQ (i.a.queues.set i.n.toNat {q with first:=k,last:=k,total:=IntKind.i64.wrap (q.total+i.qty)})) i.n.toNat (0+3) [D.v (.int .i64 (IntKind.i64.wrap (q.count+1)))]=List.map zQ (i.a.queues.set i.n.toNat ⟨k,k,IntKind.i64.wrap (q.total+i.qty),IntKind.i64.wrap (q.count+1)⟩):=by
     rw[yI g3 (y:=⟨k,k,IntKind.i64.wrap (q.total+i.qty),IntKind.i64.wrap (q.count+1)⟩) rfl,y0p]
    rw[e1,e2]
    simp only[yWl e]
    refine⟨by omega,by simp only[yWm,yXp];omega,q.total,elA g2 (by simp[zQ]) rfl,by simp only[yWm,yXp];omega,q.count,?_,by rw[e3];simp only[yWm,yXp];omega,(),?_⟩
    ·rw[e3];exact elA g3 (by simp[zQ]) rfl
    ·rw[e3,e4];exact kp
   ·have e:¬q.last= -1:=by simpa using e
    have hl:0≤q.last∧q.last<i.a.slots.length:=hl.resolve_left e
    have e2:zH (List.map zQ i.a.queues) i.n.toNat (0+1) [D.v (.int .i64 k)]=List.map zQ (i.a.queues.set i.n.toNat {q with last:=k}):=yI hq rfl
    have g2:=uL (y:={q with last:=(k:Int)}) hq
    have e3:zH (List.map zQ (i.a.queues.set i.n.toNat {q with last:=k})) i.n.toNat (0+2) [D.v (.int .i64 (IntKind.i64.wrap (q.total+i.qty)))]=List.map zQ (i.a.queues.set i.n.toNat {q with last:=k,total:=IntKind.i64.wrap (q.total+i.qty)}):=by
     rw[yI g2 (y:={q with last:=(k:Int),total:=IntKind.i64.wrap (q.total+i.qty)}) rfl,y0p]
    have g3:=uL (y:={q with last:=(k:Int),total:=IntKind.i64.wrap (q.total+i.qty)}) hq
    have e4:zH (List.map zQ (i.a.queues.set i.n.toNat {q with last:=k,total:=IntKind.i64.wrap (q.total+i.qty)})) i.n.toNat (0+3) [D.v (.int .i64 (IntKind.i64.wrap (q.count+1)))]=List.map zQ (i.a.queues.set i.n.toNat ⟨q.first,k,IntKind.i64.wrap (q.total+i.qty),IntKind.i64.wrap (q.count+1)⟩):=by
     rw[yI g3 (y:=⟨q.first,k,IntKind.i64.wrap (q.total+i.qty),IntKind.i64.wrap (q.count+1)⟩) rfl,y0p]
    obtain⟨s2,hs2⟩:=z6 (l:=i.a.slots.set k ⟨true,k,i.id,i.qty,i.top,i.n,q.last,-1⟩) (i:=q.last.toNat) (by rw[yXp];omega)
    have e5:zH (List.map zR (i.a.slots.set k ⟨true,k,i.id,i.qty,i.top,i.n,q.last,-1⟩)) q.last.toNat (0+7) [D.v (.int .i64 k)]=List.map zR ((i.a.slots.set k ⟨true,k,i.id,i.qty,i.top,i.n,q.last,-1⟩).modify q.last.toNat fun s=>{s with back:=k}):=by
     rw[yI hs2 (y:={s2 with back:=(k:Int)}) rfl,dZ hs2]
    rw[e2]
    simp only[yWk e]
    refine⟨q.last,elA hq (by simp[zQ]) rfl,⟨by omega,by simp only[yWm,yXp];omega⟩,by simp only[yWm,yXp];omega,by omega,q.total,elA g2 (by simp[zQ]) rfl,by simp only[yWm,yXp];omega,q.count,?_,by rw[e3];simp only[yWm,yXp];omega,(),?_⟩
    ·rw[e3];exact elA g3 (by simp[zQ]) rfl
    ·rw[e3,e4,e5];exact kp
 ·rw[out (.inl (by omega))];exact kp
theorem zXp:apushC.ok Tryz.prog 267:=okw mixed (gokc z0f gok0) 1 (fun _=>[]) (fun _=>[]) [0] Tryz.func267 yMb
theorem nA {s price:Int}:∀{l:List xH} {j:Nat},j≤l.length→(∀k<j,∀r,l[k]? =some r→btr s r.price price=true)→(∀r,l[j]? =some r→btr s r.price price=false)→zW s l price=j
 |[],j,hj,_,_=>by
  obtain rfl:j=0:=by simpa using hj
  rfl
 |r::l,0,_,_,he=>by
  have:=he r rfl
  rw[zW,List.takeWhile_cons,this];rfl
 |r::l,j+1,hj,h,he=>by
  have h0:=h 0 (by omega) r rfl
  have ih:=nA (l:=l) (j:=j) (by simpa using hj) (fun k hk x hx=>h (k+1) (by omega) x (by simpa using hx)) (fun x hx=>he x (by simpa using hx))
  rw[zW]at ih ⊢
  rw[List.takeWhile_cons,h0,yWl rfl,yWs,ih]
theorem zCf (s price:Int) (l:List xH):zW s l price≤l.length:=(List.takeWhile_sublist _).length_le
theorem nP (b:Book):b.rungs 1=b.buys:=rfl
theorem pO (b:Book):b.rungs 2=b.sells:=rfl
theorem yQm (i:BkP) (h:find1C.cnd i):yCe i:=by
 obtain⟨_,h1,h2,_⟩:i.b.small:=h
 unfold yCe zFs rH vS rB zAj fU xP dI
 simp only[yWm,nP]
 refine⟨0,rfl,fun j=>j≤i.b.buys.length∧∀k<j,∀r,i.b.buys[k]? =some r→btr 1 r.price i.price=true,fun j=>i.b.buys.length-j,⟨by omega,fun k hk=>by omega⟩,?_⟩
 rintro j ⟨h3,h4⟩
 refine zK (fun hj=> ?_) (fun hj=> ?_)
 ·obtain⟨r,hr⟩:=z6 (l:=i.b.buys) (i:=j) (by omega)
  refine⟨⟨by omega,by omega⟩,r.price,elA hr (by simp[zC]) rfl,⟨1,r.price,i.price⟩,rfl,rfl,rfl,trivial,fun _ _=> ?_⟩
  dsimp only
  refine Cv.cnd.mk (fun e=>⟨j+1,by rw[w64 (by omega)];rfl,⟨by omega,fun k hk x hx=> ?_⟩,by(first|omega|(dsimp only;omega)),by(repeat'(first|exact trivial|exact rfl|apply And.intro))⟩) (fun e=>zK (fun _=> ?_) (fun c=>absurd hj c))
  ·rcases yZi k j with hk'|hk'
   ·exact h4 k hk' x hx
   ·obtain rfl:k=j:=by omega
    rw[hr]at hx;cases hx;exact e
  ·have en:zW 1 i.b.buys i.price=j:=nA h3 h4 fun x hx=>by rw[hr]at hx;cases hx;exact e
   have eb:kH 1 i.b.buys i.price=(r.price==i.price):=by rw[kH,en,hr];exact(zUd _ _).symm
   refine⟨⟨by omega,by omega⟩,r.price,elA hr (by simp[zC]) rfl,(),by rw[en],eb,?_⟩
   (repeat'(first|exact trivial|exact rfl|apply And.intro))
 ·have en:zW 1 i.b.buys i.price=j:=nA h3 h4 fun x hx=>by have:=(yWn.1 hx).1;omega
  have eb:kH 1 i.b.buys i.price=false:=by rw[kH,en,yXr (by omega)]
  refine zK (fun c=>absurd c hj) (fun _=>⟨(),by rw[en],eb,?_⟩)
  (repeat'(first|exact trivial|exact rfl|apply And.intro))
theorem zLb:find1C.ok Tryz.prog 270:=okw mixed (gokc bQ gok0) 0 (fun _=>[]) (fun _=>yKc) [] Tryz.func270 yQm
theorem jV (l:List (Int×Place)) (k:Int):∀(p:Value×List D),p∈atE l→like (Value.int IntKind.i64 k) p.1=true:=by
 intro p hp
 obtain⟨x,_,rfl⟩:=yXm.1 hp
 rfl
theorem eJ (k:Int):∀l:List (Int×Place),uB (Value.int IntKind.i64 k) (atE l)=(pget l k).map z1f
 |[]=>rfl
 |(a,v)::l=>by
  have ih:=eJ k l
  show(bif (keq .i64 .i64 && decide (k=a))then _ else uB _ (atE l))=_
  by_cases h:k=a
  ·subst h;simp[pget,keq]
  ·have h':¬a=k:=fun e=>h e.symm
   rw[show(keq .i64 .i64 && decide (k=a))=false by simp[h],cond_false,ih]
   simp[pget,y2o,h']
def zEr:Place:=⟨0,0,0⟩
theorem zOz (l:List (Int×Place)) (k:Int):uB (Value.int IntKind.i64 k) (atE l)=some [D.v (.int .i64 ((pget l k).getD zEr).side),D.v (.int .i64 ((pget l k).getD zEr).price),D.v (.int .i64 ((pget l k).getD zEr).slot)]∧(pget l k).isSome=true∨uB (Value.int IntKind.i64 k) (atE l)=none∧[D.v (.int .i64 ((pget l k).getD zEr).side),D.v (.int .i64 ((pget l k).getD zEr).price),D.v (.int .i64 ((pget l k).getD zEr).slot)]=[D.v (.int .i64 0),D.v (.int .i64 0),D.v (.int .i64 0)]∧(pget l k).isSome=false:=by
 rw[eJ]
 cases pget l k with
 |none=>exact .inr ⟨rfl,rfl,rfl⟩
 |some v=>exact .inl ⟨rfl,rfl⟩
theorem zUa (k:Int) (v:Place):∀l,fB (Value.int IntKind.i64 k) (z1f v) (atE l)=atE (pK k v l)
 |[]=>rfl
 |(a,b)::l=>by
  have ih:=zUa k v l
  show(bif (keq .i64 .i64 && decide (k=a))then _ else _::fB _ _ (atE l))=_
  rw[ih,pK]
  by_cases h:k=a
  ·subst h;simp[keq,atE]
  ·simp[h,atE]
theorem yPx (i:LdI) (h:lead1C.cnd i):z8x i:=by
 obtain⟨⟨ha,_⟩,h1,h2,_⟩:i.b.small:=h
 unfold z8x zAd l6 rA dQ dI
 have no (e:i.b.untop 1=i.b.a):AObj.adt Arena 3 zG (i.b.untop 1)=zS i.b 1:=by rw[e];rfl
 refine Cv.cnd.mk (fun c=> ?_) (fun c=>⟨(),?_⟩)
 ·have c:i.b.hasF 1=true:=c
  refine⟨jV _ _,(pget i.b.at_ i.b.top1).isSome,_,_,_,zOz _ _,⟨jV _ _,(pget i.b.at_ i.b.top1).isSome,_,_,_,zOz _ _,⟨rfl,rfl,rfl,trivial⟩,rfl,trivial⟩,rfl,trivial,Cv.cnd.mk (fun d=>Cv.cnd.mk (fun e=> ?_) (fun e=>⟨(),?_⟩)) (fun d=>⟨(),?_⟩)⟩
  ·obtain⟨o,ho⟩:=y2f.1 d
   have e:o.side=1:=by rw[ho]at e;simpa using e
   have eu:i.b.untop 1=i.b.a.topF o.slot false:=by
    have ht:pget i.b.at_ (i.b.topI 1)=some o:=ho
    rw[Book.untop,yWl c,ht];dsimp only;rw[yWl e]
   refine⟨⟨i.b.a,o.slot,false⟩,by rw[ho];rfl,rfl,rfl,ha,fun _ _=>⟨(),?_⟩⟩
   rw[eu];(repeat'(first|exact trivial|exact rfl|apply And.intro))
  ·obtain⟨o,ho⟩:=y2f.1 d
   have e:¬o.side=1:=by rw[ho]at e;simpa using e
   have ht:pget i.b.at_ (i.b.topI 1)=some o:=ho
   rw[no (by rw[Book.untop,yWl c,ht];dsimp only;rw[yWk e])];(repeat'(first|exact trivial|exact rfl|apply And.intro))
  ·have ht:pget i.b.at_ (i.b.topI 1)=none:=by
    show pget i.b.at_ i.b.top1=none
    simpa using d
   rw[no (by rw[Book.untop,yWl c,ht])];(repeat'(first|exact trivial|exact rfl|apply And.intro))
 ·have c:¬i.b.hasF 1=true:=by rw[show i.b.hasF 1=i.b.has1 from rfl,c];decide
  rw[no (by rw[Book.untop,yWk c])];(repeat'(first|exact trivial|exact rfl|apply And.intro))
theorem yFw:lead1C.ok Tryz.prog 266:=okw mixed (gokc z3u gok0) 0 (fun _=>[]) (fun _=>[]) [] Tryz.func266 yPx
theorem zVa {s price:Int} {l:List xH} (h:kH s l price=true):∃r,l[zW s l price]? =some r:=by
 rw[kH]at h
 split at h
 ·rename_i r hr;exact⟨r,hr⟩
 ·cases h
theorem yJq (i:BkP) (h:queue1C.cnd i):z2d i:=by
 obtain⟨⟨ha,_⟩,ha',h1,h2,h3⟩:i.b.fit:=h
 have hle:=zCf 1 i.price i.b.buys
 unfold z2d zO gT gY aR aO vV gM vS x4 xP dI
 refine⟨i,rfl,rfl,rfl,rfl,rfl,rfl,rfl,rfl,rfl,rfl,rfl,⟨⟨ha,by omega⟩,by omega,by omega,by omega⟩,fun _ _=> ?_⟩
 simp only[yWm,xF,nP]
 refine Cv.cnd.mk (fun c=> ?_) (fun c=> ?_)
 ·obtain⟨r,hr⟩:=zVa c
  have hlt:=(yWn.1 hr).1
  have e:i.b.queueF 1 i.price=(i.b,r.queue):=by rw[Book.queueF,yWl (by rw[nP];exact c),nP,zT hr]
  rw[e]
  refine⟨⟨by omega,by omega⟩,r.queue,elA (by simpa using hr) (by simp[zC]) rfl,(),?_⟩
  (repeat'(first|exact trivial|exact rfl|apply And.intro))
 ·have e:i.b.queueF 1 i.price=({i.b with a:=i.b.newQ.2.2,buys:=i.b.ins 1 i.price,spare:=i.b.newQ.2.1},i.b.newQ.1):=by
   rw[Book.queueF,yWk (by rw[nP,c];decide),yWl rfl]
  have hins:List.map zC (i.b.ins 1 i.price)=List.take (zW 1 i.b.buys i.price) (List.map zC i.b.buys)++zC ⟨i.price,i.b.newQ.1⟩::List.drop (zW 1 i.b.buys i.price) (List.map zC i.b.buys):=by
   rw[Book.ins,nP,yWw,yWy,y0q,y1c]
  rw[e]
  refine zK (fun d=> ?_) (fun d=> ?_)
  ·have w:IntKind.i64.wrap ((i.b.spare.length:Int)-1)=((i.b.spare.length-1:Nat):Int):=by rw[w64 (by omega)];omega
   rw[w]
   simp only[yXf]
   obtain⟨q,hq⟩:=z6 (l:=i.b.spare) (i:=i.b.spare.length-1) (by omega)
   have eq:i.b.newQ=(q,i.b.spare.take (i.b.spare.length-1),i.b.a):=by rw[Book.newQ,yWk (by omega),zT hq]
   rw[eq]at hins ⊢
   refine⟨⟨by omega,by omega⟩,q,elI hq,⟨by omega,by omega⟩,trivial,⟨i.b.buys.map zC,zC ⟨i.price,q⟩,zW 1 i.b.buys i.price⟩,rfl,rfl,rfl,⟨by rw[yWm];exact hle,by rw[yWm];omega⟩,fun _ _=>⟨(),?_⟩⟩
   have hs:iE (i.b.spare.take (i.b.spare.length-1))=(iE i.b.spare).take (i.b.spare.length-1):=by simp only[iE,y0q]
   exact kp
  ·have eq:i.b.newQ=((i.b.a.queues.length:Int),i.b.spare,i.b.a.openQ):=by rw[Book.newQ,yWl (by omega)]
   rw[eq]at hins ⊢
   refine⟨i.b.a,rfl,by omega,fun _ _=>⟨trivial,⟨i.b.buys.map zC,zC ⟨i.price,i.b.a.queues.length⟩,zW 1 i.b.buys i.price⟩,rfl,rfl,rfl,⟨by rw[yWm];exact hle,by rw[yWm];omega⟩,fun _ _=>⟨(),?_⟩⟩⟩
   exact kp
theorem zGf:vL Tryz.prog 296=some (304,2,16,#[.int .i64 0,.int .i64 0]):=by kernel_rfl
theorem z5b:insRC.ok Tryz.prog 295:=
 insX_ok (tS:=296) (tI:=3) (fO:=308) (fR:=309) (z:= #[.int .i64 0,.int .i64 0]) mixed Tryz.func295 rfl (by kernel_rfl) (by kernel_rfl) (by kernel_rfl) (by kernel_rfl) zGf rfl (by decide) (by decide) (by kernel_rfl) Tryz.underlying3
  (z2n (tS:=296) (tB:=4) Tryz.func308 (by kernel_rfl) (by kernel_rfl) (by kernel_rfl) (by kernel_rfl) zGf) (fun s sn sk i v vn vk w R=>by kernel_rfl)
theorem z6y:queue1C.ok Tryz.prog 268:=okw mixed (gokc zLb (gokc zUl (gokc z5b gok0))) 0 (fun _=>[]) (fun _=>[]) [] Tryz.func268 yJq
theorem yMc (i:BkP) (h:find2C.cnd i):yDk i:=by
 obtain⟨_,h1,h2,_⟩:i.b.small:=h
 unfold yDk zGs zFj xN fU pL vI rB dI
 simp only[yWm,pO]
 refine⟨0,rfl,fun j=>j≤i.b.sells.length∧∀k<j,∀r,i.b.sells[k]? =some r→btr 2 r.price i.price=true,fun j=>i.b.sells.length-j,⟨by omega,fun k hk=>by omega⟩,?_⟩
 rintro j ⟨h3,h4⟩
 refine zK (fun hj=> ?_) (fun hj=> ?_)
 ·obtain⟨r,hr⟩:=z6 (l:=i.b.sells) (i:=j) (by omega)
  refine⟨⟨by omega,by omega⟩,r.price,elA hr (by simp[zC]) rfl,⟨2,r.price,i.price⟩,rfl,rfl,rfl,trivial,fun _ _=> ?_⟩
  dsimp only
  refine Cv.cnd.mk (fun e=>⟨j+1,by rw[w64 (by omega)];rfl,⟨by omega,fun k hk x hx=> ?_⟩,by(first|omega|(dsimp only;omega)),by(repeat'(first|exact trivial|exact rfl|apply And.intro))⟩) (fun e=>zK (fun _=> ?_) (fun c=>absurd hj c))
  ·rcases yZi k j with hk'|hk'
   ·exact h4 k hk' x hx
   ·obtain rfl:k=j:=by omega
    rw[hr]at hx;cases hx;exact e
  ·have en:zW 2 i.b.sells i.price=j:=nA h3 h4 fun x hx=>by rw[hr]at hx;cases hx;exact e
   have eb:kH 2 i.b.sells i.price=(r.price==i.price):=by rw[kH,en,hr];exact(zUd _ _).symm
   refine⟨⟨by omega,by omega⟩,r.price,elA hr (by simp[zC]) rfl,(),by rw[en],eb,?_⟩
   (repeat'(first|exact trivial|exact rfl|apply And.intro))
 ·have en:zW 2 i.b.sells i.price=j:=nA h3 h4 fun x hx=>by have:=(yWn.1 hx).1;omega
  have eb:kH 2 i.b.sells i.price=false:=by rw[kH,en,yXr (by omega)]
  refine zK (fun c=>absurd c hj) (fun _=>⟨(),by rw[en],eb,?_⟩)
  (repeat'(first|exact trivial|exact rfl|apply And.intro))
theorem zMi:find2C.ok Tryz.prog 270:=okw mixed (gokc bQ gok0) 0 (fun _=>[]) (fun _=>yKc) [] Tryz.func270 yMc
theorem yPl (i:LdI) (h:lead2C.cnd i):yBp i:=by
 obtain⟨⟨ha,_⟩,h1,h2,_⟩:i.b.small:=h
 unfold yBp lY zAt pX dQ dI
 have no (e:i.b.untop 2=i.b.a):AObj.adt Arena 3 zG (i.b.untop 2)=zS i.b 1:=by rw[e];rfl
 refine Cv.cnd.mk (fun c=> ?_) (fun c=>⟨(),?_⟩)
 ·have c:i.b.hasF 2=true:=c
  refine⟨jV _ _,(pget i.b.at_ i.b.top2).isSome,_,_,_,zOz _ _,⟨jV _ _,(pget i.b.at_ i.b.top2).isSome,_,_,_,zOz _ _,⟨rfl,rfl,rfl,trivial⟩,rfl,trivial⟩,rfl,trivial,Cv.cnd.mk (fun d=>Cv.cnd.mk (fun e=> ?_) (fun e=>⟨(),?_⟩)) (fun d=>⟨(),?_⟩)⟩
  ·obtain⟨o,ho⟩:=y2f.1 d
   have e:o.side=2:=by rw[ho]at e;simpa using e
   have eu:i.b.untop 2=i.b.a.topF o.slot false:=by
    have ht:pget i.b.at_ (i.b.topI 2)=some o:=ho
    rw[Book.untop,yWl c,ht];dsimp only;rw[yWl e]
   refine⟨⟨i.b.a,o.slot,false⟩,by rw[ho];rfl,rfl,rfl,ha,fun _ _=>⟨(),?_⟩⟩
   rw[eu];(repeat'(first|exact trivial|exact rfl|apply And.intro))
  ·obtain⟨o,ho⟩:=y2f.1 d
   have e:¬o.side=2:=by rw[ho]at e;simpa using e
   have ht:pget i.b.at_ (i.b.topI 2)=some o:=ho
   rw[no (by rw[Book.untop,yWl c,ht];dsimp only;rw[yWk e])];(repeat'(first|exact trivial|exact rfl|apply And.intro))
  ·have ht:pget i.b.at_ (i.b.topI 2)=none:=by
    show pget i.b.at_ i.b.top2=none
    simpa using d
   rw[no (by rw[Book.untop,yWl c,ht])];(repeat'(first|exact trivial|exact rfl|apply And.intro))
 ·have c:¬i.b.hasF 2=true:=by rw[show i.b.hasF 2=i.b.has2 from rfl,c];decide
  rw[no (by rw[Book.untop,yWk c])];(repeat'(first|exact trivial|exact rfl|apply And.intro))
theorem yEi:lead2C.ok Tryz.prog 266:=okw mixed (gokc z3u gok0) 0 (fun _=>[]) (fun _=>[]) [] Tryz.func266 yPl
theorem yIv (i:BkP) (h:queue2C.cnd i):z4t i:=by
 obtain⟨⟨ha,_⟩,ha',h1,h2,h3⟩:i.b.fit:=h
 have hle:=zCf 2 i.price i.b.sells
 unfold z4t zP gO vI gT gY aR aO vV x4 xN dI
 refine⟨i,rfl,rfl,rfl,rfl,rfl,rfl,rfl,rfl,rfl,rfl,rfl,⟨⟨ha,by omega⟩,by omega,by omega,by omega⟩,fun _ _=> ?_⟩
 simp only[yWm,xF,pO]
 refine Cv.cnd.mk (fun c=> ?_) (fun c=> ?_)
 ·obtain⟨r,hr⟩:=zVa c
  have hlt:=(yWn.1 hr).1
  have e:i.b.queueF 2 i.price=(i.b,r.queue):=by rw[Book.queueF,yWl (by rw[pO];exact c),pO,zT hr]
  rw[e]
  refine⟨⟨by omega,by omega⟩,r.queue,elA (by simpa using hr) (by simp[zC]) rfl,(),?_⟩
  (repeat'(first|exact trivial|exact rfl|apply And.intro))
 ·have e:i.b.queueF 2 i.price=({i.b with a:=i.b.newQ.2.2,sells:=i.b.ins 2 i.price,spare:=i.b.newQ.2.1},i.b.newQ.1):=by
   rw[Book.queueF,yWk (by rw[pO,c];decide),yWk (by decide)]
  have hins:List.map zC (i.b.ins 2 i.price)=List.take (zW 2 i.b.sells i.price) (List.map zC i.b.sells)++zC ⟨i.price,i.b.newQ.1⟩::List.drop (zW 2 i.b.sells i.price) (List.map zC i.b.sells):=by
   rw[Book.ins,pO,yWw,yWy,y0q,y1c]
  rw[e]
  refine zK (fun d=> ?_) (fun d=> ?_)
  ·have w:IntKind.i64.wrap ((i.b.spare.length:Int)-1)=((i.b.spare.length-1:Nat):Int):=by rw[w64 (by omega)];omega
   rw[w]
   simp only[yXf]
   obtain⟨q,hq⟩:=z6 (l:=i.b.spare) (i:=i.b.spare.length-1) (by omega)
   have eq:i.b.newQ=(q,i.b.spare.take (i.b.spare.length-1),i.b.a):=by rw[Book.newQ,yWk (by omega),zT hq]
   rw[eq]at hins ⊢
   refine⟨⟨by omega,by omega⟩,q,elI hq,⟨by omega,by omega⟩,trivial,⟨i.b.sells.map zC,zC ⟨i.price,q⟩,zW 2 i.b.sells i.price⟩,rfl,rfl,rfl,⟨by rw[yWm];exact hle,by rw[yWm];omega⟩,fun _ _=>⟨(),?_⟩⟩
   have hs:iE (i.b.spare.take (i.b.spare.length-1))=(iE i.b.spare).take (i.b.spare.length-1):=by simp only[iE,y0q]
   exact kp
  ·have eq:i.b.newQ=((i.b.a.queues.length:Int),i.b.spare,i.b.a.openQ):=by rw[Book.newQ,yWl (by omega)]
   rw[eq]at hins ⊢
   refine⟨i.b.a,rfl,by omega,fun _ _=>⟨trivial,⟨i.b.sells.map zC,zC ⟨i.price,i.b.a.queues.length⟩,zW 2 i.b.sells i.price⟩,rfl,rfl,rfl,⟨by rw[yWm];exact hle,by rw[yWm];omega⟩,fun _ _=>⟨(),?_⟩⟩⟩
   exact kp
theorem z7h:queue2C.ok Tryz.prog 268:=okw mixed (gokc zMi (gokc zUl (gokc z5b gok0))) 0 (fun _=>[]) (fun _=>[]) [] Tryz.func268 yIv
open Go Cv Go.Proofs
structure BaI where
 b:Book
 id:Int
 price:Int
 qty:Int
def Book.leads (b:Book) (s price:Int):Bool:=match b.rungs s with
 |[]=>true
 |r::_=>btr s price r.price
def Book.led (b:Book) (id s price:Int):Book:=if b.leads s price=true then b.leadF id s else b
def Book.stand (b:Book) (s id price qty:Int):Book:=
 let b2:=(b.led id s price).queueF s price
 let x:=b2.1.a.push b2.2 id qty (b.leads s price)
 {b2.1 with a:=x.1,at_:=pK id ⟨s,price,x.2.1⟩ b2.1.at_}
def Book.addF (b:Book) (s id price qty:Int):Book×Int:=
 if qty<1∨1000000<qty then(b,24)else if(pget b.at_ id).isSome=true then(b,25)else if 250≤b.at_.length then(b,13)else(b.stand s id price qty,0)
def yCa (s:Int):Con:=con1 BaI (fun i=>[.nm 0 0,zA i.id,zA s,zA i.price,zA i.qty]) (fun i=>[z8 i.b]) (fun i=>i.b.fit) (fun i=>zA (i.b.addF s i.id i.price i.qty).2) (fun i=>[z8 (i.b.addF s i.id i.price i.qty).1])
def yLz:List (Nat×SAnn):=[(44,bj 14)]
def badd1C:Con:=yCa 1
def badd2C:Con:=yCa 2
structure BaJ where
 i:BaI
 s:Bool
def baddC:Con:=con1 BaJ (fun j=>[.nm 0 0,zA j.i.id,zA (zD j.s),zA j.i.price,zA j.i.qty]) (fun j=>[z8 j.i.b]) (fun j=>j.i.b.fit) (fun j=>zA (j.i.b.addF (zD j.s) j.i.id j.i.price j.i.qty).2) (fun j=>[z8 (j.i.b.addF (zD j.s) j.i.id j.i.price j.i.qty).1])
structure SaI where
 s:MSt
 inst:Int
 id:Int
 sd:Bool
 price:Int
 qty:Int
def MSt.bookAt (s:MSt) (n:Int):Book:=s.books.getD n.toNat book0
def MSt.addF (i:SaI):MSt×Int:=
 if i.inst<0∨i.s.books.length≤i.inst then(i.s,20)else if(zAw i.s.wh i.id).isSome=true then(i.s,25)else if 250≤i.s.wh.length then(i.s,13)else if i.s.p.price i.inst i.price≠0 then(i.s,i.s.p.price i.inst i.price)
 else
  let x:=(i.s.bookAt i.inst).addF (zD i.sd) i.id i.price i.qty
  ({i.s with books:=i.s.books.set i.inst.toNat x.1,wh:=if x.2=0 then zWu i.id i.inst i.s.wh else i.s.wh},x.2)
@[reducible] def MSt.fit (s:MSt):Prop:=s.p.small∧s.books.length≤1000000∧∀b∈s.books,b.fit
def saddC:Con:=con1 SaI (fun i=>[.nm 0 0,zA i.inst,zA i.id,zA (zD i.sd),zA i.price,zA i.qty]) (fun i=>[zE i.s]) (fun i=>i.s.fit) (fun i=>zA (MSt.addF i).2) (fun i=>[zE (MSt.addF i).1])
open Go Cv Go.Proofs
def pG (a:BkP):Prop:=(a.b.a.slots.length≤1000000∧(a.b.a.free≠0→∃(b:Slot),b∈a.b.a.slots∧b.used=false)∧∀(b:cF),b∈a.b.a.queues→b.last=(-1)∨0≤b.last∧b.last<(↑a.b.a.slots.length:Int))∧a.b.a.queues.length≤100000∧a.b.buys.length≤100000∧a.b.sells.length≤100000∧a.b.spare.length≤100000
def pZ (a:PuI):Prop:=a.a.slots.length≤1000000∧(a.a.free≠0→∃(b:Slot),b∈a.a.slots∧b.used=false)∧∀(b:cF),b∈a.a.queues→b.last=(-1)∨0≤b.last∧b.last<(↑a.a.slots.length:Int)
def yN (a:BaI):=(a.b.addF 1 a.id a.price a.qty)
def zFb (a:BkP) (b:BaI) (c:Bool):Prop:=(pG a)∧∀(d:Unit),True→True∧∃(e:PuI),e.n=(zO a).snd∧e.id=b.id∧e.qty=b.qty∧e.top=c∧AObj.adt Arena 3 zG e.a=AObj.adt Arena 3 zG (zO a).fst.a∧(pZ e)∧∀(f:Unit),True→(∀(g:Value×List D),g∈atE (zO a).fst.at_→like (Value.int IntKind.i64 b.id) g.fst=true)∧∃(g:Unit),(yN b).snd=0∧(yN b).fst.top1=(zO a).fst.top1∧(yN b).fst.top2=(zO a).fst.top2∧(yN b).fst.has1=(zO a).fst.has1∧(yN b).fst.has2=(zO a).fst.has2∧AObj.adt Arena 3 zG (yN b).fst.a=AObj.adt Arena 3 zG (yJ e).fst∧List.map zC (yN b).fst.buys=List.map zC (zO a).fst.buys∧List.map zC (yN b).fst.sells=List.map zC (zO a).fst.sells∧atE (yN b).fst.at_=fB (Value.int IntKind.i64 b.id) [dI 1,dI b.price,dI ((yJ e).snd.fst)] (atE (zO a).fst.at_)∧iE (yN b).fst.spare=iE (zO a).fst.spare∧True
def lB (a:Bool→Prop) (b:Bool) (c:Int) (d:Int) (e:Int) (f:BaI):Prop:=a b∧Sx.AObj.cells [V.d (dI c),V.d (dI d),V.d (dI e)] 313=Sx.AObj.cells [V.d (dI c),V.d (dI d),V.d (dI e)] 313∧Sx.AObj.cells (vK (jB 0 1 6) [V.nm 1 0,V.own 2,V.own 3,V.mp 4,zA f.b.top1,zA f.b.top2,V.own 5,yG f.b.has1,yG f.b.has2]) (299:TypeId)=Sx.AObj.cells (vK (jB 0 1 6) [V.nm 1 0,V.own 2,V.own 3,V.mp 4,zA f.b.top1,zA f.b.top2,V.own 5,yG f.b.has1,yG f.b.has2]) (299:TypeId)∧AObj.adt Arena 3 zG f.b.a=AObj.adt Arena 3 zG f.b.a∧AObj.own 304 2 (List.map zC f.b.buys)=AObj.own 304 2 (List.map zC f.b.buys)∧AObj.own 304 2 (List.map zC f.b.sells)=AObj.own 304 2 (List.map zC f.b.sells)∧Sx.AObj.map (atE f.b.at_)=Sx.AObj.map (atE f.b.at_)∧AObj.own 3 1 (iE f.b.spare)=AObj.own 3 1 (iE f.b.spare)
def tU (a:I3') (b:BaI) (c:Int) (d:Bool→Prop) (e:Int) (f:Int) (g:Int):Prop:=a.x=b.price∧a.y=c∧True∧∀(h:Unit),True→∃(j:Bool),j=btr a.side a.x a.y∧lB d j e f g b
def tX (a:Bool→Prop) (b:Int) (c:Int) (d:Int) (e:BaI):Prop:=∃(f:Bool),f=true∧lB a f b c d e
def m7 (a:BaI):Prop:=(yN a).fst.top1=a.b.top1∧(yN a).fst.top2=a.b.top2∧(yN a).fst.has1=a.b.has1∧(yN a).fst.has2=a.b.has2∧AObj.adt Arena 3 zG (yN a).fst.a=AObj.adt Arena 3 zG a.b.a∧List.map zC (yN a).fst.buys=List.map zC a.b.buys∧List.map zC (yN a).fst.sells=List.map zC a.b.sells∧atE (yN a).fst.at_=atE a.b.at_∧iE (yN a).fst.spare=iE a.b.spare∧True
def zEf (a:BaI):Prop:=∃(b:Unit),(yN a).snd=24∧m7 a
def pM (a:BaI) (b:Int) (c:Int) (d:Int) (e:Bool):Prop:=uB (Value.int IntKind.i64 a.id) (atE a.b.at_)=some [dI b,dI c,dI d]∧e=true∨uB (Value.int IntKind.i64 a.id) (atE a.b.at_)=none∧[dI b,dI c,dI d]=[dI 0,dI 0,dI 0]∧e=false
def rD (a:LdI):Prop:=(a.b.a.slots.length≤1000000∧a.b.a.queues.length≤1000000)∧a.b.buys.length≤1000000∧a.b.sells.length≤1000000∧a.b.spare.length≤1000000
def qS (a:Int):=(!(decide (a=1)||decide (a=2)))
def yCj (i:BaI):Prop:=
 (∀(a:Value×List D),a∈atE i.b.at_→like (Value.int IntKind.i64 i.id) a.fst=true)∧∃(a:Bool),∃(b:Int),∃(c:Int),∃(d:Int),(pM i b c d a)∧∃(e:Int),e=1∧True∧∀(f:Unit),True→cnd (qS e) (∃(g:Unit),(yN i).snd=21∧m7 i) (cnd (decide (i.qty<1)) (zEf i) (cnd (decide (i.qty>1000000)) (zEf i) (cnd a (∃(g:Unit),(yN i).snd=25∧m7 i) (cnd (decide ((↑(atE i.b.at_).length:Int)≥250)) (∃(g:Unit),(yN i).snd=13∧m7 i) (∃(g:Bool),∃(h:Bool→Prop),cnd ((↑(List.map zC i.b.buys).length:Int)==0) (tX h b c d i) (((0:Int)≤(0:Int)∧0<(↑(List.map zC i.b.buys).length:Int))∧∃(j:Int),zF (List.map zC i.b.buys) (Int.toNat 0) ((0:Nat)+(0:Nat)) 1=some [dI j]∧∃(k:I3'),k.side=1∧tU k i j h b c d)∧∀(j:Bool),h j→cnd j (∃(k:LdI),k.id=i.id∧(1:Int)=(1:Int)∧k.b.top1=i.b.top1∧k.b.top2=i.b.top2∧k.b.has1=i.b.has1∧k.b.has2=i.b.has2∧AObj.adt Arena 3 zG k.b.a=AObj.adt Arena 3 zG i.b.a∧List.map zC k.b.buys=List.map zC i.b.buys∧List.map zC k.b.sells=List.map zC i.b.sells∧atE k.b.at_=atE i.b.at_∧iE k.b.spare=iE i.b.spare∧(rD k)∧∀(l:Unit),True→∃(m:BkP),(1:Int)=(1:Int)∧m.price=i.price∧m.b.top1=k.id∧m.b.top2=k.b.top2∧m.b.has1=true∧m.b.has2=k.b.has2∧AObj.adt Arena 3 zG m.b.a=AObj.adt Arena 3 zG (k.b.untop 1)∧List.map zC m.b.buys=List.map zC k.b.buys∧List.map zC m.b.sells=List.map zC k.b.sells∧atE m.b.at_=atE k.b.at_∧iE m.b.spare=iE k.b.spare∧zFb m i j) (∃(k:BkP),(1:Int)=(1:Int)∧k.price=i.price∧k.b.top1=i.b.top1∧k.b.top2=i.b.top2∧k.b.has1=i.b.has1∧k.b.has2=i.b.has2∧AObj.adt Arena 3 zG k.b.a=AObj.adt Arena 3 zG i.b.a∧List.map zC k.b.buys=List.map zC i.b.buys∧List.map zC k.b.sells=List.map zC i.b.sells∧atE k.b.at_=atE i.b.at_∧iE k.b.spare=iE i.b.spare∧zFb k i j))))))
def yM (a:BaI):=(a.b.addF 2 a.id a.price a.qty)
def zGc (a:BkP) (b:BaI) (c:Bool):Prop:=(pG a)∧∀(d:Unit),True→True∧∃(e:PuI),e.n=(zP a).snd∧e.id=b.id∧e.qty=b.qty∧e.top=c∧AObj.adt Arena 3 zG e.a=AObj.adt Arena 3 zG (zP a).fst.a∧(pZ e)∧∀(f:Unit),True→(∀(g:Value×List D),g∈atE (zP a).fst.at_→like (Value.int IntKind.i64 b.id) g.fst=true)∧∃(g:Unit),(yM b).snd=0∧(yM b).fst.top1=(zP a).fst.top1∧(yM b).fst.top2=(zP a).fst.top2∧(yM b).fst.has1=(zP a).fst.has1∧(yM b).fst.has2=(zP a).fst.has2∧AObj.adt Arena 3 zG (yM b).fst.a=AObj.adt Arena 3 zG (yJ e).fst∧List.map zC (yM b).fst.buys=List.map zC (zP a).fst.buys∧List.map zC (yM b).fst.sells=List.map zC (zP a).fst.sells∧atE (yM b).fst.at_=fB (Value.int IntKind.i64 b.id) [dI 2,dI b.price,dI ((yJ e).snd.fst)] (atE (zP a).fst.at_)∧iE (yM b).fst.spare=iE (zP a).fst.spare∧True
def mF (a:BaI):Prop:=(yM a).fst.top1=a.b.top1∧(yM a).fst.top2=a.b.top2∧(yM a).fst.has1=a.b.has1∧(yM a).fst.has2=a.b.has2∧AObj.adt Arena 3 zG (yM a).fst.a=AObj.adt Arena 3 zG a.b.a∧List.map zC (yM a).fst.buys=List.map zC a.b.buys∧List.map zC (yM a).fst.sells=List.map zC a.b.sells∧atE (yM a).fst.at_=atE a.b.at_∧iE (yM a).fst.spare=iE a.b.spare∧True
def zGd (a:BaI):Prop:=∃(b:Unit),(yM a).snd=24∧mF a
def yDm (i:BaI):Prop:=
 (∀(a:Value×List D),a∈atE i.b.at_→like (Value.int IntKind.i64 i.id) a.fst=true)∧∃(a:Bool),∃(b:Int),∃(c:Int),∃(d:Int),(pM i b c d a)∧∃(e:Int),e=2∧True∧∀(f:Unit),True→cnd (qS e) (∃(g:Unit),(yM i).snd=21∧mF i) (cnd (decide (i.qty<1)) (zGd i) (cnd (decide (i.qty>1000000)) (zGd i) (cnd a (∃(g:Unit),(yM i).snd=25∧mF i) (cnd (decide ((↑(atE i.b.at_).length:Int)≥250)) (∃(g:Unit),(yM i).snd=13∧mF i) (∃(g:Bool),∃(h:Bool→Prop),cnd ((↑(List.map zC i.b.sells).length:Int)==0) (tX h b c d i) (((0:Int)≤(0:Int)∧0<(↑(List.map zC i.b.sells).length:Int))∧∃(j:Int),zF (List.map zC i.b.sells) (Int.toNat 0) ((0:Nat)+(0:Nat)) 1=some [dI j]∧∃(k:I3'),k.side=2∧tU k i j h b c d)∧∀(j:Bool),h j→cnd j (∃(k:LdI),k.id=i.id∧(2:Int)=(2:Int)∧k.b.top1=i.b.top1∧k.b.top2=i.b.top2∧k.b.has1=i.b.has1∧k.b.has2=i.b.has2∧AObj.adt Arena 3 zG k.b.a=AObj.adt Arena 3 zG i.b.a∧List.map zC k.b.buys=List.map zC i.b.buys∧List.map zC k.b.sells=List.map zC i.b.sells∧atE k.b.at_=atE i.b.at_∧iE k.b.spare=iE i.b.spare∧(rD k)∧∀(l:Unit),True→∃(m:BkP),(2:Int)=(2:Int)∧m.price=i.price∧m.b.top1=k.b.top1∧m.b.top2=k.id∧m.b.has1=k.b.has1∧m.b.has2=true∧AObj.adt Arena 3 zG m.b.a=AObj.adt Arena 3 zG (k.b.untop 2)∧List.map zC m.b.buys=List.map zC k.b.buys∧List.map zC m.b.sells=List.map zC k.b.sells∧atE m.b.at_=atE k.b.at_∧iE m.b.spare=iE k.b.spare∧zGc m i j) (∃(k:BkP),(2:Int)=(2:Int)∧k.price=i.price∧k.b.top1=i.b.top1∧k.b.top2=i.b.top2∧k.b.has1=i.b.has1∧k.b.has2=i.b.has2∧AObj.adt Arena 3 zG k.b.a=AObj.adt Arena 3 zG i.b.a∧List.map zC k.b.buys=List.map zC i.b.buys∧List.map zC k.b.sells=List.map zC i.b.sells∧atE k.b.at_=atE i.b.at_∧iE k.b.spare=iE i.b.spare∧zGc k i j))))))
def zEl (a:SaI):Prop:=AObj.fro 1 (iE (MSt.addF a).fst.p.months)=AObj.fro 1 (iE a.s.p.months)∧AObj.fro 1 (iE (MSt.addF a).fst.p.settle)=AObj.fro 1 (iE a.s.p.settle)∧True
def zEe (a:SaI):Prop:=yW (MSt.addF a).fst.wh=yW a.s.wh∧zEl a
def tE (a:SaI):Prop:=sb (MSt.addF a).fst.p.code=sb a.s.p.code∧(MSt.addF a).fst.p.tick=a.s.p.tick∧(MSt.addF a).fst.p.low=a.s.p.low∧(MSt.addF a).fst.p.high=a.s.p.high∧(MSt.addF a).fst.p.wide=a.s.p.wide∧(MSt.addF a).fst.p.rule=a.s.p.rule∧(MSt.addF a).fst.p.top=a.s.p.top∧(MSt.addF a).fst.p.least=a.s.p.least∧(MSt.addF a).fst.p.part=a.s.p.part∧AObj.objs 241 Book 6 zS (MSt.addF a).fst.books none=AObj.objs 241 Book 6 zS a.s.books none∧zEe a
def zNe (a:SaI):Prop:=∃(b:Unit),(MSt.addF a).snd=20∧tE a
def mK (a:BaJ):=(a.i.b.addF (zD a.s) a.i.id a.i.price a.i.qty)
def yKk (i:SaI):Prop:=
 (∀(a:Value×List D),a∈yW i.s.wh→like (Value.int IntKind.i64 i.id) a.fst=true)∧∃(a:Bool),∃(b:Int),(uB (Value.int IntKind.i64 i.id) (yW i.s.wh)=some [dI b]∧a=true∨uB (Value.int IntKind.i64 i.id) (yW i.s.wh)=none∧[dI b]=[dI 0]∧a=false)∧cnd (decide (i.inst≥0)) (cnd (!decide (i.inst<(↑i.s.books.length:Int))) (zNe i) (cnd a (∃(c:Unit),(MSt.addF i).snd=25∧tE i) (cnd (decide ((↑(yW i.s.wh).length:Int)≥250)) (∃(c:Unit),(MSt.addF i).snd=13∧tE i) (∃(c:r9),sb c.p.code=sb i.s.p.code∧iE c.p.months=iE i.s.p.months∧c.p.tick=i.s.p.tick∧c.p.low=i.s.p.low∧c.p.high=i.s.p.high∧c.p.wide=i.s.p.wide∧c.p.rule=i.s.p.rule∧c.p.top=i.s.p.top∧c.p.least=i.s.p.least∧c.p.part=i.s.p.part∧iE c.p.settle=iE i.s.p.settle∧c.a=i.inst∧c.b=i.price∧(x0 c)∧∀(d:Unit),True→cnd (c.p.price c.a c.b !=0) (∃(e:Unit),(MSt.addF i).snd=c.p.price c.a c.b∧tE i) ((0≤i.inst∧i.inst<(↑i.s.books.length:Int))∧i.inst.toNat<i.s.books.length∧∃(e:Book),i.s.books[i.inst.toNat]?=some e∧∃(f:BaJ),f.i.id=i.id∧zD f.s=zD i.sd∧f.i.price=i.price∧f.i.qty=i.qty∧z8 f.i.b=z8 e∧((f.i.b.a.slots.length≤1000000∧(f.i.b.a.free≠0→∃(g:Slot),g∈f.i.b.a.slots∧g.used=false)∧∀(g:cF),g∈f.i.b.a.queues→g.last=(-1)∨0≤g.last∧g.last<(↑f.i.b.a.slots.length:Int))∧f.i.b.a.queues.length≤100000∧f.i.b.buys.length≤100000∧f.i.b.sells.length≤100000∧f.i.b.spare.length≤100000)∧∀(g:Unit),True→∃(h:Book),z8 (mK f).fst=z8 h∧i.inst.toNat=i.inst.toNat∧i.inst.toNat<i.s.books.length∧cnd ((mK f).snd==0) ((∀(j:Value×List D),j∈yW i.s.wh→like (Value.int IntKind.i64 i.id) j.fst=true)∧∃(j:Unit),(MSt.addF i).snd=(mK f).snd∧sb (MSt.addF i).fst.p.code=sb i.s.p.code∧(MSt.addF i).fst.p.tick=i.s.p.tick∧(MSt.addF i).fst.p.low=i.s.p.low∧(MSt.addF i).fst.p.high=i.s.p.high∧(MSt.addF i).fst.p.wide=i.s.p.wide∧(MSt.addF i).fst.p.rule=i.s.p.rule∧(MSt.addF i).fst.p.top=i.s.p.top∧(MSt.addF i).fst.p.least=i.s.p.least∧(MSt.addF i).fst.p.part=i.s.p.part∧AObj.objs 241 Book 6 zS (MSt.addF i).fst.books none=AObj.objs 241 Book 6 zS (i.s.books.set i.inst.toNat h) none∧yW (MSt.addF i).fst.wh=fB (Value.int IntKind.i64 i.id) [dI i.inst] (yW i.s.wh)∧zEl i) (∃(j:Unit),(MSt.addF i).snd=(mK f).snd∧sb (MSt.addF i).fst.p.code=sb i.s.p.code∧(MSt.addF i).fst.p.tick=i.s.p.tick∧(MSt.addF i).fst.p.low=i.s.p.low∧(MSt.addF i).fst.p.high=i.s.p.high∧(MSt.addF i).fst.p.wide=i.s.p.wide∧(MSt.addF i).fst.p.rule=i.s.p.rule∧(MSt.addF i).fst.p.top=i.s.p.top∧(MSt.addF i).fst.p.least=i.s.p.least∧(MSt.addF i).fst.p.part=i.s.p.part∧AObj.objs 241 Book 6 zS (MSt.addF i).fst.books none=AObj.objs 241 Book 6 zS (i.s.books.set i.inst.toNat h) none∧zEe i)))))) (zNe i)
open Go Cv Go.Proofs
theorem zMc {α:Type} {f:α→α} {Q:α→Prop} (hf:∀x,Q x→Q (f x)):∀{l:List α} (i:Nat),(∃x∈l,Q x)→∃x∈l.modify i f,Q x
 |[],i,⟨x,hx,_⟩=>by cases hx
 |a::l,0,⟨x,hx,q⟩=>by
  rcases yWz.1 hx with rfl|hx
  ·exact⟨f x,yWr,hf x q⟩
  ·exact⟨x,yWq _ hx,q⟩
 |a::l,i+1,⟨x,hx,q⟩=>by
  rw[y1z]
  rcases yWz.1 hx with rfl|hx
  ·exact⟨x,yWr,q⟩
  ·obtain⟨y,hy,hq⟩:=zMc hf (l:=l) i ⟨x,hx,q⟩
   exact⟨y,yWq _ hy,hq⟩
theorem yBy {a:Arena} (h:a.fit) (n:Int) (t:Bool):(a.topF n t).fit:=by
 obtain⟨h1,h2,h3⟩:=h
 rw[Arena.topF]
 split
 ·refine⟨by simpa using h1,fun hf=> ?_,by simpa using h3⟩
  exact zMc (f:=fun s:Slot=>{s with top:=t}) (Q:=fun s=>s.used=false) (fun x hx=>hx) _ (h2 hf)
 ·exact⟨h1,h2,h3⟩
theorem z6z {b:Book} (h:b.a.fit) (s:Int):(b.untop s).fit:=by
 rw[Book.untop]
 repeat' split
 all_goals first|exact h|exact yBy h _ _
theorem z8e {a:Arena} (h:a.fit):a.openQ.fit:=by
 obtain⟨h1,h2,h3⟩:=h
 refine⟨h1,h2,fun q hq=> ?_⟩
 rcases yXh.1 hq with hq|hq
 ·exact h3 q hq
 ·rw[yXx.1 hq];exact .inl rfl
theorem zUn {b:Book} (h:b.a.fit):b.newQ.2.2.fit:=by
 rw[Book.newQ]
 split
 ·exact z8e h
 ·exact h
theorem p8 {b:Book} (h:b.a.fit) (s p:Int):(b.queueF s p).1.a.fit:=by
 rw[Book.queueF]
 repeat' split
 ·exact h
 ·exact zUn h
 ·exact zUn h
theorem z6j (b:Book) (s:Int):(b.untop s).slots.length=b.a.slots.length∧(b.untop s).queues=b.a.queues:=by
 have ht:∀n t,(b.a.topF n t).slots.length=b.a.slots.length∧(b.a.topF n t).queues=b.a.queues:=by
  intro n t
  rw[Arena.topF]
  split
  ·exact⟨by simp,rfl⟩
  ·exact⟨rfl,rfl⟩
 rw[Book.untop]
 repeat' split
 all_goals first|exact⟨rfl,rfl⟩|exact ht _ _
theorem zOn {b:Book} (h:b.fit) (id s:Int):(b.leadF id s).fit:=by
 obtain⟨h1,h2,h3,h4,h5⟩:=h
 have hl:=z6j b s
 rw[Book.leadF]
 split
 all_goals exact⟨z6z h1 s,by rw[hl.2];exact h2,h3,h4,h5⟩
theorem zPf {b:Book} (h:b.fit):b.small:=by
 obtain⟨⟨h1,_⟩,h2,h3,h4,h5⟩:=h
 exact⟨⟨h1,by omega⟩,by omega,by omega,by omega⟩
theorem yOj (i:BaI) (h:badd1C.cnd i):yCj i:=by
 have hfit:i.b.fit:=h
 have hsm:=zPf hfit
 unfold yCj zEf m7 tX tU lB qS zFb zO yN pZ pG yJ rD pM dI
 have plc:∀(b:Book) (x:Int),fB (Value.int IntKind.i64 i.id) [D.v (.int .i64 1),D.v (.int .i64 i.price),D.v (.int .i64 x)] (atE b.at_)=atE (pK i.id ⟨1,i.price,x⟩ b.at_):=fun b x=>zUa i.id ⟨1,i.price,x⟩ b.at_
 refine⟨jV _ _,(pget i.b.at_ i.id).isSome,_,_,_,zOz _ _,1,rfl,trivial,fun _ _=> ?_⟩
 refine Cv.cnd.mk (fun c=>absurd c (by decide)) fun _=> ?_
 refine zK (fun c=> ?_) (fun c=>zK (fun d=> ?_) (fun d=> ?_))
 ·have ha:i.b.addF 1 i.id i.price i.qty=(i.b,24):=by rw[Book.addF,yWl (.inl c)]
  rw[ha];exact kp
 ·have ha:i.b.addF 1 i.id i.price i.qty=(i.b,24):=by rw[Book.addF,yWl (.inr d)]
  rw[ha];exact kp
 have hq:¬(i.qty<1∨1000000<i.qty):=by omega
 refine Cv.cnd.mk (fun e=> ?_) (fun e=> ?_)
 ·have ha:i.b.addF 1 i.id i.price i.qty=(i.b,25):=by rw[Book.addF,yWk hq,yWl e]
  rw[ha];exact kp
 have hlen:(atE i.b.at_).length=i.b.at_.length:=by simp[atE]
 rw[hlen]
 refine zK (fun f=> ?_) (fun f=> ?_)
 ·have ha:i.b.addF 1 i.id i.price i.qty=(i.b,13):=by rw[Book.addF,yWk hq,yWk (by rw[e];decide),yWl (by omega)]
  rw[ha];exact kp
 have ha:i.b.addF 1 i.id i.price i.qty=(i.b.stand 1 i.id i.price i.qty,0):=by rw[Book.addF,yWk hq,yWk (by rw[e];decide),yWk (by omega)]
 rw[ha]
 simp only[yWm]
 refine⟨true,fun x=>x=i.b.leads 1 i.price,Cv.cnd.mk (fun g=>⟨true,rfl,?_,by(repeat'(first|exact trivial|exact rfl|apply And.intro))⟩) (fun g=> ?_),fun x hx=> ?_⟩
 ·have:i.b.buys=[]:=yXn (by have:(i.b.buys.length:Int)=0:=(by simpa using g);omega)
  rw[Book.leads,nP,this]
 ·obtain⟨r,l,hl⟩:∃r l,i.b.buys=r::l:=by
   cases hb:i.b.buys with
   |nil=>rw[hb]at g;exact absurd g (by decide)
   |cons r l=>exact⟨r,l,rfl⟩
  refine⟨⟨by omega,by rw[hl,yWs];omega⟩,r.price,elA (x:=r) (by rw[hl];rfl) (by simp[zC]) rfl,⟨1,i.price,r.price⟩,rfl,rfl,rfl,trivial,fun _ _=>⟨_,rfl,?_,by(repeat'(first|exact trivial|exact rfl|apply And.intro))⟩⟩
  rw[Book.leads,nP,hl]
 subst hx
 refine Cv.cnd.mk (fun g=> ?_) (fun g=> ?_)
 ·have hled:i.b.led i.id 1 i.price=i.b.leadF i.id 1:=by rw[Book.led,yWl g]
  have hf1:=zOn hfit i.id 1
  have hst:i.b.stand 1 i.id i.price i.qty={((i.b.leadF i.id 1).queueF 1 i.price).1 with a:=(((i.b.leadF i.id 1).queueF 1 i.price).1.a.push ((i.b.leadF i.id 1).queueF 1 i.price).2 i.id i.qty (i.b.leads 1 i.price)).1,at_:=pK i.id ⟨1,i.price,(((i.b.leadF i.id 1).queueF 1 i.price).1.a.push ((i.b.leadF i.id 1).queueF 1 i.price).2 i.id i.qty (i.b.leads 1 i.price)).2.1⟩ ((i.b.leadF i.id 1).queueF 1 i.price).1.at_}:=by
   simp only[Book.stand,hled]
  refine⟨⟨i.b,i.id⟩,rfl,trivial,rfl,rfl,rfl,rfl,rfl,rfl,rfl,rfl,rfl,hsm,fun _ _=>⟨⟨i.b.leadF i.id 1,i.price⟩,trivial,rfl,rfl,rfl,rfl,rfl,rfl,rfl,rfl,rfl,rfl,hf1,fun _ _=>⟨trivial,?_⟩⟩⟩
  refine⟨⟨((i.b.leadF i.id 1).queueF 1 i.price).1.a,((i.b.leadF i.id 1).queueF 1 i.price).2,i.id,i.qty,i.b.leads 1 i.price⟩,rfl,rfl,rfl,rfl,rfl,p8 hf1.1 1 i.price,fun _ _=>⟨jV _ _,(),?_⟩⟩
  dsimp only
  rw[hst,plc]
  exact kp
 ·have hled:i.b.led i.id 1 i.price=i.b:=by rw[Book.led,yWk (by rw[g];decide)]
  have hst:i.b.stand 1 i.id i.price i.qty={(i.b.queueF 1 i.price).1 with a:=((i.b.queueF 1 i.price).1.a.push (i.b.queueF 1 i.price).2 i.id i.qty (i.b.leads 1 i.price)).1,at_:=pK i.id ⟨1,i.price,((i.b.queueF 1 i.price).1.a.push (i.b.queueF 1 i.price).2 i.id i.qty (i.b.leads 1 i.price)).2.1⟩ (i.b.queueF 1 i.price).1.at_}:=by
   simp only[Book.stand,hled]
  refine⟨⟨i.b,i.price⟩,trivial,rfl,rfl,rfl,rfl,rfl,rfl,rfl,rfl,rfl,rfl,hfit,fun _ _=>⟨trivial,?_⟩⟩
  refine⟨⟨(i.b.queueF 1 i.price).1.a,(i.b.queueF 1 i.price).2,i.id,i.qty,i.b.leads 1 i.price⟩,rfl,rfl,rfl,rfl,rfl,p8 hfit.1 1 i.price,fun _ _=>⟨jV _ _,(),?_⟩⟩
  dsimp only
  rw[hst,plc]
  exact kp
theorem yFm:badd1C.ok Tryz.prog 240:=okw mixed (gokc tJ (gokc bQ (gokc yFw (gokc z6y (gokc zXp gok0))))) 0 (fun _=>yLz) (fun _=>[]) [0] Tryz.func240 yOj
theorem yPu (i:BaI) (h:badd2C.cnd i):yDm i:=by
 have hfit:i.b.fit:=h
 have hsm:=zPf hfit
 unfold yDm zGd mF zGc zP yM pZ pG yJ tX tU lB qS rD pM dI
 have plc:∀(b:Book) (x:Int),fB (Value.int IntKind.i64 i.id) [D.v (.int .i64 2),D.v (.int .i64 i.price),D.v (.int .i64 x)] (atE b.at_)=atE (pK i.id ⟨2,i.price,x⟩ b.at_):=fun b x=>zUa i.id ⟨2,i.price,x⟩ b.at_
 refine⟨jV _ _,(pget i.b.at_ i.id).isSome,_,_,_,zOz _ _,2,rfl,trivial,fun _ _=> ?_⟩
 refine Cv.cnd.mk (fun c=>absurd c (by decide)) fun _=> ?_
 refine zK (fun c=> ?_) (fun c=>zK (fun d=> ?_) (fun d=> ?_))
 ·have ha:i.b.addF 2 i.id i.price i.qty=(i.b,24):=by rw[Book.addF,yWl (.inl c)]
  rw[ha];exact kp
 ·have ha:i.b.addF 2 i.id i.price i.qty=(i.b,24):=by rw[Book.addF,yWl (.inr d)]
  rw[ha];exact kp
 have hq:¬(i.qty<1∨1000000<i.qty):=by omega
 refine Cv.cnd.mk (fun e=> ?_) (fun e=> ?_)
 ·have ha:i.b.addF 2 i.id i.price i.qty=(i.b,25):=by rw[Book.addF,yWk hq,yWl e]
  rw[ha];exact kp
 have hlen:(atE i.b.at_).length=i.b.at_.length:=by simp[atE]
 rw[hlen]
 refine zK (fun f=> ?_) (fun f=> ?_)
 ·have ha:i.b.addF 2 i.id i.price i.qty=(i.b,13):=by rw[Book.addF,yWk hq,yWk (by rw[e];decide),yWl (by omega)]
  rw[ha];exact kp
 have ha:i.b.addF 2 i.id i.price i.qty=(i.b.stand 2 i.id i.price i.qty,0):=by rw[Book.addF,yWk hq,yWk (by rw[e];decide),yWk (by omega)]
 rw[ha]
 simp only[yWm]
 refine⟨true,fun x=>x=i.b.leads 2 i.price,Cv.cnd.mk (fun g=>⟨true,rfl,?_,by(repeat'(first|exact trivial|exact rfl|apply And.intro))⟩) (fun g=> ?_),fun x hx=> ?_⟩
 ·have:i.b.sells=[]:=yXn (by have:(i.b.sells.length:Int)=0:=(by simpa using g);omega)
  rw[Book.leads,pO,this]
 ·obtain⟨r,l,hl⟩:∃r l,i.b.sells=r::l:=by
   cases hb:i.b.sells with
   |nil=>rw[hb]at g;exact absurd g (by decide)
   |cons r l=>exact⟨r,l,rfl⟩
  refine⟨⟨by omega,by rw[hl,yWs];omega⟩,r.price,elA (x:=r) (by rw[hl];rfl) (by simp[zC]) rfl,⟨2,i.price,r.price⟩,rfl,rfl,rfl,trivial,fun _ _=>⟨_,rfl,?_,by(repeat'(first|exact trivial|exact rfl|apply And.intro))⟩⟩
  rw[Book.leads,pO,hl]
 subst hx
 refine Cv.cnd.mk (fun g=> ?_) (fun g=> ?_)
 ·have hled:i.b.led i.id 2 i.price=i.b.leadF i.id 2:=by rw[Book.led,yWl g]
  have hf1:=zOn hfit i.id 2
  have hst:i.b.stand 2 i.id i.price i.qty={((i.b.leadF i.id 2).queueF 2 i.price).1 with a:=(((i.b.leadF i.id 2).queueF 2 i.price).1.a.push ((i.b.leadF i.id 2).queueF 2 i.price).2 i.id i.qty (i.b.leads 2 i.price)).1,at_:=pK i.id ⟨2,i.price,(((i.b.leadF i.id 2).queueF 2 i.price).1.a.push ((i.b.leadF i.id 2).queueF 2 i.price).2 i.id i.qty (i.b.leads 2 i.price)).2.1⟩ ((i.b.leadF i.id 2).queueF 2 i.price).1.at_}:=by
   simp only[Book.stand,hled]
  refine⟨⟨i.b,i.id⟩,rfl,trivial,rfl,rfl,rfl,rfl,rfl,rfl,rfl,rfl,rfl,hsm,fun _ _=>⟨⟨i.b.leadF i.id 2,i.price⟩,trivial,rfl,rfl,rfl,rfl,rfl,rfl,rfl,rfl,rfl,rfl,hf1,fun _ _=>⟨trivial,?_⟩⟩⟩
  refine⟨⟨((i.b.leadF i.id 2).queueF 2 i.price).1.a,((i.b.leadF i.id 2).queueF 2 i.price).2,i.id,i.qty,i.b.leads 2 i.price⟩,rfl,rfl,rfl,rfl,rfl,p8 hf1.1 2 i.price,fun _ _=>⟨jV _ _,(),?_⟩⟩
  dsimp only
  rw[hst,plc]
  exact kp
 ·have hled:i.b.led i.id 2 i.price=i.b:=by rw[Book.led,yWk (by rw[g];decide)]
  have hst:i.b.stand 2 i.id i.price i.qty={(i.b.queueF 2 i.price).1 with a:=((i.b.queueF 2 i.price).1.a.push (i.b.queueF 2 i.price).2 i.id i.qty (i.b.leads 2 i.price)).1,at_:=pK i.id ⟨2,i.price,((i.b.queueF 2 i.price).1.a.push (i.b.queueF 2 i.price).2 i.id i.qty (i.b.leads 2 i.price)).2.1⟩ (i.b.queueF 2 i.price).1.at_}:=by
   simp only[Book.stand,hled]
  refine⟨⟨i.b,i.price⟩,trivial,rfl,rfl,rfl,rfl,rfl,rfl,rfl,rfl,rfl,rfl,hfit,fun _ _=>⟨trivial,?_⟩⟩
  refine⟨⟨(i.b.queueF 2 i.price).1.a,(i.b.queueF 2 i.price).2,i.id,i.qty,i.b.leads 2 i.price⟩,rfl,rfl,rfl,rfl,rfl,p8 hfit.1 2 i.price,fun _ _=>⟨jV _ _,(),?_⟩⟩
  dsimp only
  rw[hst,plc]
  exact kp
theorem yAu:badd2C.ok Tryz.prog 240:=okw mixed (gokc tJ (gokc bQ (gokc yEi (gokc z7h (gokc zXp gok0))))) 0 (fun _=>yLz) (fun _=>[]) [0] Tryz.func240 yPu
theorem yIw:baddC.ok Tryz.prog 240:=fun j=>match j with
 |⟨i,false⟩=>yFm i
 |⟨i,true⟩=>yAu i
theorem ySd (i:SaI) (h:saddC.cnd i):yKk i:=by
 obtain⟨hp,hbl,hb⟩:i.s.fit:=h
 unfold yKk zNe tE mK zEe zEl x0 dI
 simp only[zUi]
 have hml:(yW i.s.wh).length=i.s.wh.length:=by simp[yW]
 rw[hml]
 have out (e:i.inst<0∨i.s.books.length≤i.inst):MSt.addF i=(i.s,20):=by rw[MSt.addF,yWl e]
 refine⟨dK _ _,(zAw i.s.wh i.id).isSome,_,yPy _ _,zK (fun c=>Cv.cnd.mk (fun d=> ?_) (fun d=> ?_)) (fun c=> ?_)⟩
 ·have d:¬i.inst<(i.s.books.length:Int):=by simpa using d
  rw[out (.inr (by omega))];exact kp
 ·have d:i.inst<(i.s.books.length:Int):=by simpa using d
  have hn:¬(i.inst<0∨(i.s.books.length:Int)≤i.inst):=by omega
  refine Cv.cnd.mk (fun e=> ?_) (fun e=>zK (fun f=> ?_) (fun f=> ?_))
  ·rw[MSt.addF,yWk hn,yWl e];exact kp
  ·rw[MSt.addF,yWk hn,yWk (by rw[e];decide),yWl (by omega)];exact kp
  ·refine⟨⟨i.s.p,i.inst,i.price⟩,rfl,rfl,rfl,rfl,rfl,rfl,rfl,rfl,rfl,rfl,rfl,rfl,rfl,hp,fun _ _=>Cv.cnd.mk (fun g=> ?_) (fun g=> ?_)⟩
   ·have g:i.s.p.price i.inst i.price≠0:=by simpa using g
    rw[MSt.addF,yWk hn,yWk (by rw[e];decide),yWk (by omega),yWl g];exact kp
   ·have g:i.s.p.price i.inst i.price=0:=by simpa using g
    obtain⟨x,hx⟩:=z6 (l:=i.s.books) (i:=i.inst.toNat) (by omega)
    have hba:i.s.bookAt i.inst=x:=zT hx
    have ha:MSt.addF i=({i.s with books:=i.s.books.set i.inst.toNat (x.addF (zD i.sd) i.id i.price i.qty).1,wh:=if(x.addF (zD i.sd) i.id i.price i.qty).2=0 then zWu i.id i.inst i.s.wh else i.s.wh},(x.addF (zD i.sd) i.id i.price i.qty).2):=by
     rw[MSt.addF,yWk hn,yWk (by rw[e];decide),yWk (by omega),yWk (by simp[g])]
     simp only[hba]
    refine⟨⟨by omega,by omega⟩,by omega,x,hx,⟨⟨x,i.id,i.price,i.qty⟩,i.sd⟩,rfl,rfl,rfl,rfl,rfl,hb x (yWu hx),fun _ _=>⟨(x.addF (zD i.sd) i.id i.price i.qty).1,rfl,trivial,by omega,Cv.cnd.mk (fun z=>⟨dK _ _,?_⟩) (fun z=> ?_)⟩⟩
    ·have z:(x.addF (zD i.sd) i.id i.price i.qty).2=0:=by simpa using z
     rw[ha,z]
     simp only[if_true]
     exact kp
    ·have z:¬(x.addF (zD i.sd) i.id i.price i.qty).2=0:=by simpa using z
     rw[ha,yWk z]
     exact kp
 ·rw[out (.inl (by omega))];exact kp
theorem yIq:saddC.ok Tryz.prog 209:=okw mixed (gokc sW (gokc yIw gok0)) 1 (fun _=>[]) (fun _=>[]) [0] Tryz.func209 ySd
open Go Cv Go.Proofs
def r3prodC:Con:=con1 (List UInt8) (fun s=>[sV s]) (fun _=>[]) (fun s=>s.length≤1099511627776) (fun s=>yG (j5 s)) (fun _=>[])
def yIo (s:List UInt8):List SAnn:=[{ι:=Nat×Nat,slots:=fun x=>[(3,zA x.2),(7,.nm 0 0)],rows:=fun x=>[.iter (sb s) x.1]}]
def yGk:List (Nat×SAnn):=[(20,bj 29)]
def r5checkC:Con:=con1 Prd (fun p=>[prdV p]) (fun _=>[]) Prd.small (fun p=>zA p.check) (fun _=>[])
def yAn:List SAnn:=[{ι:=Nat,slots:=fun j=>[(3,zA j)],rows:=fun _=>[]},{ι:=Nat,slots:=fun j=>[(4,zA j)],rows:=fun _=>[]},{ι:=Nat,slots:=fun j=>[(5,zA j)],rows:=fun _=>[]}]
def z8t:List (Nat×SAnn):=[(12,bj 19),(32,bj 58),(40,bj 90),(68,bj 136),(96,bj 168),(104,bj 176),(112,bj 204)]
def r5countC:Con:=con1 Prd (fun p=>[prdV p]) (fun _=>[]) Prd.small (fun p=>zA p.count) (fun _=>[])
def r5legsC:Con:=con1 cI (fun i=>[prdV i.p,zA i.n]) (fun _=>[]) (fun i=>i.p.small) (fun i=> .tup [zA (i.p.legs i.n).1,zA (i.p.legs i.n).2.1,yG (i.p.legs i.n).2.2]) (fun _=>[])
def yHz (i:cI):List SAnn:=[{ι:=Nat,slots:=fun m=>[(8,zA (yK i.p.months.length m)),(9,zA m)],rows:=fun _=>[]},
 {ι:=Nat×Nat,slots:=fun m=>[(8,zA ((yK i.p.months.length m.1+m.2:Nat):Int)),(9,zA m.1),(10,zA ((m.1+1+m.2:Nat):Int))],rows:=fun _=>[]}]
def kN (x:Prd):Int:=2+zI x.months.length 0 3
def yF (x:Prd):Int:=1+zI x.tick 0 9
def qZ (n:Nat):List Int:=(List.range n).map fun(i:Nat)=>10*(i:Int)+3
def qE (t:Int) (n:Nat):List Int:=(List.range n).map fun(i:Nat)=>t*(10+(i:Int))
def g7 (x:Prd):Prd:=⟨[206,169],qZ (kN x).toNat,yF x,-20*yF x,100*yF x,yF x*(5+zI x.wide 0 60),1+zI x.rule 0 2,zI x.top 0 9,1+zI x.least 0 4,zI x.part 0 100,qE (yF x) (kN x).toNat⟩
@[reducible] def Prd.raw (x:Prd):Prop:=yV x.tick∧yV x.wide∧yV x.rule∧yV x.top∧yV x.least∧yV x.part∧x.months.length≤9223372036854775807
def kprodC:Con:=con1 Prd (fun x=>[prdV x]) (fun _=>[]) Prd.raw (fun x=>prdV (g7 x)) (fun _=>[])
def yUy (x:Prd) (w:Int) (j:Nat):List AObj:=[.cells [sV [206,169],.own 1,zA (yF x),zA (-20*yF x),zA (100*yF x),zA w,zA (1+zI x.rule 0 2),zA (zI x.top 0 9),zA (1+zI x.least 0 4),zA (zI x.part 0 100),.own 2] 25,.own 3 1 (iE (qZ j)),.own 2 1 (iE (qE (yF x) j))]
def ySl (x:Prd):List AObj:=[.cells [sV [206,169],.d (.v (.slice none 0 0)),zA (yF x),zA (-20*yF x),zA (100*yF x),zA 0,zA (1+zI x.rule 0 2),zA (zI x.top 0 9),zA (1+zI x.least 0 4),zA (zI x.part 0 100),.d (.v (.slice none 0 0))] 25]
def yOb (x:Prd):List SAnn:=[{ι:=Nat,slots:=fun j=>[(5,.nm 0 0),(6,zA j)],rows:=fun j=>yUy x (yF x*(5+zI x.wide 0 60)) j}]
def yQr (x:Prd):List (Nat×SAnn):=[(12,{ι:=Unit,slots:=fun _=>[(5,.nm 0 0)],slots0:=fun _=>[],rows0:=fun _=>[],rows:=fun _=>ySl x})]
end Sx
