/- Texts of ours, one behind the other: a walk that the kernel reckons, and contracts of functions. No condition. -/
import Derived.Laws.AppendOwn
import Derived.Lib.AppendZerosOnto
import Derived.Lib.Overlaps
import Derived.Test.YthkofaanekmpmaaGreatY4
open List renaming map→aa,take→ab,drop→ac,range→ae
open Go.IntKind renaming i64→af
open Sx.AObj renaming adt→ag,own→aj,fro→ak,cells→am,objs→ao,map→ap
open Bool renaming true→aq,false→ar
open Option renaming some→au,none→av
open Go.Value renaming int→aw
open Go.Builtin renaming zeroCells→ax,copy_→ay,firstCells→az,append_→bc
open And renaming intro→be
open Exists renaming intro→bg
open Go renaming Value→bo,World→bu,Program→bv,Addr→bz,size_zeroCells→cd,TypeId→ce
open Int renaming tmod_eq_emod_of_nonneg→cf,add_mul_emod_self_left→cg,toNat→ci
namespace Sx
set_option linter.unusedVariables false
set_option linter.unusedSimpArgs false
set_option maxRecDepth 100000
open Go Cv Go.Proofs
theorem z0c {l:List Quote} {q:Quote} (s:Int) (h:l[0]? =au q):(zU (l.take (max 0 1)) s).1=q:=by
 cases l with
 |nil=>simp at h
 |cons a l=>simp at h;subst h;rfl
theorem zZb {l:List Quote} {j:Nat} {q:Quote} (s:Int) (h:l[j]? =au q):
 (zU (l.take (max (j+1) 1)) s).1=if btr s q.price (zU (l.take (max j 1)) s).1.price then q else(zU (l.take (max j 1)) s).1:=by
 cases l with
 |nil=>simp at h
 |cons a l=>
  cases j with
  |zero=>simp at h;subst h;simp[zU]
  |succ m=>
   simp only[y1r]at h
   rw[show max (m+1+1) 1=(m+1)+1 by omega,show max (m+1) 1=m+1 by omega,y1j,y1j,y1i,h]
   simp only[zU,y3f,y5o]
   rfl
theorem z8l {l:List Quote} (s:Int) (h:l≠[]):(zU l s).2=aq:=by
 cases l with
 |nil=>exact absurd rfl h
 |cons a l=>rfl
theorem ySe (i:BsI) (h:bestQC.cnd i):yBi i:=by
 obtain⟨hs,hl⟩:(i.s=1∨i.s=2)∧i.l.length≤1000000:=h
 unfold yBi zBw zHd vY yA zBi dI
 simp only[y0a]
 refine Cv.cnd.mk (fun c=> ?_) (fun c=> ?_)
 ·have e:i.l=[]:=y0y (by have:(i.l.length:Int)=0:=(by simpa using c);omega)
  rw[e];exact kp
 have h0:0<i.l.length:=by
  rcases Nat.eq_zero_or_pos i.l.length with h|h
  ·rw[h]at c;exact absurd c (by decide)
  ·exact h
 have hne:i.l≠[]:=by intro e;rw[e]at h0;simp at h0
 have two:=z8l i.s hne
 obtain⟨q,hq⟩:=z8 h0
 have b0:=z0c i.s hq
 have fin:(zU (i.l.take (max i.l.length 1)) i.s).1=(zU i.l i.s).1:=by
  rw[y0p (by omega)]
 have step:∀j:Nat,j<i.l.length→∀x:Quote,i.l[j]? =au x→(btr i.s x.price (zU (i.l.take (max j 1)) i.s).1.price=aq→(zU (i.l.take (max (j+1) 1)) i.s).1=x)∧(btr i.s x.price (zU (i.l.take (max j 1)) i.s).1.price=ar→(zU (i.l.take (max (j+1) 1)) i.s).1=(zU (i.l.take (max j 1)) i.s).1):=fun j hj x hx=>by
  have:=zZb i.s hx
  constructor
  ·intro e;rw[this,yZy e]
  ·intro e;rw[this,yZx (by rw[e];simp)]
 refine Cv.cnd.mk (fun c1=>Cv.cnd.mk (fun c2=> ?_) (fun c2=> ?_)) (fun c1=> ?_)
 ·exfalso
  have c1:i.s≠1:=by simpa using c1
  have c2:i.s≠2:=by simpa using c2
  omega
 all_goals
  refine⟨⟨by omega,by omega⟩,q.price,q.qty,q.a.inst,q.a.side,q.b.inst,q.b.side,elA hq (by simp[zL]) rfl,0,?_⟩
  rw[b0]
  (repeat'(first|exact rfl|exact trivial|assumption|apply be|refine fun(_:Unit) (_:True)=>?_|refine bg () ?_|omega|(dsimp only;omega)))
  refine⟨fun j=>j≤i.l.length,fun j=>i.l.length-j,by omega,fun j hj=>zJ (fun hlt=> ?_) (fun hlt=> ?_)⟩
  ·have hj':j<i.l.length:=by omega
   obtain⟨x,hx⟩:=z8 hj'
   obtain⟨st,sf⟩:=step j hj' x hx
   refine⟨⟨by omega,by omega⟩,x.price,x.qty,x.a.inst,x.a.side,x.b.inst,x.b.side,elA hx (by simp[zL]) rfl,⟨i.s,x.price,_⟩,rfl,rfl,rfl,trivial,fun _ _=>Cv.cnd.mk (fun e=>⟨j+1,by rw[w64 (by omega)];rfl,?_⟩) (fun e=>⟨j+1,by rw[w64 (by omega)];rfl,?_⟩)⟩
   ·rw[st e];exact kp
   ·rw[sf e];exact kp
  ·have hj:j≤i.l.length:=hj
   obtain rfl:j=i.l.length:=by omega
   rw[fin,two];exact kp
theorem zYb:bestQC.ok Tryz.prog 159:=okw mixed (gokc z0u gok0) 0 (fun _=>[]) (fun i=>yPh i) [] Tryz.func159 ySe
theorem zCi (tops:List Top) (a b:Leg) (less:Bool):(mkq tops a b less).length≤1:=by
 unfold mkq
 dsimp only
 split<;>split<;>simp
theorem zTl {α:Type} {f:Nat→List α} (h:∀k,(f k).length≤1):∀n,((ae n).flatMap f).length≤n
 |0=>by simp
 |n+1=>by
  rw[y4y,y1u,y0e]
  have:=zTl h n
  have:=h n
  simp only[y1s,y5h,y0v]
  omega
theorem zAg (i:dJ) (s:Int) (k:Nat):(kT i s k).length≤k:=zTl (fun _=>zCi _ _ _ _) k
theorem pC (i:dJ) (s:Int) (k:Nat):(j6 i s k).length≤k:=zTl (fun _=>zCi _ _ _ _) k
theorem zDz (i:dJ) (s:Int):(kE i s).length≤100:=by
 unfold kE
 split
 ·simp
 ·rename_i h
  have hc:=xQ i.p
  have m6:=(jR (sG (p:=i.p) (by omega))).m6
  split
  ·rw[y0a]
   have:=zCi i.tops ⟨(i.p.legs i.inst).2.1,3-s⟩ ⟨(i.p.legs i.inst).1,s⟩ aq
   have e:(yP i s).length≤1:=this
   omega
  ·rw[y0e]
   have h1:=zAg i s (i.p.months.length-(i.inst.toNat+1))
   have h2:=pC i s i.inst.toNat
   omega
theorem yKq (j:tM) (h:quotesC.cnd j):z3d j:=by
 unfold z3d zBj gW jH kD gU xZ dI
 obtain⟨hp,ht,hr⟩:j.i.p.small∧vD j.i.tops:=h
 obtain⟨h1,h2,h3⟩:=hp
 have hl:=zDz j.i (zD j.s)
 refine⟨j,?_⟩
 simp only[y0a]
 (repeat'(first|exact rfl|exact trivial|assumption|apply be|refine fun(_:Unit) (_:True)=>?_|refine bg () ?_|omega|(dsimp only;omega)))
 refine⟨0,rfl,rfl,fun k=>k≤(kE j.i (zD j.s)).length,fun k=>(kE j.i (zD j.s)).length-k,by omega,fun k hk=>zJ (fun hlt=> ?_) (fun hlt=> ?_)⟩
 ·have hk':k<(kE j.i (zD j.s)).length:=by omega
  obtain⟨q,hq⟩:=z8 hk'
  have hf:(List.filter (fun q=>decide (j.i.p.price j.i.inst q.price=0)) (ab k (kE j.i (zD j.s)))).length≤100:=by
   have:=y3o (fun q:Quote=>decide (j.i.p.price j.i.inst q.price=0)) (ab k (kE j.i (zD j.s)))
   rw[y0t]at this
   omega
  refine⟨⟨by omega,by omega⟩,q.price,q.qty,q.a.inst,q.a.side,q.b.inst,q.b.side,elA hq (by simp[zL]) rfl,⟨j.i.p,j.i.inst,q.price⟩,?_⟩
  (repeat'(first|exact rfl|exact trivial|assumption|apply be|refine fun(_:Unit) (_:True)=>?_|refine bg () ?_|omega|(dsimp only;omega)))
  refine Cv.cnd.mk (fun c=>⟨by omega,k+1,by rw[w64 (by omega)];rfl,?_⟩) (fun c=>⟨k+1,by rw[w64 (by omega)];rfl,?_⟩)
  ·have c:j.i.p.price j.i.inst q.price=0:=by simpa using c
   rw[y1i,hq,y3f,y2w,y5a (by simpa using c),y0j]
   exact kp
  ·have c:¬j.i.p.price j.i.inst q.price=0:=by simpa using c
   rw[y1i,hq,y3f,y2w,y5b (by simpa using c),List.filter_nil,y0v]
   exact kp
 ·have hk:k≤(kE j.i (zD j.s)).length:=hk
  obtain rfl:k=(kE j.i (zD j.s)).length:=by omega
  rw[y0p (y1f _)]
  exact kp
open Go Cv Go.Proofs
theorem z8g:∀n≤6,∀a<n,∀b<n,a<b→0≤(yJ n a:Int)+b-a-1∧(yJ n a:Int)+b-a-1<((n+n*(n-1) / 2:Nat):Int):=by decide
theorem bL {p:Prd} (hc:p.check=0) {a b:Nat} (hab:a<b) (hb:b<p.months.length):0≤(p.spread a b).1∧(p.spread a b).1<p.count:=by
 have m6:=(jR hc).m6
 have:=z8g p.months.length m6 a (by omega) b hb hab
 rw[Prd.spread,yZx (by omega),Prd.count,yZy hc]
 simpa using this
theorem yJi:∀n≤6,∀k<n+n*(n-1) / 2,n≤k→(kK n k n 0).2.2=aq∧0≤(kK n k n 0).1∧(kK n k n 0).1<n∧0≤(kK n k n 0).2.1∧(kK n k n 0).2.1<n:=by decide
theorem cE {p:Prd} (hc:p.check=0) {k:Nat} (hk:k<p.count):((p.legs k).2.2=aq∧0≤(p.legs k).1∧(p.legs k).1<p.months.length∧0≤(p.legs k).2.1∧(p.legs k).2.1<p.months.length)∨((p.legs k).2.2=ar∧k<p.months.length):=by
 have m6:=(jR hc).m6
 have hk':=hk
 rw[Prd.count,yZy hc]at hk'
 by_cases h:k<p.months.length
 ·right
  rw[Prd.legs,yZx (by omega),yZy (by omega)]
  exact⟨rfl,h⟩
 ·left
  rw[Prd.legs,yZx (by omega),yZx (by omega)]
  exact yJi p.months.length m6 k hk' (by omega)
theorem zLt {p:Prd} (hc:p.check=0):p.months.length≤p.count:=by
 rw[Prd.count,yZy hc];omega
theorem zYo {i:dJ} {s:Int} {k:Nat} (hk:k<(yP i s).length):aa zL (aa (cP i s) (ab (k+1) (yP i s))++ac (k+1) (yP i s))=
 zH (aa zL (aa (cP i s) (ab k (yP i s))++ac k (yP i s))) k (0+2) [D.v (.int .i64 (i.p.legs i.inst).1),D.v (.int .i64 s),D.v (.int .i64 (i.p.legs i.inst).2.1),D.v (.int .i64 (3-s))]:=by
 obtain⟨q,hq⟩:=z8 hk
 rw[zQm (a:=aa zL (aa (cP i s) (ab k (yP i s)))) (b:=aa zL (ac (k+1) (yP i s))) (x:=zL q) (y:=zL (cP i s q)) (by
  rw[y0j,y2x hk,(yZz.1 hq).2,y0l]) (by simp;omega) rfl]
 rw[y1i,hq,y3f,y0j,y0j,y0j,y0l,y3r,y0l,y3r,y0i]
 rfl
theorem yWv (i:dJ) (h:all1C.cnd i):yMs i:=by
 unfold yMs zY zDq zDx mK vA mR lE mQ kY xZ lJ uC g7 gU dI
 obtain⟨⟨h1,h2,h3⟩,ht,hr⟩:i.p.small∧vD i.tops:=h
 have hto:vD i.tops:=⟨ht,hr⟩
 refine⟨i.p,?_⟩
 simp only[y0a,xD]
 (repeat'(first|exact rfl|exact trivial|assumption|apply be|refine fun(_:Unit) (_:True)=>?_|refine bg () ?_|omega|(dsimp only;omega)))
 have bad (hb:i.p.count=0∨(i.tops.length:Int)≠i.p.count∨i.inst<0∨(i.p.count:Int)≤i.inst):∃(o:Unit),aa zL (kE i 1)=[]∧True:=⟨(),by rw[kE,yZy hb];rfl,trivial⟩
 refine Cv.cnd.mk (fun c1=>bad (.inl (by have c1:(i.p.count:Int)=0:=(by simpa using c1);omega))) fun c1=>Cv.cnd.mk (fun c2=>bad (.inr (.inl (by simpa using c2)))) fun c2=>zJ (fun c3=>bad (by omega)) fun c3=>zJ (fun c4=>bad (by omega)) fun c4=>⟨⟨i.p,i.inst⟩,?_⟩
 have c1:i.p.count≠0:=by
  have c1:¬(i.p.count:Int)=0:=(by simpa using c1)
  omega
 have c2:(i.tops.length:Int)=i.p.count:=by simpa using c2
 have c4:i.inst<(i.p.count:Int):=by
  have c4:¬i.inst≥(i.p.count:Int):=c4
  omega
 have hc:=sG c1
 have hm:=zLt hc
 have e0:kE i 1=if(i.p.legs i.inst).2.2 then(yP i 1).map (cP i 1)else kT i 1 (i.p.months.length-(i.inst.toNat+1))++j6 i 1 i.inst.toNat:=by
  rw[kE,yZx (by omega)]
 obtain⟨k,hk⟩:∃k:Nat,i.inst=k:=⟨i.inst.toNat,by omega⟩
 have hl:=cE hc (k:=k) (by omega)
 rw[← hk]at hl
 (repeat'(first|exact rfl|exact trivial|assumption|apply be|refine fun(_:Unit) (_:True)=>?_|refine bg () ?_|omega|(dsimp only;omega)))
 refine Cv.cnd.mk (fun c5=> ?_) (fun c5=> ?_)
 ·have c5:(i.p.legs i.inst).2.2=aq:=c5
  rw[e0,yZy c5]
  rcases hl with⟨_,l1,l2,l3,l4⟩|⟨l1,_⟩
  ·have hsl:(yP i 1).length≤1:=zCi _ _ _ _
   refine⟨1,rfl,by omega,fun _ _=>⟨⟨⟨i.tops,[],(i.p.legs i.inst).2.1,(i.p.legs i.inst).1,aq⟩,aq,ar⟩,rfl,rfl,rfl,rfl,rfl,rfl,rfl,⟨l3,by dsimp only;omega,l1,by dsimp only;omega,hto,by simp⟩,fun _ _=>⟨0,rfl,rfl,rfl,fun j=>j≤(yP i 1).length,fun j=>(yP i 1).length-j,by omega,?_⟩⟩⟩
   intro j hj
   have hj:j≤(yP i 1).length:=hj
   have hL:(aa (cP i 1) (ab j (yP i 1))++ac j (yP i 1)).length=(yP i 1).length:=by simp;omega
   refine zJ (fun hlt=> ?_) (fun hlt=> ?_)
   ·have hlt:(j:Int)<((yP i 1).length:Int):=hlt
    refine⟨⟨by omega,by rw[hL];omega⟩,by rw[hL];omega,j+1,by rw[w64 (by omega)];rfl,kp,?_,?_⟩
    ·exact zYo (i:=i) (s:=1) (by omega)
    ·exact kp
   ·have hlt:¬(j:Int)<((yP i 1).length:Int):=hlt
    obtain rfl:j=(yP i 1).length:=by omega
    rw[y0p (y1f _),List.drop_length,y0v]
    exact kp
  ·rw[c5]at l1;cases l1
 ·have c5:(i.p.legs i.inst).2.2=ar:=c5
  rw[e0,yZx (by rw[c5];simp)]
  rcases hl with⟨l1,_⟩|⟨_,l2⟩
  ·rw[c5]at l1;cases l1
  have m6:=(jR hc).m6
  have e1:i.inst.toNat=k:=by omega
  rw[e1]
  refine⟨0,by rw[w64 (by omega)];omega,kp,rfl,fun j=>j≤i.p.months.length-(k+1),fun j=>i.p.months.length-(k+1)-j,by omega,?_⟩
  intro j hj
  have hj:j≤i.p.months.length-(k+1):=hj
  have hq:=zAg i 1 j
  refine zJ (fun hlt=> ?_) (fun hlt=> ?_)
  ·obtain⟨b1,b2⟩:=bL hc (a:=k) (b:=k+1+j) (by omega) (by omega)
   have eb:((k+1+j:Nat):Int)=i.inst+1+j:=by omega
   rw[eb,← hk]at b1 b2
   refine⟨⟨i.p,i.inst,i.inst+1+j⟩,?_⟩
   (repeat'(first|exact rfl|exact trivial|assumption|apply be|refine fun(_:Unit) (_:True)=>?_|refine bg () ?_|omega|(dsimp only;omega)))
   refine⟨⟨⟨i.tops,kT i 1 j,(i.p.spread i.inst (i.inst+1+j)).1,i.inst+1+j,ar⟩,ar,ar⟩,rfl,rfl,rfl,rfl,rfl,kp,rfl,⟨b1,by dsimp only;omega,by dsimp only;omega,by dsimp only;omega,hto,by dsimp only;omega⟩,fun _ _=>⟨j+1,by rw[w64 (by omega)];omega,kp,?_,?_⟩⟩
   ·rw[kT,y4y,y1u]
    simp only[y1s,y5h,y0v]
    rfl
   ·exact kp
  ·obtain rfl:j=i.p.months.length-(k+1):=by omega
   refine⟨0,rfl,kp,by rw[j6];simp,fun j=>j≤k,fun j=>k-j,by omega,?_⟩
   intro j hj
   have hj:j≤k:=hj
   have hq2:=pC i 1 j
   refine zJ (fun hlt2=> ?_) (fun hlt2=> ?_)
   ·obtain⟨b1,b2⟩:=bL hc (a:=j) (b:=k) (by omega) (by omega)
    rw[← hk]at b1 b2
    refine⟨⟨i.p,j,i.inst⟩,?_⟩
    (repeat'(first|exact rfl|exact trivial|assumption|apply be|refine fun(_:Unit) (_:True)=>?_|refine bg () ?_|omega|(dsimp only;omega)))
    refine⟨1,rfl,by omega,fun _ _=>⟨⟨⟨i.tops,kT i 1 (i.p.months.length-(k+1))++j6 i 1 j,(i.p.spread j i.inst).1,j,aq⟩,aq,ar⟩,rfl,rfl,rfl,rfl,rfl,kp,rfl,⟨b1,by dsimp only;omega,by dsimp only;omega,by dsimp only;omega,hto,by dsimp only;rw[y0e];omega⟩,fun _ _=>⟨j+1,by rw[w64 (by omega)];omega,kp,?_,?_⟩⟩⟩
    ·rw[j6,y4y,y1u]
     simp only[y1s,y5h,y0v,y0i]
     rfl
    ·exact kp
   ·obtain rfl:j=k:=by omega
    exact kp
theorem yIi:all1C.ok Tryz.prog 160:=okw mixed (gokc bI (gokc lU (gokc zOx (gokc zQi (gokc zXp gok0))))) 0 (fun _=>[]) (fun i=>yWr i 1) [] Tryz.func160 yWv
theorem yVp (i:dJ) (h:all2C.cnd i):yOh i:=by
 unfold yOh zY mH eG nA zDq zDx mK vA kY xZ lJ uC g7 gU dI
 obtain⟨⟨h1,h2,h3⟩,ht,hr⟩:i.p.small∧vD i.tops:=h
 have hto:vD i.tops:=⟨ht,hr⟩
 refine⟨i.p,?_⟩
 simp only[y0a,xD]
 (repeat'(first|exact rfl|exact trivial|assumption|apply be|refine fun(_:Unit) (_:True)=>?_|refine bg () ?_|omega|(dsimp only;omega)))
 have bad (hb:i.p.count=0∨(i.tops.length:Int)≠i.p.count∨i.inst<0∨(i.p.count:Int)≤i.inst):∃(o:Unit),aa zL (kE i 2)=[]∧True:=⟨(),by rw[kE,yZy hb];rfl,trivial⟩
 refine Cv.cnd.mk (fun c1=>bad (.inl (by have c1:(i.p.count:Int)=0:=(by simpa using c1);omega))) fun c1=>Cv.cnd.mk (fun c2=>bad (.inr (.inl (by simpa using c2)))) fun c2=>zJ (fun c3=>bad (by omega)) fun c3=>zJ (fun c4=>bad (by omega)) fun c4=>⟨⟨i.p,i.inst⟩,?_⟩
 have c1:i.p.count≠0:=by
  have c1:¬(i.p.count:Int)=0:=(by simpa using c1)
  omega
 have c2:(i.tops.length:Int)=i.p.count:=by simpa using c2
 have c4:i.inst<(i.p.count:Int):=by
  have c4:¬i.inst≥(i.p.count:Int):=c4
  omega
 have hc:=sG c1
 have hm:=zLt hc
 have e0:kE i 2=if(i.p.legs i.inst).2.2 then(yP i 2).map (cP i 2)else kT i 2 (i.p.months.length-(i.inst.toNat+1))++j6 i 2 i.inst.toNat:=by
  rw[kE,yZx (by omega)]
 obtain⟨k,hk⟩:∃k:Nat,i.inst=k:=⟨i.inst.toNat,by omega⟩
 have hl:=cE hc (k:=k) (by omega)
 rw[← hk]at hl
 (repeat'(first|exact rfl|exact trivial|assumption|apply be|refine fun(_:Unit) (_:True)=>?_|refine bg () ?_|omega|(dsimp only;omega)))
 refine Cv.cnd.mk (fun c5=> ?_) (fun c5=> ?_)
 ·have c5:(i.p.legs i.inst).2.2=aq:=c5
  rw[e0,yZy c5]
  rcases hl with⟨_,l1,l2,l3,l4⟩|⟨l1,_⟩
  ·have hsl:(yP i 2).length≤1:=zCi _ _ _ _
   refine⟨2,rfl,by omega,fun _ _=>⟨⟨⟨i.tops,[],(i.p.legs i.inst).2.1,(i.p.legs i.inst).1,aq⟩,ar,aq⟩,rfl,rfl,rfl,rfl,rfl,rfl,rfl,⟨l3,by dsimp only;omega,l1,by dsimp only;omega,hto,by simp⟩,fun _ _=>⟨0,rfl,rfl,rfl,fun j=>j≤(yP i 2).length,fun j=>(yP i 2).length-j,by omega,?_⟩⟩⟩
   intro j hj
   have hj:j≤(yP i 2).length:=hj
   have hL:(aa (cP i 2) (ab j (yP i 2))++ac j (yP i 2)).length=(yP i 2).length:=by simp;omega
   refine zJ (fun hlt=> ?_) (fun hlt=> ?_)
   ·have hlt:(j:Int)<((yP i 2).length:Int):=hlt
    refine⟨⟨by omega,by rw[hL];omega⟩,by rw[hL];omega,j+1,by rw[w64 (by omega)];rfl,kp,?_,?_⟩
    ·exact zYo (i:=i) (s:=2) (by omega)
    ·exact kp
   ·have hlt:¬(j:Int)<((yP i 2).length:Int):=hlt
    obtain rfl:j=(yP i 2).length:=by omega
    rw[y0p (y1f _),List.drop_length,y0v]
    exact kp
  ·rw[c5]at l1;cases l1
 ·have c5:(i.p.legs i.inst).2.2=ar:=c5
  rw[e0,yZx (by rw[c5];simp)]
  rcases hl with⟨l1,_⟩|⟨_,l2⟩
  ·rw[c5]at l1;cases l1
  have m6:=(jR hc).m6
  have e1:i.inst.toNat=k:=by omega
  rw[e1]
  refine⟨0,by rw[w64 (by omega)];omega,kp,rfl,fun j=>j≤i.p.months.length-(k+1),fun j=>i.p.months.length-(k+1)-j,by omega,?_⟩
  intro j hj
  have hj:j≤i.p.months.length-(k+1):=hj
  have hq:=zAg i 2 j
  refine zJ (fun hlt=> ?_) (fun hlt=> ?_)
  ·obtain⟨b1,b2⟩:=bL hc (a:=k) (b:=k+1+j) (by omega) (by omega)
   have eb:((k+1+j:Nat):Int)=i.inst+1+j:=by omega
   rw[eb,← hk]at b1 b2
   refine⟨⟨i.p,i.inst,i.inst+1+j⟩,?_⟩
   (repeat'(first|exact rfl|exact trivial|assumption|apply be|refine fun(_:Unit) (_:True)=>?_|refine bg () ?_|omega|(dsimp only;omega)))
   refine⟨⟨⟨i.tops,kT i 2 j,(i.p.spread i.inst (i.inst+1+j)).1,i.inst+1+j,ar⟩,aq,aq⟩,rfl,rfl,rfl,rfl,rfl,kp,rfl,⟨b1,by dsimp only;omega,by dsimp only;omega,by dsimp only;omega,hto,by dsimp only;omega⟩,fun _ _=>⟨j+1,by rw[w64 (by omega)];omega,kp,?_,?_⟩⟩
   ·rw[kT,y4y,y1u]
    simp only[y1s,y5h,y0v]
    rfl
   ·exact kp
  ·obtain rfl:j=i.p.months.length-(k+1):=by omega
   refine⟨0,rfl,kp,by rw[j6];simp,fun j=>j≤k,fun j=>k-j,by omega,?_⟩
   intro j hj
   have hj:j≤k:=hj
   have hq2:=pC i 2 j
   refine zJ (fun hlt2=> ?_) (fun hlt2=> ?_)
   ·obtain⟨b1,b2⟩:=bL hc (a:=j) (b:=k) (by omega) (by omega)
    rw[← hk]at b1 b2
    refine⟨⟨i.p,j,i.inst⟩,?_⟩
    (repeat'(first|exact rfl|exact trivial|assumption|apply be|refine fun(_:Unit) (_:True)=>?_|refine bg () ?_|omega|(dsimp only;omega)))
    refine⟨2,rfl,by omega,fun _ _=>⟨⟨⟨i.tops,kT i 2 (i.p.months.length-(k+1))++j6 i 2 j,(i.p.spread j i.inst).1,j,aq⟩,ar,aq⟩,rfl,rfl,rfl,rfl,rfl,kp,rfl,⟨b1,by dsimp only;omega,by dsimp only;omega,by dsimp only;omega,hto,by dsimp only;rw[y0e];omega⟩,fun _ _=>⟨j+1,by rw[w64 (by omega)];omega,kp,?_,?_⟩⟩⟩
    ·rw[j6,y4y,y1u]
     simp only[y1s,y5h,y0v,y0i]
     rfl
    ·exact kp
   ·obtain rfl:j=k:=by omega
    exact kp
theorem yIg:all2C.ok Tryz.prog 160:=okw mixed (gokc bI (gokc lU (gokc zOx (gokc zQi (gokc zXp gok0))))) 0 (fun _=>[]) (fun i=>yWr i 2) [] Tryz.func160 yVp
theorem yDv:allC.ok Tryz.prog 160:=fun j=>match j with
 |⟨i,ar⟩=>yIi i
 |⟨i,aq⟩=>yIg i
theorem zPt:quotesC.ok Tryz.prog 109:=okw mixed (gokc yDv (gokc tG gok0)) 0 (fun _=>[]) (fun j=>yLd j) [] Tryz.func109 yKq
open Go Cv Go.Proofs
open Go Cv Go.Proofs
open Go Cv Go.Proofs
theorem zHx (i:dJ) (s:Int):(xS i s).length≤100:=y3m (y3o _ _) (zDz i s)
open Go Cv Go.Proofs
structure Mkt where
 p:Prd
 s:MSt
 used:List Int
def yC (l:List Int):List (bo×List D):=l.map fun x=>(.int .i64 x,[.v (.bool aq)])
def y3 (m:Mkt):Nat→AObj
 |0=> .cells [sV m.p.code,.own 3,zA m.p.tick,zA m.p.low,zA m.p.high,zA m.p.wide,zA m.p.rule,zA m.p.top,zA m.p.least,zA m.p.part,.own 4,.nm 1 0,.mp 2] 179
 |1=>zF m.s
 |2=> .map (yC m.used)
 |3=> .fro 1 (iE m.p.months)
 |4=> .fro 1 (iE m.p.settle)
 |_=> .gone
def fS (m:Mkt):AObj:= .adt Mkt 5 y3 m
def newMC:Con where
 ι:=Prd
 pat:=fun p=>[prdV p]
 pre:=fun _=>[]
 cnd:=fun p=>p.small
 alts:=fun p=>[{o:=Unit,res:=fun _=> .tup [.nm 0 0,zA 0],post:=fun _=>[fS ⟨p,mF p,[]⟩],rel:=fun _=>p.check=0},{o:=Unit,res:=fun _=> .tup [.d (.v (.pointer av)),zA p.check],post:=fun _=>[],rel:=fun _=>p.check≠0}]
def stateC:Con:=con1 Mkt (fun _=>[.nm 0 0]) (fun m=>[fS m]) (fun m=>m.s.small) (fun _=> .nm 1 0) (fun m=>[fS m,zF m.s])
open Go Cv Go.Proofs
def zFl (a:Prd) (b:Prd) (c:Unit):Prop:=True∧(0+(iE a.settle).length)*(8:Nat)≤(140737488355328:Nat)∧((∃(d:Unit),(0:Int)=(0:Int)∧sb a.code=sb a.code∧a.tick=a.tick∧a.low=a.low∧a.high=a.high∧a.wide=a.wide∧a.rule=a.rule∧a.top=a.top∧a.least=a.least∧a.part=a.part∧zF (mF a)=zF (mF b)∧yC []=[]∧iE a.months=[]++iE a.months∧iE a.settle=[]++iE a.settle∧a.check=0)∨∃(c:Unit),False)
def zJq (a:Prd) (b:Prd) (c:Unit):Prop:=True∧True∧(0+(iE a.months).length)*(8:Nat)≤(140737488355328:Nat)∧zFl a b c
def zFn (a:Prd) (b:Unit):Prop:=True∧(0+(iE a.settle).length)*(8:Nat)≤(140737488355328:Nat)∧((∃(c:Unit),(0:Int)=(0:Int)∧sb a.code=sb a.code∧a.tick=a.tick∧a.low=a.low∧a.high=a.high∧a.wide=a.wide∧a.rule=a.rule∧a.top=a.top∧a.least=a.least∧a.part=a.part∧False)∨∃(b:Unit),False)
def zFk (a:Prd) (b:Unit):Prop:=True∧True∧(0+(iE a.months).length)*(8:Nat)≤(140737488355328:Nat)∧zFn a b
def yOg (p:Prd):Prop:=
 ∃(a:Prd),sb a.code=sb p.code∧iE a.months=iE p.months∧a.tick=p.tick∧a.low=p.low∧a.high=p.high∧a.wide=p.wide∧a.rule=p.rule∧a.top=p.top∧a.least=p.least∧a.part=p.part∧iE a.settle=iE p.settle∧(zY a)∧(∀(b:Unit),a.check=0→(True∧True∧((0+(iE p.months).length)*(8:Nat)≤(140737488355328:Nat)∧True∧zFl p a b)∧zJq p a b)∧True∧True∧zJq p a b)∧∀(b:Unit),a.check≠0→cnd (a.check !=0) ((∃(c:Unit),False)∨∃(b:Unit),True∧p.check=a.check∧(p.check=0→False)) ((True∧True∧((0+(iE p.months).length)*(8:Nat)≤(140737488355328:Nat)∧True∧zFn p b)∧zFk p b)∧True∧True∧zFk p b)
def yPm (m:Mkt):Prop:=
 ∃(i:MSt),zF i=zF m.s∧(i.books.length≤1000000∧∀(b:Book),b∈i.books→(b.a.slots.length≤1000000∧b.a.queues.length≤1000000)∧b.buys.length≤1000000∧b.sells.length≤1000000∧b.spare.length≤1000000)∧∀(o:Unit),True→∃(o:Unit),sb m.p.code=sb m.p.code∧m.p.tick=m.p.tick∧m.p.low=m.p.low∧m.p.high=m.p.high∧m.p.wide=m.p.wide∧m.p.rule=m.p.rule∧m.p.top=m.p.top∧m.p.least=m.p.least∧m.p.part=m.p.part∧zF m.s=zF i∧yC m.used=yC m.used∧ak 1 (iE m.p.months)=ak 1 (iE m.p.months)∧ak 1 (iE m.p.settle)=ak 1 (iE m.p.settle)∧zF m.s=zF i∧True
open Go Cv Go.Proofs
theorem zVd:stateC.ok Tryz.prog 49:=okw (V:=yPm) mixed (gokc zDe gok0) 0 (fun _=>[]) (fun _=>[]) [0] Tryz.func49 fun(m:Mkt) h=>by
 obtain⟨h1,h2⟩:m.s.small:=h
 refine⟨m.s,rfl,⟨h1,h2⟩,fun _ _=>⟨(),?_⟩⟩
 exact kp
theorem yUs (p:Prd) (h:newMC.cnd p):yOg p:=by
 unfold yOg zJq zFk zFn zFl zY
 obtain⟨h1,h2,h3⟩:p.small:=h
 refine⟨p,?_⟩
 simp only[xD]
 (repeat'(first|exact rfl|exact trivial|assumption|apply be|refine fun(_:Unit) (_:True)=>?_|refine bg () ?_|omega|(dsimp only;omega)))
 ·intro _ c
  (repeat'(first|exact rfl|exact trivial|assumption|apply be|refine fun(_:Unit) (_:True)=>?_|refine bg () ?_|omega|(dsimp only;omega)))
  all_goals(refine .inl ⟨(),?_⟩;(repeat'(first|exact rfl|exact trivial|assumption|apply be|refine fun(_:Unit) (_:True)=>?_|refine bg () ?_|omega|(dsimp only;omega))))
 ·intro _ c
  refine Cv.cnd.mk (fun e=> .inr ⟨(),trivial,kp,c⟩) (fun e=>absurd (by simpa using e) c)
theorem z3v:newMC.ok Tryz.prog 47:=okw mixed (gokc yJo gok0) 0 (fun _=>[]) (fun _=>[]) [] Tryz.func47 yUs
open Go Cv Go.Proofs
structure WiI where
 n:Int
 lo:Int
 hi:Int
def zI (n lo hi:Int):Int:=lo+n % (hi-lo+1)
def withinC:Con:=con1 WiI (fun i=>[zA i.n,zA i.lo,zA i.hi]) (fun _=>[]) (fun i=>yO i.n∧-1000000≤i.lo∧i.lo≤i.hi∧i.hi≤1000000) (fun i=>zA (zI i.n i.lo i.hi)) (fun _=>[])
def wB (rule:Int):Prd:=⟨[67,76],[320,321,323],5,0,1000,200,rule,4,2,40,[500,505,490]⟩
def threeC:Con:=con1 Int (fun n=>[zA n]) (fun _=>[]) (fun _=>True) (fun n=>prdV (wB n)) (fun _=>[])
open Go Cv Go.Proofs
def aZ (a:WiI):=(af.wrap (af.wrap (a.hi-a.lo)+1))
def z3s (i:WiI):Prop:=
 af=af∧af.wrap (af.wrap (i.hi-i.lo)+1)≠0∧cnd (decide (i.n.tmod (aZ i)<0)) (∃(a:Unit),zI i.n i.lo i.hi=af.wrap (i.lo+af.wrap (af.wrap (af.wrap (i.n.tmod (aZ i)+i.hi)-i.lo)+1))∧True) (∃(a:Unit),zI i.n i.lo i.hi=af.wrap (i.lo+i.n.tmod (aZ i))∧True)
def yBh (n:Int):Prop:=
 ∃(a:Unit),sb [(67:UInt8),(76:UInt8)]=ByteArray.mk #[(67:UInt8),(76:UInt8)]∧iE [(320:Int),(321:Int),(323:Int)]=[[dI 320],[dI 321],[dI 323]]∧(5:Int)=(5:Int)∧(0:Int)=(0:Int)∧(1000:Int)=(1000:Int)∧(200:Int)=(200:Int)∧n=n∧(4:Int)=(4:Int)∧(2:Int)=(2:Int)∧(40:Int)=(40:Int)∧iE [(500:Int),(505:Int),(490:Int)]=[[dI 500],[dI 505],[dI 490]]∧True
open Go Cv Go.Proofs
theorem z9s:threeC.ok Tryz.prog 60:=okw (V:=yBh) mixed gok0 0 (fun _=>[]) (fun _=>[]) [] Tryz.func60 fun(n:Int) _=>by
 unfold yBh dI;exact kp
theorem yIp (i:WiI) (h:withinC.cnd i):z3s i:=by
 obtain⟨⟨a1,a2⟩,a3,a4,a5⟩:yO i.n∧-1000000≤i.lo∧i.lo≤i.hi∧i.hi≤1000000:=h
 unfold z3s aZ
 rw[w64 (x:=i.hi-i.lo) (by omega),w64 (x:=i.hi-i.lo+1) (by omega)]
 obtain⟨d,hd⟩:∃d:Int,i.hi-i.lo+1=d:=⟨_,rfl⟩
 rw[hd]
 have h1:i.n.tmod d=if 0≤i.n then i.n % d else-((-i.n) % d):=by
  split
  ·rename_i h;rw[cf h]
  ·rename_i h
   have:i.n= -(-i.n):=by omega
   conv=>lhs;rw[this]
   rw[Int.neg_tmod,cf (by omega)]
 have hb1:=y6d i.n (show d≠0 by omega)
 have hb2:=y6e i.n (show 0<d by omega)
 have hb3:=y6d (-i.n) (show d≠0 by omega)
 have hb4:=y6e (-i.n) (show 0<d by omega)
 have key:i.n.tmod d<0→i.n % d=i.n.tmod d+d:=fun hneg=>by
  have:=Int.emod_eq_of_lt (a:=i.n.tmod d+d) (b:=d) (by rw[h1]at hneg ⊢;split at hneg<;>split<;>omega) (by omega)
  rw[← this,Int.add_emod_right]
  have e:=Int.tmod_add_mul_tdiv i.n d
  conv=>lhs;rw[← e]
  rw[cg]
 have key2:¬i.n.tmod d<0→i.n % d=i.n.tmod d:=fun hneg=>by
  have hlt:i.n.tmod d<d:=by rw[h1];split<;>omega
  have:=Int.emod_eq_of_lt (a:=i.n.tmod d) (b:=d) (by omega) hlt
  rw[← this]
  have e:=Int.tmod_add_mul_tdiv i.n d
  conv=>lhs;rw[← e]
  rw[cg]
 refine⟨rfl,by omega,zJ (fun c=>⟨(),?_,trivial⟩) (fun c=>⟨(),?_,trivial⟩)⟩
 ·have k:=key c
  rw[zI,hd,k]
  rw[w64 (x:=i.n.tmod d+i.hi) (by omega),w64 (x:=i.n.tmod d+i.hi-i.lo) (by omega),w64 (x:=i.n.tmod d+i.hi-i.lo+1) (by omega),w64 (by omega)]
  omega
 ·have k:=key2 c
  rw[zI,hd,k,w64 (by omega)]
theorem within_ok:withinC.ok Tryz.prog 14:=okw mixed gok0 0 (fun _=>[]) (fun _=>[]) [] Tryz.func14 yIp
open Go Cv Go.Proofs
def zBg (l:List (Int×Int)) (k:Int):Option Int:=(l.find? fun x=>decide (x.1=k)).map (·.2)
open Go Cv Go.Proofs
open Go Cv Go.Proofs
theorem yAc (l:List (Int×Int)) (k:Int):∀p∈yW l,like (aw af k) p.1=aq:=by
 intro p hp
 obtain⟨x,_,rfl⟩:=y1a.1 hp
 rfl
theorem mJ (k:Int):∀l:List (Int×Int),uM (aw af k) (yW l)=(zBg l k).map fun v=>[D.v (.int .i64 v)]
 |[]=>rfl
 |(a,v)::l=>by
  have ih:=mJ k l
  show(bif (keq .i64 .i64 && decide (k=a))then _ else uM _ (yW l))=_
  by_cases h:k=a
  ·subst h;simp[zBg,keq]
  ·have h':¬a=k:=fun e=>h e.symm
   rw[show(keq .i64 .i64 && decide (k=a))=ar by simp[h],cond_false,ih]
   simp[zBg,y6f,h']
open Go Cv Go.Proofs
structure Rep where
 kind:Int
 id:Int
 inst:Int
 side:Int
 price:Int
 qty:Int
 left:Int
 why:Int
 deriving DecidableEq
@[reducible] def yYn (r:Rep):V:= .agg [zA r.kind,zA r.id,zA r.inst,zA r.side,zA r.price,zA r.qty,zA r.left,zA r.why]
def x6 (r:Rep):List D:=[.v (.int .i64 r.kind),.v (.int .i64 r.id),.v (.int .i64 r.inst),.v (.int .i64 r.side),.v (.int .i64 r.price),.v (.int .i64 r.qty),.v (.int .i64 r.left),.v (.int .i64 r.why)]
def zXn (k v:Int):List (Int×Int)→List (Int×Int)
 |[]=>[(k,v)]
 |(a,b)::l=>if k=a then(a,v)::l else(a,b)::zXn k v l
def zZf (k:Int):List (Int×Int)→List (Int×Int)
 |[]=>[]
 |(a,b)::l=>if k=a then l else(a,b)::zZf k l
def bj (t:Nat):SAnn:={ι:=Bool,slots:=fun b=>[(t,yF b)],rows:=fun _=>[]}
def ij (t:Nat):SAnn:={ι:=Int,slots:=fun n=>[(t,zA n)],rows:=fun _=>[]}
open Go Cv Go.Proofs
open Go Cv Go.Proofs
theorem dF (l:List (Int×Int)) (k:Int):∀(p:bo×List D),p∈yW l→like (aw af k) p.1=aq:=fun p hp=>yAc l k p hp
theorem zYf (k v:Int):∀l,fM (aw af k) [D.v (.int .i64 v)] (yW l)=yW (zXn k v l)
 |[]=>rfl
 |(a,b)::l=>by
  have ih:=zYf k v l
  show(bif (keq .i64 .i64 && decide (k=a))then _ else _::fM _ _ (yW l))=_
  rw[ih,zXn]
  by_cases h:k=a
  ·subst h;simp[keq,yW]
  ·simp[h,yW]
theorem zYp (k:Int):∀l,lX (aw af k) (yW l)=yW (zZf k l)
 |[]=>rfl
 |(a,b)::l=>by
  have ih:=zYp k l
  show(bif (keq .i64 .i64 && decide (k=a))then yW l else _::lX _ (yW l))=_
  rw[ih,zZf]
  by_cases h:k=a
  ·subst h;simp[keq]
  ·simp[h,yW]
theorem ySf (l:List (Int×Int)) (k:Int):uM (aw af k) (yW l)=au [D.v (.int .i64 ((zBg l k).getD 0))]∧(zBg l k).isSome=aq∨uM (aw af k) (yW l)=av∧[D.v (.int .i64 ((zBg l k).getD 0))]=[D.v (.int .i64 0)]∧(zBg l k).isSome=ar:=by
 rw[mJ]
 cases zBg l k with
 |none=>exact .inr ⟨rfl,rfl,rfl⟩
 |some v=>exact .inl ⟨rfl,rfl⟩
theorem zUq (a b:Int):(a==b)=decide (a=b):=by
 by_cases h:a=b
 ·subst h;simp
 ·simp[h]
open Go Cv Go.Proofs
theorem xH {n lo hi:Int} (h:lo≤hi):lo≤zI n lo hi∧zI n lo hi≤hi:=by
 rw[zI]
 have h1:=y6d n (show hi-lo+1≠0 by omega)
 have h2:=y6e n (show 0<hi-lo+1 by omega)
 omega
open Go Go.RowKit Cv
theorem eQ {P:bv} {dT sT ty e sz by_:Nat} {z:Array bo} (hi:vO P dT=au (e,sz,by_,z)) {w:bu} {g o dLen dCap b so sLen sCap n:Nat} {cur src:List bo} {T T':ce} {fr:Nat×Nat}
 (hg:w.heap[g]? =au (.cells cur.toArray T (0,0))) (hs:w.heap[b]? =au (.cells src.toArray T' fr)) (hn:Nat.min sLen dLen=n) (h1:so+n*sz≤src.length) (h2:o+n*sz≤cur.length)
 (hone:∀v∈(src.drop so).take (n*sz),v.oneC=aq):
 gL P (ay #[dT,sT] ty #[.slice (au ⟨g,o,av⟩) dLen dCap,.slice (au ⟨b,so,av⟩) sLen sCap]) w (.int .i64 n) (World.setB w g (.cells (spl cur o ((src.drop so).take (n*sz))).toArray T (0,0))):=by
 obtain⟨i,zv,q1,q2,rfl,rfl,q5,rfl⟩:=jF hi
 have hl:((src.drop so).take (n*i.size)).length=n*i.size:=by rw[y0t,y0x];omega
 have hst:=j8 (P:=P) ((src.drop so).take (n*i.size)) 0 o cur w hg (by rw[hl];omega) hone
 simp only[y4q]at hst
 unfold gL ay
 simp only[y1v,y2b,y1r,bind,pure,run_bind,Sem.bind,Sem.run,Cv.run_underlying q1,Cv.run_sizeOf q2,Builtin.lenOf,hn,az,uT hs h1,hst]
 rfl
theorem Hp.apart {k:Ko} {w:bu} {b c:Nat} {o o':Obj} {L:List HP} (H:Hp k w (pt b o::pt c o'::L)):b≠c:=by
 obtain⟨hk,hs,hh⟩:=H
 cases hh with
 |cons ha hsub hd hr=>
  cases hr with
  |cons hb hsub2 hd2 hr2=>
   intro e
   subst e
   have:=hd _ y0d b
   rw[show _=one b o from ha,show _=one b o' from hb]at this
   simp[one]at this
def yRo (P:bv) (tS tI sz fO fR:Nat) (s:Option bz) (sn sk:Nat) (i:Int) (v:Option bz) (vn vk:Nat) (w:bu) (R:Ending→bu→Prop):Prop:=
slN s sn sk (au i) av sz fun a1 na1 ka1=>
cnd (((vn:Int):Int)==0) (
R (.returned (.slice s sn sk)) w) (
cnd ((i:Int)==(sn:Int)) (
∃(a2:Option bz) (na2 ka2:Nat),∃w3:bu,gL P (bc #[tS,tS] tS #[.slice s sn sk,.slice v vn vk]) w (.slice a2 na2 ka2) w3∧
R (.returned (.slice a2 na2 ka2)) w3) (
cnd (decide ((af.wrap ((sn:Int)+(vn:Int)):Int)>(sk:Int))) (
slN s sn sk av (au i) sz fun a4 na4 ka4=>
∃(a5:Option bz) (na5 ka5:Nat),∃w6:bu,gL P (bc #[tS,tI] tS #[.slice a4 na4 ka4,.int .i64 (af.wrap (af.wrap ((sn:Int)+(vn:Int))-i))]) w (.slice a5 na5 ka5) w6∧
slN a5 na5 ka5 (au i) av sz fun a7 na7 ka7=>
∃x8:Int,∃w9:bu,gL P (ay #[tS,tS] tI #[.slice a7 na7 ka7,.slice v vn vk]) w6 (.int .i64 x8) w9∧
z2p w9 fun w10=>
slN a5 na5 ka5 (au (af.wrap (i+(vn:Int)))) av sz fun a11 na11 ka11=>
slN s sn sk (au i) av sz fun a12 na12 ka12=>
∃x13:Int,∃w14:bu,gL P (ay #[tS,tS] tI #[.slice a11 na11 ka11,.slice a12 na12 ka12]) w10 (.int .i64 x13) w14∧
R (.returned (.slice a5 na5 ka5)) w14) (
slN s sn sk av (au (af.wrap ((sn:Int)+(vn:Int)))) sz fun a15 na15 ka15=>
slN a15 na15 ka15 (au (af.wrap (i+(vn:Int)))) av sz fun a16 na16 ka16=>
∃c17:Bool,∃w18:bu,Cv.Ext P fO #[.slice v vn vk,.slice a16 na16 ka16] w (.bool c17) w18∧
cnd (!c17) (
z2p w18 fun w19=>
slN a15 na15 ka15 (au (af.wrap (i+(vn:Int)))) av sz fun a20 na20 ka20=>
slN a15 na15 ka15 (au i) av sz fun a21 na21 ka21=>
∃x22:Int,∃w23:bu,gL P (ay #[tS,tS] tI #[.slice a20 na20 ka20,.slice a21 na21 ka21]) w19 (.int .i64 x22) w23∧
slN a15 na15 ka15 (au i) av sz fun a24 na24 ka24=>
∃x25:Int,∃w26:bu,gL P (ay #[tS,tS] tI #[.slice a24 na24 ka24,.slice v vn vk]) w23 (.int .i64 x25) w26∧
R (.returned (.slice a15 na15 ka15)) w26) (
slN a15 na15 ka15 (au (sn:Int)) av sz fun a27 na27 ka27=>
∃x28:Int,∃w29:bu,gL P (ay #[tS,tS] tI #[.slice a27 na27 ka27,.slice v vn vk]) w18 (.int .i64 x28) w29∧
slN a15 na15 ka15 (au i) av sz fun a30 na30 ka30=>
Calls P fR #[.slice a30 na30 ka30,.int .i64 (vn:Int)] w29 fun e32 w31=>e32= .returned (.tuple #[])∧
R (.returned (.slice a15 na15 ka15)) w31))))
theorem z8y {α:Type} {l m:Nat} {xs r ys:List α} (hl:l≤xs.length) (hy:ys.length=m) (hr:m≤r.length):
 ((xs++r).take (l+m)++xs.drop l++(xs++r).drop (l+m+(xs.drop l).length)).take l++ys++((xs++r).take (l+m)++xs.drop l++(xs++r).drop (l+m+(xs.drop l).length)).drop (l+ys.length)=(xs.take l++ys++xs.drop l)++r.drop m:=by
 have e1:(xs++r).drop (l+m+(xs.drop l).length)=r.drop m:=by
  rw[y0x,show l+m+(xs.length-l)=xs.length+m by omega,y5f]
  simp
 have e2:((xs++r).take (l+m)++xs.drop l++r.drop m).take l=xs.take l:=by
  rw[y0i,y1b (by rw[y0t,y0e];omega),List.take_take,y4f (by omega),y1b hl]
 have e3:((xs++r).take (l+m)++xs.drop l++r.drop m).drop (l+ys.length)=xs.drop l++r.drop m:=by
  have:((xs++r).take (l+m)).length=l+m:=by rw[y0t,y0e];omega
  rw[y0i,hy,y5f,this,y5s,y3w,y3s (by omega),y2e]
 rw[e1,e2,e3]
 simp
theorem zTx (A Z Y:List bo):spl (A++Z) A.length Y=A++Y++Z.drop Y.length:=by
 simp only[spl]
 rw[List.take_left,y5f]
 simp
theorem zFh {b o n c i:Nat} (h:c≠i):(if c=i then(au ⟨b,o,av⟩:Option bz)else(au ⟨b,o,av⟩:Option bz).map (·.add n))=au ⟨b,o+n,av⟩:=by
 rw[yZx h,y1y,vS]
def zTb (P:bv) (fO:Nat):Prop:=∀(w:bu) (va sb so la ca lb cb:Nat) (c c':Array bo) (T T':ce),va≠sb→w.heap[va]?=au (.cells c T (0,0))→w.heap[sb]?=au (.cells c' T' (0,0))→c'.size≠0→
 Cv.Ext P fO #[.slice (au ⟨va,0,av⟩) la ca,.slice (au ⟨sb,so,av⟩) lb cb] w (.bool ar) w
theorem z3h {P : Program} {fO tS tB e sz by_ : Nat} {z : Array Value} {fn : Func} (hf : P.funcs[fO]? = some fn) (hname : (fn.name == "runtime.NumGoroutine") = false) (hb : fn.body.isNone = true) (hn : Extern.findNext fn = none) (he : Extern.find fn = some (Extern.SlicesOverlaps.overlaps #[tS, tS] #[tB]))
 (hi:vO P tS=au (e,sz,by_,z)):zTb P fO:=by
 obtain⟨i,zv,q1,q2,rfl,rfl,q5,rfl⟩:=jF hi
 intro w va sb so la ca lb cb c c' T T' hne h1 h2 h3
 unfold Cv.Ext
 rw[run_callFunc_extern hf hname hb hn he,Lib.run_overlaps_apart w tS tB e q1 i.size (fun w=>Cv.run_sizeOf q2 w) ⟨va,0,av⟩ ⟨sb,so,av⟩ la ca lb cb hne T T' c.size c'.size (by simp[World.shape?,h1]) (by simp[World.shape?,h2]) h3 (by simp[World.frozen?,h1]) (by simp[World.frozen?,h1])]
 rfl
theorem yYw {P:bv} {tS tI e sz by_ fO fR:Nat} {z:Array bo} (hi:vO P tS=au (e,sz,by_,z)) (hz:z.size=sz) (hby:0<by_) (hsz:0<sz) (h2:zZt P tS=aq) (hti:P.underlying tI=au (.int .i64)) (hov:zTb P fO)
 {k:Ko} {w:bu} {L:List HP} {s v:Option bz} {sn sk vn vk i:Nat} {xs ys:List bo} (H:Hp k w (slO e sz s sn sk xs::slO e sz v vn vk ys::L)) (h1:∀u∈xs,u.oneC=aq) (hy:∀u∈ys,u.oneC=aq) (hin:i≤sn) (hv:0<vn)
 (hb:(sn+vn)*by_≤140737488355328):
 yRo P tS tI sz fO fR s sn sk i v vn vk w fun en w'=>∃a kk,en= .returned (.slice a (sn+vn) kk)∧Hp k w' (slO e sz a (sn+vn) kk (xs.take (i*sz)++ys++xs.drop (i*sz))::slO e sz v vn vk ys::L):=by
 obtain⟨hxl,hnk⟩:=H.len
 obtain⟨hyl,hvk⟩:=H.swap.len
 have hnm:sn+vn≤140737488355328:=y3m (Nat.le_mul_of_pos_right _ hby) hb
 have w1:af.wrap ((sn:Int)+(vn:Int))=((sn+vn:Nat):Int):=by rw[Cv.wrap_i64 (by omega) (by omega)];simp
 have w2:af.wrap ((i:Int)+(vn:Int))=((i+vn:Nat):Int):=by rw[Cv.wrap_i64 (by omega) (by omega)];simp
 have w3:af.wrap (((sn+vn:Nat):Int)-(i:Int))=((sn+vn-i:Nat):Int):=by rw[Cv.wrap_i64 (by omega) (by omega)];omega
 have hle:i*sz≤xs.length:=by rw[hxl];exact y1m _ hin
 have htl:(xs.take (i*sz)).length=i*sz:=by rw[y0t];omega
 have hdl:(xs.drop (i*sz)).length=(sn-i)*sz:=by rw[y0x,hxl,Nat.sub_mul]
 have hsum:(i+vn)*sz=i*sz+vn*sz:=y3e _ _ _
 have hsum2:(sn+vn)*sz=i*sz+vn*sz+(sn-i)*sz:=by rw[← y3e,← y3e];congr 1;omega
 have hfin:(xs.take (i*sz)++ys++xs.drop (i*sz)).length=(sn+vn)*sz:=by
  rw[y0e,y0e,htl,hyl,hdl,hsum2]
 unfold yRo
 simp only[slN,w1,w2,w3,y0s]
 refine⟨⟨by omega,by omega,hnk⟩,Cv.cnd.mk (fun c=>absurd c (by simp;omega)) fun _=>Cv.cnd.mk (fun c=> ?_) fun c=>Cv.cnd.mk (fun hc=> ?_) fun hc=> ?_⟩
 ·have c:i=sn:=by have:(i:Int)=(sn:Int):=by simpa using c
                  omega
  subst c
  obtain⟨a',c',w',r1,r2⟩:=H.append (rt:=tS) hi h2 (x:= .slice v vn vk) (m:=vn) (ys:=ys) (.inl ⟨v,vk,rfl,H.swap.satR⟩) hy hz hby hb
  refine⟨a',_,c',w',r1,a',c',rfl,?_⟩
  rw[y0p (by omega),y3s (by omega),y0v]
  exact r2
 ·have c:i<sn:=by have:¬(i:Int)=(sn:Int):=by simpa using c
                  omega
  have hc:sk<sn+vn:=by have:=y2j hc;omega
  obtain⟨inf,zv,q1,q2,q3,q4,q5,q6⟩:=jF hi
  subst q3 q4 q6
  rcases H.slcases with⟨_,e0,_⟩|⟨b,r,rfl,g1,g2,g3,H0⟩
  ·omega
  rcases H0.swap.slcases with⟨_,e0,_⟩|⟨vb,rv,rfl,g4,g5,g6,H1⟩
  ·omega
  have hold:(az inf.size i (.slice (au ⟨b,0,av⟩) i sk)).run P w.drew= .ok (xs.take (i*inf.size)).toArray w.drew:=by
   have hbk:=(H1.drew).swap.get
   have:=uT (P:=P) (o:=0) (n:=i*inf.size) hbk (by rw[y0e];omega)
   unfold az
   rw[this,y3w,y1b hle]
  have hfit2:=zKl (need:=sn+vn) (cap:=sk) (by omega)
  have hfit3:=y1m inf.bytes hfit2
  have e2:2*(sn+vn)*inf.bytes=2*((sn+vn)*inf.bytes):=by rw[Nat.mul_assoc]
  have hkb:(sn+vn-i)*inf.bytes≤(sn+vn)*inf.bytes:=y1m _ (by omega)
  have hgr:=Lib.run_append_grow_zeros (P:=P) w tS tI tS e inf zv .i64 .i64 q1 hti q2 q5 (au ⟨b,0,av⟩) i sk (xs.take (i*inf.size)) hold (sn+vn-i) (by omega) hsz (by omega) (by omega) (by omega) (by rw[show i+(sn+vn-i)=sn+vn by omega];omega)
  rw[show i+(sn+vn-i)=sn+vn by omega]at hgr
  have hG:sn+vn≤grownCap w (sn+vn) sk e:=grownCap_ge w (sn+vn) sk e
  generalize grownCap w (sn+vn) sk e=G at hgr hG
  have harr:(xs.take (i*inf.size)).toArray++ax zv.cells (sn+vn-i)++ax zv.cells (G-(sn+vn))=(xs.take (i*inf.size)++((ax zv.cells (sn+vn-i)).toList++(ax zv.cells (G-(sn+vn))).toList)).toArray:=by
   apply Array.ext';simp
  rw[harr]at hgr
  have hZl:((ax zv.cells (sn+vn-i)).toList++(ax zv.cells (G-(sn+vn))).toList).length=(sn+vn-i)*inf.size+(G-(sn+vn))*inf.size:=by
   rw[y0e,y5c,y5c,cd,cd,hz]
  generalize (ax zv.cells (sn+vn-i)).toList++(ax zv.cells (G-(sn+vn))).toList=Z at hgr hZl
  have hZ2:(sn+vn-i)*inf.size=vn*inf.size+(sn-i)*inf.size:=by rw[← y3e];congr 1;omega
  have H2:=(H1.drew).new (.cells (xs.take (i*inf.size)++Z).toArray e)
  have hB:w.drew.heap.size=w.heap.size:=rfl
  rw[hB]at H2
  have hc1:=eQ (P:=P) (sT:=tS) (ty:=tI) hi (g:=w.heap.size) (o:=0+i*inf.size) (dLen:=sn+vn-i) (dCap:=G-i) (b:=vb) (so:=0) (sLen:=vn) (sCap:=vk) (n:=vn) H2.get H2.swap.get (y4f (by omega)) (by rw[y0e];omega) (by rw[y0e,htl,hZl];omega) (by
   rw[y3w,y1b (by omega),y0p (by omega)];exact hy)
  rw[y3w,y1b (by omega),y0p (show ys.length≤vn*inf.size by omega),y0w]at hc1
  have es1:spl (xs.take (i*inf.size)++Z) (i*inf.size) ys=xs.take (i*inf.size)++ys++Z.drop ys.length:=by
   have:=zTx (xs.take (i*inf.size)) Z ys
   rwa [htl]at this
  rw[es1]at hc1
  have H3:=(H2.upd (.cells (xs.take (i*inf.size)++ys++Z.drop ys.length).toArray e)).drew
  have hg4:(xs++r).drop (i*inf.size)=xs.drop (i*inf.size)++r:=y2n hle
  have hc2:=eQ (P:=P) (sT:=tS) (ty:=tI) hi (g:=w.heap.size) (o:=0+(i+vn)*inf.size) (dLen:=sn+vn-(i+vn)) (dCap:=G-(i+vn)) (b:=b) (so:=0+i*inf.size) (sLen:=sn-i) (sCap:=sk-i) (n:=sn-i) H3.get H3.swap.drop.swap.get (y4f (by omega)) (by rw[y0e,hxl,y0w,← y3e];exact y3m (y1m _ (by omega)) (Nat.le_add_right _ _)) (by
   rw[y0e,y0e,htl,hyl,y0x,hZl];omega) (by
   rw[y0w,hg4,y1b (by omega),y0p (by omega)]
   exact fun u hu=>h1 u (y4a hu))
  rw[y0w,y0w,hg4,y1b (by omega),y0p (show(xs.drop (i*inf.size)).length≤(sn-i)*inf.size by omega)]at hc2
  have es2:spl (xs.take (i*inf.size)++ys++Z.drop ys.length) ((i+vn)*inf.size) (xs.drop (i*inf.size))=xs.take (i*inf.size)++ys++xs.drop (i*inf.size)++(Z.drop ys.length).drop (xs.drop (i*inf.size)).length:=by
   have:=zTx (xs.take (i*inf.size)++ys) (Z.drop ys.length) (xs.drop (i*inf.size))
   rwa [show(xs.take (i*inf.size)++ys).length=(i+vn)*inf.size by rw[y0e,htl,hyl,hsum]]at this
  rw[es2]at hc2
  refine⟨⟨by omega,by omega⟩,_,_,_,_,hgr,?_⟩
  rw[zFh (show G≠i by omega),y0w]
  refine⟨⟨by omega,by omega,hG⟩,_,_,hc1,?_⟩
  rintro _ rfl
  rw[zFh (show G≠i+vn by omega),zFh (show sk≠i by omega),y0w,y0w]
  refine⟨⟨by omega,by omega,hG⟩,⟨by omega,by omega,hnk⟩,_,_,hc2,_,_,rfl,?_⟩
  have H4:=H3.upd (.cells (xs.take (i*inf.size)++ys++xs.drop (i*inf.size)++(Z.drop ys.length).drop (xs.drop (i*inf.size)).length).toArray e)
  have H5:=H4.slmk (n:=sn+vn) (c:=G) (sz:=inf.size) hfin (by
   rw[y0e,hfin,y0x,y0x,hZl,hyl,hdl]
   have:G*inf.size=(sn+vn)*inf.size+(G-(sn+vn))*inf.size:=by rw[← y3e];congr 1;omega
   omega) hG
  have H6:=H5.swap.slmk (n:=vn) (c:=vk) (sz:=inf.size) g4 g5 g6
  exact(H6.swap.perm (List.Perm.trans ((List.Perm.swap _ _ _).cons _) (List.Perm.swap _ _ _))).drop
 ·have c:i<sn:=by have:¬(i:Int)=(sn:Int):=by simpa using c
                  omega
  have hc:sn+vn≤sk:=by have:=y4u hc;omega
  rcases H.slcases with⟨_,e0,_⟩|⟨b,r,rfl,g1,g2,g3,H0⟩
  ·omega
  rcases H0.swap.slcases with⟨_,e0,_⟩|⟨vb,rv,rfl,g4,g5,g6,H1⟩
  ·omega
  have hrl:vn*sz≤r.length:=by
   have e1:(sn+vn)*sz≤sk*sz:=y1m _ hc
   rw[y0e,g1]at g2
   rw[y3e]at e1
   omega
  have H2:=H1.swap
  have hne:vb≠b:=Hp.apart H1
  have hg4:(xs++r).drop (i*sz)=xs.drop (i*sz)++r:=y2n hle
  have hex:=hov w vb b (0+(i+vn)*sz) vn vk (sn+vn-(i+vn)) (sk-(i+vn)) (ys++rv).toArray (xs++r).toArray e e hne H1.get H2.get (by
   rw[y4m,y0e,g1]
   have:=Nat.mul_pos (show 0<sn by omega) hsz
   omega)
  have H3:=H2.drew
  have hc1:=eQ (P:=P) (sT:=tS) (ty:=tI) hi (g:=b) (o:=0+(i+vn)*sz) (dLen:=sn+vn-(i+vn)) (dCap:=sk-(i+vn)) (b:=b) (so:=0+i*sz) (sLen:=sn+vn-i) (sCap:=sk-i) (n:=sn-i) H3.get H3.get (by rw[show sn+vn-(i+vn)=sn-i by omega];exact Nat.min_eq_right (by omega)) (by
   rw[y0e,g1,y0w,← y3e];exact y3m (y1m _ (by omega)) (Nat.le_add_right _ _)) (by
   rw[y0e,g1,y0w,← y3e,show i+vn+(sn-i)=sn+vn by omega,y3e];omega) (by
   rw[y0w,hg4,y1b (by omega),y0p (by omega)]
   exact fun u hu=>h1 u (y4a hu))
  rw[y0w,y0w,hg4,y1b (by omega),y0p (show(xs.drop (i*sz)).length≤(sn-i)*sz by omega)]at hc1
  have H4:=H3.upd (.cells (spl (xs++r) ((i+vn)*sz) (xs.drop (i*sz))).toArray e)
  have hcl:(spl (xs++r) ((i+vn)*sz) (xs.drop (i*sz))).length=(xs++r).length:=by
   simp only[spl,y0e,y0t,hdl]
   rw[y0x,y0e,g1,hsum]
   have:sn*sz=i*sz+(sn-i)*sz:=by rw[← y3e];congr 1;omega
   omega
  have hc2:=eQ (P:=P) (sT:=tS) (ty:=tI) hi (g:=b) (o:=0+i*sz) (dLen:=sn+vn-i) (dCap:=sk-i) (b:=vb) (so:=0) (sLen:=vn) (sCap:=vk) (n:=vn) H4.get H4.swap.get (y4f (by omega)) (by rw[y0e];omega) (by
   rw[hcl,y0e,y0w];omega) (by
   rw[y3w,y1b (by omega),y0p (by omega)];exact hy)
  rw[y3w,y1b (by omega),y0p (show ys.length≤vn*sz by omega),y0w]at hc2
  have es:spl (spl (xs++r) ((i+vn)*sz) (xs.drop (i*sz))) (i*sz) ys=(xs.take (i*sz)++ys++xs.drop (i*sz))++r.drop (vn*sz):=by
   have:=z8y (l:=i*sz) (m:=vn*sz) (xs:=xs) (r:=r) (ys:=ys) hle hyl hrl
   simp only[spl,hsum]
   exact this
  rw[es]at hc2
  refine⟨⟨by omega,by omega⟩,⟨by omega,by omega,by omega⟩,ar,w,?_,Cv.cnd.mk (fun _=> ?_) (fun c=>absurd c (by decide))⟩
  ·rw[zFh (show sk≠i+vn by omega)];exact hex
  rintro _ rfl
  rw[zFh (show sk≠i+vn by omega),zFh (show sk≠i by omega),y0w,y0w]
  refine⟨⟨by omega,by omega,by omega⟩,⟨by omega,by omega,by omega⟩,_,_,hc1,⟨by omega,by omega,by omega⟩,_,_,hc2,_,_,rfl,?_⟩
  have H5:=H4.upd (.cells (xs.take (i*sz)++ys++xs.drop (i*sz)++r.drop (vn*sz)).toArray e)
  have H6:=H5.slmk (n:=sn+vn) (c:=sk) (sz:=sz) hfin (by
   rw[y0e,hfin,y0x,← g2,y0e,g1,y3e]
   omega) hc
  exact(H6.swap.slmk (n:=vn) (c:=vk) (sz:=sz) g4 g5 g6).swap
structure zCw where
 els:List (List D)
 el:List D
 i:Nat
def yDw (e sz by_:Nat):Con where
 ι:=zCw
 pat:=fun i=>[.own 0,.d (.v (.int .i64 i.i)),.own 1]
 pre:=fun i=>[.own e sz i.els,.own e sz [i.el]]
 cnd:=fun i=>i.i≤i.els.length∧(i.els.length+1)*by_≤140737488355328
 alts:=fun i=>[{o:=Unit,res:=fun _=> .own 2,post:=fun _=>[.gone,.gone,.own e sz (i.els.take i.i++i.el::i.els.drop i.i)],rel:=fun _=>True}]
theorem insX_ok {P:bv} (hm:P.follows .mixedOrders=aq) {tS tI e sz by_ fI fO fR:Nat} {z:Array bo} {fn:Func} {c:Code} (hf:P.funcs[fI]? =au fn) (hb:fn.body=au c) (hbd:uH P fI=aq) (hok:okC fn.ntmps c=aq) (hfx:okF [] c=aq) (hsz3:Nat.ble 3 fn.ntmps=aq)
 (hi:vO P tS=au (e,sz,by_,z)) (hz:z.size=sz) (hby:0<by_) (hsz:0<sz) (h2:zZt P tS=aq) (hti:P.underlying tI=au (.int .i64)) (hov:zTb P fO)
 (heq:∀(s:Option bz) (sn sk:Nat) (i:Int) (v:Option bz) (vn vk:Nat) (w:bu) (R:Ending→bu→Prop),yRo P tS tI sz fO fR s sn sk i v vn vk w R=cwp P [] c (zSc P fn R) (uG [.slice s sn sk,.int .i64 i,.slice v vn vk]) w):
 (yDw e sz by_).ok P fI:=by
 intro i hc k L E w ys R hv
 obtain⟨c1,c2⟩:i.i≤i.els.length∧(i.els.length+1)*by_≤140737488355328:=hc
 simp only[yDw,VRL,VR,DR]at hv
 obtain⟨y0,_,rfl,⟨l0,e0,_⟩,y1,_,rfl,⟨rfl,_⟩,y2,_,rfl,⟨l2,e2,_⟩,rfl⟩:=hv
 obtain⟨s,sk,xs,sub0,g1,hxs,hu,H⟩:=R.ownOpen (n:=0) (t:=e) (sz:=sz) (els:=i.els) rfl
 rw[e0]at g1;cases g1
 have hk2:∃v vk zs,y2= .slice v 1 vk∧DRL E.F i.el zs∧i.el.length=sz∧Hp k w (slO e sz s i.els.length sk xs::slO e sz v 1 vk zs::fz E.F::L):=by
  obtain⟨hk,hs,hh⟩:=H
  cases hh with
  |cons ha hsub hd hr=>
   simp only[yDw,gC,wT,y0l,y3r,y1p,y2e]at hr
   cases hr with
   |cons hb2 hsub2 hd2 hr2=>
    rcases hb2 with⟨q,_⟩|⟨⟨hv2,sub2⟩,q1,q2⟩
    ·cases q
    ·simp only at q1
     rw[e2]at q1;cases q1
     simp only[rowHP]at q2
     obtain⟨a,kk,zs,rfl,q3,q4,q5⟩:=q2
     simp only[y2h,List.flatten_nil,y0v]at q3
     exact⟨a,kk,zs,rfl,q3,q4 _ y0d,hk,_,.cons ha hsub hd (.cons q5 hsub2 hd2 hr2)⟩
 obtain⟨v,vk,zs,rfl,hzs,hel,H2⟩:=hk2
 have hv:=yYw (fR:=fR) (fO:=fO) hi hz hby hsz h2 hti hov (i:=i.i) H2 hxs.one hzs.one c1 (by omega) c2
 have hcall:=zIg (args:=[.slice s i.els.length sk,.int .i64 i.i,.slice v 1 vk]) hm hf hb [] hok hfx hsz3 (heq s i.els.length sk i.i v 1 vk w _) hv
 refine zAb hbd (hcall.mono ?_)
 rintro en w' ⟨a,kk,rfl,H3⟩
 have H4:Hp k w' (slO e sz a (i.els.take i.i++i.el::i.els.drop i.i).length kk (xs.take (i.i*sz)++zs++xs.drop (i.i*sz))::(([]:List (Nat×AObj)).map (rHP E)++fz E.F::L)):=by
  have:(i.els.take i.i++i.el::i.els.drop i.i).length=i.els.length+1:=by
   rw[y0e,y0f,y0t,y0x];omega
  rw[this]
  exact H3.swap.drop
 obtain⟨E',r1,r2,r3⟩:=bW (nx:=2) R.nx (by
  rw[List.flatten_append,y2h,← m7 i.i hu,← mT i.i hu,← y0i]
  exact((hxs.take _).append hzs).append (hxs.drop _)) (fun x hx=>by
   rcases y0u.1 hx with hx|hx
   ·exact hu x (y5q hx)
   ·rcases y0m.1 hx with rfl|hx
    ·exact hel
    ·exact hu x (y4a hx)) H4
 have hl:(i.els.take i.i++i.el::i.els.drop i.i).length=i.els.length+1:=by
  rw[y0e,y0f,y0t,y0x];omega
 rw[hl]at r3
 refine⟨_,rfl,_,y1k.2 rfl,(),trivial,E',r1,r3,⟨r2.nx,?_⟩⟩
 have q1:=((@v9 k w' True _).2 ⟨trivial,r2.hp⟩).imp (B:=rHP E' (1,.gone)) fun x hx=> .inl ⟨rfl,hx.2⟩
 have q2:=((@v9 k w' True _).2 ⟨trivial,q1⟩).imp (B:=rHP E' (0,.gone)) fun x hx=> .inl ⟨rfl,hx.2⟩
 exact q2
open Go Cv Go.Proofs
def bbetterC:Con:=con1 I3' (fun i=>[zA i.side,zA i.x,zA i.y]) (fun _=>[]) (fun _=>True) (fun i=>yF (btr i.side i.x i.y)) (fun _=>[])
@[reducible] def yUv (s:Slot):V:= .agg [yF s.used,zA s.n,zA s.id,zA s.qty,yF s.top,zA s.queue,zA s.ahead,zA s.back]
def pushFC:Con:=con1 Slot (fun s=>[yUv s]) (fun _=>[]) (fun _=>True) (fun s=>yF (!s.used)) (fun _=>[])
def kM (l:List Slot):Int:=zHm (l.findIdx? fun s=> !s.used)
def idxSlotC:Con:=con1 (List Slot) (fun _=>[.own 0,.fn 293 [] []]) (fun l=>[.own 362 8 (l.map zR)]) (fun l=>l.length≤1000000) (fun l=>zA (kM l)) (fun l=>[.own 362 8 (l.map zR)])
def yGt (l:List Slot):List SAnn:=[{ι:=Nat,slots:=fun j=>[(8,zA j)],rows:=fun _=>[]}]
def bT:cH:=⟨-1,-1,0,0⟩
def Arena.openQ (a:Arena):Arena:={a with queues:=a.queues++[bT]}
def aopenC:Con:=con1 Arena (fun _=>[.nm 0 0]) (fun a=>[jO a]) (fun a=>a.queues.length≤1000000) (fun a=>zA a.queues.length) (fun a=>[jO a.openQ])
structure z7x where
 a:Arena
 n:Int
 t:Bool
def Arena.usedAt (a:Arena) (n:Int):Bool:=decide (0≤n) && (decide (n<a.slots.length) && (a.slots.getD n.toNat slot0).used)
def Arena.topF (a:Arena) (n:Int) (t:Bool):Arena:=if a.usedAt n=aq then{a with slots:=a.slots.modify n.toNat fun s=>{s with top:=t}}else a
def atopC:Con:=con1 z7x (fun i=>[.nm 0 0,zA i.n,yF i.t]) (fun i=>[jO i.a]) (fun i=>i.a.slots.length≤1000000) (fun i=>zA (if i.a.usedAt i.n=aq then 0 else 26)) (fun i=>[jO (i.a.topF i.n i.t)])
structure PuI where
 a:Arena
 n:Int
 id:Int
 qty:Int
 top:Bool
def Arena.put (a:Arena) (n id qty:Int) (top:Bool):Arena:=
 let q:=a.queues.getD n.toNat bT
 let k:=kM a.slots
 let sl:=a.slots.set k.toNat ⟨aq,k,id,qty,top,n,q.last,-1⟩
 ⟨if q.last= -1 then sl else sl.modify q.last.toNat fun s=>{s with back:=k},a.queues.set n.toNat ⟨if q.last= -1 then k else q.first,k,af.wrap (q.total+qty),af.wrap (q.count+1)⟩,af.wrap (a.free-1)⟩
def Arena.push (a:Arena) (n id qty:Int) (top:Bool):Arena×Int×Int:=
 if n<0∨a.queues.length≤n then(a,0,26)else if qty<1∨1000000<qty then(a,0,24)else if a.free=0 then(a,0,13)else(a.put n id qty top,kM a.slots,0)
def Arena.fit (a:Arena):Prop:=a.slots.length≤1000000∧(a.free≠0→∃s∈a.slots,s.used=ar)∧∀q∈a.queues,q.last= -1∨(0≤q.last∧q.last<a.slots.length)
def apushC:Con:=con1 PuI (fun i=>[.nm 0 0,zA i.n,zA i.id,zA i.qty,yF i.top]) (fun i=>[jO i.a]) (fun i=>i.a.fit) (fun i=> .tup [zA (i.a.push i.n i.id i.qty i.top).2.1,zA (i.a.push i.n i.id i.qty i.top).2.2]) (fun i=>[jO (i.a.push i.n i.id i.qty i.top).1])
@[reducible] def zHq (b:Book):List AObj:=[zS b 0,zS b 1,zS b 2,zS b 3,zS b 4,zS b 5]
structure BkP where
 b:Book
 price:Int
def zW (s:Int) (l:List xG) (price:Int):Nat:=(l.takeWhile fun r=>btr s r.price price).length
def kL (s:Int) (l:List xG) (price:Int):Bool:=match l[zW s l price]? with
 |some r=>decide (r.price=price)
 |none=>ar
def Book.rungs (b:Book) (s:Int):List xG:=if s=1 then b.buys else b.sells
def yGp (s:Int):Con:=con1 BkP (fun i=>[.nm 0 0,zA s,zA i.price]) (fun i=>zHq i.b) (fun i=>i.b.small) (fun i=> .tup [zA (zW s (i.b.rungs s) i.price),yF (kL s (i.b.rungs s) i.price)]) (fun i=>zHq i.b)
def find1C:Con:=yGp 1
def find2C:Con:=yGp 2
def yNz:List SAnn:=[{ι:=Nat,slots:=fun j=>[(9,zA j)],rows:=fun _=>[]}]
def pget (l:List (Int×Place)) (k:Int):Option Place:=(l.find? fun x=>decide (x.1=k)).map (·.2)
def pE (k:Int) (v:Place):List (Int×Place)→List (Int×Place)
 |[]=>[(k,v)]
 |(a,b)::l=>if k=a then(a,v)::l else(a,b)::pE k v l
structure LdI where
 b:Book
 id:Int
def Book.hasF (b:Book) (s:Int):Bool:=if s=1 then b.has1 else b.has2
def Book.topI (b:Book) (s:Int):Int:=if s=1 then b.top1 else b.top2
def Book.untop (b:Book) (s:Int):Arena:=if b.hasF s=aq then(match pget b.at_ (b.topI s)with
 |some o=>if o.side=s then b.a.topF o.slot ar else b.a
 |none=>b.a)else b.a
def Book.leadF (b:Book) (id s:Int):Book:=if s=1 then{b with a:=b.untop s,top1:=id,has1:=aq}else{b with a:=b.untop s,top2:=id,has2:=aq}
def yDe (s:Int):Con:=con1 LdI (fun i=>[.nm 0 0,zA i.id,zA s]) (fun i=>zHq i.b) (fun i=>i.b.small) (fun _=>zDh) (fun i=>zHq (i.b.leadF i.id s))
def lead1C:Con:=yDe 1
def lead2C:Con:=yDe 2
def Book.newQ (b:Book):Int×List Int×Arena:=if b.spare.length=0 then(b.a.queues.length,b.spare,b.a.openQ)else(b.spare.getD (b.spare.length-1) 0,b.spare.take (b.spare.length-1),b.a)
def Book.ins (b:Book) (s price:Int):List xG:=(b.rungs s).take (zW s (b.rungs s) price)++⟨price,b.newQ.1⟩::(b.rungs s).drop (zW s (b.rungs s) price)
def Book.queueF (b:Book) (s price:Int):Book×Int:=
 if kL s (b.rungs s) price=aq then(b,((b.rungs s).getD (zW s (b.rungs s) price) ⟨0,0⟩).queue)
 else(if s=1 then{b with a:=b.newQ.2.2,buys:=b.ins s price,spare:=b.newQ.2.1}else{b with a:=b.newQ.2.2,sells:=b.ins s price,spare:=b.newQ.2.1},b.newQ.1)
def yLz (b:Book):AObj:= .cells [.nm 1 0,.own 6,.own 3,.mp 4,zA b.top1,zA b.top2,.own 7,yF b.has1,yF b.has2] 299
def yHn (b:Book):AObj:= .cells [.nm 1 0,.own 2,.own 6,.mp 4,zA b.top1,zA b.top2,.own 7,yF b.has1,yF b.has2] 299
@[reducible] def ySa (b:Book):List AObj:=[yLz b,zS b 1,.gone,zS b 3,zS b 4,.gone,zS b 2,zS b 5]
@[reducible] def yTf (b:Book):List AObj:=[yHn b,zS b 1,zS b 2,.gone,zS b 4,.gone,zS b 3,zS b 5]
@[reducible] def Book.fit (b:Book):Prop:=b.a.fit∧b.a.queues.length≤100000∧b.buys.length≤100000∧b.sells.length≤100000∧b.spare.length≤100000
def queue1C:Con:=con1 BkP (fun i=>[.nm 0 0,zA 1,zA i.price]) (fun i=>zHq i.b) (fun i=>i.b.fit) (fun i=>zA (i.b.queueF 1 i.price).2) (fun i=>ySa (i.b.queueF 1 i.price).1)
def queue2C:Con:=con1 BkP (fun i=>[.nm 0 0,zA 2,zA i.price]) (fun i=>zHq i.b) (fun i=>i.b.fit) (fun i=>zA (i.b.queueF 2 i.price).2) (fun i=>yTf (i.b.queueF 2 i.price).1)
def insRC:Con:=yDw 304 2 16
open Go Cv Go.Proofs
def zYu (i:I3'):Prop:=
 cnd (i.side==1) (∃(a:Unit),btr i.side i.x i.y=decide (i.x>i.y)∧True) (∃(a:Unit),btr i.side i.x i.y=decide (i.x<i.y)∧True)
def yDs (s:Slot):Prop:=
 ∃(a:Unit),(!s.used)=!s.used∧True
def zWp (l:List Slot):Prop:=
 ∃(a:Nat),(↑a:Int)=0∧∃(b:Nat→Prop),∃(c:Nat→Nat),b a∧∀(d:Nat),b d→cnd (decide ((↑d:Int)<(↑(aa zR l).length:Int))) ((0≤(↑d:Int)∧(↑d:Int)<(↑(aa zR l).length:Int))∧∃(e:Bool),∃(f:Int),∃(g:Int),∃(h:Int),∃(j:Bool),∃(k:Int),∃(m:Int),∃(n:Int),zE (aa zR l) (↑d:Int).toNat 0 8=au [D.v (.bool e),dI f,dI g,dI h,D.v (.bool j),dI k,dI m,dI n]∧∃(p:Slot),p.used=e∧p.n=f∧p.id=g∧p.qty=h∧p.top=j∧p.queue=k∧p.ahead=m∧p.back=n∧True∧∀(q:Unit),True→cnd (!p.used) (∃(r:Unit),kM l=(↑d:Int)∧aa zR l=aa zR l∧True) (∃(r:Nat),(↑r:Int)=af.wrap ((↑d:Int)+1)∧b r∧c r<c d∧aj 362 8 (aa zR l)=aj 362 8 (aa zR l))) (∃(e:Unit),kM l=(-1)∧aa zR l=aa zR l∧True)
def yBc (a:Arena):Prop:=
 ((aa zQ a.queues).length+1)*(32:Nat)≤(140737488355328:Nat)∧∃(b:Unit),(↑a.queues.length:Int)=af.wrap ((↑(aa zQ a.queues++[[dI (-1),dI (-1),dI 0,dI 0]]).length:Int)-1)∧a.free=a.free∧aa zR a.slots=aa zR a.slots∧aa zQ (a.queues++[bT])=aa zQ a.queues++[[dI (-1),dI (-1),dI 0,dI 0]]∧True
def lI (a:z7x):Prop:=∃(b:Unit),(if a.a.usedAt a.n=aq then(0:Int)else(26:Int))=26∧(a.a.topF a.n a.t).free=a.a.free∧aa zR (a.a.topF a.n a.t).slots=aa zR a.a.slots∧aa zQ (a.a.topF a.n a.t).queues=aa zQ a.a.queues∧True
def yNd (i:z7x):Prop:=
 cnd (decide (i.n<0)) (lI i) (cnd (decide (i.n≥(↑(aa zR i.a.slots).length:Int))) (lI i) ((0≤i.n∧i.n<(↑(aa zR i.a.slots).length:Int))∧∃(a:Bool),zE (aa zR i.a.slots) i.n.toNat ((0:Nat)+(0:Nat)) 1=au [D.v (.bool a)]∧cnd (!a) (lI i) ((0≤i.n∧i.n<(↑(aa zR i.a.slots).length:Int))∧i.n.toNat<(aa zR i.a.slots).length∧∃(b:Unit),(if i.a.usedAt i.n=aq then(0:Int)else(26:Int))=0∧(i.a.topF i.n i.t).free=i.a.free∧aa zR (i.a.topF i.n i.t).slots=zH (aa zR i.a.slots) i.n.toNat ((0:Nat)+(1:Nat)+3) [D.v (.bool i.t)]∧aa zQ (i.a.topF i.n i.t).queues=aa zQ i.a.queues∧True)))
def yI (a:PuI):=(a.a.push a.n a.id a.qty a.top)
def p7 (a:PuI):Prop:=(yI a).fst.free=a.a.free∧aa zR (yI a).fst.slots=aa zR a.a.slots∧aa zQ (yI a).fst.queues=aa zQ a.a.queues∧True
def zCc (a:PuI):Prop:=∃(b:Unit),(yI a).snd.fst=0∧(yI a).snd.snd=26∧p7 a
def zBr (a:PuI):Prop:=∃(b:Unit),(yI a).snd.fst=0∧(yI a).snd.snd=24∧p7 a
def rU (a:PuI) (b:List Slot):=(zH (zH (aa zQ a.a.queues) a.n.toNat ((0:Nat)+(0:Nat)) [dI (kM b)]) a.n.toNat ((0:Nat)+(1:Nat)) [dI (kM b)])
def nX (a:PuI) (b:List Slot) (c:Int):=(zH (rU a b) a.n.toNat ((0:Nat)+(2:Nat)) [dI (af.wrap (c+a.qty))])
def p8 (a:PuI) (b:List Slot):=(zH (aa zQ a.a.queues) a.n.toNat ((0:Nat)+(1:Nat)) [dI (kM b)])
def rG (a:PuI) (b:List Slot) (c:Int):=(zH (p8 a b) a.n.toNat ((0:Nat)+(2:Nat)) [dI (af.wrap (c+a.qty))])
def yDz (i:PuI):Prop:=
 cnd (decide (i.n≥0)) (cnd (!decide (i.n<(↑(aa zQ i.a.queues).length:Int))) (zCc i) (cnd (decide (i.qty<1)) (zBr i) (cnd (decide (i.qty>1000000)) (zBr i) (cnd (i.a.free==0) (∃(a:Unit),(yI i).snd.fst=0∧(yI i).snd.snd=13∧p7 i) (∃(a:List Slot),aa zR a=aa zR i.a.slots∧a.length≤1000000∧∀(b:Unit),True→(0≤i.n∧i.n<(↑(aa zQ i.a.queues).length:Int))∧∃(c:Int),zE (aa zQ i.a.queues) i.n.toNat ((0:Nat)+(1:Nat)) 1=au [dI c]∧(0≤kM a∧kM a<(↑(aa zR a).length:Int))∧(kM a).toNat<(aa zR a).length∧∃(d:Int),zE (aa zQ i.a.queues) i.n.toNat ((0:Nat)+(1:Nat)) 1=au [dI d]∧cnd (d==(-1)) (i.n.toNat<(aa zQ i.a.queues).length∧i.n.toNat<(zH (aa zQ i.a.queues) i.n.toNat ((0:Nat)+(0:Nat)) [dI (kM a)]).length∧∃(e:Int),zE (rU i a) i.n.toNat ((0:Nat)+(2:Nat)) 1=au [dI e]∧i.n.toNat<(rU i a).length∧∃(f:Int),zE (nX i a e) i.n.toNat ((0:Nat)+(3:Nat)) 1=au [dI f]∧i.n.toNat<(nX i a e).length∧∃(g:Unit),(yI i).snd.fst=kM a∧(yI i).snd.snd=0∧(yI i).fst.free=af.wrap (i.a.free-1)∧aa zR (yI i).fst.slots=zH (aa zR a) (kM a).toNat 0 [D.v (.bool aq),dI (kM a),dI i.id,dI i.qty,D.v (.bool i.top),dI i.n,dI c,dI (-1)]∧aa zQ (yI i).fst.queues=zH (nX i a e) i.n.toNat ((0:Nat)+(3:Nat)) [dI (af.wrap (f+1))]∧True) (∃(e:Int),zE (aa zQ i.a.queues) i.n.toNat ((0:Nat)+(1:Nat)) 1=au [dI e]∧(0≤e∧e<(↑(zH (aa zR a) (kM a).toNat 0 [D.v (.bool aq),dI (kM a),dI i.id,dI i.qty,D.v (.bool i.top),dI i.n,dI c,dI (-1)]).length:Int))∧e.toNat<(zH (aa zR a) (kM a).toNat 0 [D.v (.bool aq),dI (kM a),dI i.id,dI i.qty,D.v (.bool i.top),dI i.n,dI c,dI (-1)]).length∧i.n.toNat<(aa zQ i.a.queues).length∧∃(f:Int),zE (p8 i a) i.n.toNat ((0:Nat)+(2:Nat)) 1=au [dI f]∧i.n.toNat<(p8 i a).length∧∃(g:Int),zE (rG i a f) i.n.toNat ((0:Nat)+(3:Nat)) 1=au [dI g]∧i.n.toNat<(rG i a f).length∧∃(h:Unit),(yI i).snd.fst=kM a∧(yI i).snd.snd=0∧(yI i).fst.free=af.wrap (i.a.free-1)∧aa zR (yI i).fst.slots=zH (zH (aa zR a) (kM a).toNat 0 [D.v (.bool aq),dI (kM a),dI i.id,dI i.qty,D.v (.bool i.top),dI i.n,dI c,dI (-1)]) e.toNat ((0:Nat)+(7:Nat)) [dI (kM a)]∧aa zQ (yI i).fst.queues=zH (rG i a f) i.n.toNat ((0:Nat)+(3:Nat)) [dI (af.wrap (g+1))]∧True)))))) (zCc i)
def xO (a:BkP):=(↑(zW 1 (a.b.rungs 1) a.price):Int)
def vV (a:BkP):=(↑(aa zC a.b.buys).length:Int)
def dM (a:BkP):Prop:=a.b.top1=a.b.top1∧a.b.top2=a.b.top2∧a.b.has1=a.b.has1∧a.b.has2=a.b.has2∧ag Arena 3 zG a.b.a=zS a.b 1∧aa zC a.b.buys=aa zC a.b.buys∧aa zC a.b.sells=aa zC a.b.sells∧atE a.b.at_=atE a.b.at_∧iE a.b.spare=iE a.b.spare∧True
def zGd (a:Nat) (b:BkP):Prop:=(0≤(↑a:Int)∧(↑a:Int)<(vV b))∧∃(c:Int),zE (aa zC b.b.buys) (↑a:Int).toNat ((0:Nat)+(0:Nat)) 1=au [dI c]∧∃(d:Unit),(xO b)=(↑a:Int)∧kL 1 (b.b.rungs 1) b.price=(c==b.price)∧dM b
def zBs (a:BkP) (b:Nat):Prop:=∃(c:Unit),(xO a)=(↑b:Int)∧kL 1 (a.b.rungs 1) a.price=ar∧dM a
def pQ (a:Nat) (b:Nat→Prop) (c:Nat→Nat) (d:BkP):Prop:=∃(e:Nat),(↑e:Int)=af.wrap ((↑a:Int)+1)∧b e∧c e<c a∧zS d.b 0=zS d.b 0∧zS d.b 1=zS d.b 1∧zS d.b 2=zS d.b 2∧zS d.b 3=zS d.b 3∧zS d.b 4=zS d.b 4∧zS d.b 5=zS d.b 5
def pU (a:Nat) (b:BkP):=(decide ((↑a:Int)<(vV b)))
def yDr (i:BkP):Prop:=
 ∃(a:Nat),(↑a:Int)=0∧∃(b:Nat→Prop),∃(c:Nat→Nat),b a∧∀(d:Nat),b d→cnd (pU d i) ((0≤(↑d:Int)∧(↑d:Int)<(vV i))∧∃(e:Int),zE (aa zC i.b.buys) (↑d:Int).toNat ((0:Nat)+(0:Nat)) 1=au [dI e]∧∃(f:I3'),f.side=1∧f.x=e∧f.y=i.price∧True∧∀(g:Unit),True→cnd (btr f.side f.x f.y) (pQ d b c i) (cnd (pU d i) (zGd d i) (zBs i d))) (cnd (pU d i) (zGd d i) (zBs i d))
def xP (a:BkP):=(↑(zW 2 (a.b.rungs 2) a.price):Int)
def vK (a:BkP):=(↑(aa zC a.b.sells).length:Int)
def zGv (a:Nat) (b:BkP):Prop:=(0≤(↑a:Int)∧(↑a:Int)<(vK b))∧∃(c:Int),zE (aa zC b.b.sells) (↑a:Int).toNat ((0:Nat)+(0:Nat)) 1=au [dI c]∧∃(d:Unit),(xP b)=(↑a:Int)∧kL 2 (b.b.rungs 2) b.price=(c==b.price)∧dM b
def zAt (a:BkP) (b:Nat):Prop:=∃(c:Unit),(xP a)=(↑b:Int)∧kL 2 (a.b.rungs 2) a.price=ar∧dM a
def rT (a:Nat) (b:BkP):=(decide ((↑a:Int)<(vK b)))
def yBp (i:BkP):Prop:=
 ∃(a:Nat),(↑a:Int)=0∧∃(b:Nat→Prop),∃(c:Nat→Nat),b a∧∀(d:Nat),b d→cnd (rT d i) ((0≤(↑d:Int)∧(↑d:Int)<(vK i))∧∃(e:Int),zE (aa zC i.b.sells) (↑d:Int).toNat ((0:Nat)+(0:Nat)) 1=au [dI e]∧∃(f:I3'),f.side=2∧f.x=e∧f.y=i.price∧True∧∀(g:Unit),True→cnd (btr f.side f.x f.y) (pQ d b c i) (cnd (rT d i) (zGv d i) (zAt i d))) (cnd (rT d i) (zGv d i) (zAt i d))
def f9 (a:LdI):Prop:=aa zC a.b.buys=aa zC a.b.buys∧aa zC a.b.sells=aa zC a.b.sells∧atE a.b.at_=atE a.b.at_∧iE a.b.spare=iE a.b.spare∧True
def rA (a:LdI):Prop:=∃(b:Unit),a.id=a.id∧a.b.top2=a.b.top2∧aq=aq∧a.b.has2=a.b.has2∧ag Arena 3 zG (a.b.untop 1)=zS a.b 1∧f9 a
def zAf (a:LdI) (b:Int) (c:Int) (d:Int) (e:Bool):Prop:=uM (aw af a.b.top1) (atE a.b.at_)=au [dI b,dI c,dI d]∧e=aq∨uM (aw af a.b.top1) (atE a.b.at_)=av∧[dI b,dI c,dI d]=[dI 0,dI 0,dI 0]∧e=ar
def zBp (a:LdI):Prop:=∀(b:bo×List D),b∈atE a.b.at_→like (aw af a.b.top1) b.fst=aq
def yAz (i:LdI):Prop:=
 cnd i.b.has1 ((zBp i)∧∃(a:Bool),∃(b:Int),∃(c:Int),∃(d:Int),(zAf i b c d a)∧((zBp i)∧∃(e:Bool),∃(f:Int),∃(g:Int),∃(h:Int),(zAf i f g h e)∧(f=b∧g=c∧h=d∧True)∧e=a∧True)∧i.b.top1=i.b.top1∧True∧cnd a (cnd (b==1) (∃(e:z7x),e.n=d∧e.t=ar∧ag Arena 3 zG e.a=zS i.b 1∧e.a.slots.length≤1000000∧∀(f:Unit),True→∃(g:Unit),i.id=i.id∧i.b.top2=i.b.top2∧aq=aq∧i.b.has2=i.b.has2∧ag Arena 3 zG (i.b.untop 1)=ag Arena 3 zG (e.a.topF e.n e.t)∧f9 i) (rA i)) (rA i)) (rA i)
def nW (a:LdI):Prop:=∃(b:Unit),a.b.top1=a.b.top1∧a.id=a.id∧a.b.has1=a.b.has1∧aq=aq∧ag Arena 3 zG (a.b.untop 2)=zS a.b 1∧f9 a
def zBz (a:LdI) (b:Int) (c:Int) (d:Int) (e:Bool):Prop:=uM (aw af a.b.top2) (atE a.b.at_)=au [dI b,dI c,dI d]∧e=aq∨uM (aw af a.b.top2) (atE a.b.at_)=av∧[dI b,dI c,dI d]=[dI 0,dI 0,dI 0]∧e=ar
def zAd (a:LdI):Prop:=∀(b:bo×List D),b∈atE a.b.at_→like (aw af a.b.top2) b.fst=aq
def z9z (i:LdI):Prop:=
 cnd i.b.has2 ((zAd i)∧∃(a:Bool),∃(b:Int),∃(c:Int),∃(d:Int),(zBz i b c d a)∧((zAd i)∧∃(e:Bool),∃(f:Int),∃(g:Int),∃(h:Int),(zBz i f g h e)∧(f=b∧g=c∧h=d∧True)∧e=a∧True)∧i.b.top2=i.b.top2∧True∧cnd a (cnd (b==2) (∃(e:z7x),e.n=d∧e.t=ar∧ag Arena 3 zG e.a=zS i.b 1∧e.a.slots.length≤1000000∧∀(f:Unit),True→∃(g:Unit),i.b.top1=i.b.top1∧i.id=i.id∧i.b.has1=i.b.has1∧aq=aq∧ag Arena 3 zG (i.b.untop 2)=ag Arena 3 zG (e.a.topF e.n e.t)∧f9 i) (nW i)) (nW i)) (nW i)
def x0 (a:BkP):Prop:=(a.b.a.slots.length≤1000000∧a.b.a.queues.length≤1000000)∧a.b.buys.length≤1000000∧a.b.sells.length≤1000000∧a.b.spare.length≤1000000
def gT (a:BkP):Prop:=0≤(xO a)∧(xO a)<(vV a)
def vT (a:BkP):=((↑(iE a.b.spare).length:Int)-1)
def aY (a:BkP):Prop:=0≤af.wrap (vT a)∧af.wrap (vT a)≤(↑(iE a.b.spare).length:Int)
def a8 (a:BkP):Prop:=0≤af.wrap (vT a)∧af.wrap (vT a)<(↑(iE a.b.spare).length:Int)
def gN (a:zCw):Prop:=a.i≤a.els.length∧(a.els.length+1)*(16:Nat)≤(140737488355328:Nat)
def gZ (a:BkP):=(af.wrap (vT a))
def zO (a:BkP):=(a.b.queueF 1 a.price)
def z5q (i:BkP):Prop:=
 ∃(a:BkP),(1:Int)=(1:Int)∧a.price=i.price∧a.b.top1=i.b.top1∧a.b.top2=i.b.top2∧a.b.has1=i.b.has1∧a.b.has2=i.b.has2∧ag Arena 3 zG a.b.a=zS i.b 1∧aa zC a.b.buys=aa zC i.b.buys∧aa zC a.b.sells=aa zC i.b.sells∧atE a.b.at_=atE i.b.at_∧iE a.b.spare=iE i.b.spare∧(x0 a)∧∀(b:Unit),True→cnd (kL 1 (a.b.rungs 1) a.price) ((gT a)∧∃(c:Int),zE (aa zC a.b.buys) (xO a).toNat ((0:Nat)+(1:Nat)) 1=au [dI c]∧∃(d:Unit),(zO i).snd=c∧(zO i).fst.top1=a.b.top1∧(zO i).fst.top2=a.b.top2∧(zO i).fst.has1=a.b.has1∧(zO i).fst.has2=a.b.has2∧ag Arena 3 zG (zO i).fst.a=ag Arena 3 zG a.b.a∧aa zC (zO i).fst.sells=aa zC a.b.sells∧atE (zO i).fst.at_=atE a.b.at_∧aa zC (zO i).fst.buys=aa zC a.b.buys∧iE (zO i).fst.spare=iE a.b.spare∧True) (cnd (decide ((↑(iE a.b.spare).length:Int)>0)) ((a8 a)∧∃(c:Int),zE (iE a.b.spare) (gZ a).toNat 0 1=au [dI c]∧(aY a)∧True∧∃(d:zCw),(↑d.i:Int)=(xO a)∧d.els=aa zC a.b.buys∧[d.el]=[[dI i.price,dI c]]∧(gN d)∧∀(e:Unit),True→∃(f:Unit),(zO i).snd=c∧(zO i).fst.top1=a.b.top1∧(zO i).fst.top2=a.b.top2∧(zO i).fst.has1=a.b.has1∧(zO i).fst.has2=a.b.has2∧ag Arena 3 zG (zO i).fst.a=ag Arena 3 zG a.b.a∧aa zC (zO i).fst.sells=aa zC a.b.sells∧atE (zO i).fst.at_=atE a.b.at_∧aa zC (zO i).fst.buys=ab d.i d.els++d.el::ac d.i d.els∧iE (zO i).fst.spare=ab (gZ a).toNat (iE a.b.spare)∧True) (∃(c:Arena),ag Arena 3 zG c=ag Arena 3 zG a.b.a∧c.queues.length≤1000000∧∀(d:Unit),True→True∧∃(e:zCw),(↑e.i:Int)=(xO a)∧e.els=aa zC a.b.buys∧[e.el]=[[dI i.price,dI (↑c.queues.length:Int)]]∧(gN e)∧∀(f:Unit),True→∃(g:Unit),(zO i).snd=(↑c.queues.length:Int)∧(zO i).fst.top1=a.b.top1∧(zO i).fst.top2=a.b.top2∧(zO i).fst.has1=a.b.has1∧(zO i).fst.has2=a.b.has2∧ag Arena 3 zG (zO i).fst.a=ag Arena 3 zG c.openQ∧aa zC (zO i).fst.sells=aa zC a.b.sells∧atE (zO i).fst.at_=atE a.b.at_∧aa zC (zO i).fst.buys=ab e.i e.els++e.el::ac e.i e.els∧iE (zO i).fst.spare=iE a.b.spare∧True))
def g8 (a:BkP):Prop:=0≤(xP a)∧(xP a)<(vK a)
def zP (a:BkP):=(a.b.queueF 2 a.price)
def z3r (i:BkP):Prop:=
 ∃(a:BkP),(2:Int)=(2:Int)∧a.price=i.price∧a.b.top1=i.b.top1∧a.b.top2=i.b.top2∧a.b.has1=i.b.has1∧a.b.has2=i.b.has2∧ag Arena 3 zG a.b.a=zS i.b 1∧aa zC a.b.buys=aa zC i.b.buys∧aa zC a.b.sells=aa zC i.b.sells∧atE a.b.at_=atE i.b.at_∧iE a.b.spare=iE i.b.spare∧(x0 a)∧∀(b:Unit),True→cnd (kL 2 (a.b.rungs 2) a.price) ((g8 a)∧∃(c:Int),zE (aa zC a.b.sells) (xP a).toNat ((0:Nat)+(1:Nat)) 1=au [dI c]∧∃(d:Unit),(zP i).snd=c∧(zP i).fst.top1=a.b.top1∧(zP i).fst.top2=a.b.top2∧(zP i).fst.has1=a.b.has1∧(zP i).fst.has2=a.b.has2∧ag Arena 3 zG (zP i).fst.a=ag Arena 3 zG a.b.a∧aa zC (zP i).fst.buys=aa zC a.b.buys∧atE (zP i).fst.at_=atE a.b.at_∧aa zC (zP i).fst.sells=aa zC a.b.sells∧iE (zP i).fst.spare=iE a.b.spare∧True) (cnd (decide ((↑(iE a.b.spare).length:Int)>0)) ((a8 a)∧∃(c:Int),zE (iE a.b.spare) (gZ a).toNat 0 1=au [dI c]∧(aY a)∧True∧∃(d:zCw),(↑d.i:Int)=(xP a)∧d.els=aa zC a.b.sells∧[d.el]=[[dI i.price,dI c]]∧(gN d)∧∀(e:Unit),True→∃(f:Unit),(zP i).snd=c∧(zP i).fst.top1=a.b.top1∧(zP i).fst.top2=a.b.top2∧(zP i).fst.has1=a.b.has1∧(zP i).fst.has2=a.b.has2∧ag Arena 3 zG (zP i).fst.a=ag Arena 3 zG a.b.a∧aa zC (zP i).fst.buys=aa zC a.b.buys∧atE (zP i).fst.at_=atE a.b.at_∧aa zC (zP i).fst.sells=ab d.i d.els++d.el::ac d.i d.els∧iE (zP i).fst.spare=ab (gZ a).toNat (iE a.b.spare)∧True) (∃(c:Arena),ag Arena 3 zG c=ag Arena 3 zG a.b.a∧c.queues.length≤1000000∧∀(d:Unit),True→True∧∃(e:zCw),(↑e.i:Int)=(xP a)∧e.els=aa zC a.b.sells∧[e.el]=[[dI i.price,dI (↑c.queues.length:Int)]]∧(gN e)∧∀(f:Unit),True→∃(g:Unit),(zP i).snd=(↑c.queues.length:Int)∧(zP i).fst.top1=a.b.top1∧(zP i).fst.top2=a.b.top2∧(zP i).fst.has1=a.b.has1∧(zP i).fst.has2=a.b.has2∧ag Arena 3 zG (zP i).fst.a=ag Arena 3 zG c.openQ∧aa zC (zP i).fst.buys=aa zC a.b.buys∧atE (zP i).fst.at_=atE a.b.at_∧aa zC (zP i).fst.sells=ab e.i e.els++e.el::ac e.i e.els∧iE (zP i).fst.spare=iE a.b.spare∧True))
open Go Cv Go.Proofs
theorem bZ:bbetterC.ok Tryz.prog 58:=okw (V:=zYu) mixed gok0 0 (fun _=>[]) (fun _=>[]) [] Tryz.func58 fun(i:I3') _=>by
 unfold zYu
 refine Cv.cnd.mk (fun c=> ?_) (fun c=> ?_)
 ·have c:i.side=1:=by simpa using c
  rw[btr,yZy c];exact kp
 ·have c:¬i.side=1:=by simpa using c
  rw[btr,yZx c];exact kp
theorem yBo:pushFC.ok Tryz.prog 293:=okw (V:=yDs) mixed gok0 0 (fun _=>[]) (fun _=>[]) [] Tryz.func293 fun(s:Slot) _=>by
 unfold yDs;exact kp
theorem yYd {l:List Slot} {k:Nat} {s:Slot} (h:l[k]? =au s):zE (l.map zR) k 0 8=au [D.v (.bool s.used),.v (.int .i64 s.n),.v (.int .i64 s.id),.v (.int .i64 s.qty),.v (.bool s.top),.v (.int .i64 s.queue),.v (.int .i64 s.ahead),.v (.int .i64 s.back)]:=elA h (by simp[zR]) rfl
theorem yFz (l:List Slot) (h:idxSlotC.cnd l):zWp l:=by
 have h:l.length≤1000000:=h
 unfold zWp dI
 simp only[y0a]
 refine⟨0,rfl,fun j=>j≤l.length∧∀k<j,∀x,l[k]? =au x→(!x.used)=ar,fun j=>l.length-j,⟨by omega,fun k hk=>by omega⟩,?_⟩
 rintro j ⟨h3,h4⟩
 refine zJ (fun hj=> ?_) (fun hj=> ?_)
 ·obtain⟨s,hs⟩:=z8 (l:=l) (i:=j) (by omega)
  refine⟨⟨by omega,by omega⟩,s.used,s.n,s.id,s.qty,s.top,s.queue,s.ahead,s.back,yYd hs,s,rfl,rfl,rfl,rfl,rfl,rfl,rfl,rfl,trivial,fun _ _=>Cv.cnd.mk (fun e=> ?_) (fun e=> ?_)⟩
  ·rw[kM,zGt hs e h4];exact kp
  ·refine⟨j+1,by rw[w64 (by omega)];rfl,⟨by omega,fun k hk x hx=> ?_⟩,by(first|omega|(dsimp only;omega)),k0q⟩
   rcases y2v k j with hk'|hk'
   ·exact h4 k hk' x hx
   ·obtain rfl:k=j:=by omega
    rw[hs]at hx;cases hx;exact e
 ·rw[kM,zFf fun k x hx=>h4 k (by have:=(yZz.1 hx).1;omega) x hx];exact kp
theorem z0q:idxSlotC.ok Tryz.prog 292:=okw mixed (gokc yBo gok0) 0 (fun _=>[]) (fun l=>yGt l) [] Tryz.func292 yFz
theorem zXm:aopenC.ok Tryz.prog 294:=okw (V:=yBc) mixed gok0 0 (fun _=>[]) (fun _=>[]) [0] Tryz.func294 fun(a:Arena) h=>by
 have h:a.queues.length≤1000000:=h
 unfold yBc dI
 rw[y0e,y0a,w64 (by simp only[y0f,y2t];omega)]
 refine⟨by omega,(),?_,rfl,rfl,?_,trivial⟩
 ·simp
 ·rw[y0j];rfl
theorem dX {α:Type} {f:α→α}:∀{l:List α} {i:Nat} {x:α},l[i]? =au x→l.modify i f=l.set i (f x)
 |[],i,x,h=>by simp at h
 |a::l,0,x,h=>by simp at h;subst h;rfl
 |a::l,i+1,x,h=>by
  simp only[y1r]at h
  simp only[y5n,y6c,dX h]
theorem yH {α:Type} {f:α→List D} {l:List α} {i g:Nat} {x y:α} {ds:List D} (hi:l[i]? =au x) (hh:(f x).take g++(ds++(f x).drop (g+ds.length))=f y):zH (l.map f) i g ds=(l.set i y).map f:=by
 have hlt:=(yZz.1 hi).1
 rw[zH,dX (by rw[y0z,hi];rfl),hh,List.map_set]
theorem v8 {α:Type} {l:List α} {i:Nat} {x y:α} (hi:l[i]? =au x):(l.set i y)[i]? =au y:=List.getElem?_set_self (yZz.1 hi).1
theorem zT {α:Type} {l:List α} {i:Nat} {x d:α} (h:l[i]? =au x):l.getD i d=x:=by rw[y0h,h];rfl
theorem yWl (i:z7x) (h:atopC.cnd i):yNd i:=by
 have h:i.a.slots.length≤1000000:=h
 unfold yNd lI
 simp only[y0a]
 have no (e:i.a.usedAt i.n=ar):i.a.topF i.n i.t=i.a:=by rw[Arena.topF,yZx (by rw[e];decide)]
 refine zJ (fun c=> ?_) (fun c=>zJ (fun d=> ?_) (fun d=> ?_))
 ·have e:i.a.usedAt i.n=ar:=by rw[Arena.usedAt,y0k (by omega),y3l]
  rw[no e,e];exact kp
 ·have e:i.a.usedAt i.n=ar:=by rw[Arena.usedAt,y0k (show ¬i.n<(i.a.slots.length:Int)by omega),y3l,y5g]
  rw[no e,e];exact kp
 ·obtain⟨s,hs⟩:=z8 (l:=i.a.slots) (i:=i.n.toNat) (by omega)
  have eu:i.a.usedAt i.n=s.used:=by rw[Arena.usedAt,y0n (show 0≤i.n by omega),y0n (show i.n<(i.a.slots.length:Int)by omega),zT hs];simp
  refine⟨⟨by omega,by omega⟩,s.used,elA hs (by simp[zR]) rfl,Cv.cnd.mk (fun u=> ?_) (fun u=> ?_)⟩
  ·have e:i.a.usedAt i.n=ar:=by rw[eu];simpa using u
   rw[no e,e];exact kp
  ·have e:i.a.usedAt i.n=aq:=by rw[eu];simpa using u
   have et:i.a.topF i.n i.t={i.a with slots:=i.a.slots.set i.n.toNat {s with top:=i.t}}:=by
    rw[Arena.topF,yZy e,dX hs]
   rw[et,e,yH hs (y:={s with top:=i.t}) rfl]
   refine⟨⟨by omega,by omega⟩,by omega,(),rfl,rfl,rfl,rfl,trivial⟩
theorem z2g:atopC.ok Tryz.prog 291:=okw mixed gok0 1 (fun _=>[]) (fun _=>[]) [0] Tryz.func291 yWl
theorem z9q {l:List Slot} (h:∃s∈l,s.used=ar):∃k:Nat,kM l=k∧k<l.length:=by
 obtain⟨s,hs,hu⟩:=h
 cases hf:l.findIdx? fun s=> !s.used with
 |none=>
  rw[y4g]at hf
  have:=hf s hs
  rw[hu]at this;cases this
 |some k=>
  rw[y3b]at hf
  exact⟨k,by rw[kM,show(l.findIdx? fun s=> !s.used)=au k by rw[y3b];exact hf];rfl,hf.1⟩
theorem yQv (i:PuI) (h:apushC.cnd i):yDz i:=by
 obtain⟨h1,h2,h3⟩:i.a.fit:=h
 unfold yDz rG p8 nX rU zBr zCc p7 yI dI
 simp only[y0a]
 have out (e:i.n<0∨i.a.queues.length≤i.n):i.a.push i.n i.id i.qty i.top=(i.a,0,26):=by rw[Arena.push,yZy e]
 refine zJ (fun c=>Cv.cnd.mk (fun d=> ?_) (fun d=> ?_)) (fun c=> ?_)
 ·have d:¬i.n<(i.a.queues.length:Int):=by simpa using d
  rw[out (.inr (by omega))];exact kp
 ·have d:i.n<(i.a.queues.length:Int):=by simpa using d
  have hn:¬(i.n<0∨(i.a.queues.length:Int)≤i.n):=by omega
  refine zJ (fun q1=> ?_) (fun q1=>zJ (fun q2=> ?_) (fun q2=>Cv.cnd.mk (fun fr=> ?_) (fun fr=> ?_)))
  ·rw[Arena.push,yZx hn,yZy (.inl q1)];exact kp
  ·rw[Arena.push,yZx hn,yZy (.inr q2)];exact kp
  ·rw[Arena.push,yZx hn,yZx (by omega),yZy (by simpa using fr)];exact kp
  ·have fr:i.a.free≠0:=by simpa using fr
   have ep:i.a.push i.n i.id i.qty i.top=(i.a.put i.n i.id i.qty i.top,kM i.a.slots,0):=by rw[Arena.push,yZx hn,yZx (by omega),yZx fr]
   obtain⟨k,hk,hkl⟩:=z9q (h2 fr)
   obtain⟨q,hq⟩:=z8 (l:=i.a.queues) (i:=i.n.toNat) (by omega)
   have hqm:=y0g hq
   have hl:=h3 q hqm
   obtain⟨s,hs⟩:=z8 hkl
   refine⟨i.a.slots,rfl,h1,fun _ _=>⟨⟨by omega,by omega⟩,q.last,elA hq (by simp[zQ]) rfl,⟨by omega,by omega⟩,by rw[hk];exact hkl,q.last,elA hq (by simp[zQ]) rfl,?_⟩⟩
   rw[ep]
   have eput:i.a.put i.n i.id i.qty i.top=⟨if q.last= -1 then i.a.slots.set k ⟨aq,k,i.id,i.qty,i.top,i.n,q.last,-1⟩else(i.a.slots.set k ⟨aq,k,i.id,i.qty,i.top,i.n,q.last,-1⟩).modify q.last.toNat fun s=>{s with back:=k},i.a.queues.set i.n.toNat ⟨if q.last= -1 then k else q.first,k,af.wrap (q.total+i.qty),af.wrap (q.count+1)⟩,af.wrap (i.a.free-1)⟩:=by
    simp only[Arena.put,zT hq,hk,y0s]
   rw[eput,hk]
   simp only[y0s]
   have es:zH (aa zR i.a.slots) k 0 [D.v (.bool aq),D.v (.int .i64 k),D.v (.int .i64 i.id),D.v (.int .i64 i.qty),D.v (.bool i.top),D.v (.int .i64 i.n),D.v (.int .i64 q.last),D.v (.int .i64 (-1))]=aa zR (i.a.slots.set k ⟨aq,k,i.id,i.qty,i.top,i.n,q.last,-1⟩):=yH hs rfl
   rw[es]
   refine Cv.cnd.mk (fun e=> ?_) (fun e=> ?_)
   ·have e:q.last= -1:=by simpa using e
    have e1:zH (aa zQ i.a.queues) i.n.toNat (0+0) [D.v (.int .i64 k)]=aa zQ (i.a.queues.set i.n.toNat {q with first:=k}):=yH hq rfl
    have g1:=v8 (y:={q with first:=(k:Int)}) hq
    have e2:zH (aa zQ (i.a.queues.set i.n.toNat {q with first:=k})) i.n.toNat (0+1) [D.v (.int .i64 k)]=aa zQ (i.a.queues.set i.n.toNat {q with first:=k,last:=k}):=by
     rw[yH g1 (y:={q with first:=(k:Int),last:=(k:Int)}) rfl,y4c]
    have g2:=v8 (y:={q with first:=(k:Int),last:=(k:Int)}) hq
    have e3:zH (aa zQ (i.a.queues.set i.n.toNat {q with first:=k,last:=k})) i.n.toNat (0+2) [D.v (.int .i64 (af.wrap (q.total+i.qty)))]=aa zQ (i.a.queues.set i.n.toNat {q with first:=k,last:=k,total:=af.wrap (q.total+i.qty)}):=by
     rw[yH g2 (y:={q with first:=(k:Int),last:=(k:Int),total:=af.wrap (q.total+i.qty)}) rfl,y4c]
    have g3:=v8 (y:={q with first:=(k:Int),last:=(k:Int),total:=af.wrap (q.total+i.qty)}) hq
    have e4:zH (aa zQ (i.a.queues.set i.n.toNat {q with first:=k,last:=k,total:=af.wrap (q.total+i.qty)})) i.n.toNat (0+3) [D.v (.int .i64 (af.wrap (q.count+1)))]=aa zQ (i.a.queues.set i.n.toNat ⟨k,k,af.wrap (q.total+i.qty),af.wrap (q.count+1)⟩):=by
     rw[yH g3 (y:=⟨k,k,af.wrap (q.total+i.qty),af.wrap (q.count+1)⟩) rfl,y4c]
    rw[e1,e2]
    simp only[yZy e]
    refine⟨by omega,by simp only[y0a,y1c];omega,q.total,elA g2 (by simp[zQ]) rfl,by simp only[y0a,y1c];omega,q.count,?_,by rw[e3];simp only[y0a,y1c];omega,(),?_⟩
    ·rw[e3];exact elA g3 (by simp[zQ]) rfl
    ·rw[e3,e4];exact kp
   ·have e:¬q.last= -1:=by simpa using e
    have hl:0≤q.last∧q.last<i.a.slots.length:=hl.resolve_left e
    have e2:zH (aa zQ i.a.queues) i.n.toNat (0+1) [D.v (.int .i64 k)]=aa zQ (i.a.queues.set i.n.toNat {q with last:=k}):=yH hq rfl
    have g2:=v8 (y:={q with last:=(k:Int)}) hq
    have e3:zH (aa zQ (i.a.queues.set i.n.toNat {q with last:=k})) i.n.toNat (0+2) [D.v (.int .i64 (af.wrap (q.total+i.qty)))]=aa zQ (i.a.queues.set i.n.toNat {q with last:=k,total:=af.wrap (q.total+i.qty)}):=by
     rw[yH g2 (y:={q with last:=(k:Int),total:=af.wrap (q.total+i.qty)}) rfl,y4c]
    have g3:=v8 (y:={q with last:=(k:Int),total:=af.wrap (q.total+i.qty)}) hq
    have e4:zH (aa zQ (i.a.queues.set i.n.toNat {q with last:=k,total:=af.wrap (q.total+i.qty)})) i.n.toNat (0+3) [D.v (.int .i64 (af.wrap (q.count+1)))]=aa zQ (i.a.queues.set i.n.toNat ⟨q.first,k,af.wrap (q.total+i.qty),af.wrap (q.count+1)⟩):=by
     rw[yH g3 (y:=⟨q.first,k,af.wrap (q.total+i.qty),af.wrap (q.count+1)⟩) rfl,y4c]
    obtain⟨s2,hs2⟩:=z8 (l:=i.a.slots.set k ⟨aq,k,i.id,i.qty,i.top,i.n,q.last,-1⟩) (i:=q.last.toNat) (by rw[y1c];omega)
    have e5:zH (aa zR (i.a.slots.set k ⟨aq,k,i.id,i.qty,i.top,i.n,q.last,-1⟩)) q.last.toNat (0+7) [D.v (.int .i64 k)]=aa zR ((i.a.slots.set k ⟨aq,k,i.id,i.qty,i.top,i.n,q.last,-1⟩).modify q.last.toNat fun s=>{s with back:=k}):=by
     rw[yH hs2 (y:={s2 with back:=(k:Int)}) rfl,dX hs2]
    rw[e2]
    simp only[yZx e]
    refine⟨q.last,elA hq (by simp[zQ]) rfl,⟨by omega,by simp only[y0a,y1c];omega⟩,by simp only[y0a,y1c];omega,by omega,q.total,elA g2 (by simp[zQ]) rfl,by simp only[y0a,y1c];omega,q.count,?_,by rw[e3];simp only[y0a,y1c];omega,(),?_⟩
    ·rw[e3];exact elA g3 (by simp[zQ]) rfl
    ·rw[e3,e4,e5];exact kp
 ·rw[out (.inl (by omega))];exact kp
theorem zVe:apushC.ok Tryz.prog 267:=okw mixed (gokc z0q gok0) 1 (fun _=>[]) (fun _=>[]) [0] Tryz.func267 yQv
theorem mL {s price:Int}:∀{l:List xG} {j:Nat},j≤l.length→(∀k<j,∀r,l[k]? =au r→btr s r.price price=aq)→(∀r,l[j]? =au r→btr s r.price price=ar)→zW s l price=j
 |[],j,hj,_,_=>by
  obtain rfl:j=0:=by simpa using hj
  rfl
 |r::l,0,_,_,he=>by
  have:=he r rfl
  rw[zW,List.takeWhile_cons,this];rfl
 |r::l,j+1,hj,h,he=>by
  have h0:=h 0 (by omega) r rfl
  have ih:=mL (l:=l) (j:=j) (by simpa using hj) (fun k hk x hx=>h (k+1) (by omega) x (by simpa using hx)) (fun x hx=>he x (by simpa using hx))
  rw[zW]at ih ⊢
  rw[List.takeWhile_cons,h0,yZy rfl,y0f,ih]
theorem zEe (s price:Int) (l:List xG):zW s l price≤l.length:=(List.takeWhile_sublist _).length_le
theorem rL (b:Book):b.rungs 1=b.buys:=rfl
theorem pY (b:Book):b.rungs 2=b.sells:=rfl
theorem yRb (i:BkP) (h:find1C.cnd i):yDr i:=by
 obtain⟨_,h1,h2,_⟩:i.b.small:=h
 unfold yDr zGd pU vV pQ zBs dM xO dI
 simp only[y0a,rL]
 refine⟨0,rfl,fun j=>j≤i.b.buys.length∧∀k<j,∀r,i.b.buys[k]? =au r→btr 1 r.price i.price=aq,fun j=>i.b.buys.length-j,⟨by omega,fun k hk=>by omega⟩,?_⟩
 rintro j ⟨h3,h4⟩
 refine zJ (fun hj=> ?_) (fun hj=> ?_)
 ·obtain⟨r,hr⟩:=z8 (l:=i.b.buys) (i:=j) (by omega)
  refine⟨⟨by omega,by omega⟩,r.price,elA hr (by simp[zC]) rfl,⟨1,r.price,i.price⟩,rfl,rfl,rfl,trivial,fun _ _=> ?_⟩
  dsimp only
  refine Cv.cnd.mk (fun e=>⟨j+1,by rw[w64 (by omega)];rfl,⟨by omega,fun k hk x hx=> ?_⟩,by(first|omega|(dsimp only;omega)),k0q⟩) (fun e=>zJ (fun _=> ?_) (fun c=>absurd hj c))
  ·rcases y2v k j with hk'|hk'
   ·exact h4 k hk' x hx
   ·obtain rfl:k=j:=by omega
    rw[hr]at hx;cases hx;exact e
  ·have en:zW 1 i.b.buys i.price=j:=mL h3 h4 fun x hx=>by rw[hr]at hx;cases hx;exact e
   have eb:kL 1 i.b.buys i.price=(r.price==i.price):=by rw[kL,en,hr];exact(zUq _ _).symm
   refine⟨⟨by omega,by omega⟩,r.price,elA hr (by simp[zC]) rfl,(),by rw[en],eb,?_⟩
   (repeat'(first|exact trivial|exact rfl|apply be))
 ·have en:zW 1 i.b.buys i.price=j:=mL h3 h4 fun x hx=>by have:=(yZz.1 hx).1;omega
  have eb:kL 1 i.b.buys i.price=ar:=by rw[kL,en,y1e (by omega)]
  refine zJ (fun c=>absurd c hj) (fun _=>⟨(),by rw[en],eb,?_⟩)
  (repeat'(first|exact trivial|exact rfl|apply be))
theorem zKw:find1C.ok Tryz.prog 270:=okw mixed (gokc bZ gok0) 0 (fun _=>[]) (fun _=>yNz) [] Tryz.func270 yRb
theorem jV (l:List (Int×Place)) (k:Int):∀(p:bo×List D),p∈atE l→like (aw af k) p.1=aq:=by
 intro p hp
 obtain⟨x,_,rfl⟩:=y1a.1 hp
 rfl
theorem eL (k:Int):∀l:List (Int×Place),uM (aw af k) (atE l)=(pget l k).map zZz
 |[]=>rfl
 |(a,v)::l=>by
  have ih:=eL k l
  show(bif (keq .i64 .i64 && decide (k=a))then _ else uM _ (atE l))=_
  by_cases h:k=a
  ·subst h;simp[pget,keq]
  ·have h':¬a=k:=fun e=>h e.symm
   rw[show(keq .i64 .i64 && decide (k=a))=ar by simp[h],cond_false,ih]
   simp[pget,y6f,h']
def zFm:Place:=⟨0,0,0⟩
theorem zRb (l:List (Int×Place)) (k:Int):uM (aw af k) (atE l)=au [D.v (.int .i64 ((pget l k).getD zFm).side),D.v (.int .i64 ((pget l k).getD zFm).price),D.v (.int .i64 ((pget l k).getD zFm).slot)]∧(pget l k).isSome=aq∨uM (aw af k) (atE l)=av∧[D.v (.int .i64 ((pget l k).getD zFm).side),D.v (.int .i64 ((pget l k).getD zFm).price),D.v (.int .i64 ((pget l k).getD zFm).slot)]=[D.v (.int .i64 0),D.v (.int .i64 0),D.v (.int .i64 0)]∧(pget l k).isSome=ar:=by
 rw[eL]
 cases pget l k with
 |none=>exact .inr ⟨rfl,rfl,rfl⟩
 |some v=>exact .inl ⟨rfl,rfl⟩
theorem zSy (k:Int) (v:Place):∀l,fM (aw af k) (zZz v) (atE l)=atE (pE k v l)
 |[]=>rfl
 |(a,b)::l=>by
  have ih:=zSy k v l
  show(bif (keq .i64 .i64 && decide (k=a))then _ else _::fM _ _ (atE l))=_
  rw[ih,pE]
  by_cases h:k=a
  ·subst h;simp[keq,atE]
  ·simp[h,atE]
theorem yPp (i:LdI) (h:lead1C.cnd i):yAz i:=by
 obtain⟨⟨ha,_⟩,h1,h2,_⟩:i.b.small:=h
 unfold yAz zBp zAf rA f9 dI
 have no (e:i.b.untop 1=i.b.a):ag Arena 3 zG (i.b.untop 1)=zS i.b 1:=by rw[e];rfl
 refine Cv.cnd.mk (fun c=> ?_) (fun c=>⟨(),?_⟩)
 ·have c:i.b.hasF 1=aq:=c
  refine⟨jV _ _,(pget i.b.at_ i.b.top1).isSome,_,_,_,zRb _ _,⟨jV _ _,(pget i.b.at_ i.b.top1).isSome,_,_,_,zRb _ _,⟨rfl,rfl,rfl,trivial⟩,rfl,trivial⟩,rfl,trivial,Cv.cnd.mk (fun d=>Cv.cnd.mk (fun e=> ?_) (fun e=>⟨(),?_⟩)) (fun d=>⟨(),?_⟩)⟩
  ·obtain⟨o,ho⟩:=y5u.1 d
   have e:o.side=1:=by rw[ho]at e;simpa using e
   have eu:i.b.untop 1=i.b.a.topF o.slot ar:=by
    have ht:pget i.b.at_ (i.b.topI 1)=au o:=ho
    rw[Book.untop,yZy c,ht];dsimp only;rw[yZy e]
   refine⟨⟨i.b.a,o.slot,ar⟩,by rw[ho];rfl,rfl,rfl,ha,fun _ _=>⟨(),?_⟩⟩
   rw[eu];(repeat'(first|exact trivial|exact rfl|apply be))
  ·obtain⟨o,ho⟩:=y5u.1 d
   have e:¬o.side=1:=by rw[ho]at e;simpa using e
   have ht:pget i.b.at_ (i.b.topI 1)=au o:=ho
   rw[no (by rw[Book.untop,yZy c,ht];dsimp only;rw[yZx e])];(repeat'(first|exact trivial|exact rfl|apply be))
  ·have ht:pget i.b.at_ (i.b.topI 1)=av:=by
    show pget i.b.at_ i.b.top1=av
    simpa using d
   rw[no (by rw[Book.untop,yZy c,ht])];(repeat'(first|exact trivial|exact rfl|apply be))
 ·have c:¬i.b.hasF 1=aq:=by rw[show i.b.hasF 1=i.b.has1 from rfl,c];decide
  rw[no (by rw[Book.untop,yZx c])];(repeat'(first|exact trivial|exact rfl|apply be))
theorem yGn:lead1C.ok Tryz.prog 266:=okw mixed (gokc z2g gok0) 0 (fun _=>[]) (fun _=>[]) [] Tryz.func266 yPp
theorem zUz {s price:Int} {l:List xG} (h:kL s l price=aq):∃r,l[zW s l price]? =au r:=by
 rw[kL]at h
 split at h
 ·rename_i r hr;exact⟨r,hr⟩
 ·cases h
theorem yLb (i:BkP) (h:queue1C.cnd i):z5q i:=by
 obtain⟨⟨ha,_⟩,ha',h1,h2,h3⟩:i.b.fit:=h
 have hle:=zEe 1 i.price i.b.buys
 unfold z5q zO gZ gN a8 aY vT gT vV x0 xO dI
 refine⟨i,rfl,rfl,rfl,rfl,rfl,rfl,rfl,rfl,rfl,rfl,rfl,⟨⟨ha,by omega⟩,by omega,by omega,by omega⟩,fun _ _=> ?_⟩
 simp only[y0a,xD,rL]
 refine Cv.cnd.mk (fun c=> ?_) (fun c=> ?_)
 ·obtain⟨r,hr⟩:=zUz c
  have hlt:=(yZz.1 hr).1
  have e:i.b.queueF 1 i.price=(i.b,r.queue):=by rw[Book.queueF,yZy (by rw[rL];exact c),rL,zT hr]
  rw[e]
  refine⟨⟨by omega,by omega⟩,r.queue,elA (by simpa using hr) (by simp[zC]) rfl,(),?_⟩
  (repeat'(first|exact trivial|exact rfl|apply be))
 ·have e:i.b.queueF 1 i.price=({i.b with a:=i.b.newQ.2.2,buys:=i.b.ins 1 i.price,spare:=i.b.newQ.2.1},i.b.newQ.1):=by
   rw[Book.queueF,yZx (by rw[rL,c];decide),yZy rfl]
  have hins:aa zC (i.b.ins 1 i.price)=ab (zW 1 i.b.buys i.price) (aa zC i.b.buys)++zC ⟨i.price,i.b.newQ.1⟩::ac (zW 1 i.b.buys i.price) (aa zC i.b.buys):=by
   rw[Book.ins,rL,y0j,y0l,y4d,y4r]
  rw[e]
  refine zJ (fun d=> ?_) (fun d=> ?_)
  ·have w:af.wrap ((i.b.spare.length:Int)-1)=((i.b.spare.length-1:Nat):Int):=by rw[w64 (by omega)];omega
   rw[w]
   simp only[y0s]
   obtain⟨q,hq⟩:=z8 (l:=i.b.spare) (i:=i.b.spare.length-1) (by omega)
   have eq:i.b.newQ=(q,i.b.spare.take (i.b.spare.length-1),i.b.a):=by rw[Book.newQ,yZx (by omega),zT hq]
   rw[eq]at hins ⊢
   refine⟨⟨by omega,by omega⟩,q,elI hq,⟨by omega,by omega⟩,trivial,⟨i.b.buys.map zC,zC ⟨i.price,q⟩,zW 1 i.b.buys i.price⟩,rfl,rfl,rfl,⟨by rw[y0a];exact hle,by rw[y0a];omega⟩,fun _ _=>⟨(),?_⟩⟩
   have hs:iE (i.b.spare.take (i.b.spare.length-1))=(iE i.b.spare).take (i.b.spare.length-1):=by simp only[iE,y4d]
   exact kp
  ·have eq:i.b.newQ=((i.b.a.queues.length:Int),i.b.spare,i.b.a.openQ):=by rw[Book.newQ,yZy (by omega)]
   rw[eq]at hins ⊢
   refine⟨i.b.a,rfl,by omega,fun _ _=>⟨trivial,⟨i.b.buys.map zC,zC ⟨i.price,i.b.a.queues.length⟩,zW 1 i.b.buys i.price⟩,rfl,rfl,rfl,⟨by rw[y0a];exact hle,by rw[y0a];omega⟩,fun _ _=>⟨(),?_⟩⟩⟩
   exact kp
theorem zEq:vO Tryz.prog 296=au (304,2,16,#[.int .i64 0,.int .i64 0]):=by kernel_rfl
theorem z4x:insRC.ok Tryz.prog 295:=
 insX_ok (tS:=296) (tI:=3) (fO:=308) (fR:=309) (z:= #[.int .i64 0,.int .i64 0]) mixed Tryz.func295 rfl (by kernel_rfl) (by kernel_rfl) (by kernel_rfl) (by kernel_rfl) zEq rfl (by decide) (by decide) (by kernel_rfl) Tryz.underlying3
  (z3h (tS:=296) (tB:=4) Tryz.func308 (by kernel_rfl) (by kernel_rfl) (by kernel_rfl) (by kernel_rfl) zEq) (fun s sn sk i v vn vk w R=>by kernel_rfl)
theorem z6q:queue1C.ok Tryz.prog 268:=okw mixed (gokc zKw (gokc zXm (gokc z4x gok0))) 0 (fun _=>[]) (fun _=>[]) [] Tryz.func268 yLb
theorem yPk (i:BkP) (h:find2C.cnd i):yBp i:=by
 obtain⟨_,h1,h2,_⟩:i.b.small:=h
 unfold yBp zGv rT vK zAt xP dM pQ dI
 simp only[y0a,pY]
 refine⟨0,rfl,fun j=>j≤i.b.sells.length∧∀k<j,∀r,i.b.sells[k]? =au r→btr 2 r.price i.price=aq,fun j=>i.b.sells.length-j,⟨by omega,fun k hk=>by omega⟩,?_⟩
 rintro j ⟨h3,h4⟩
 refine zJ (fun hj=> ?_) (fun hj=> ?_)
 ·obtain⟨r,hr⟩:=z8 (l:=i.b.sells) (i:=j) (by omega)
  refine⟨⟨by omega,by omega⟩,r.price,elA hr (by simp[zC]) rfl,⟨2,r.price,i.price⟩,rfl,rfl,rfl,trivial,fun _ _=> ?_⟩
  dsimp only
  refine Cv.cnd.mk (fun e=>⟨j+1,by rw[w64 (by omega)];rfl,⟨by omega,fun k hk x hx=> ?_⟩,by(first|omega|(dsimp only;omega)),k0q⟩) (fun e=>zJ (fun _=> ?_) (fun c=>absurd hj c))
  ·rcases y2v k j with hk'|hk'
   ·exact h4 k hk' x hx
   ·obtain rfl:k=j:=by omega
    rw[hr]at hx;cases hx;exact e
  ·have en:zW 2 i.b.sells i.price=j:=mL h3 h4 fun x hx=>by rw[hr]at hx;cases hx;exact e
   have eb:kL 2 i.b.sells i.price=(r.price==i.price):=by rw[kL,en,hr];exact(zUq _ _).symm
   refine⟨⟨by omega,by omega⟩,r.price,elA hr (by simp[zC]) rfl,(),by rw[en],eb,?_⟩
   (repeat'(first|exact trivial|exact rfl|apply be))
 ·have en:zW 2 i.b.sells i.price=j:=mL h3 h4 fun x hx=>by have:=(yZz.1 hx).1;omega
  have eb:kL 2 i.b.sells i.price=ar:=by rw[kL,en,y1e (by omega)]
  refine zJ (fun c=>absurd c hj) (fun _=>⟨(),by rw[en],eb,?_⟩)
  (repeat'(first|exact trivial|exact rfl|apply be))
theorem zMj:find2C.ok Tryz.prog 270:=okw mixed (gokc bZ gok0) 0 (fun _=>[]) (fun _=>yNz) [] Tryz.func270 yPk
theorem ySz (i:LdI) (h:lead2C.cnd i):z9z i:=by
 obtain⟨⟨ha,_⟩,h1,h2,_⟩:i.b.small:=h
 unfold z9z zAd zBz nW f9 dI
 have no (e:i.b.untop 2=i.b.a):ag Arena 3 zG (i.b.untop 2)=zS i.b 1:=by rw[e];rfl
 refine Cv.cnd.mk (fun c=> ?_) (fun c=>⟨(),?_⟩)
 ·have c:i.b.hasF 2=aq:=c
  refine⟨jV _ _,(pget i.b.at_ i.b.top2).isSome,_,_,_,zRb _ _,⟨jV _ _,(pget i.b.at_ i.b.top2).isSome,_,_,_,zRb _ _,⟨rfl,rfl,rfl,trivial⟩,rfl,trivial⟩,rfl,trivial,Cv.cnd.mk (fun d=>Cv.cnd.mk (fun e=> ?_) (fun e=>⟨(),?_⟩)) (fun d=>⟨(),?_⟩)⟩
  ·obtain⟨o,ho⟩:=y5u.1 d
   have e:o.side=2:=by rw[ho]at e;simpa using e
   have eu:i.b.untop 2=i.b.a.topF o.slot ar:=by
    have ht:pget i.b.at_ (i.b.topI 2)=au o:=ho
    rw[Book.untop,yZy c,ht];dsimp only;rw[yZy e]
   refine⟨⟨i.b.a,o.slot,ar⟩,by rw[ho];rfl,rfl,rfl,ha,fun _ _=>⟨(),?_⟩⟩
   rw[eu];(repeat'(first|exact trivial|exact rfl|apply be))
  ·obtain⟨o,ho⟩:=y5u.1 d
   have e:¬o.side=2:=by rw[ho]at e;simpa using e
   have ht:pget i.b.at_ (i.b.topI 2)=au o:=ho
   rw[no (by rw[Book.untop,yZy c,ht];dsimp only;rw[yZx e])];(repeat'(first|exact trivial|exact rfl|apply be))
  ·have ht:pget i.b.at_ (i.b.topI 2)=av:=by
    show pget i.b.at_ i.b.top2=av
    simpa using d
   rw[no (by rw[Book.untop,yZy c,ht])];(repeat'(first|exact trivial|exact rfl|apply be))
 ·have c:¬i.b.hasF 2=aq:=by rw[show i.b.hasF 2=i.b.has2 from rfl,c];decide
  rw[no (by rw[Book.untop,yZx c])];(repeat'(first|exact trivial|exact rfl|apply be))
theorem yAs:lead2C.ok Tryz.prog 266:=okw mixed (gokc z2g gok0) 0 (fun _=>[]) (fun _=>[]) [] Tryz.func266 ySz
theorem yKr (i:BkP) (h:queue2C.cnd i):z3r i:=by
 obtain⟨⟨ha,_⟩,ha',h1,h2,h3⟩:i.b.fit:=h
 have hle:=zEe 2 i.price i.b.sells
 unfold z3r zP g8 vK gZ gN a8 aY vT x0 xP dI
 refine⟨i,rfl,rfl,rfl,rfl,rfl,rfl,rfl,rfl,rfl,rfl,rfl,⟨⟨ha,by omega⟩,by omega,by omega,by omega⟩,fun _ _=> ?_⟩
 simp only[y0a,xD,pY]
 refine Cv.cnd.mk (fun c=> ?_) (fun c=> ?_)
 ·obtain⟨r,hr⟩:=zUz c
  have hlt:=(yZz.1 hr).1
  have e:i.b.queueF 2 i.price=(i.b,r.queue):=by rw[Book.queueF,yZy (by rw[pY];exact c),pY,zT hr]
  rw[e]
  refine⟨⟨by omega,by omega⟩,r.queue,elA (by simpa using hr) (by simp[zC]) rfl,(),?_⟩
  (repeat'(first|exact trivial|exact rfl|apply be))
 ·have e:i.b.queueF 2 i.price=({i.b with a:=i.b.newQ.2.2,sells:=i.b.ins 2 i.price,spare:=i.b.newQ.2.1},i.b.newQ.1):=by
   rw[Book.queueF,yZx (by rw[pY,c];decide),yZx (by decide)]
  have hins:aa zC (i.b.ins 2 i.price)=ab (zW 2 i.b.sells i.price) (aa zC i.b.sells)++zC ⟨i.price,i.b.newQ.1⟩::ac (zW 2 i.b.sells i.price) (aa zC i.b.sells):=by
   rw[Book.ins,pY,y0j,y0l,y4d,y4r]
  rw[e]
  refine zJ (fun d=> ?_) (fun d=> ?_)
  ·have w:af.wrap ((i.b.spare.length:Int)-1)=((i.b.spare.length-1:Nat):Int):=by rw[w64 (by omega)];omega
   rw[w]
   simp only[y0s]
   obtain⟨q,hq⟩:=z8 (l:=i.b.spare) (i:=i.b.spare.length-1) (by omega)
   have eq:i.b.newQ=(q,i.b.spare.take (i.b.spare.length-1),i.b.a):=by rw[Book.newQ,yZx (by omega),zT hq]
   rw[eq]at hins ⊢
   refine⟨⟨by omega,by omega⟩,q,elI hq,⟨by omega,by omega⟩,trivial,⟨i.b.sells.map zC,zC ⟨i.price,q⟩,zW 2 i.b.sells i.price⟩,rfl,rfl,rfl,⟨by rw[y0a];exact hle,by rw[y0a];omega⟩,fun _ _=>⟨(),?_⟩⟩
   have hs:iE (i.b.spare.take (i.b.spare.length-1))=(iE i.b.spare).take (i.b.spare.length-1):=by simp only[iE,y4d]
   exact kp
  ·have eq:i.b.newQ=((i.b.a.queues.length:Int),i.b.spare,i.b.a.openQ):=by rw[Book.newQ,yZy (by omega)]
   rw[eq]at hins ⊢
   refine⟨i.b.a,rfl,by omega,fun _ _=>⟨trivial,⟨i.b.sells.map zC,zC ⟨i.price,i.b.a.queues.length⟩,zW 2 i.b.sells i.price⟩,rfl,rfl,rfl,⟨by rw[y0a];exact hle,by rw[y0a];omega⟩,fun _ _=>⟨(),?_⟩⟩⟩
   exact kp
theorem z6w:queue2C.ok Tryz.prog 268:=okw mixed (gokc zMj (gokc zXm (gokc z4x gok0))) 0 (fun _=>[]) (fun _=>[]) [] Tryz.func268 yKr
open Go Cv Go.Proofs
structure BaI where
 b:Book
 id:Int
 price:Int
 qty:Int
def Book.leads (b:Book) (s price:Int):Bool:=match b.rungs s with
 |[]=>aq
 |r::_=>btr s price r.price
def Book.led (b:Book) (id s price:Int):Book:=if b.leads s price=aq then b.leadF id s else b
def Book.stand (b:Book) (s id price qty:Int):Book:=
 let b2:=(b.led id s price).queueF s price
 let x:=b2.1.a.push b2.2 id qty (b.leads s price)
 {b2.1 with a:=x.1,at_:=pE id ⟨s,price,x.2.1⟩ b2.1.at_}
def Book.addF (b:Book) (s id price qty:Int):Book×Int:=
 if qty<1∨1000000<qty then(b,24)else if(pget b.at_ id).isSome=aq then(b,25)else if 250≤b.at_.length then(b,13)else(b.stand s id price qty,0)
def yDp (s:Int):Con:=con1 BaI (fun i=>[.nm 0 0,zA i.id,zA s,zA i.price,zA i.qty]) (fun i=>[z6 i.b]) (fun i=>i.b.fit) (fun i=>zA (i.b.addF s i.id i.price i.qty).2) (fun i=>[z6 (i.b.addF s i.id i.price i.qty).1])
def yMh:List (Nat×SAnn):=[(44,bj 14)]
def badd1C:Con:=yDp 1
def badd2C:Con:=yDp 2
structure BaJ where
 i:BaI
 s:Bool
def baddC:Con:=con1 BaJ (fun j=>[.nm 0 0,zA j.i.id,zA (zD j.s),zA j.i.price,zA j.i.qty]) (fun j=>[z6 j.i.b]) (fun j=>j.i.b.fit) (fun j=>zA (j.i.b.addF (zD j.s) j.i.id j.i.price j.i.qty).2) (fun j=>[z6 (j.i.b.addF (zD j.s) j.i.id j.i.price j.i.qty).1])
structure SaI where
 s:MSt
 inst:Int
 id:Int
 sd:Bool
 price:Int
 qty:Int
def MSt.bookAt (s:MSt) (n:Int):Book:=s.books.getD n.toNat book0
def MSt.addF (i:SaI):MSt×Int:=
 if i.inst<0∨i.s.books.length≤i.inst then(i.s,20)else if(zBg i.s.wh i.id).isSome=aq then(i.s,25)else if 250≤i.s.wh.length then(i.s,13)else if i.s.p.price i.inst i.price≠0 then(i.s,i.s.p.price i.inst i.price)
 else
  let x:=(i.s.bookAt i.inst).addF (zD i.sd) i.id i.price i.qty
  ({i.s with books:=i.s.books.set i.inst.toNat x.1,wh:=if x.2=0 then zXn i.id i.inst i.s.wh else i.s.wh},x.2)
@[reducible] def MSt.fit (s:MSt):Prop:=s.p.small∧s.books.length≤1000000∧∀b∈s.books,b.fit
def saddC:Con:=con1 SaI (fun i=>[.nm 0 0,zA i.inst,zA i.id,zA (zD i.sd),zA i.price,zA i.qty]) (fun i=>[zF i.s]) (fun i=>i.s.fit) (fun i=>zA (MSt.addF i).2) (fun i=>[zF (MSt.addF i).1])
open Go Cv Go.Proofs
def rM (a:BkP):Prop:=(a.b.a.slots.length≤1000000∧(a.b.a.free≠0→∃(b:Slot),b∈a.b.a.slots∧b.used=ar)∧∀(b:cH),b∈a.b.a.queues→b.last=(-1)∨0≤b.last∧b.last<(↑a.b.a.slots.length:Int))∧a.b.a.queues.length≤100000∧a.b.buys.length≤100000∧a.b.sells.length≤100000∧a.b.spare.length≤100000
def pI (a:PuI):Prop:=a.a.slots.length≤1000000∧(a.a.free≠0→∃(b:Slot),b∈a.a.slots∧b.used=ar)∧∀(b:cH),b∈a.a.queues→b.last=(-1)∨0≤b.last∧b.last<(↑a.a.slots.length:Int)
def yL (a:BaI):=(a.b.addF 1 a.id a.price a.qty)
def zEs (a:BkP) (b:BaI) (c:Bool):Prop:=(rM a)∧∀(d:Unit),True→True∧∃(e:PuI),e.n=(zO a).snd∧e.id=b.id∧e.qty=b.qty∧e.top=c∧ag Arena 3 zG e.a=ag Arena 3 zG (zO a).fst.a∧(pI e)∧∀(f:Unit),True→(∀(g:bo×List D),g∈atE (zO a).fst.at_→like (aw af b.id) g.fst=aq)∧∃(g:Unit),(yL b).snd=0∧(yL b).fst.top1=(zO a).fst.top1∧(yL b).fst.top2=(zO a).fst.top2∧(yL b).fst.has1=(zO a).fst.has1∧(yL b).fst.has2=(zO a).fst.has2∧ag Arena 3 zG (yL b).fst.a=ag Arena 3 zG (yI e).fst∧aa zC (yL b).fst.buys=aa zC (zO a).fst.buys∧aa zC (yL b).fst.sells=aa zC (zO a).fst.sells∧atE (yL b).fst.at_=fM (aw af b.id) [dI 1,dI b.price,dI ((yI e).snd.fst)] (atE (zO a).fst.at_)∧iE (yL b).fst.spare=iE (zO a).fst.spare∧True
def lK (a:Bool→Prop) (b:Bool) (c:Int) (d:Int) (e:Int) (f:BaI):Prop:=a b∧am [V.d (dI c),V.d (dI d),V.d (dI e)] 313=am [V.d (dI c),V.d (dI d),V.d (dI e)] 313∧am (vI (jE 0 1 6) [V.nm 1 0,V.own 2,V.own 3,V.mp 4,zA f.b.top1,zA f.b.top2,V.own 5,yF f.b.has1,yF f.b.has2]) (299:ce)=am (vI (jE 0 1 6) [V.nm 1 0,V.own 2,V.own 3,V.mp 4,zA f.b.top1,zA f.b.top2,V.own 5,yF f.b.has1,yF f.b.has2]) (299:ce)∧ag Arena 3 zG f.b.a=ag Arena 3 zG f.b.a∧aj 304 2 (aa zC f.b.buys)=aj 304 2 (aa zC f.b.buys)∧aj 304 2 (aa zC f.b.sells)=aj 304 2 (aa zC f.b.sells)∧ap (atE f.b.at_)=ap (atE f.b.at_)∧aj 3 1 (iE f.b.spare)=aj 3 1 (iE f.b.spare)
def eN (a:I3') (b:BaI) (c:Int) (d:Bool→Prop) (e:Int) (f:Int) (g:Int):Prop:=a.x=b.price∧a.y=c∧True∧∀(h:Unit),True→∃(j:Bool),j=btr a.side a.x a.y∧lK d j e f g b
def eD (a:Bool→Prop) (b:Int) (c:Int) (d:Int) (e:BaI):Prop:=∃(f:Bool),f=aq∧lK a f b c d e
def nP (a:BaI):Prop:=(yL a).fst.top1=a.b.top1∧(yL a).fst.top2=a.b.top2∧(yL a).fst.has1=a.b.has1∧(yL a).fst.has2=a.b.has2∧ag Arena 3 zG (yL a).fst.a=ag Arena 3 zG a.b.a∧aa zC (yL a).fst.buys=aa zC a.b.buys∧aa zC (yL a).fst.sells=aa zC a.b.sells∧atE (yL a).fst.at_=atE a.b.at_∧iE (yL a).fst.spare=iE a.b.spare∧True
def zGk (a:BaI):Prop:=∃(b:Unit),(yL a).snd=24∧nP a
def rI (a:BaI) (b:Int) (c:Int) (d:Int) (e:Bool):Prop:=uM (aw af a.id) (atE a.b.at_)=au [dI b,dI c,dI d]∧e=aq∨uM (aw af a.id) (atE a.b.at_)=av∧[dI b,dI c,dI d]=[dI 0,dI 0,dI 0]∧e=ar
def rJ (a:LdI):Prop:=(a.b.a.slots.length≤1000000∧a.b.a.queues.length≤1000000)∧a.b.buys.length≤1000000∧a.b.sells.length≤1000000∧a.b.spare.length≤1000000
def qR (a:Int):=(!(decide (a=1)||decide (a=2)))
def yFr (i:BaI):Prop:=
 (∀(a:bo×List D),a∈atE i.b.at_→like (aw af i.id) a.fst=aq)∧∃(a:Bool),∃(b:Int),∃(c:Int),∃(d:Int),(rI i b c d a)∧∃(e:Int),e=1∧True∧∀(f:Unit),True→cnd (qR e) (∃(g:Unit),(yL i).snd=21∧nP i) (cnd (decide (i.qty<1)) (zGk i) (cnd (decide (i.qty>1000000)) (zGk i) (cnd a (∃(g:Unit),(yL i).snd=25∧nP i) (cnd (decide ((↑(atE i.b.at_).length:Int)≥250)) (∃(g:Unit),(yL i).snd=13∧nP i) (∃(g:Bool),∃(h:Bool→Prop),cnd ((↑(aa zC i.b.buys).length:Int)==0) (eD h b c d i) (((0:Int)≤(0:Int)∧0<(↑(aa zC i.b.buys).length:Int))∧∃(j:Int),zE (aa zC i.b.buys) (ci 0) ((0:Nat)+(0:Nat)) 1=au [dI j]∧∃(k:I3'),k.side=1∧eN k i j h b c d)∧∀(j:Bool),h j→cnd j (∃(k:LdI),k.id=i.id∧(1:Int)=(1:Int)∧k.b.top1=i.b.top1∧k.b.top2=i.b.top2∧k.b.has1=i.b.has1∧k.b.has2=i.b.has2∧ag Arena 3 zG k.b.a=ag Arena 3 zG i.b.a∧aa zC k.b.buys=aa zC i.b.buys∧aa zC k.b.sells=aa zC i.b.sells∧atE k.b.at_=atE i.b.at_∧iE k.b.spare=iE i.b.spare∧(rJ k)∧∀(l:Unit),True→∃(m:BkP),(1:Int)=(1:Int)∧m.price=i.price∧m.b.top1=k.id∧m.b.top2=k.b.top2∧m.b.has1=aq∧m.b.has2=k.b.has2∧ag Arena 3 zG m.b.a=ag Arena 3 zG (k.b.untop 1)∧aa zC m.b.buys=aa zC k.b.buys∧aa zC m.b.sells=aa zC k.b.sells∧atE m.b.at_=atE k.b.at_∧iE m.b.spare=iE k.b.spare∧zEs m i j) (∃(k:BkP),(1:Int)=(1:Int)∧k.price=i.price∧k.b.top1=i.b.top1∧k.b.top2=i.b.top2∧k.b.has1=i.b.has1∧k.b.has2=i.b.has2∧ag Arena 3 zG k.b.a=ag Arena 3 zG i.b.a∧aa zC k.b.buys=aa zC i.b.buys∧aa zC k.b.sells=aa zC i.b.sells∧atE k.b.at_=atE i.b.at_∧iE k.b.spare=iE i.b.spare∧zEs k i j))))))
def yM (a:BaI):=(a.b.addF 2 a.id a.price a.qty)
def zGc (a:BkP) (b:BaI) (c:Bool):Prop:=(rM a)∧∀(d:Unit),True→True∧∃(e:PuI),e.n=(zP a).snd∧e.id=b.id∧e.qty=b.qty∧e.top=c∧ag Arena 3 zG e.a=ag Arena 3 zG (zP a).fst.a∧(pI e)∧∀(f:Unit),True→(∀(g:bo×List D),g∈atE (zP a).fst.at_→like (aw af b.id) g.fst=aq)∧∃(g:Unit),(yM b).snd=0∧(yM b).fst.top1=(zP a).fst.top1∧(yM b).fst.top2=(zP a).fst.top2∧(yM b).fst.has1=(zP a).fst.has1∧(yM b).fst.has2=(zP a).fst.has2∧ag Arena 3 zG (yM b).fst.a=ag Arena 3 zG (yI e).fst∧aa zC (yM b).fst.buys=aa zC (zP a).fst.buys∧aa zC (yM b).fst.sells=aa zC (zP a).fst.sells∧atE (yM b).fst.at_=fM (aw af b.id) [dI 2,dI b.price,dI ((yI e).snd.fst)] (atE (zP a).fst.at_)∧iE (yM b).fst.spare=iE (zP a).fst.spare∧True
def mU (a:BaI):Prop:=(yM a).fst.top1=a.b.top1∧(yM a).fst.top2=a.b.top2∧(yM a).fst.has1=a.b.has1∧(yM a).fst.has2=a.b.has2∧ag Arena 3 zG (yM a).fst.a=ag Arena 3 zG a.b.a∧aa zC (yM a).fst.buys=aa zC a.b.buys∧aa zC (yM a).fst.sells=aa zC a.b.sells∧atE (yM a).fst.at_=atE a.b.at_∧iE (yM a).fst.spare=iE a.b.spare∧True
def zGb (a:BaI):Prop:=∃(b:Unit),(yM a).snd=24∧mU a
def yFm (i:BaI):Prop:=
 (∀(a:bo×List D),a∈atE i.b.at_→like (aw af i.id) a.fst=aq)∧∃(a:Bool),∃(b:Int),∃(c:Int),∃(d:Int),(rI i b c d a)∧∃(e:Int),e=2∧True∧∀(f:Unit),True→cnd (qR e) (∃(g:Unit),(yM i).snd=21∧mU i) (cnd (decide (i.qty<1)) (zGb i) (cnd (decide (i.qty>1000000)) (zGb i) (cnd a (∃(g:Unit),(yM i).snd=25∧mU i) (cnd (decide ((↑(atE i.b.at_).length:Int)≥250)) (∃(g:Unit),(yM i).snd=13∧mU i) (∃(g:Bool),∃(h:Bool→Prop),cnd ((↑(aa zC i.b.sells).length:Int)==0) (eD h b c d i) (((0:Int)≤(0:Int)∧0<(↑(aa zC i.b.sells).length:Int))∧∃(j:Int),zE (aa zC i.b.sells) (ci 0) ((0:Nat)+(0:Nat)) 1=au [dI j]∧∃(k:I3'),k.side=2∧eN k i j h b c d)∧∀(j:Bool),h j→cnd j (∃(k:LdI),k.id=i.id∧(2:Int)=(2:Int)∧k.b.top1=i.b.top1∧k.b.top2=i.b.top2∧k.b.has1=i.b.has1∧k.b.has2=i.b.has2∧ag Arena 3 zG k.b.a=ag Arena 3 zG i.b.a∧aa zC k.b.buys=aa zC i.b.buys∧aa zC k.b.sells=aa zC i.b.sells∧atE k.b.at_=atE i.b.at_∧iE k.b.spare=iE i.b.spare∧(rJ k)∧∀(l:Unit),True→∃(m:BkP),(2:Int)=(2:Int)∧m.price=i.price∧m.b.top1=k.b.top1∧m.b.top2=k.id∧m.b.has1=k.b.has1∧m.b.has2=aq∧ag Arena 3 zG m.b.a=ag Arena 3 zG (k.b.untop 2)∧aa zC m.b.buys=aa zC k.b.buys∧aa zC m.b.sells=aa zC k.b.sells∧atE m.b.at_=atE k.b.at_∧iE m.b.spare=iE k.b.spare∧zGc m i j) (∃(k:BkP),(2:Int)=(2:Int)∧k.price=i.price∧k.b.top1=i.b.top1∧k.b.top2=i.b.top2∧k.b.has1=i.b.has1∧k.b.has2=i.b.has2∧ag Arena 3 zG k.b.a=ag Arena 3 zG i.b.a∧aa zC k.b.buys=aa zC i.b.buys∧aa zC k.b.sells=aa zC i.b.sells∧atE k.b.at_=atE i.b.at_∧iE k.b.spare=iE i.b.spare∧zGc k i j))))))
def zFa (a:SaI):Prop:=ak 1 (iE (MSt.addF a).fst.p.months)=ak 1 (iE a.s.p.months)∧ak 1 (iE (MSt.addF a).fst.p.settle)=ak 1 (iE a.s.p.settle)∧True
def zEr (a:SaI):Prop:=yW (MSt.addF a).fst.wh=yW a.s.wh∧zFa a
def tO (a:SaI):Prop:=sb (MSt.addF a).fst.p.code=sb a.s.p.code∧(MSt.addF a).fst.p.tick=a.s.p.tick∧(MSt.addF a).fst.p.low=a.s.p.low∧(MSt.addF a).fst.p.high=a.s.p.high∧(MSt.addF a).fst.p.wide=a.s.p.wide∧(MSt.addF a).fst.p.rule=a.s.p.rule∧(MSt.addF a).fst.p.top=a.s.p.top∧(MSt.addF a).fst.p.least=a.s.p.least∧(MSt.addF a).fst.p.part=a.s.p.part∧ao 241 Book 6 zS (MSt.addF a).fst.books av=ao 241 Book 6 zS a.s.books av∧zEr a
def zMi (a:SaI):Prop:=∃(b:Unit),(MSt.addF a).snd=20∧tO a
def mN (a:BaJ):=(a.i.b.addF (zD a.s) a.i.id a.i.price a.i.qty)
def yMg (i:SaI):Prop:=
 (∀(a:bo×List D),a∈yW i.s.wh→like (aw af i.id) a.fst=aq)∧∃(a:Bool),∃(b:Int),(uM (aw af i.id) (yW i.s.wh)=au [dI b]∧a=aq∨uM (aw af i.id) (yW i.s.wh)=av∧[dI b]=[dI 0]∧a=ar)∧cnd (decide (i.inst≥0)) (cnd (!decide (i.inst<(↑i.s.books.length:Int))) (zMi i) (cnd a (∃(c:Unit),(MSt.addF i).snd=25∧tO i) (cnd (decide ((↑(yW i.s.wh).length:Int)≥250)) (∃(c:Unit),(MSt.addF i).snd=13∧tO i) (∃(c:r9),sb c.p.code=sb i.s.p.code∧iE c.p.months=iE i.s.p.months∧c.p.tick=i.s.p.tick∧c.p.low=i.s.p.low∧c.p.high=i.s.p.high∧c.p.wide=i.s.p.wide∧c.p.rule=i.s.p.rule∧c.p.top=i.s.p.top∧c.p.least=i.s.p.least∧c.p.part=i.s.p.part∧iE c.p.settle=iE i.s.p.settle∧c.a=i.inst∧c.b=i.price∧(xZ c)∧∀(d:Unit),True→cnd (c.p.price c.a c.b !=0) (∃(e:Unit),(MSt.addF i).snd=c.p.price c.a c.b∧tO i) ((0≤i.inst∧i.inst<(↑i.s.books.length:Int))∧i.inst.toNat<i.s.books.length∧∃(e:Book),i.s.books[i.inst.toNat]?=au e∧∃(f:BaJ),f.i.id=i.id∧zD f.s=zD i.sd∧f.i.price=i.price∧f.i.qty=i.qty∧z6 f.i.b=z6 e∧((f.i.b.a.slots.length≤1000000∧(f.i.b.a.free≠0→∃(g:Slot),g∈f.i.b.a.slots∧g.used=ar)∧∀(g:cH),g∈f.i.b.a.queues→g.last=(-1)∨0≤g.last∧g.last<(↑f.i.b.a.slots.length:Int))∧f.i.b.a.queues.length≤100000∧f.i.b.buys.length≤100000∧f.i.b.sells.length≤100000∧f.i.b.spare.length≤100000)∧∀(g:Unit),True→∃(h:Book),z6 (mN f).fst=z6 h∧i.inst.toNat=i.inst.toNat∧i.inst.toNat<i.s.books.length∧cnd ((mN f).snd==0) ((∀(j:bo×List D),j∈yW i.s.wh→like (aw af i.id) j.fst=aq)∧∃(j:Unit),(MSt.addF i).snd=(mN f).snd∧sb (MSt.addF i).fst.p.code=sb i.s.p.code∧(MSt.addF i).fst.p.tick=i.s.p.tick∧(MSt.addF i).fst.p.low=i.s.p.low∧(MSt.addF i).fst.p.high=i.s.p.high∧(MSt.addF i).fst.p.wide=i.s.p.wide∧(MSt.addF i).fst.p.rule=i.s.p.rule∧(MSt.addF i).fst.p.top=i.s.p.top∧(MSt.addF i).fst.p.least=i.s.p.least∧(MSt.addF i).fst.p.part=i.s.p.part∧ao 241 Book 6 zS (MSt.addF i).fst.books av=ao 241 Book 6 zS (i.s.books.set i.inst.toNat h) av∧yW (MSt.addF i).fst.wh=fM (aw af i.id) [dI i.inst] (yW i.s.wh)∧zFa i) (∃(j:Unit),(MSt.addF i).snd=(mN f).snd∧sb (MSt.addF i).fst.p.code=sb i.s.p.code∧(MSt.addF i).fst.p.tick=i.s.p.tick∧(MSt.addF i).fst.p.low=i.s.p.low∧(MSt.addF i).fst.p.high=i.s.p.high∧(MSt.addF i).fst.p.wide=i.s.p.wide∧(MSt.addF i).fst.p.rule=i.s.p.rule∧(MSt.addF i).fst.p.top=i.s.p.top∧(MSt.addF i).fst.p.least=i.s.p.least∧(MSt.addF i).fst.p.part=i.s.p.part∧ao 241 Book 6 zS (MSt.addF i).fst.books av=ao 241 Book 6 zS (i.s.books.set i.inst.toNat h) av∧zEr i)))))) (zMi i)
open Go Cv Go.Proofs
theorem zOa {α:Type} {f:α→α} {Q:α→Prop} (hf:∀x,Q x→Q (f x)):∀{l:List α} (i:Nat),(∃x∈l,Q x)→∃x∈l.modify i f,Q x
 |[],i,⟨x,hx,_⟩=>by cases hx
 |a::l,0,⟨x,hx,q⟩=>by
  rcases y0m.1 hx with rfl|hx
  ·exact⟨f x,y0d,hf x q⟩
  ·exact⟨x,y0c _ hx,q⟩
 |a::l,i+1,⟨x,hx,q⟩=>by
  rw[y5n]
  rcases y0m.1 hx with rfl|hx
  ·exact⟨x,y0d,q⟩
  ·obtain⟨y,hy,hq⟩:=zOa hf (l:=l) i ⟨x,hx,q⟩
   exact⟨y,y0c _ hy,hq⟩
theorem yDy {a:Arena} (h:a.fit) (n:Int) (t:Bool):(a.topF n t).fit:=by
 obtain⟨h1,h2,h3⟩:=h
 rw[Arena.topF]
 split
 ·refine⟨by simpa using h1,fun hf=> ?_,by simpa using h3⟩
  exact zOa (f:=fun s:Slot=>{s with top:=t}) (Q:=fun s=>s.used=ar) (fun x hx=>hx) _ (h2 hf)
 ·exact⟨h1,h2,h3⟩
theorem z8i {b:Book} (h:b.a.fit) (s:Int):(b.untop s).fit:=by
 rw[Book.untop]
 repeat' split
 all_goals first|exact h|exact yDy h _ _
theorem z7i {a:Arena} (h:a.fit):a.openQ.fit:=by
 obtain⟨h1,h2,h3⟩:=h
 refine⟨h1,h2,fun q hq=> ?_⟩
 rcases y0u.1 hq with hq|hq
 ·exact h3 q hq
 ·rw[y1k.1 hq];exact .inl rfl
theorem zXe {b:Book} (h:b.a.fit):b.newQ.2.2.fit:=by
 rw[Book.newQ]
 split
 ·exact z7i h
 ·exact h
theorem rD {b:Book} (h:b.a.fit) (s p:Int):(b.queueF s p).1.a.fit:=by
 rw[Book.queueF]
 repeat' split
 ·exact h
 ·exact zXe h
 ·exact zXe h
theorem z9f (b:Book) (s:Int):(b.untop s).slots.length=b.a.slots.length∧(b.untop s).queues=b.a.queues:=by
 have ht:∀n t,(b.a.topF n t).slots.length=b.a.slots.length∧(b.a.topF n t).queues=b.a.queues:=by
  intro n t
  rw[Arena.topF]
  split
  ·exact⟨by simp,rfl⟩
  ·exact⟨rfl,rfl⟩
 rw[Book.untop]
 repeat' split
 all_goals first|exact⟨rfl,rfl⟩|exact ht _ _
theorem zPi {b:Book} (h:b.fit) (id s:Int):(b.leadF id s).fit:=by
 obtain⟨h1,h2,h3,h4,h5⟩:=h
 have hl:=z9f b s
 rw[Book.leadF]
 split
 all_goals exact⟨z8i h1 s,by rw[hl.2];exact h2,h3,h4,h5⟩
theorem zRk {b:Book} (h:b.fit):b.small:=by
 obtain⟨⟨h1,_⟩,h2,h3,h4,h5⟩:=h
 exact⟨⟨h1,by omega⟩,by omega,by omega,by omega⟩
theorem yRs (i:BaI) (h:badd1C.cnd i):yFr i:=by
 have hfit:i.b.fit:=h
 have hsm:=zRk hfit
 unfold yFr zGk nP eD eN lK qR zEs zO yL pI rM yI rJ rI dI
 have plc:∀(b:Book) (x:Int),fM (aw af i.id) [D.v (.int .i64 1),D.v (.int .i64 i.price),D.v (.int .i64 x)] (atE b.at_)=atE (pE i.id ⟨1,i.price,x⟩ b.at_):=fun b x=>zSy i.id ⟨1,i.price,x⟩ b.at_
 refine⟨jV _ _,(pget i.b.at_ i.id).isSome,_,_,_,zRb _ _,1,rfl,trivial,fun _ _=> ?_⟩
 refine Cv.cnd.mk (fun c=>absurd c (by decide)) fun _=> ?_
 refine zJ (fun c=> ?_) (fun c=>zJ (fun d=> ?_) (fun d=> ?_))
 ·have ha:i.b.addF 1 i.id i.price i.qty=(i.b,24):=by rw[Book.addF,yZy (.inl c)]
  rw[ha];exact kp
 ·have ha:i.b.addF 1 i.id i.price i.qty=(i.b,24):=by rw[Book.addF,yZy (.inr d)]
  rw[ha];exact kp
 have hq:¬(i.qty<1∨1000000<i.qty):=by omega
 refine Cv.cnd.mk (fun e=> ?_) (fun e=> ?_)
 ·have ha:i.b.addF 1 i.id i.price i.qty=(i.b,25):=by rw[Book.addF,yZx hq,yZy e]
  rw[ha];exact kp
 have hlen:(atE i.b.at_).length=i.b.at_.length:=by simp[atE]
 rw[hlen]
 refine zJ (fun f=> ?_) (fun f=> ?_)
 ·have ha:i.b.addF 1 i.id i.price i.qty=(i.b,13):=by rw[Book.addF,yZx hq,yZx (by rw[e];decide),yZy (by omega)]
  rw[ha];exact kp
 have ha:i.b.addF 1 i.id i.price i.qty=(i.b.stand 1 i.id i.price i.qty,0):=by rw[Book.addF,yZx hq,yZx (by rw[e];decide),yZx (by omega)]
 rw[ha]
 simp only[y0a]
 refine⟨aq,fun x=>x=i.b.leads 1 i.price,Cv.cnd.mk (fun g=>⟨aq,rfl,?_,k0q⟩) (fun g=> ?_),fun x hx=> ?_⟩
 ·have:i.b.buys=[]:=y0y (by have:(i.b.buys.length:Int)=0:=(by simpa using g);omega)
  rw[Book.leads,rL,this]
 ·obtain⟨r,l,hl⟩:∃r l,i.b.buys=r::l:=by
   cases hb:i.b.buys with
   |nil=>rw[hb]at g;exact absurd g (by decide)
   |cons r l=>exact⟨r,l,rfl⟩
  refine⟨⟨by omega,by rw[hl,y0f];omega⟩,r.price,elA (x:=r) (by rw[hl];rfl) (by simp[zC]) rfl,⟨1,i.price,r.price⟩,rfl,rfl,rfl,trivial,fun _ _=>⟨_,rfl,?_,k0q⟩⟩
  rw[Book.leads,rL,hl]
 subst hx
 refine Cv.cnd.mk (fun g=> ?_) (fun g=> ?_)
 ·have hled:i.b.led i.id 1 i.price=i.b.leadF i.id 1:=by rw[Book.led,yZy g]
  have hf1:=zPi hfit i.id 1
  have hst:i.b.stand 1 i.id i.price i.qty={((i.b.leadF i.id 1).queueF 1 i.price).1 with a:=(((i.b.leadF i.id 1).queueF 1 i.price).1.a.push ((i.b.leadF i.id 1).queueF 1 i.price).2 i.id i.qty (i.b.leads 1 i.price)).1,at_:=pE i.id ⟨1,i.price,(((i.b.leadF i.id 1).queueF 1 i.price).1.a.push ((i.b.leadF i.id 1).queueF 1 i.price).2 i.id i.qty (i.b.leads 1 i.price)).2.1⟩ ((i.b.leadF i.id 1).queueF 1 i.price).1.at_}:=by
   simp only[Book.stand,hled]
  refine⟨⟨i.b,i.id⟩,rfl,trivial,rfl,rfl,rfl,rfl,rfl,rfl,rfl,rfl,rfl,hsm,fun _ _=>⟨⟨i.b.leadF i.id 1,i.price⟩,trivial,rfl,rfl,rfl,rfl,rfl,rfl,rfl,rfl,rfl,rfl,hf1,fun _ _=>⟨trivial,?_⟩⟩⟩
  refine⟨⟨((i.b.leadF i.id 1).queueF 1 i.price).1.a,((i.b.leadF i.id 1).queueF 1 i.price).2,i.id,i.qty,i.b.leads 1 i.price⟩,rfl,rfl,rfl,rfl,rfl,rD hf1.1 1 i.price,fun _ _=>⟨jV _ _,(),?_⟩⟩
  dsimp only
  rw[hst,plc]
  exact kp
 ·have hled:i.b.led i.id 1 i.price=i.b:=by rw[Book.led,yZx (by rw[g];decide)]
  have hst:i.b.stand 1 i.id i.price i.qty={(i.b.queueF 1 i.price).1 with a:=((i.b.queueF 1 i.price).1.a.push (i.b.queueF 1 i.price).2 i.id i.qty (i.b.leads 1 i.price)).1,at_:=pE i.id ⟨1,i.price,((i.b.queueF 1 i.price).1.a.push (i.b.queueF 1 i.price).2 i.id i.qty (i.b.leads 1 i.price)).2.1⟩ (i.b.queueF 1 i.price).1.at_}:=by
   simp only[Book.stand,hled]
  refine⟨⟨i.b,i.price⟩,trivial,rfl,rfl,rfl,rfl,rfl,rfl,rfl,rfl,rfl,rfl,hfit,fun _ _=>⟨trivial,?_⟩⟩
  refine⟨⟨(i.b.queueF 1 i.price).1.a,(i.b.queueF 1 i.price).2,i.id,i.qty,i.b.leads 1 i.price⟩,rfl,rfl,rfl,rfl,rfl,rD hfit.1 1 i.price,fun _ _=>⟨jV _ _,(),?_⟩⟩
  dsimp only
  rw[hst,plc]
  exact kp
theorem yGs:badd1C.ok Tryz.prog 240:=okw mixed (gokc sX (gokc bZ (gokc yGn (gokc z6q (gokc zVe gok0))))) 0 (fun _=>yMh) (fun _=>[]) [0] Tryz.func240 yRs
theorem yTi (i:BaI) (h:badd2C.cnd i):yFm i:=by
 have hfit:i.b.fit:=h
 have hsm:=zRk hfit
 unfold yFm zGb mU zGc zP yM pI rM yI eD eN lK qR rJ rI dI
 have plc:∀(b:Book) (x:Int),fM (aw af i.id) [D.v (.int .i64 2),D.v (.int .i64 i.price),D.v (.int .i64 x)] (atE b.at_)=atE (pE i.id ⟨2,i.price,x⟩ b.at_):=fun b x=>zSy i.id ⟨2,i.price,x⟩ b.at_
 refine⟨jV _ _,(pget i.b.at_ i.id).isSome,_,_,_,zRb _ _,2,rfl,trivial,fun _ _=> ?_⟩
 refine Cv.cnd.mk (fun c=>absurd c (by decide)) fun _=> ?_
 refine zJ (fun c=> ?_) (fun c=>zJ (fun d=> ?_) (fun d=> ?_))
 ·have ha:i.b.addF 2 i.id i.price i.qty=(i.b,24):=by rw[Book.addF,yZy (.inl c)]
  rw[ha];exact kp
 ·have ha:i.b.addF 2 i.id i.price i.qty=(i.b,24):=by rw[Book.addF,yZy (.inr d)]
  rw[ha];exact kp
 have hq:¬(i.qty<1∨1000000<i.qty):=by omega
 refine Cv.cnd.mk (fun e=> ?_) (fun e=> ?_)
 ·have ha:i.b.addF 2 i.id i.price i.qty=(i.b,25):=by rw[Book.addF,yZx hq,yZy e]
  rw[ha];exact kp
 have hlen:(atE i.b.at_).length=i.b.at_.length:=by simp[atE]
 rw[hlen]
 refine zJ (fun f=> ?_) (fun f=> ?_)
 ·have ha:i.b.addF 2 i.id i.price i.qty=(i.b,13):=by rw[Book.addF,yZx hq,yZx (by rw[e];decide),yZy (by omega)]
  rw[ha];exact kp
 have ha:i.b.addF 2 i.id i.price i.qty=(i.b.stand 2 i.id i.price i.qty,0):=by rw[Book.addF,yZx hq,yZx (by rw[e];decide),yZx (by omega)]
 rw[ha]
 simp only[y0a]
 refine⟨aq,fun x=>x=i.b.leads 2 i.price,Cv.cnd.mk (fun g=>⟨aq,rfl,?_,k0q⟩) (fun g=> ?_),fun x hx=> ?_⟩
 ·have:i.b.sells=[]:=y0y (by have:(i.b.sells.length:Int)=0:=(by simpa using g);omega)
  rw[Book.leads,pY,this]
 ·obtain⟨r,l,hl⟩:∃r l,i.b.sells=r::l:=by
   cases hb:i.b.sells with
   |nil=>rw[hb]at g;exact absurd g (by decide)
   |cons r l=>exact⟨r,l,rfl⟩
  refine⟨⟨by omega,by rw[hl,y0f];omega⟩,r.price,elA (x:=r) (by rw[hl];rfl) (by simp[zC]) rfl,⟨2,i.price,r.price⟩,rfl,rfl,rfl,trivial,fun _ _=>⟨_,rfl,?_,k0q⟩⟩
  rw[Book.leads,pY,hl]
 subst hx
 refine Cv.cnd.mk (fun g=> ?_) (fun g=> ?_)
 ·have hled:i.b.led i.id 2 i.price=i.b.leadF i.id 2:=by rw[Book.led,yZy g]
  have hf1:=zPi hfit i.id 2
  have hst:i.b.stand 2 i.id i.price i.qty={((i.b.leadF i.id 2).queueF 2 i.price).1 with a:=(((i.b.leadF i.id 2).queueF 2 i.price).1.a.push ((i.b.leadF i.id 2).queueF 2 i.price).2 i.id i.qty (i.b.leads 2 i.price)).1,at_:=pE i.id ⟨2,i.price,(((i.b.leadF i.id 2).queueF 2 i.price).1.a.push ((i.b.leadF i.id 2).queueF 2 i.price).2 i.id i.qty (i.b.leads 2 i.price)).2.1⟩ ((i.b.leadF i.id 2).queueF 2 i.price).1.at_}:=by
   simp only[Book.stand,hled]
  refine⟨⟨i.b,i.id⟩,rfl,trivial,rfl,rfl,rfl,rfl,rfl,rfl,rfl,rfl,rfl,hsm,fun _ _=>⟨⟨i.b.leadF i.id 2,i.price⟩,trivial,rfl,rfl,rfl,rfl,rfl,rfl,rfl,rfl,rfl,rfl,hf1,fun _ _=>⟨trivial,?_⟩⟩⟩
  refine⟨⟨((i.b.leadF i.id 2).queueF 2 i.price).1.a,((i.b.leadF i.id 2).queueF 2 i.price).2,i.id,i.qty,i.b.leads 2 i.price⟩,rfl,rfl,rfl,rfl,rfl,rD hf1.1 2 i.price,fun _ _=>⟨jV _ _,(),?_⟩⟩
  dsimp only
  rw[hst,plc]
  exact kp
 ·have hled:i.b.led i.id 2 i.price=i.b:=by rw[Book.led,yZx (by rw[g];decide)]
  have hst:i.b.stand 2 i.id i.price i.qty={(i.b.queueF 2 i.price).1 with a:=((i.b.queueF 2 i.price).1.a.push (i.b.queueF 2 i.price).2 i.id i.qty (i.b.leads 2 i.price)).1,at_:=pE i.id ⟨2,i.price,((i.b.queueF 2 i.price).1.a.push (i.b.queueF 2 i.price).2 i.id i.qty (i.b.leads 2 i.price)).2.1⟩ (i.b.queueF 2 i.price).1.at_}:=by
   simp only[Book.stand,hled]
  refine⟨⟨i.b,i.price⟩,trivial,rfl,rfl,rfl,rfl,rfl,rfl,rfl,rfl,rfl,rfl,hfit,fun _ _=>⟨trivial,?_⟩⟩
  refine⟨⟨(i.b.queueF 2 i.price).1.a,(i.b.queueF 2 i.price).2,i.id,i.qty,i.b.leads 2 i.price⟩,rfl,rfl,rfl,rfl,rfl,rD hfit.1 2 i.price,fun _ _=>⟨jV _ _,(),?_⟩⟩
  dsimp only
  rw[hst,plc]
  exact kp
theorem yCg:badd2C.ok Tryz.prog 240:=okw mixed (gokc sX (gokc bZ (gokc yAs (gokc z6w (gokc zVe gok0))))) 0 (fun _=>yMh) (fun _=>[]) [0] Tryz.func240 yTi
theorem yMc:baddC.ok Tryz.prog 240:=fun j=>match j with
 |⟨i,ar⟩=>yGs i
 |⟨i,aq⟩=>yCg i
theorem yWg (i:SaI) (h:saddC.cnd i):yMg i:=by
 obtain⟨hp,hbl,hb⟩:i.s.fit:=h
 unfold yMg zMi tO mN zEr zFa xZ dI
 simp only[zYf]
 have hml:(yW i.s.wh).length=i.s.wh.length:=by simp[yW]
 rw[hml]
 have out (e:i.inst<0∨i.s.books.length≤i.inst):MSt.addF i=(i.s,20):=by rw[MSt.addF,yZy e]
 refine⟨dF _ _,(zBg i.s.wh i.id).isSome,_,ySf _ _,zJ (fun c=>Cv.cnd.mk (fun d=> ?_) (fun d=> ?_)) (fun c=> ?_)⟩
 ·have d:¬i.inst<(i.s.books.length:Int):=by simpa using d
  rw[out (.inr (by omega))];exact kp
 ·have d:i.inst<(i.s.books.length:Int):=by simpa using d
  have hn:¬(i.inst<0∨(i.s.books.length:Int)≤i.inst):=by omega
  refine Cv.cnd.mk (fun e=> ?_) (fun e=>zJ (fun f=> ?_) (fun f=> ?_))
  ·rw[MSt.addF,yZx hn,yZy e];exact kp
  ·rw[MSt.addF,yZx hn,yZx (by rw[e];decide),yZy (by omega)];exact kp
  ·refine⟨⟨i.s.p,i.inst,i.price⟩,rfl,rfl,rfl,rfl,rfl,rfl,rfl,rfl,rfl,rfl,rfl,rfl,rfl,hp,fun _ _=>Cv.cnd.mk (fun g=> ?_) (fun g=> ?_)⟩
   ·have g:i.s.p.price i.inst i.price≠0:=by simpa using g
    rw[MSt.addF,yZx hn,yZx (by rw[e];decide),yZx (by omega),yZy g];exact kp
   ·have g:i.s.p.price i.inst i.price=0:=by simpa using g
    obtain⟨x,hx⟩:=z8 (l:=i.s.books) (i:=i.inst.toNat) (by omega)
    have hba:i.s.bookAt i.inst=x:=zT hx
    have ha:MSt.addF i=({i.s with books:=i.s.books.set i.inst.toNat (x.addF (zD i.sd) i.id i.price i.qty).1,wh:=if(x.addF (zD i.sd) i.id i.price i.qty).2=0 then zXn i.id i.inst i.s.wh else i.s.wh},(x.addF (zD i.sd) i.id i.price i.qty).2):=by
     rw[MSt.addF,yZx hn,yZx (by rw[e];decide),yZx (by omega),yZx (by simp[g])]
     simp only[hba]
    refine⟨⟨by omega,by omega⟩,by omega,x,hx,⟨⟨x,i.id,i.price,i.qty⟩,i.sd⟩,rfl,rfl,rfl,rfl,rfl,hb x (y0g hx),fun _ _=>⟨(x.addF (zD i.sd) i.id i.price i.qty).1,rfl,trivial,by omega,Cv.cnd.mk (fun z=>⟨dF _ _,?_⟩) (fun z=> ?_)⟩⟩
    ·have z:(x.addF (zD i.sd) i.id i.price i.qty).2=0:=by simpa using z
     rw[ha,z]
     simp only[if_true]
     exact kp
    ·have z:¬(x.addF (zD i.sd) i.id i.price i.qty).2=0:=by simpa using z
     rw[ha,yZx z]
     exact kp
 ·rw[out (.inl (by omega))];exact kp
theorem yKe:saddC.ok Tryz.prog 209:=okw mixed (gokc tG (gokc yMc gok0)) 1 (fun _=>[]) (fun _=>[]) [0] Tryz.func209 yWg
open Go Cv Go.Proofs
def r3prodC:Con:=con1 (List UInt8) (fun s=>[sV s]) (fun _=>[]) (fun s=>s.length≤1099511627776) (fun s=>yF (j0 s)) (fun _=>[])
def yKg (s:List UInt8):List SAnn:=[{ι:=Nat×Nat,slots:=fun x=>[(3,zA x.2),(7,.nm 0 0)],rows:=fun x=>[.iter (sb s) x.1]}]
def yHx:List (Nat×SAnn):=[(20,bj 29)]
def r5checkC:Con:=con1 Prd (fun p=>[prdV p]) (fun _=>[]) Prd.small (fun p=>zA p.check) (fun _=>[])
def yCt:List SAnn:=[{ι:=Nat,slots:=fun j=>[(3,zA j)],rows:=fun _=>[]},{ι:=Nat,slots:=fun j=>[(4,zA j)],rows:=fun _=>[]},{ι:=Nat,slots:=fun j=>[(5,zA j)],rows:=fun _=>[]}]
def yAh:List (Nat×SAnn):=[(12,bj 19),(32,bj 58),(40,bj 90),(68,bj 136),(96,bj 168),(104,bj 176),(112,bj 204)]
def r5countC:Con:=con1 Prd (fun p=>[prdV p]) (fun _=>[]) Prd.small (fun p=>zA p.count) (fun _=>[])
def r5legsC:Con:=con1 cI (fun i=>[prdV i.p,zA i.n]) (fun _=>[]) (fun i=>i.p.small) (fun i=> .tup [zA (i.p.legs i.n).1,zA (i.p.legs i.n).2.1,yF (i.p.legs i.n).2.2]) (fun _=>[])
def yIw (i:cI):List SAnn:=[{ι:=Nat,slots:=fun m=>[(8,zA (yJ i.p.months.length m)),(9,zA m)],rows:=fun _=>[]},
 {ι:=Nat×Nat,slots:=fun m=>[(8,zA ((yJ i.p.months.length m.1+m.2:Nat):Int)),(9,zA m.1),(10,zA ((m.1+1+m.2:Nat):Int))],rows:=fun _=>[]}]
def kN (x:Prd):Int:=2+zI x.months.length 0 3
def yE (x:Prd):Int:=1+zI x.tick 0 9
def qX (n:Nat):List Int:=(ae n).map fun(i:Nat)=>10*(i:Int)+3
def qF (t:Int) (n:Nat):List Int:=(ae n).map fun(i:Nat)=>t*(10+(i:Int))
def gM (x:Prd):Prd:=⟨[206,169],qX (kN x).toNat,yE x,-20*yE x,100*yE x,yE x*(5+zI x.wide 0 60),1+zI x.rule 0 2,zI x.top 0 9,1+zI x.least 0 4,zI x.part 0 100,qF (yE x) (kN x).toNat⟩
@[reducible] def Prd.raw (x:Prd):Prop:=yO x.tick∧yO x.wide∧yO x.rule∧yO x.top∧yO x.least∧yO x.part∧x.months.length≤9223372036854775807
def kprodC:Con:=con1 Prd (fun x=>[prdV x]) (fun _=>[]) Prd.raw (fun x=>prdV (gM x)) (fun _=>[])
def yZd (x:Prd) (w:Int) (j:Nat):List AObj:=[.cells [sV [206,169],.own 1,zA (yE x),zA (-20*yE x),zA (100*yE x),zA w,zA (1+zI x.rule 0 2),zA (zI x.top 0 9),zA (1+zI x.least 0 4),zA (zI x.part 0 100),.own 2] 25,.own 3 1 (iE (qX j)),.own 2 1 (iE (qF (yE x) j))]
def yVm (x:Prd):List AObj:=[.cells [sV [206,169],.d (.v (.slice av 0 0)),zA (yE x),zA (-20*yE x),zA (100*yE x),zA 0,zA (1+zI x.rule 0 2),zA (zI x.top 0 9),zA (1+zI x.least 0 4),zA (zI x.part 0 100),.d (.v (.slice av 0 0))] 25]
def yRp (x:Prd):List SAnn:=[{ι:=Nat,slots:=fun j=>[(5,.nm 0 0),(6,zA j)],rows:=fun j=>yZd x (yE x*(5+zI x.wide 0 60)) j}]
def yOl (x:Prd):List (Nat×SAnn):=[(12,{ι:=Unit,slots:=fun _=>[(5,.nm 0 0)],slots0:=fun _=>[],rows0:=fun _=>[],rows:=fun _=>yVm x})]
end Sx
