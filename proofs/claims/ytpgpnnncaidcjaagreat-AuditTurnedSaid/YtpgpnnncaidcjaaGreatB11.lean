/- Texts of ours, one behind the other: a walk that the kernel reckons, and contracts of functions. No condition. -/
import Derived.Test.YtpgpnnncaidcjaaGreatB10
namespace Sx
set_option linter.unusedVariables false
set_option linter.unusedSimpArgs false
set_option maxRecDepth 100000
open Go Cv Go.Proofs
structure Un (p:Prd) (T:List Top):Prop where
 d:∀n,n<p.count→(T.getD n top0).has1=true→(T.getD n top0).has2=true→(T.getD n top0).p1<(T.getD n top0).p2
 x:∀{a b k},Tri p a b k→(T.getD a top0).has1=true→(T.getD b top0).has2=true→(T.getD k top0).has2=true→(T.getD a top0).p1-(T.getD b top0).p2<(T.getD k top0).p2
 y:∀{a b k},Tri p a b k→(T.getD a top0).has2=true→(T.getD b top0).has1=true→(T.getD k top0).has1=true→(T.getD k top0).p1<(T.getD a top0).p2-(T.getD b top0).p1
def Wrs (T T':List Top):Prop:=∀n,((T'.getD n top0).has1=true→(T.getD n top0).has1=true∧(T'.getD n top0).p1≤(T.getD n top0).p1)∧((T'.getD n top0).has2=true→(T.getD n top0).has2=true∧(T.getD n top0).p2≤(T'.getD n top0).p2)
theorem Un.wrs {p:Prd} {T T':List Top} (h:Un p T) (w:Wrs T T'):Un p T':=by
 refine⟨fun n hn h1 h2=> ?_,fun{a b k} t h1 h2 h3=> ?_,fun{a b k} t h1 h2 h3=> ?_⟩
 ·obtain⟨u1,u2⟩:=(w n).1 h1
  obtain⟨v1,v2⟩:=(w n).2 h2
  have:=h.d n hn u1 v1
  omega
 ·obtain⟨u1,u2⟩:=(w a).1 h1
  obtain⟨v1,v2⟩:=(w b).2 h2
  obtain⟨w1,w2⟩:=(w k).2 h3
  have:=h.x t u1 v1 w1
  omega
 ·obtain⟨u1,u2⟩:=(w a).2 h1
  obtain⟨v1,v2⟩:=(w b).1 h2
  obtain⟨w1,w2⟩:=(w k).1 h3
  have:=h.y t u1 v1 w1
  omega
theorem Un.ps {p:Prd} (hc:p.check=0) {T:List Top} (h:Un p T) (hs:pG T) (hT:T.length=p.count) {n:Nat} (hn:n<p.count) {v:Int}:
 (PS p T n 1 v→(T.getD n top0).has2=true→v<(T.getD n top0).p2)∧(PS p T n 2 v→(T.getD n top0).has1=true→(T.getD n top0).p1<v):=by
 by_cases hm:p.months.length≤n
 ·obtain⟨a,b,t⟩:=yPt hc hn hm
  refine⟨fun hv h2=> ?_,fun hv h1=> ?_⟩
  ·obtain⟨q1,q2,rfl⟩:=(z1f hc hs hT t).1 hv
   exact h.x t q1 q2 h2
  ·obtain⟨q1,q2,rfl⟩:=(z1f hc hs hT t).1 hv
   exact h.y t q1 q2 h1
 ·refine⟨fun hv h2=> ?_,fun hv h1=> ?_⟩
  ·rcases(zEx hc hs hT (by omega)).1 hv with⟨b,k,t,q1,q2,rfl⟩|⟨a,k,t,q1,q2,rfl⟩
   ·have:=h.y t h2 q2 q1
    simp only[cS]
    omega
   ·have:=h.x t q2 h2 q1
    simp only[cS,show(3:Int)-1=2 by decide,aF]
    omega
  ·rcases(zEx hc hs hT (by omega)).1 hv with⟨b,k,t,q1,q2,rfl⟩|⟨a,k,t,q1,q2,rfl⟩
   ·have:=h.x t h1 q2 q1
    simp only[aF]
    omega
   ·have:=h.y t q2 h1 q1
    simp only[aF,show(3:Int)-2=1 by decide,cS]
    omega
theorem Tri.ne {p:Prd} {a b k:Nat} (t:Tri p a b k):a≠b∧a≠k∧b≠k∧a<p.months.length∧b<p.months.length:=by
 have:=t.hab
 have:=t.hb
 have:=t.hm
 omega
theorem Un.add1 {p:Prd} (hc:p.check=0) {T T':List Top} (h:Un p T) (hs:pG T) (hT:T.length=p.count) {n:Nat} (ho:∀m,m≠n→T'.getD m top0=T.getD m top0)
 (h2:(T'.getD n top0).has2=true→(T.getD n top0).has2=true∧(T.getD n top0).p2≤(T'.getD n top0).p2)
 (h1:(T'.getD n top0).has1=true→((T.getD n top0).has2=true→(T'.getD n top0).p1<(T.getD n top0).p2)∧∀v,PS p T n 2 v→(T'.getD n top0).p1<v):Un p T':=by
 refine⟨fun m hm g1 g2=> ?_,fun{a b k} t g1 g2 g3=> ?_,fun{a b k} t g1 g2 g3=> ?_⟩
 ·by_cases e:m=n
  ·subst e
   have:=(h1 g1).1 (h2 g2).1
   have:=(h2 g2).2
   omega
  ·rw[ho m e]at g1 g2 ⊢;exact h.d m hm g1 g2
 ·obtain⟨n1,n2,n3,n4,n5⟩:=t.ne
  by_cases e:a=n
  ·subst e
   rw[ho b (Ne.symm n1)]at g2 ⊢
   rw[ho k (Ne.symm n2)]at g3 ⊢
   have:=(h1 g1).2 _ ((zEx hc hs hT n4).2 (.inl ⟨b,k,t,g3,g2,rfl⟩))
   simp only[aF]at this
   omega
  ·rw[ho a e]at g1 ⊢
   have gb:(T.getD b top0).has2=true∧(T.getD b top0).p2≤(T'.getD b top0).p2:=by
    by_cases eb:b=n
    ·subst eb;exact h2 g2
    ·rw[ho b eb]at g2 ⊢;exact⟨g2,yWb _⟩
   have gk:(T.getD k top0).has2=true∧(T.getD k top0).p2≤(T'.getD k top0).p2:=by
    by_cases eb:k=n
    ·subst eb;exact h2 g3
    ·rw[ho k eb]at g3 ⊢;exact⟨g3,yWb _⟩
   have:=h.x t g1 gb.1 gk.1
   omega
 ·obtain⟨n1,n2,n3,n4,n5⟩:=t.ne
  by_cases eb:b=n
  ·subst eb
   rw[ho a n1]at g1 ⊢
   rw[ho k (Ne.symm n3)]at g3 ⊢
   have:=(h1 g2).2 _ ((zEx hc hs hT n5).2 (.inr ⟨a,k,t,g3,g1,rfl⟩))
   simp only[aF,show(3:Int)-2=1 by decide,cS]at this
   omega
  by_cases ek:k=n
  ·subst ek
   rw[ho a n2]at g1 ⊢
   rw[ho b n3]at g2 ⊢
   have:=(h1 g3).2 _ ((z1f hc hs hT t).2 ⟨g1,g2,rfl⟩)
   simp only[aF,show(3:Int)-2=1 by decide,cS]at this
   omega
  rw[ho b eb]at g2 ⊢
  rw[ho k ek]at g3 ⊢
  have ga:(T.getD a top0).has2=true∧(T.getD a top0).p2≤(T'.getD a top0).p2:=by
   by_cases ea:a=n
   ·subst ea;exact h2 g1
   ·rw[ho a ea]at g1 ⊢;exact⟨g1,yWb _⟩
  have:=h.y t ga.1 g2 g3
  omega
theorem Un.add2 {p:Prd} (hc:p.check=0) {T T':List Top} (h:Un p T) (hs:pG T) (hT:T.length=p.count) {n:Nat} (ho:∀m,m≠n→T'.getD m top0=T.getD m top0)
 (h1:(T'.getD n top0).has1=true→(T.getD n top0).has1=true∧(T'.getD n top0).p1≤(T.getD n top0).p1)
 (h2:(T'.getD n top0).has2=true→((T.getD n top0).has1=true→(T.getD n top0).p1<(T'.getD n top0).p2)∧∀v,PS p T n 1 v→v<(T'.getD n top0).p2):Un p T':=by
 refine⟨fun m hm g1 g2=> ?_,fun{a b k} t g1 g2 g3=> ?_,fun{a b k} t g1 g2 g3=> ?_⟩
 ·by_cases e:m=n
  ·subst e
   have:=(h2 g2).1 (h1 g1).1
   have:=(h1 g1).2
   omega
  ·rw[ho m e]at g1 g2 ⊢;exact h.d m hm g1 g2
 ·obtain⟨n1,n2,n3,n4,n5⟩:=t.ne
  by_cases eb:b=n
  ·subst eb
   rw[ho a n1]at g1 ⊢
   rw[ho k (Ne.symm n3)]at g3 ⊢
   have:=(h2 g2).2 _ ((zEx hc hs hT n5).2 (.inr ⟨a,k,t,g3,g1,rfl⟩))
   simp only[cS,show(3:Int)-1=2 by decide,aF]at this
   omega
  by_cases ek:k=n
  ·subst ek
   rw[ho a n2]at g1 ⊢
   rw[ho b n3]at g2 ⊢
   have:=(h2 g3).2 _ ((z1f hc hs hT t).2 ⟨g1,g2,rfl⟩)
   simp only[cS,show(3:Int)-1=2 by decide,aF]at this
   omega
  rw[ho b eb]at g2 ⊢
  rw[ho k ek]at g3 ⊢
  have ga:(T.getD a top0).has1=true∧(T'.getD a top0).p1≤(T.getD a top0).p1:=by
   by_cases ea:a=n
   ·subst ea;exact h1 g1
   ·rw[ho a ea]at g1 ⊢;exact⟨g1,yWb _⟩
  have:=h.x t ga.1 g2 g3
  omega
 ·obtain⟨n1,n2,n3,n4,n5⟩:=t.ne
  by_cases e:a=n
  ·subst e
   rw[ho b (Ne.symm n1)]at g2 ⊢
   rw[ho k (Ne.symm n2)]at g3 ⊢
   have:=(h2 g1).2 _ ((zEx hc hs hT n4).2 (.inl ⟨b,k,t,g3,g2,rfl⟩))
   simp only[cS]at this
   omega
  ·rw[ho a e]at g1 ⊢
   have gb:(T.getD b top0).has1=true∧(T'.getD b top0).p1≤(T.getD b top0).p1:=by
    by_cases eb:b=n
    ·subst eb;exact h1 g2
    ·rw[ho b eb]at g2 ⊢;exact⟨g2,yWb _⟩
   have gk:(T.getD k top0).has1=true∧(T'.getD k top0).p1≤(T.getD k top0).p1:=by
    by_cases eb:k=n
    ·subst eb;exact h1 g3
    ·rw[ho k eb]at g3 ⊢;exact⟨g3,yWb _⟩
   have:=h.y t g1 gb.1 gk.1
   omega
theorem zCv {L:List zD} {s:Int} (hs:zCm s (kX L s)) (h:(bestL L s).2=true):(∃o∈L,o.side=s∧o.price=(bestL L s).1.price)∧∀o∈L,o.side=s→btr s o.price (bestL L s).1.price=false:=by
 have e:wB L s=grp (kX L s):=rfl
 cases hg:grp (kX L s)with
 |nil=>rw[bestL,e,hg]at h;cases h
 |cons v vs=>
  obtain⟨o,r,ho,hp⟩:=sI hg
  have hb:(bestL L s).1=v:=by rw[bestL,e,hg]
  rw[hb,← hp]
  have hm:∀x,x∈kX L s↔x∈L∧x.side=s:=fun x=>by rw[kX,yTp,yTj]
  refine⟨⟨o,((hm o).1 (by rw[ho];exact ySk)).1,((hm o).1 (by rw[ho];exact ySk)).2,rfl⟩,fun x hx hxs=> ?_⟩
  have hx':=(hm x).2 ⟨hx,hxs⟩
  rw[ho]at hs hx'
  rcases ySy.1 hx' with rfl|hx'
  ·rw[btr];split<;>exact ySp (by omega)
  ·exact(yWh.1 hs).1 x hx'
theorem zUu {L:List zD} {s:Int} {o:zD} (ho:o∈L) (hos:o.side=s):(bestL L s).2=true:=by
 have hm:o∈kX L s:=yTp.2 ⟨ho,by simpa using hos⟩
 obtain⟨v,vs,h⟩:=z7p (A:=kX L s) (by intro e;rw[e]at hm;cases hm)
 have e:wB L s=grp (kX L s):=rfl
 rw[bestL,e,h]
theorem btr1 {x y:Int}:btr 1 x y=false↔x≤y:=by simp[btr]
theorem btr2 {x y:Int}:btr 2 x y=false↔y≤x:=by simp[btr]
def SubB (B B':List (List zD)):Prop:=∀(k:Nat) (L':List zD),B'[k]?=some L'→∃L,B[k]?=some L∧∀o∈L',∃o'∈L,o.price=o'.price∧o.side=o'.side
theorem SubB.refl (B:List (List zD)):SubB B B:=fun k L h=>⟨L,h,fun o ho=>⟨o,ho,rfl,rfl⟩⟩
theorem SubB.trans {A B C:List (List zD)} (h:SubB A B) (h2:SubB B C):SubB A C:=fun k L hL=>by
 obtain⟨M,hM,m⟩:=h2 k L hL
 obtain⟨N,hN,n⟩:=h k M hM
 refine⟨N,hN,fun o ho=> ?_⟩
 obtain⟨o',ho',e1,e2⟩:=m o ho
 obtain⟨o2,ho2,e3,e4⟩:=n o' ho'
 exact⟨o2,ho2,e1.trans e3,e2.trans e4⟩
theorem SubB.take (B:List (List zD)) (id q:Int):SubB B (yU B id q).1:=by
 rw[yU]
 split
 ·exact .refl B
 ·rename_i k hk
  obtain⟨M,hM,_⟩:=xL hk
  intro j L hL
  dsimp only at hL
  rcases vE hL with⟨rfl,rfl⟩|⟨_,hL⟩
  ·rw[zI hM]
   refine⟨M,hM,fun o ho=> ?_⟩
   obtain⟨o',ho',e1,e2,_⟩:=zBi ho
   exact⟨o',ho',e1,e2⟩
  ·exact⟨L,hL,fun o ho=>⟨o,ho,rfl,rfl⟩⟩
theorem SubB.takes:∀(fs:List vA) (B:List (List zD)),SubB B (yZ B fs)
 |[],B=> .refl B
 |f::fs,B=>(SubB.take B f.id f.qty).trans (SubB.takes fs _)
theorem SubB.run {p:Prd} {inst:Int} {sd:Bool} {price:Int}:∀(m:Nat) (q:Int) (B:List (List zD)),q.toNat≤m→SubB B (x0 p B inst sd price q).B
 |m,q,B,hm=>by
  by_cases hq:q≤0
  ·rw[kO (.inl hq)];exact .refl B
  cases hs:jF p B inst sd price q with
  |none=>rw[kO (.inr hs)];exact .refl B
  |some x=>
   obtain⟨t,C⟩:=x
   have hq2:=aS (by omega) hs
   cases m with
   |zero=>omega
   |succ m=>
   rw[cC (by omega) hs]
   have:=zMn hs
   subst this
   exact(SubB.takes t.fills B).trans (SubB.run m (q-t.qty) _ (by omega))
theorem BWf.srtD {p:Prd} {B:List (List zD)} (h:BWf p B) (n:Nat) {s:Int} (hs:s=1∨s=2):zCm s (kX (B.getD n []) s):=by
 rw[ySi]
 cases e:B[n]? with
 |none=>exact List.Pairwise.nil
 |some L=>exact h.srt n L e s hs
theorem SubB.wrs {p:Prd} {B B':List (List zD)} (h:BWf p B) (h':BWf p B') (s:SubB B B'):Wrs (B.map xI) (B'.map xI):=by
 have key:∀(n:Nat) (z:Int),z=1∨z=2→(bestL (B'.getD n []) z).2=true→(bestL (B.getD n []) z).2=true∧btr z (bestL (B'.getD n []) z).1.price (bestL (B.getD n []) z).1.price=false:=by
  intro n z hz hh
  obtain⟨⟨o,ho,hos,hop⟩,_⟩:=zCv (h'.srtD n hz) hh
  cases e:B'[n]? with
  |none=>
   rw[ySi,e]at ho
   cases ho
  |some L'=>
   obtain⟨L,hL,hm⟩:=s n L' e
   rw[zI e]at ho hop ⊢
   rw[zI hL]
   obtain⟨o',ho',e1,e2⟩:=hm o ho
   have hb:=zUu ho' (e2.symm.trans hos)
   refine⟨hb,?_⟩
   rw[← hop,e1]
   exact(zCv (h.srt n L hL z hz) hb).2 o' ho' (e2.symm.trans hos)
 intro n
 obtain⟨a1,_,a3⟩:=uJ B n 1 (.inl rfl)
 obtain⟨b1,_,b3⟩:=uJ B n 2 (.inr rfl)
 obtain⟨c1,_,c3⟩:=uJ B' n 1 (.inl rfl)
 obtain⟨d1,_,d3⟩:=uJ B' n 2 (.inr rfl)
 rw[yOo,cS]at*
 refine⟨fun g=> ?_,fun g=> ?_⟩
 ·have g':(bestL (B'.getD n []) 1).2=true:=c1▸g
  obtain⟨k1,k2⟩:=key n 1 (.inl rfl) g'
  refine⟨a1.trans k1,?_⟩
  have:((B.map xI).getD n top0).p1=_:=a3
  have:((B'.map xI).getD n top0).p1=_:=c3
  have:=btr1.1 k2
  omega
 ·have g':(bestL (B'.getD n []) 2).2=true:=d1▸g
  obtain⟨k1,k2⟩:=key n 2 (.inr rfl) g'
  refine⟨b1.trans k1,?_⟩
  have:((B.map xI).getD n top0).p2=_:=b3
  have:((B'.map xI).getD n top0).p2=_:=d3
  have:=btr2.1 k2
  omega
theorem BWf.small {p:Prd} {B:List (List zD)} (h:BWf p B):pG (B.map xI):=by
 have key:∀(n:Nat) (z:Int),z=1∨z=2→-2000000≤((B.map xI).getD n top0).price z∧((B.map xI).getD n top0).price z≤2000000:=by
  intro n z hz
  rw[(uJ B n z hz).2.2]
  cases c:(bestL (B.getD n []) z).2 with
  |false=>
   have:(bestL (B.getD n []) z).1.price=0:=by
    rw[bestL]at c ⊢
    split at c
    ·rfl
    ·cases c
   omega
  |true=>
   obtain⟨⟨o,ho,_,hop⟩,_⟩:=zCv (h.srtD n hz) c
   rw[← hop]
   cases e:B[n]? with
   |none=>rw[ySi,e]at ho;cases ho
   |some L=>
    rw[zI e]at ho
    exact h.ok.prices e o ho
 intro n z
 by_cases hz:z=1
 ·exact key n z (.inl hz)
 ·have:((B.map xI).getD n top0).price z=((B.map xI).getD n top0).price 2:=by rw[Top.price,ySe hz];rfl
  rw[this]
  exact key n 2 (.inr rfl)
theorem z1e {p:Prd} {inst:Int} {sd:Bool} {price:Int}:∀(m:Nat) (q:Int) (B:List (List zD)),q.toNat≤m→BWf p B→0≤inst∧inst<B.length→0≤q→1≤(x0 p B inst sd price q).left→goB p (x0 p B inst sd price q).B inst sd price=false
 |m,q,B,hm,h,hi,hq0,hl=>by
  by_cases hq:q≤0
  ·rw[kO (.inl hq)]at hl
   dsimp only at hl;omega
  cases hs:jF p B inst sd price q with
  |none=>
   rw[kO (.inr hs)]
   dsimp only
   cases hg:goB p B inst sd price with
   |false=>rfl
   |true=>
    obtain⟨t,C,a1,_⟩:=zXa h hi hg (q:=q) (by omega)
    rw[a1]at hs;cases hs
  |some x=>
   obtain⟨t,C⟩:=x
   have htq:=aS (by omega) hs
   obtain⟨hW,hln⟩:=tQ h hs
   cases m with
   |zero=>omega
   |succ m=>
   rw[cC (by omega) hs]at hl ⊢
   exact z1e m (q-t.qty) C (by omega) hW (by rw[hln];exact hi) (by omega) hl
theorem z6i {p:Prd} {B:List (List zD)} (h:BWf p B) {inst:Int} (hi:0≤inst∧inst<B.length) {sd:Bool} {price:Int} (hg:goB p B inst sd price=false) (hb:(bestL (B.getD inst.toNat []) (zB (!sd))).2=true):jA sd price (bestL (B.getD inst.toNat []) (zB (!sd))).1.price=false:=by
 rw[yMf h hi,zV]at hg
 split at hg
 ·simpa using hg
 ·rename_i c
  rw[hb]at c
  simp only[yTm,yXh,Bool.and_eq_false_iff,not_or,Bool.not_eq_false]at c
  rw[c.1]at hg
  have hg:jA sd price (yD (yL ⟨p,B.map xI,inst⟩ (zB (!sd))) (zB (!sd))).1.price=false:=by simpa using hg
  have c2:=c.2
  cases sd with
  |false=>
   have c2:btr 2 _ _=true:=c2
   simp[btr]at c2
   simp[jA]at hg ⊢
   omega
  |true=>
   have c2:btr 1 _ _=true:=c2
   simp[btr]at c2
   simp[jA]at hg ⊢
   omega
theorem yBo {L:List zD} {s id pr q:Int} {o:zD} (h:o∈zAk L s id pr q):(o.side=s∧o.price=pr)∨∃o'∈L,o.price=o'.price∧o.side=o'.side:=by
 have hX:∀X:List zD,(∀y∈X,∃o'∈L,y.price=o'.price∧y.side=o'.side)→∀b,o∈X.takeWhile (before s pr)++⟨id,s,pr,q,b⟩::X.dropWhile (before s pr)→(o.side=s∧o.price=pr)∨∃o'∈L,o.price=o'.price∧o.side=o'.side:=by
  intro X hx b hm
  rcases yTi.1 hm with hm|hm
  ·exact .inr (hx o ((List.takeWhile_sublist _).mem hm))
  ·rcases ySy.1 hm with rfl|hm
   ·exact .inl ⟨rfl,rfl⟩
   ·exact .inr (hx o ((List.dropWhile_sublist _).mem hm))
 rw[zAk]at h
 refine hX _ ?_ _ h
 split
 ·intro y hy
  obtain⟨z,hz,rfl⟩:=yTh.1 hy
  exact⟨z,hz,by split<;>exact⟨rfl,rfl⟩⟩
 ·exact fun y hy=>⟨y,hy,rfl,rfl⟩
theorem Un.add {p:Prd} {B:List (List zD)} (h:BWf p B) {inst id:Int} {sd:Bool} {price q:Int} (hi:0≤inst∧inst<B.length) (hB':BWf p (rF p B inst id (zB sd) price q).1) (hU:Un p (B.map xI))
 (hd:(bestL (B.getD inst.toNat []) (zB (!sd))).2=true→jA sd price (bestL (B.getD inst.toNat []) (zB (!sd))).1.price=false) (hq:∀x∈qC ⟨p,B.map xI,inst⟩ (zB (!sd)),jA sd price x.price=false):Un p ((rF p B inst id (zB sd) price q).1.map xI):=by
 obtain⟨k,rfl⟩:∃k:Nat,inst=k:=⟨inst.toNat,by omega⟩
 obtain⟨L,hL⟩:=z6 (l:=B) (i:=k) (by omega)
 have hk:=(ySg.1 hL).1
 have hbl:=h.ok.bl
 have hc:=h.ok.pc
 have hT:(B.map xI).length=p.count:=by rw[ySh];exact hbl
 obtain⟨M,hM,hMm⟩:∃M,(rF p B k id (zB sd) price q).1=B.set k M∧∀o∈M,(o.side=zB sd∧o.price=price)∨∃o'∈L,o.price=o'.price∧o.side=o'.side:=by
  have self:∃M,B=B.set k M∧∀o∈M,(o.side=zB sd∧o.price=price)∨∃o'∈L,o.price=o'.price∧o.side=o'.side:=⟨L,(kK hL).symm,fun o ho=> .inr ⟨o,ho,rfl,rfl⟩⟩
  rw[rF]
  split
  ·exact self
  split
  ·exact self
  split
  ·exact self
  split
  ·exact self
  refine⟨_,by rw[ySt],fun o ho=> ?_⟩
  rw[zI hL,rC]at ho
  split at ho
  ·exact .inr ⟨o,ho,rfl,rfl⟩
  split at ho
  ·exact .inr ⟨o,ho,rfl,rfl⟩
  split at ho
  ·exact .inr ⟨o,ho,rfl,rfl⟩
  exact yBo ho
 rw[hM]at hB' ⊢
 have gk:(B.set k M).getD k []=M:=zI (wW hk)
 have gL:B.getD k []=L:=zI hL
 rw[ySt,gL]at hd
 have ho:∀m,m≠k→((B.set k M).map xI).getD m top0=(B.map xI).getD m top0:=fun m hm=>by
  rw[ySi,ySi,yTy,yTy,List.getElem?_set_ne (Ne.symm hm)]
 obtain⟨a1,_,a3⟩:=uJ B k 1 (.inl rfl)
 obtain⟨b1,_,b3⟩:=uJ B k 2 (.inr rfl)
 obtain⟨c1,_,c3⟩:=uJ (B.set k M) k 1 (.inl rfl)
 obtain⟨d1,_,d3⟩:=uJ (B.set k M) k 2 (.inr rfl)
 rw[gL]at a1 a3 b1 b3
 rw[gk]at c1 c3 d1 d3
 have a1:((B.map xI).getD k top0).has1=_:=a1
 have a3:((B.map xI).getD k top0).p1=_:=a3
 have b1:((B.map xI).getD k top0).has2=_:=b1
 have b3:((B.map xI).getD k top0).p2=_:=b3
 have c1:(((B.set k M).map xI).getD k top0).has1=_:=c1
 have c3:(((B.set k M).map xI).getD k top0).p1=_:=c3
 have d1:(((B.set k M).map xI).getD k top0).has2=_:=d1
 have d3:(((B.set k M).map xI).getD k top0).p2=_:=d3
 have old:∀z,z=1∨z=2→(bestL M z).2=true→((bestL L z).2=true∧btr z (bestL M z).1.price (bestL L z).1.price=false)∨(z=zB sd∧(bestL M z).1.price=price):=by
  intro z hz hh
  obtain⟨⟨o,ho,hos,hop⟩,_⟩:=zCv (hB'.srt k M (wW hk) z hz) hh
  rcases hMm o ho with⟨e1,e2⟩|⟨o',ho',e1,e2⟩
  ·exact .inr ⟨hos.symm.trans e1,hop.symm.trans e2⟩
  ·have hb:=zUu ho' (e2.symm.trans hos)
   refine .inl ⟨hb,?_⟩
   rw[← hop,e1]
   exact(zCv (h.srt k L hL z hz) hb).2 o' ho' (e2.symm.trans hos)
 cases sd with
 |false=>
  have e1:zB (!false)=2:=rfl
  have e2:zB false=1:=rfl
  rw[e1]at hd hq
  rw[e2]at old
  refine hU.add1 hc h.small hT (n:=k) ho (fun g=> ?_) (fun g=> ?_)
  ·rcases old 2 (.inr rfl) (d1▸g)with⟨x,y⟩|⟨x,_⟩
   ·have:=btr2.1 y
    exact⟨b1.trans x,by omega⟩
   ·cases x
  ·rcases old 1 (.inl rfl) (c1▸g)with⟨x,y⟩|⟨_,y⟩
   ·have y:=btr1.1 y
    have hx:((B.map xI).getD k top0).has1=true:=a1.trans x
    refine⟨fun g2=> ?_,fun v hv=> ?_⟩
    ·have:=hU.d k (by omega) hx g2
     omega
    ·have:=(hU.ps hc h.small hT (n:=k) (by omega) (v:=v)).2 hv hx
     omega
   ·refine⟨fun g2=> ?_,fun v hv=> ?_⟩
    ·have:=hd (b1▸g2)
     have:¬(bestL L 2).1.price≤price:=by simpa[jA]using this
     omega
    ·obtain⟨x,hx,rfl⟩:=hv
     have:=hq x hx
     have:¬x.price≤price:=by simpa[jA]using this
     omega
 |true=>
  have e1:zB (!true)=1:=rfl
  have e2:zB true=2:=rfl
  rw[e1]at hd hq
  rw[e2]at old
  refine hU.add2 hc h.small hT (n:=k) ho (fun g=> ?_) (fun g=> ?_)
  ·rcases old 1 (.inl rfl) (c1▸g)with⟨x,y⟩|⟨x,_⟩
   ·have:=btr1.1 y
    exact⟨a1.trans x,by omega⟩
   ·cases x
  ·rcases old 2 (.inr rfl) (d1▸g)with⟨x,y⟩|⟨_,y⟩
   ·have y:=btr2.1 y
    have hx:((B.map xI).getD k top0).has2=true:=b1.trans x
    refine⟨fun g2=> ?_,fun v hv=> ?_⟩
    ·have:=hU.d k (by omega) g2 hx
     omega
    ·have:=(hU.ps hc h.small hT (n:=k) (by omega) (v:=v)).1 hv hx
     omega
   ·refine⟨fun g2=> ?_,fun v hv=> ?_⟩
    ·have:=hd (a1▸g2)
     have:¬price≤(bestL L 1).1.price:=by simpa[jA]using this
     omega
    ·obtain⟨x,hx,rfl⟩:=hv
     have:=hq x hx
     have:¬price≤x.price:=by simpa[jA]using this
     omega
theorem Un.take {p:Prd} {B:List (List zD)} (h:BWf p B) (hU:Un p (B.map xI)) (id q:Int):Un p ((yU B id q).1.map xI):=hU.wrs (SubB.wrs h (h.take id q) (SubB.take B id q))
theorem Un.enter {p:Prd} {B:List (List zD)} (h:BWf p B) (U:List Int) {c:Cmd} (hi:0≤c.inst∧c.inst<B.length) (hs:c.side=1∨c.side=2) (hq:1≤c.qty) (hU:Un p (B.map xI)) (hst:c.time=1→dG p B c.inst (decide (c.side=2)) c.price c.qty=false) (hB':BWf p (wF p B U c).B):Un p ((wF p B U c).B.map xI):=by
 obtain⟨hW,hl,hleft⟩:=cF (inst:=c.inst) (sd:=decide (c.side=2)) (price:=c.price) _ c.qty B (yTd _) h
 have hleft:=hleft (by omega)
 have hend:=z1e (inst:=c.inst) (sd:=decide (c.side=2)) (price:=c.price) _ c.qty B (yTd _) h hi (by omega)
 have hUr:Un p ((x0 p B c.inst (decide (c.side=2)) c.price c.qty).B.map xI):=hU.wrs (SubB.wrs h hW (SubB.run _ _ _ (yTd _)))
 have hsd:c.side=zB (decide (c.side=2)):=(uC hs).symm
 rw[wK]at hB' ⊢
 dsimp only at hB' ⊢
 by_cases cl:(x0 p B c.inst (decide (c.side=2)) c.price c.qty).left≠0∧c.time=1
 ·rw[ySf cl]at hB' ⊢
  have hst:=hst cl.2
  rw[dG]at hst
  have hall:∀x∈qC ⟨p,(x0 p B c.inst (decide (c.side=2)) c.price c.qty).B.map xI,c.inst⟩ (zB (!decide (c.side=2))),jA (decide (c.side=2)) c.price x.price=false:=by
   rw[ySw cl.1,yTm,yXj]at hst
   exact fun x hx=>by simpa using hst x hx
  have hg:=hend (by omega)
  generalize x0 p B c.inst (decide (c.side=2)) c.price c.qty=R at*
  rw[hsd]at hB' ⊢
  have hcong:decide (zB (decide (c.side=2))=2)=decide (c.side=2):=by rw[← hsd]
  exact Un.add hW (by omega) hB' hUr (fun hb=>z6i hW (by omega) hg hb) hall
 ·rw[ySe cl];exact hUr
theorem yPn {p:Prd} {B:List (List zD)} (h:BWf p B) (U:List Int) (c:Cmd) (hU:Un p (B.map xI)):BWf p (doF p B U c).B→Un p ((doF p B U c).B.map xI):=by
 have hbl:=h.ok.bl
 rw[doF]
 split
 ·exact fun _=>hU
 rename_i hr
 have hr:c.right=0:=by simpa using hr
 split
 ·rename_i hk
  obtain⟨hs,hq,_⟩:=eC hr hk
  rw[cM]
  split
  ·exact fun _=>hU
  rename_i hp
  have hi:=zIo (p:=p) (i:=c.inst) (n:=c.price) (by simpa using hp)
  split
  ·exact fun _=>hU
  split
  ·exact fun _=>hU
  split
  ·exact fun _=>hU
  split
  ·exact fun _=>hU
  rename_i hst
  exact Un.enter h U (by omega) hs hq.1 hU (fun e=>by simpa[e]using hst)
 rename_i hk
 split
 ·exact fun _=>hU
 rename_i hf
 obtain⟨k,L,f1,hL,ho,hid⟩:=zWk (by simpa using hf)
 generalize zT B c.id=F at*
 obtain⟨fi,o,fb⟩:=F
 dsimp only at f1 hL ho hid ⊢
 subst f1
 have hklt:=(ySg.1 hL).1
 split
 ·have hqc:=bC hr hk (by omega)
  rw[vF]
  split
  ·exact fun _=>hU
  split
  ·exact fun _=>hU.take h _ _
  split
  ·exact fun _=>hU
  rename_i hst
  have hW:BWf p (yU B c.id o.qty).1:=h.take _ _
  have hbl':=hW.ok.bl
  exact fun hB'=>Un.enter hW U (c:=⟨1,c.id,k,o.side,c.price,c.qty,0,1,[]⟩) (by dsimp only;omega) ((h.od k L hL).1 o ho).s hqc.1 (hU.take h _ _) (fun _=>by simpa using hst) hB'
 split
 ·exact fun _=>hU.take h _ _
 ·exact fun _=>hU.take h _ _
theorem yKf (p:Prd):Un p ((List.replicate p.count []).map xI):=by
 have e:∀n,((List.replicate p.count ([]:List zD)).map xI).getD n top0=top0∨((List.replicate p.count ([]:List zD)).map xI).getD n top0=xI []:=fun n=>by
  rw[yXw,ySi,yYg]
  split
  ·exact .inr rfl
  ·exact .inl rfl
 have f:∀n,(((List.replicate p.count ([]:List zD)).map xI).getD n top0).has1=false∧(((List.replicate p.count ([]:List zD)).map xI).getD n top0).has2=false:=fun n=>by
  rcases e n with h|h<;>rw[h]<;>exact⟨rfl,rfl⟩
 refine⟨fun n _ h=> ?_,fun{a b k} _ h=> ?_,fun{a b k} _ h=> ?_⟩
 ·rw[(f n).1]at h;cases h
 ·rw[(f a).1]at h;cases h
 ·rw[(f a).2]at h;cases h
open Go Cv Go.Proofs
def reportsOC:Con:=con1 RpI (fun i=>[prdV i.p,.own 0]) (fun i=>[eW i.l]) (fun i=>i.p.small∧i.l.length≤1099511627776) (fun i=>zA (yS i.p i.l)) (fun i=>[eW i.l])
def doJ (a b:Nat):SAnn:={ι:=Mkt×List Rep,slots:=fun _=>[(a,.nm 0 0),(b,.own 1)],rows:=fun j=>[fQ j.1,eW j.2],slots0:=fun _=>[(a,.nm 0 0)],rows0:=fun j=>[fQ j.1]}
open Go Cv Go.Proofs
def pR (a:RpI):Prop:=Sx.AObj.cells [V.d (D.v (Value.string (sb a.p.code))),V.own 1,V.d (dI a.p.tick),V.d (dI a.p.low),V.d (dI a.p.high),V.d (dI a.p.wide),V.d (dI a.p.rule),V.d (dI a.p.top),V.d (dI a.p.least),V.d (dI a.p.part),V.own ((1:Nat)+(1:Nat))] 29=Sx.AObj.cells [V.d (D.v (Value.string (sb a.p.code))),V.own 1,V.d (dI a.p.tick),V.d (dI a.p.low),V.d (dI a.p.high),V.d (dI a.p.wide),V.d (dI a.p.rule),V.d (dI a.p.top),V.d (dI a.p.least),V.d (dI a.p.part),V.own ((1:Nat)+(1:Nat))] 29∧AObj.fro 1 (iE a.p.settle)=AObj.fro 1 (iE a.p.settle)∧AObj.fro 1 (iE a.p.months)=AObj.fro 1 (iE a.p.months)∧eW a.l=eW a.l
def zOm (i:RpI):Prop:=
 ∃(a:Prd),sb a.code=sb i.p.code∧iE a.months=iE i.p.months∧a.tick=i.p.tick∧a.low=i.p.low∧a.high=i.p.high∧a.wide=i.p.wide∧a.rule=i.p.rule∧a.top=i.p.top∧a.least=i.p.least∧a.part=i.p.part∧iE a.settle=iE i.p.settle∧(zS a)∧(∀(b:Unit),a.check=0→∃(c:Nat),(↑c:Int)=0∧xO (xW i c).fst=xO (y5 a)∧∃(d:Nat→Prop),∃(e:Nat→Nat),d c∧∀(f:Nat),d f→cnd (decide ((↑f:Int)<(↑(List.map yE i.l).length:Int))) ((0≤(↑f:Int)∧(↑f:Int)<(↑(List.map yE i.l).length:Int))∧∃(g:Int),∃(h:Int),∃(j:Int),∃(k:Int),∃(l:Int),∃(m:Int),∃(n:Int),∃(p:Int),zF (List.map yE i.l) (↑f:Int).toNat 0 8=some [dI g,dI h,dI j,dI k,dI l,dI m,dI n,dI p]∧∃(q:LgR),q.r.kind=g∧q.r.id=h∧q.r.inst=j∧q.r.side=k∧q.r.price=l∧q.r.qty=m∧q.r.left=n∧q.r.why=p∧xO q.l=xO (xW i f).fst∧(cP q)∧∀(r:Unit),True→cnd ((q.l.add q.r).snd !=0) (∃(s:Unit),yS i.p i.l=(q.l.add q.r).snd∧List.map yE i.l=List.map yE i.l∧True) (∃(s:Nat),(↑s:Int)=IntKind.i64.wrap ((↑f:Int)+1)∧xO (xW i s).fst=xO (q.l.add q.r).fst∧d s∧e s<e f∧pR i)) (∃(g:Nat),(↑g:Int)=0∧∃(h:Nat→Prop),∃(j:Nat→Nat),h g∧∀(k:Nat),h k→cnd (decide ((↑k:Int)<(↑(iE i.p.months).length:Int))) (∃(l:LgN),l.n=(↑k:Int)∧xO l.l=xO (xW i f).fst∧(l.l.traded.length≤1000000∧l.l.net.length=l.l.traded.length)∧∀(m:Unit),True→cnd (l.l.at l.l.net l.n !=0) (∃(n:Unit),yS i.p i.l=21∧List.map yE i.l=List.map yE i.l∧True) (∃(n:Nat),(↑n:Int)=IntKind.i64.wrap ((↑k:Int)+1)∧h n∧j n<j k∧xO l.l=xO (xW i f).fst∧pR i)) (∃(l:Unit),yS i.p i.l=0∧List.map yE i.l=List.map yE i.l∧True)))∧∀(b:Unit),a.check≠0→cnd (a.check !=0) (∃(c:Unit),yS i.p i.l=a.check∧List.map yE i.l=List.map yE i.l∧True) (∃(c:Nat),False)
open Go Cv Go.Proofs
theorem zHz (a:Int):∃c,IntKind.i64.wrap a=a+c*18446744073709551616:=by
 by_cases h:a % 18446744073709551616≥9223372036854775808
 ·refine⟨-(a / 18446744073709551616)-1,?_⟩
  have:IntKind.i64.wrap a=a % 18446744073709551616-18446744073709551616:=by
   simp only[IntKind.wrap,IntKind.bits,IntKind.signed]
   exact ySf (by simpa using h)
  omega
 ·refine⟨-(a / 18446744073709551616),?_⟩
  have:IntKind.i64.wrap a=a % 18446744073709551616:=by
   simp only[IntKind.wrap,IntKind.bits,IntKind.signed]
   exact ySe (by simpa using h)
  omega
theorem z9e (a c:Int):IntKind.i64.wrap (a+c*18446744073709551616)=IntKind.i64.wrap a:=by
 have e:(a+c*18446744073709551616) % 2 ^ IntKind.i64.bits=a % 2 ^ IntKind.i64.bits:=Int.add_mul_emod_self_right a c _
 simp only[IntKind.wrap,e]
theorem mA (a b:Int):IntKind.i64.wrap (IntKind.i64.wrap a+b)=IntKind.i64.wrap (a+b):=by
 obtain⟨c,h⟩:=zHz a
 rw[h,show a+c*18446744073709551616+b=a+b+c*18446744073709551616 by omega,z9e]
theorem gW (a b k:Int) (l:List (Int×Int)):kP ((a,b)::l) k=if a=k then some b else kP l k:=by
 rw[kP,yYk]
 by_cases h:a=k
 ·rw[ySw h,ySf h];rfl
 ·rw[ySp h,ySe h];rfl
theorem rP (k v x:Int):∀l:List (Int×Int),kP (g8 k v l) x=if x=k then some v else kP l x
 |[]=>by
  rw[g8,gW]
  by_cases h:x=k
  ·rw[ySf h,ySf h.symm]
  ·rw[ySe h,ySe fun e=>h e.symm]
 |(a,b)::l=>by
  have ih:=rP k v x l
  rw[g8]
  by_cases h:k=a
  ·subst h
   rw[ySf rfl,gW,gW]
   by_cases e:x=k
   ·rw[ySf e,ySf e.symm]
   ·rw[ySe e,ySe fun c=>e c.symm,ySe fun c=>e c.symm]
  ·rw[ySe h,gW,gW,ih]
   by_cases e:x=k
   ·rw[ySe fun c=>h (by rw[c,e]),ySf e,ySf e]
   ·rw[ySe e,ySe e]
theorem zIz (k v:Int):∀{l:List (Int×Int)},(l.map (·.1)).Nodup→((g8 k v l).map (·.1)).Nodup∧∀x,x∈(g8 k v l).map (·.1)→x=k∨x∈l.map (·.1)
 |[],_=>⟨by simp[g8],fun x hx=> .inl (by simpa[g8]using hx)⟩
 |(a,b)::l,h=>by
  rw[ySn,yUb]at h
  obtain⟨i1,i2⟩:=zIz k v h.2
  rw[g8]
  by_cases e:k=a
  ·rw[ySf e,ySn]
   exact⟨yUb.2 h,fun x hx=> .inr hx⟩
  ·rw[ySe e,ySn,ySn]
   refine⟨yUb.2 ⟨fun hm=> ?_,i1⟩,fun x hx=> ?_⟩
   ·rcases i2 a hm with c|c
    ·exact e c.symm
    ·exact h.1 c
   ·rcases ySy.1 hx with c|c
    ·exact .inr (ySy.2 (.inl c))
    ·exact(i2 x c).imp_right (ySl _)
theorem zWo (k x:Int):∀{l:List (Int×Int)},(l.map (·.1)).Nodup→kP (zFl k l) x=if x=k then none else kP l x
 |[],_=>by rw[zFl];split<;>rfl
 |(a,b)::l,h=>by
  rw[ySn,yUb]at h
  rw[zFl]
  by_cases e:k=a
  ·subst e
   rw[ySf rfl,gW]
   by_cases c:x=k
   ·rw[ySf c,c,zPi h.1]
   ·rw[ySe c,ySe fun d=>c d.symm]
  ·rw[ySe e,gW,gW,zWo k x h.2]
   by_cases c:x=k
   ·rw[ySe fun d=>e (by rw[d,c]),ySf c,ySf c]
   ·rw[ySe c,ySe c]
theorem zVf (k:Int):∀(l:List (Int×Int)),((zFl k l).map (·.1)).Sublist (l.map (·.1))
 |[]=>List.Sublist.refl _
 |(a,b)::l=>by
  rw[zFl]
  split
  ·exact List.sublist_cons_self _ _
  ·exact(zVf k l).cons_cons _
structure LdR (l:Ledger) (p:Prd) (S:Stm) (N:Int→Int):Prop where
 ep:l.p=p
 tl:l.traded.length=p.count
 nl:l.net.length=p.count
 kd:(l.left.map (·.1)).Nodup
 lf:∀id,kP l.left id=if S.left id=0 then none else some (S.left id)
 ow:∀id,kP l.inst id=some (S.own id)∨(kP l.inst id=none∧S.own id=0∧S.left id=0)
 nt:∀n:Nat,n<p.count→l.net.getD n 0=IntKind.i64.wrap (N n)
theorem zIe {l:Ledger} (h:(l.left.map (·.1)).Nodup) (id n x:Int):kP (l.close id n).left x=(if x=id then(if n=0 then none else some n)else kP l.left x)∧((l.close id n).left.map (·.1)).Nodup:=by
 obtain⟨k1,_⟩:=zIz id n h
 rw[Ledger.close]
 dsimp only
 by_cases c:n=0
 ·rw[ySf c,ySf c,zWo id x k1,rP]
  refine⟨?_,k1.sublist (zVf id _)⟩
  by_cases e:x=id
  ·rw[ySf e,ySf e]
  ·rw[ySe e,ySe e,ySe e]
 ·rw[ySe c,ySe c,rP]
  exact⟨rfl,k1⟩
theorem LdR.close {l:Ledger} {p:Prd} {S:Stm} {N:Int→Int} (h:LdR l p S N) {id:Int} (n:Int) (hs:S.left id≠0):LdR (l.close id n) p ⟨upd S.left id n,S.own⟩ N:=by
 refine⟨h.ep,h.tl,h.nl,(zIe h.kd id n 0).2,fun x=> ?_,fun x=> ?_,h.nt⟩
 ·rw[(zIe h.kd id n x).1,h.lf]
  show _=if upd S.left id n x=0 then none else some (upd S.left id n x)
  by_cases e:x=id
  ·have eu:upd S.left id n x=n:=ySf e
   rw[ySf e,eu]
  ·have eu:upd S.left id n x=S.left x:=ySe e
   rw[ySe e,eu]
 ·rcases h.ow x with c|⟨c1,c2,c3⟩
  ·exact .inl c
  ·refine .inr ⟨c1,c2,?_⟩
   dsimp only[upd]
   rw[ySe fun e:x=id=>hs (by rw[← e];exact c3)];exact c3
theorem z8d {l:Ledger} {r:Rep} {N:Int→Int} {c:Nat} (h:∀n:Nat,n<c→l.net.getD n 0=IntKind.i64.wrap (N n)) (hl:l.net.length=c) (hk:r.kind=3) (hs:r.side=1∨r.side=2) (hi:0≤r.inst∧r.inst<c):(l.trade r).net.length=c∧∀n:Nat,n<c→(l.trade r).net.getD n 0=IntKind.i64.wrap (N n+one r n):=by
 have key:∀x:Int,x=one r r.inst→∀n:Nat,n<c→(l.net.set r.inst.toNat (IntKind.i64.wrap (l.net.getD r.inst.toNat 0+x))).getD n 0=IntKind.i64.wrap (N n+one r n):=by
  intro x hx n hn
  rw[kE (by omega)]
  by_cases e:n=r.inst.toNat
  ·have ei:(r.inst.toNat:Int)=r.inst:=by omega
   rw[ySf e,h _ (by omega),mA,hx,e,ei]
  ·rw[ySe e,h n hn,one,ySe fun d=>e (by omega),Int.add_zero]
 rw[Ledger.trade]
 dsimp only
 rcases hs with s|s
 ·rw[ySf s,vC]
  exact⟨by rw[yTa];exact hl,key r.qty (by rw[one,ySf ⟨hk,rfl⟩,ySf s])⟩
 ·rw[ySe (by omega),ySf s,rZ]
  exact⟨by rw[yTa];exact hl,key (-r.qty) (by rw[one,ySf ⟨hk,rfl⟩,ySe (by omega)])⟩
theorem LdR.trade {l:Ledger} {p:Prd} {S:Stm} {N:Int→Int} (h:LdR l p S N) {r:Rep} (hk:r.kind=3) (hs:r.side=1∨r.side=2) (hi:0≤r.inst∧r.inst<p.count):LdR (l.trade r) p S fun n=>N n+one r n:=by
 obtain⟨n1,n2⟩:=z8d h.nt h.nl hk hs hi
 exact⟨h.ep,by rw[Ledger.trade,vC];dsimp only;rw[yTa];exact h.tl,n1,h.kd,h.lf,h.ow,n2⟩
theorem LdR.net {l:Ledger} {p:Prd} {S:Stm} {N N':Int→Int} (h:LdR l p S N) (e:∀n,N' n=N n):LdR l p S N':=⟨h.ep,h.tl,h.nl,h.kd,h.lf,h.ow,fun n hn=>by rw[e];exact h.nt n hn⟩
theorem LdR.isB {l:Ledger} {p:Prd} {S:Stm} {N:Int→Int} (h:LdR l p S N) {n:Int} (hn:0≤n∧n<p.count):l.isB n=true:=by
 rw[Ledger.isB,h.tl,ySw hn.1,ySw hn.2];rfl
theorem yCh {l:Ledger} {r:Rep} (h:r.kind=2):l.add r=(l,0):=by
 rw[Ledger.add,ySe (by rw[Rep.badK,h];decide),ySf h]
theorem yHg {l:Ledger} {p:Prd} (hc:p.check=0) {D:Int→Prop} {S:Stm} {N:Int→Int} (h:LdR l p S N) {r:Rep} (g:StG p D S r):(l.add r).2=0∧LdR (l.add r).1 p (stN S r) fun n=>N n+one r n:=by
 have gi:=g.i
 have gl:=g.l
 have gq:=g.q
 have hk15:1≤r.kind∧r.kind≤5∧r.kind≠2:=by rcases g.k with k|k|k|k<;>omega
 have hbad:¬r.badK=true:=by
  rw[Rep.badK,ySp (by omega),ySp (by omega)];decide
 have hin:¬l.isB r.inst=false:=by rw[h.isB gi];decide
 have one0:r.kind≠3→∀n,N n+one r n=N n:=fun e n=>by rw[one,ySe fun x=>e x.1,Int.add_zero]
 rw[Ledger.add,ySe hbad,ySe hk15.2.2,ySe hin]
 have hlo:=h.lf r.id
 by_cases k1:r.kind=1
 ·obtain⟨l0,q1,lq⟩:S.left r.id=0∧1≤r.qty∧r.left=r.qty:=by
   rcases g.k with k|k|k|k
   ·exact k.2
   ·omega
   ·omega
   ·omega
  rw[ySf l0]at hlo
  rw[ySf k1,Ledger.acc,hlo,ySe (by decide),ySe (by omega),stN,ySf k1]
  refine⟨rfl,h.ep,h.tl,h.nl,(zIz _ _ h.kd).1,fun x=> ?_,fun x=> ?_,fun n hn=>by rw[one0 (by omega)];exact h.nt n hn⟩
  ·rw[rP,h.lf,lq]
   show _=if upd S.left r.id r.qty x=0 then none else some (upd S.left r.id r.qty x)
   by_cases e:x=r.id
   ·have eu:upd S.left r.id r.qty x=r.qty:=ySf e
    rw[ySf e,eu,ySe (by omega)]
   ·have eu:upd S.left r.id r.qty x=S.left x:=ySe e
    rw[ySe e,eu]
  ·dsimp only[upd]
   rw[rP]
   by_cases e:x=r.id
   ·rw[ySf e,ySf e];exact .inl rfl
   ·rw[ySe e,ySe e,ySe e];exact h.ow x
 rw[ySe k1]
 by_cases k3:r.kind=3
 ·obtain⟨q1,s12,G3⟩:1≤r.qty∧(r.side=1∨r.side=2)∧((r.inst=S.own r.id∧r.qty≤S.left r.id∧r.left=S.left r.id-r.qty)∨(r.inst≠S.own r.id∧(p.legs (S.own r.id)).2.2=true∧(r.inst=(p.legs (S.own r.id)).1∨r.inst=(p.legs (S.own r.id)).2.1)∧r.left=S.left r.id)):=by
   rcases g.k with k|k|k|k
   ·omega
   ·exact k.2
   ·omega
   ·omega
  rcases G3 with⟨ho,hq,hl⟩|⟨ho,hsp,hlg,hl⟩
  ·have hown:l.own r.id=S.own r.id:=by
    rcases h.ow r.id with c|⟨_,_,c⟩
    ·rw[Ledger.own,c];rfl
    ·omega
   have hleg:¬l.isLeg r=true:=by
    rw[Ledger.isLeg,Ledger.legB,hown,h.ep]
    intro x
    simp only[ySs,yVo,yTj]at x
    obtain⟨_,_,y,z⟩:=x
    have:=zAy hc (k:=S.own r.id) (by omega) y
    omega
   rw[ySe hleg,hlo,ySe (by omega)]
   dsimp only
   have e1:¬l.e1 r=true:=by rw[Ledger.e1,hown,ySp (show ¬r.inst≠S.own r.id from fun x=>x ho)];simp
   have e2:¬r.e2 (S.left r.id)=true:=by
    intro x
    rw[Rep.e2,w64 (by omega)]at x
    simp only[ySs,yVo,yTj]at x
    omega
   have e3:¬r.e3 (S.left r.id)=true:=by rw[Rep.e3,ySp (by omega)];simp
   have e4:¬r.e4 (S.left r.id)=true:=by rw[Rep.e4,ySp (by omega)];simp
   rw[ySe e1,ySe e2,ySe e3,ySe e4,Ledger.done,ySf k3,zEy k1 hk15.2.2 fun _=>ho]
   exact⟨rfl,(h.trade k3 s12 gi).close r.left (by omega)⟩
  ·have hown:kP l.inst r.id=some (S.own r.id):=by
    rcases h.ow r.id with c|⟨_,c,_⟩
    ·exact c
    ·exfalso
     rw[c]at hsp
     have hct:=zPk hc
     have:=(zAy hc (k:=0) (by omega) hsp)
     omega
   have hleg:l.isLeg r=true:=by
    rw[Ledger.isLeg,Ledger.legB,Ledger.own,hown,h.ep,ySw k3]
    simp only[Option.isSome_some,yUj,hsp,yTm,yVo,yTj]
    exact hlg
   rw[ySf hleg,ySe (by omega),zSu k3 ho]
   exact⟨rfl,h.trade k3 s12 gi⟩
 ·have hleg:¬l.isLeg r=true:=by rw[Ledger.isLeg,ySp k3];simp
  have hl0:S.left r.id≠0:=by rcases g.k with k|k|k|k<;>omega
  have e1:¬l.e1 r=true:=by rw[Ledger.e1,ySp k3];simp
  have e2:¬r.e2 (S.left r.id)=true:=by rw[Rep.e2,ySp k3];simp
  rw[ySe hleg,hlo,ySe hl0]
  dsimp only
  rw[ySe e1,ySe e2,zEy k1 hk15.2.2 fun x=>absurd x k3]
  rcases g.k with k|k|⟨k4,q1,q2,lz⟩|⟨k5,q1,lq⟩
  ·omega
  ·omega
  ·have e3:¬r.e3 (S.left r.id)=true:=by rw[Rep.e3,ySp (show ¬r.qty≠S.left r.id from fun x=>x q2)];simp
   have e4:¬r.e4 (S.left r.id)=true:=by rw[Rep.e4,ySp (by omega)];simp
   rw[ySe e3,ySe e4,Ledger.done,ySe k3,ySf k4,lz]
   exact⟨rfl,(h.close 0 hl0).net (one0 k3)⟩
  ·have e3:¬r.e3 (S.left r.id)=true:=by rw[Rep.e3,ySp (by omega)];simp
   have e4:¬r.e4 (S.left r.id)=true:=by
    intro x
    rw[Rep.e4,w64 (by omega)]at x
    simp only[ySs,yVo,yTj]at x
    omega
   rw[ySe e3,ySe e4,Ledger.done,ySe k3,ySe (by omega)]
   exact⟨rfl,(h.close r.left hl0).net (one0 k3)⟩
theorem zWf {p:Prd} (hc:p.check=0) {D:Int→Prop}:∀{R:List Rep} {l:Ledger} {S:Stm} {N:Int→Int},LdR l p S N→dV p D S R→(l.addAll R).2=0∧LdR (l.addAll R).1 p (vO S R) fun n=>N n+wY R n
 |[],l,S,N,h,_=>⟨rfl,h.net fun n=>by rw[wY,Int.add_zero]⟩
 |r::R,l,S,N,h,g=>by
  obtain⟨a1,a2⟩:=yHg hc h g.1
  obtain⟨b1,b2⟩:=zWf hc a2 g.2
  rw[Ledger.addAll,ySe (by rw[a1];decide)]
  exact⟨b1,b2.net fun n=>by rw[wY];omega⟩
theorem z6p (p:Prd):LdR (y5 p) p ⟨fun _=>0,fun _=>0⟩ fun _=>0:=by
 refine⟨rfl,yUn,yUn,List.nodup_nil,fun id=>rfl,fun id=> .inr ⟨rfl,rfl,rfl⟩,fun n hn=> ?_⟩
 show(List.replicate p.count (0:Int)).getD n 0=_
 rw[yFm];decide
open Go Cv Go.Proofs
open Go Cv Go.Proofs
open Go Cv Go.Proofs
theorem z0r {p:Prd} {B:List (List zD)} (h:BWf p B) (U:List Int) (c:Cmd):(doF p B U c).R.length≤1503000003:=by
 have hbl:=h.ok.bl
 have hrj:∀w,(cK c w).length≤1503000003:=fun w=>by simp[cK]
 rw[doF]
 split
 ·exact hrj _
 rename_i hr
 have hr:c.right=0:=by simpa using hr
 split
 ·rename_i hk
  obtain⟨_,hq,_⟩:=eC hr hk
  rw[cM]
  split
  ·exact hrj _
  rename_i hp
  have hp:p.price c.inst c.price=0:=by simpa using hp
  have hin:=zLb hp
  split
  ·exact hrj _
  split
  ·exact hrj _
  split
  ·exact hrj _
  split
  ·exact hrj _
  have:=zAv h U (c:=c) (by omega) hq
  omega
 rename_i hk
 split
 ·exact hrj _
 rename_i hf
 have hf:(zT B c.id).2.2=true:=by simpa using hf
 have hf:zT B c.id=((zT B c.id).1,(zT B c.id).2.1,true):=by rw[← hf]
 obtain⟨hin,_⟩:=zQr h hf
 split
 ·rename_i h4
  have hq:=bC hr hk (by omega)
  rw[vF]
  split
  ·exact hrj _
  split
  ·simp[u9]
  split
  ·exact hrj _
  have:=zAv (h.take c.id (zT B c.id).2.1.qty) U (c:=⟨1,c.id,(zT B c.id).1,(zT B c.id).2.1.side,c.price,c.qty,0,1,[]⟩) (by dsimp only;rw[mC];exact hin) hq
  dsimp only
  rw[ySm]
  have e1:(jU B U c.id (zT B c.id).1 (zT B c.id).2.1).R.length=1:=rfl
  have e2:(jU B U c.id (zT B c.id).1 (zT B c.id).2.1).B=(yU B c.id (zT B c.id).2.1.qty).1:=rfl
  rw[e1,e2]
  omega
 split
 ·simp[jU]
 ·simp[u9]
open Go Cv Go.Proofs
theorem z6m (i:RpI) (h:reportsOC.cnd i):zOm i:=by
 obtain⟨hs,hlen⟩:i.p.small∧i.l.length≤1099511627776:=h
 have hs':=hs
 obtain⟨h1,h2,h3⟩:=hs'
 unfold zOm xW cP pR zS dI
 simp only[yW,ySh]
 refine⟨i.p,?_⟩
 (repeat'(first|exact rfl|exact trivial|assumption|apply And.intro|refine fun(_:Unit) (_:True)=>?_|refine Exists.intro () ?_|omega|(dsimp only;omega)))
 ·intro _ c
  have c:i.p.check=0:=c
  generalize hL:y5 i.p=L
  have hf:L.fit:=hL▸zGm hs
  have e0:yS i.p i.l=if(L.addAll i.l).2≠0 then(L.addAll i.l).2 else if(List.range i.p.months.length).any (fun n=>decide ((L.addAll i.l).1.at (L.addAll i.l).1.net n≠0))then 21 else 0:=by
   rw[yS,ySe (by simp[c]),hL]
  refine⟨0,rfl,by rw[yXs];rfl,fun j=>j≤i.l.length∧(L.addAll (i.l.take j)).2=0,fun j=>i.l.length-j,⟨by omega,rfl⟩,?_⟩
  rintro j ⟨g1,g2⟩
  refine zK (fun hlt=> ?_) (fun hlt=> ?_)
  ·obtain⟨r,hr⟩:=z6 (l:=i.l) (i:=j) (by omega)
   refine⟨⟨by omega,by omega⟩,r.kind,r.id,r.inst,r.side,r.price,r.qty,r.left,r.why,yKl hr,⟨(L.addAll (i.l.take j)).1,r⟩,rfl,rfl,rfl,rfl,rfl,rfl,rfl,rfl,rfl,bF hf,fun _ _=> ?_⟩
   dsimp only
   refine Cv.cnd.mk (fun e=>⟨(),?_,trivial,trivial⟩) (fun e=>⟨j+1,?_,?_,⟨by omega,?_⟩,by omega,by(repeat'(first|exact trivial|exact rfl|apply And.intro))⟩)
   ·have e:((L.addAll (i.l.take j)).1.add r).2≠0:=by simpa using e
    rw[e0,zHc hr g2 e,ySf e]
   ·rw[w64 (by omega)];rfl
   ·rw[cH hr g2]
   ·rw[cH hr g2];simpa using e
  ·have ej:i.l.take j=i.l:=ySz (by omega)
   rw[ej]at g2 ⊢
   have hfit:=bF hf (xs:=i.l)
   generalize L.addAll i.l=X at*
   have e1:yS i.p i.l=if(List.range i.p.months.length).any (fun n=>decide (X.1.at X.1.net n≠0))then 21 else 0:=by
    rw[e0,ySe (by simp[g2])]
   refine⟨0,rfl,fun k=>k≤i.p.months.length∧∀m<k,X.1.at X.1.net m=0,fun k=>i.p.months.length-k,⟨by omega,fun m hm=>by omega⟩,?_⟩
   rintro k ⟨g3,g4⟩
   refine zK (fun hlt=>⟨⟨X.1,k⟩,rfl,rfl,hfit.1,fun _ _=> ?_⟩) (fun hlt=>⟨(),?_,trivial,trivial⟩)
   ·dsimp only
    refine Cv.cnd.mk (fun e=>⟨(),?_,trivial,trivial⟩) (fun e=>⟨k+1,?_,⟨by omega,fun m hm=> ?_⟩,by omega,rfl,by(repeat'(first|exact trivial|exact rfl|apply And.intro))⟩)
    ·rw[e1,ySf (zCj (k:=k) (by omega) (by simpa using e))]
    ·rw[w64 (by omega)];rfl
    ·rcases yUr m k with h|h
     ·exact g4 m h
     ·obtain rfl:m=k:=by omega
      simpa using e
   ·rw[e1,ySe (by
     rw[Bool.not_eq_true]
     exact mV fun m hm=>by simpa using g4 m (by omega))]
 ·intro _ c
  refine Cv.cnd.mk (fun e=>⟨(),?_,trivial,trivial⟩) (fun e=>absurd (by simpa using e) c)
  rw[yS,ySf c]
theorem reportsO_ok:reportsOC.ok Tryz.prog 31:=okw mixed (gokc z3q (gokc z2x (gokc z1j gok0))) 0 (fun _=>[]) (fun i=>zWv i) [] Tryz.func31 z6m
structure AmS (p:Prd) (m:Mkt) (l:Ledger) (all:List Rep) (j:Nat) (B:List (List zD)) (U:List Int) (S:Stm) (N:Int→Int):Prop where
 r:m.Rep p B U
 b:BOk p B
 a:Acc B U
 n:kQ B≤250
 f:Fits (fun _=>True) S B
 z:∀n:Nat,n<p.months.length→N n=0
 u:Un p (B.map xI)
 lr:LdR l p S N
 e:(y5 p).addAll all=(l,0)
 s:all.length≤2000000000*j
theorem zYq {l:Ledger} {R:List Rep} (h:(l.addAll R).2=0) (k:Nat):(l.addAll (R.take k)).2=0:=by
 have:=gI (R.take k) (R.drop k) l
 rw[yUm]at this
 by_cases c:(l.addAll (R.take k)).2=0
 ·exact c
 ·rw[ySf c]at this
  rw[this]at h;exact h
theorem yRb {l:List Rep} {k:Nat} {r:Rep} (h:l[k]? =some r):zF (l.map yE) k (0+0) 1=some [D.v (.int .i64 r.kind)]:=elA h (by simp[yE]) rfl
open Go Cv Go.Proofs
def withinBC:Con:=con1 WiI (fun i=>[zA i.n,zA i.lo,zA i.hi]) (fun _=>[]) (fun i=>yY i.n∧-1000000≤i.lo∧i.lo≤i.hi∧i.hi≤1099511627776) (fun i=>zA (zH i.n i.lo i.hi)) (fun _=>[])
structure TuI where
 x:Prd
 l:List Cmd
 which:Int
 by_:Int
@[reducible] def TuI.raw (i:TuI):Prop:=i.x.raw∧(∀c∈i.l,c.raw)∧i.l.length≤9223372036854775807∧yY i.which∧yY i.by_
def tuC:Con:=con1 TuI (fun i=>[prdV i.x,roV 9 (i.l.map cmdE),zA i.which,zA i.by_]) (fun _=>[]) (fun i=>i.raw) (fun _=>yR true) (fun _=>[])
@[reducible] def z2l (l:List Int):AObj:= .own 3 1 (iE l)
def tuA:List SAnn:=[
 {ι:=Nat×Mkt×List Rep×List Int,slots:=fun j=>[(10,.nm 0 0),(12,.own 1),(13,.own 2),(14,zA j.1)],rows:=fun j=>[fQ j.2.1,eW j.2.2.1,z2l j.2.2.2]},
 {ι:=Nat×List Rep×List Int,slots:=fun j=>[(12,.own 0),(13,.own 1),(16,zA j.1)],rows:=fun j=>[eW j.2.1,z2l j.2.2]}]
def tuJ:List (Nat×SAnn):=[(4,yQu 9),(32,bj 39),(40,doJ 10 15),(58,{ι:=List Int,slots:=fun _=>[(13,.own 0)],rows:=fun l=>[z2l l],slots0:=fun _=>[(13,.own 0)],rows0:=fun l=>[z2l l]}),(88,{ι:=List Rep,slots:=fun _=>[(12,.own 0)],rows:=fun l=>[eW l],slots0:=fun _=>[(12,.own 0)],rows0:=fun l=>[eW l]})]
open Go Cv Go.Proofs
def zUy (i:WiI):Prop:=
 IntKind.i64=IntKind.i64∧aM i
def zZf (a:TuI):Prop:=Sx.AObj.cells [V.d (D.v (Value.string (sb a.x.code))),V.own 0,V.d (dI a.x.tick),V.d (dI a.x.low),V.d (dI a.x.high),V.d (dI a.x.wide),V.d (dI a.x.rule),V.d (dI a.x.top),V.d (dI a.x.least),V.d (dI a.x.part),V.own ((0:Nat)+(1:Nat))] 29=Sx.AObj.cells [V.d (D.v (Value.string (sb a.x.code))),V.own 0,V.d (dI a.x.tick),V.d (dI a.x.low),V.d (dI a.x.high),V.d (dI a.x.wide),V.d (dI a.x.rule),V.d (dI a.x.top),V.d (dI a.x.least),V.d (dI a.x.part),V.own ((0:Nat)+(1:Nat))] 29∧AObj.fro 1 (iE a.x.settle)=AObj.fro 1 (iE a.x.settle)∧AObj.fro 1 (iE a.x.months)=AObj.fro 1 (iE a.x.months)
def zQu (a:Prd) (b:TuI):Prop:=Sx.AObj.cells (gD (zIx ((0:Nat)+(1:Nat)+(1:Nat)+(1:Nat)) (jM [] 0 []) 3) [sV a.code,V.own 1,zA a.tick,zA a.low,zA a.high,zA a.wide,zA a.rule,zA a.top,zA a.least,zA a.part,V.own 2]) (29:TypeId)=Sx.AObj.cells (gD (zIx ((0:Nat)+(1:Nat)+(1:Nat)+(1:Nat)) (jM [] 0 []) 3) [sV a.code,V.own 1,zA a.tick,zA a.low,zA a.high,zA a.wide,zA a.rule,zA a.top,zA a.least,zA a.part,V.own 2]) (29:TypeId)∧AObj.fro 1 (iE a.months)=AObj.fro 1 (iE a.months)∧AObj.fro 1 (iE a.settle)=AObj.fro 1 (iE a.settle)∧zZf b
def zZp (a:Nat×Mkt×List Rep×List Int) (b:Prd) (c:TuI):Prop:=AObj.own 3 1 (iE a.snd.snd.snd)=AObj.own 3 1 (iE a.snd.snd.snd)∧zQu b c
def zZw (a:Nat×Mkt×List Rep×List Int) (b:Prd) (c:TuI):Prop:=AObj.own tRp 8 (List.map yE a.snd.snd.fst)=AObj.own tRp 8 (List.map yE a.snd.snd.fst)∧zZp a b c
def zXy (a:Bool→Prop) (b:Bool) (c:Nat×Mkt×List Rep×List Int) (d:Prd) (e:TuI):Prop:=a b∧fQ c.snd.fst=fQ c.snd.fst∧zZw c d e
def z0a (a:Mkt×List Rep) (b:Prd) (c:TuI):Prop:=fQ a.fst=fQ a.fst∧AObj.own tRp 8 (List.map yE a.snd)=AObj.own tRp 8 (List.map yE a.snd)∧zQu b c
def zYf (a:List Int→Prop) (b:List Int) (c:Nat×List Rep×List Int) (d:Mkt×List Rep) (e:Prd) (f:TuI):Prop:=a b∧AObj.own tRp 8 (List.map yE c.snd.fst)=AObj.own tRp 8 (List.map yE c.snd.fst)∧z0a d e f
def zRy (a:WiI):Prop:=((-9223372036854775808)≤a.n∧a.n≤9223372036854775807)∧(-1000000)≤a.lo∧a.lo≤a.hi∧a.hi≤1099511627776
def Vtu (i:TuI):Prop:=
 ∃(a:Prd),∃(b:Prd→Prop),(∃(c:Prd),sb c.code=sb i.x.code∧iE c.months=iE i.x.months∧c.tick=i.x.tick∧c.low=i.x.low∧c.high=i.x.high∧c.wide=i.x.wide∧c.rule=i.x.rule∧c.top=i.x.top∧c.least=i.x.least∧c.part=i.x.part∧iE c.settle=iE i.x.settle∧(((-9223372036854775808)≤c.tick∧c.tick≤9223372036854775807)∧((-9223372036854775808)≤c.wide∧c.wide≤9223372036854775807)∧((-9223372036854775808)≤c.rule∧c.rule≤9223372036854775807)∧((-9223372036854775808)≤c.top∧c.top≤9223372036854775807)∧((-9223372036854775808)≤c.least∧c.least≤9223372036854775807)∧((-9223372036854775808)≤c.part∧c.part≤9223372036854775807)∧c.months.length≤9223372036854775807)∧∀(d:Unit),True→∃(e:Prd),sb e.code=sb [(206:UInt8),(169:UInt8)]∧e.tick=yH c∧e.low=(-20)*yH c∧e.high=100*yH c∧e.wide=yH c*(5+zH c.wide 0 60)∧e.rule=1+zH c.rule 0 2∧e.top=zH c.top 0 9∧e.least=1+zH c.least 0 4∧e.part=zH c.part 0 100∧AObj.fro 1 (iE e.months)=AObj.fro 1 (iE (jL (kN c).toNat))∧AObj.fro 1 (iE e.settle)=AObj.fro 1 (iE (kG (yH c) (kN c).toNat))∧b e∧zZf i)∧∀(c:Prd),b c→∃(d:Prd),sb d.code=sb c.code∧iE d.months=iE c.months∧d.tick=c.tick∧d.low=c.low∧d.high=c.high∧d.wide=c.wide∧d.rule=c.rule∧d.top=c.top∧d.least=c.least∧d.part=c.part∧iE d.settle=iE c.settle∧(zS d)∧(∀(e:Unit),d.check=0→∃(f:Nat×Mkt×List Rep×List Int),(↑f.fst:Int)=0∧fQ f.snd.fst=fQ (Mkt.mk d (h8 d) [])∧List.map yE f.snd.snd.fst=[]∧iE f.snd.snd.snd=[]∧∃(g:Nat×Mkt×List Rep×List Int→Prop),∃(h:Nat×Mkt×List Rep×List Int→Nat),g f∧∀(j:Nat×Mkt×List Rep×List Int),g j→∃(k:Bool),∃(l:Bool→Prop),cnd (decide ((↑j.fst:Int)<(↑(List.map cmdE i.l).length:Int))) (∃(m:Bool),m=decide ((↑j.fst:Int)<40)∧zXy l m j c i) (∃(m:Bool),m=false∧zXy l m j c i)∧∀(m:Bool),l m→cnd m (∃(n:Mkt×List Rep),fQ n.fst=fQ j.snd.fst∧∃(p:Mkt×List Rep→Prop),((0≤(↑j.fst:Int)∧(↑j.fst:Int)<(↑(List.map cmdE i.l).length:Int))∧∃(q:Int),∃(r:Int),∃(s:Int),∃(t:Int),∃(u:Int),∃(v:Int),∃(w:Int),∃(x:Int),∃(y:ByteArray),zF (List.map cmdE i.l) (↑j.fst:Int).toNat 0 9=some [dI q,dI r,dI s,dI t,dI u,dI v,dI w,dI x,D.v (Value.string y)]∧∃(z:TmI),sb z.p.code=sb c.code∧iE z.p.months=iE c.months∧z.p.tick=c.tick∧z.p.low=c.low∧z.p.high=c.high∧z.p.wide=c.wide∧z.p.rule=c.rule∧z.p.top=c.top∧z.p.least=c.least∧z.p.part=c.part∧iE z.p.settle=iE c.settle∧z.c.kind=q∧z.c.id=r∧z.c.inst=s∧z.c.side=t∧z.c.price=u∧z.c.qty=v∧z.c.least=w∧z.c.time=x∧sb z.c.label=y∧z.i=(↑j.fst:Int)∧(z.p.check=0∧(z.p.code.length≤1099511627776∧z.p.months.length≤1099511627776∧z.p.settle.length≤1099511627776)∧(((-9223372036854775808)≤z.c.kind∧z.c.kind≤9223372036854775807)∧((-9223372036854775808)≤z.c.id∧z.c.id≤9223372036854775807)∧((-9223372036854775808)≤z.c.inst∧z.c.inst≤9223372036854775807)∧((-9223372036854775808)≤z.c.side∧z.c.side≤9223372036854775807)∧((-9223372036854775808)≤z.c.price∧z.c.price≤9223372036854775807)∧((-9223372036854775808)≤z.c.qty∧z.c.qty≤9223372036854775807)∧((-9223372036854775808)≤z.c.least∧z.c.least≤9223372036854775807)∧(-9223372036854775808)≤z.c.time∧z.c.time≤9223372036854775807)∧0≤z.i∧z.i≤1000000)∧∀(a_1:Unit),True→∃(a_2:EnI),a_2.c.kind=(qY z).kind∧a_2.c.id=(qY z).id∧a_2.c.inst=(qY z).inst∧a_2.c.side=(qY z).side∧a_2.c.price=(qY z).price∧a_2.c.qty=(qY z).qty∧a_2.c.least=(qY z).least∧a_2.c.time=(qY z).time∧sb a_2.c.label=sb (qY z).label∧fQ a_2.m=fQ n.fst∧((a_2.m.Rep a_2.p a_2.B a_2.U∧BOk a_2.p a_2.B)∧a_2.c.label.length≤140737488355328∧((-9223372036854775808)≤a_2.c.qty∧a_2.c.qty≤9223372036854775807)∧a_2.X=doF a_2.p a_2.B a_2.U a_2.c)∧∀(a_3:Mkt),a_3.Rep a_2.p a_2.X.B a_2.X.U→∃(a_4:Mkt×List Rep),fQ a_4.fst=fQ a_3∧List.map yE a_4.snd=List.map yE a_2.X.R∧p a_4∧zZw j c i)∧∀(q:Mkt×List Rep),p q→∃(r:Nat×List Rep×List Int),(↑r.fst:Int)=0∧List.map yE r.snd.fst=List.map yE j.snd.snd.fst∧iE r.snd.snd=iE j.snd.snd.snd∧∃(s:Nat×List Rep×List Int→Prop),∃(t:Nat×List Rep×List Int→Nat),s r∧∀(u:Nat×List Rep×List Int),s u→cnd (decide ((↑u.fst:Int)<(↑(List.map yE q.snd).length:Int))) (∃(v:List Int),iE v=iE u.snd.snd∧∃(w:List Int→Prop),((0≤(↑u.fst:Int)∧(↑u.fst:Int)<(↑(List.map yE q.snd).length:Int))∧∃(x:Int),zF (List.map yE q.snd) (↑u.fst:Int).toNat ((0:Nat)+(0:Nat)) 1=some [dI x]∧cnd (x==3) (((iE v).length+1)*(8:Nat)≤(70368744177664:Nat)∧∃(y:List Int),iE y=iE v++[[dI (↑(List.map yE u.snd.fst).length:Int)]]∧zYf w y u q c i) (∃(y:List Int),iE y=iE v∧zYf w y u q c i))∧∀(x:List Int),w x→(0≤(↑u.fst:Int)∧(↑u.fst:Int)<(↑(List.map yE q.snd).length:Int))∧∃(y:Int),∃(z:Int),∃(a_1:Int),∃(a_2:Int),∃(a_3:Int),∃(a_4:Int),∃(a_5:Int),∃(a_6:Int),zF (List.map yE q.snd) (↑u.fst:Int).toNat 0 8=some [dI y,dI z,dI a_1,dI a_2,dI a_3,dI a_4,dI a_5,dI a_6]∧((List.map yE u.snd.fst).length+1)*(64:Nat)≤(70368744177664:Nat)∧∃(a_7:Nat×List Rep×List Int),(↑a_7.fst:Int)=IntKind.i64.wrap ((↑u.fst:Int)+1)∧List.map yE a_7.snd.fst=List.map yE u.snd.fst++[[dI y,dI z,dI a_1,dI a_2,dI a_3,dI a_4,dI a_5,dI a_6]]∧iE a_7.snd.snd=iE x∧s a_7∧t a_7<t u∧z0a q c i) (∃(v:Nat×Mkt×List Rep×List Int),(↑v.fst:Int)=IntKind.i64.wrap ((↑j.fst:Int)+1)∧fQ v.snd.fst=fQ q.fst∧List.map yE v.snd.snd.fst=List.map yE u.snd.fst∧iE v.snd.snd.snd=iE u.snd.snd∧g v∧h v<h j∧zQu c i)) (∃(n:RpI),sb n.p.code=sb c.code∧iE n.p.months=iE c.months∧n.p.tick=c.tick∧n.p.low=c.low∧n.p.high=c.high∧n.p.wide=c.wide∧n.p.rule=c.rule∧n.p.top=c.top∧n.p.least=c.least∧n.p.part=c.part∧iE n.p.settle=iE c.settle∧List.map yE n.l=List.map yE j.snd.snd.fst∧(v9 n)∧∀(p:Unit),True→cnd (yS n.p n.l !=0) (∃(q:Unit),true=false∧True) (cnd ((↑(iE j.snd.snd.snd).length:Int)==0) (∃(q:Unit),True∧∀(r:Unit),True→∃(s:Unit),true=true∧True) (∃(q:WiI),q.n=i.which∧q.lo=0∧q.hi=IntKind.i64.wrap ((↑(iE j.snd.snd.snd).length:Int)-1)∧(zRy q)∧∀(r:Unit),True→(0≤zH q.n q.lo q.hi∧zH q.n q.lo q.hi<(↑(iE j.snd.snd.snd).length:Int))∧∃(s:Int),zF (iE j.snd.snd.snd) (zH q.n q.lo q.hi).toNat 0 1=some [dI s]∧∃(t:List Rep),List.map yE t=List.map yE n.l∧∃(u:List Rep→Prop),((0≤s∧s<(↑(List.map yE t).length:Int))∧∃(v:Int),zF (List.map yE t) s.toNat ((0:Nat)+(5:Nat)) 1=some [dI v]∧∃(w:WiI),w.n=i.by_∧w.lo=0∧w.hi=9∧(zRy w)∧∀(x:Unit),True→(∃(y:Int),zF (List.map yE t) s.toNat ((0:Nat)+(5:Nat)) 1=some [dI y]∧y=v)∧((0≤s∧s<(↑(List.map yE t).length:Int))∧s.toNat=s.toNat)∧(0≤s∧s<(↑(List.map yE t).length:Int))∧s.toNat<(List.map yE t).length∧∃(y:List Rep),List.map yE y=z9 (List.map yE t) s.toNat ((0:Nat)+(5:Nat)) [dI (IntKind.i64.wrap (IntKind.i64.wrap (v+1)+zH w.n w.lo w.hi))]∧u y∧fQ j.snd.fst=fQ j.snd.fst∧zZp j c i)∧∀(v:List Rep),u v→∃(w:RpI),sb w.p.code=sb c.code∧iE w.p.months=iE c.months∧w.p.tick=c.tick∧w.p.low=c.low∧w.p.high=c.high∧w.p.wide=c.wide∧w.p.rule=c.rule∧w.p.top=c.top∧w.p.least=c.least∧w.p.part=c.part∧iE w.p.settle=iE c.settle∧List.map yE w.l=List.map yE v∧(v9 w)∧∀(x:Unit),True→cnd (yS w.p w.l==24) (∃(y:Unit),True∧∀(z:Unit),True→∃(a_1:Unit),true=true∧True) (cnd (yS w.p w.l==21) (∃(y:Unit),True∧∀(z:Unit),True→∃(a_1:Unit),true=true∧True) (∃(y:Unit),true=false∧True))))))∧∀(e:Unit),d.check≠0→∃(f:Unit),true=false∧True
theorem eqtu (i:TuI):Vtu i=walk Tryz.prog ([(20,kprodC),(10,newMC),(21,tameC),(13,doC),(31,reportsOC),(12,withinBC),(32,known25C)]) 0 (tuJ) (tuA) [] Tryz.f8 (Tryz.f8.body.getD .skip) (tuC.pat i) (tuC.pre i) (tuC.alts i):=by kernel_rfl
open Go Cv Go.Proofs
structure LdD (l l':Ledger) (e:Nat) (x:Int):Prop where
 p:l'.p=l.p
 f:l'.left=l.left
 i:l'.inst=l.inst
 t:l'.traded.length=l.traded.length
 n:l.net.length=l.traded.length
 n':l'.net.length=l.net.length
 o:∀k,k≠e→l'.net.getD k 0=l.net.getD k 0
 e:l'.net.getD e 0=IntKind.i64.wrap (l.net.getD e 0+x)
theorem LdD.set {l l':Ledger} {e:Nat} {x:Int} (h:LdD l l' e x) {k:Nat} (hk:k<l.net.length) (q:Int):(∀j,j≠e→(l'.net.set k (IntKind.i64.wrap (l'.net.getD k 0+q))).getD j 0=(l.net.set k (IntKind.i64.wrap (l.net.getD k 0+q))).getD j 0)∧(l'.net.set k (IntKind.i64.wrap (l'.net.getD k 0+q))).getD e 0=IntKind.i64.wrap ((l.net.set k (IntKind.i64.wrap (l.net.getD k 0+q))).getD e 0+x):=by
 have hk':k<l'.net.length:=by rw[h.n'];exact hk
 refine⟨fun j hj=> ?_,?_⟩
 ·rw[kE hk',kE hk]
  by_cases c:j=k
  ·rw[ySf c,ySf c,h.o k fun y=>hj (c.trans y)]
  ·rw[ySe c,ySe c];exact h.o j hj
 ·rw[kE hk',kE hk]
  by_cases c:e=k
  ·subst c
   rw[ySf rfl,ySf rfl,h.e,mA,mA]
   congr 1;omega
  ·rw[ySe c,ySe c];exact h.e
theorem LdD.trade {l l':Ledger} {e:Nat} {x:Int} (h:LdD l l' e x) {r:Rep} (hi:l.isB r.inst=true):LdD (l.trade r) (l'.trade r) e x:=by
 rw[Ledger.isB,ySs,yTj,yTj]at hi
 have hk:r.inst.toNat<l.net.length:=by have:=h.n;omega
 rw[Ledger.trade,Ledger.trade]
 by_cases s1:r.side=1
 ·rw[ySf s1,ySf s1]
  obtain⟨a,b⟩:=h.set hk r.qty
  exact⟨h.p,h.f,h.i,by simp only[vC,yTa];exact h.t,by simp only[vC,yTa];exact h.n,by simp only[vC,yTa];exact h.n',a,b⟩
 ·rw[ySe s1,ySe s1]
  by_cases s2:r.side=2
  ·rw[ySf s2,ySf s2]
   obtain⟨a,b⟩:=h.set hk (-r.qty)
   exact⟨h.p,h.f,h.i,by simp only[vC,yTa];exact h.t,by simp only[vC,rZ,yTa];exact h.n,by simp only[rZ,yTa];exact h.n',a,b⟩
  ·rw[ySe s2,ySe s2]
   exact⟨h.p,h.f,h.i,by simp only[vC,yTa];exact h.t,by simp only[vC,yTa];exact h.n,h.n',h.o,h.e⟩
theorem LdD.close {l l':Ledger} {e:Nat} {x:Int} (h:LdD l l' e x) (id n:Int):LdD (l.close id n) (l'.close id n) e x:=by
 refine⟨h.p,?_,h.i,h.t,h.n,h.n',h.o,h.e⟩
 rw[Ledger.close,Ledger.close,h.f]
theorem LdD.add {l l':Ledger} {e:Nat} {x:Int} (h:LdD l l' e x) (r:Rep):(l'.add r).2=(l.add r).2∧LdD (l.add r).1 (l'.add r).1 e x:=by
 have hB:l'.isB r.inst=l.isB r.inst:=by rw[Ledger.isB,Ledger.isB,h.t]
 have hO:l'.own r.id=l.own r.id:=by rw[Ledger.own,Ledger.own,h.i]
 have hL:l'.isLeg r=l.isLeg r:=by rw[Ledger.isLeg,Ledger.isLeg,Ledger.legB,Ledger.legB,hO,h.i,h.p]
 have hE:l'.e1 r=l.e1 r:=by rw[Ledger.e1,Ledger.e1,hO]
 rw[Ledger.add,Ledger.add,hB,hL,hE,h.f]
 split
 ·exact⟨rfl,h⟩
 split
 ·exact⟨rfl,h⟩
 split
 ·exact⟨rfl,h⟩
 rename_i hb
 have hb:l.isB r.inst=true:=by simpa using hb
 split
 ·rw[Ledger.acc,Ledger.acc,h.f,h.i]
  split
  ·exact⟨rfl,h⟩
  split
  ·exact⟨rfl,h⟩
  ·exact⟨rfl,h.p,rfl,rfl,h.t,h.n,h.n',h.o,h.e⟩
 split
 ·split
  ·exact⟨rfl,h⟩
  ·exact⟨rfl,h.trade hb⟩
 split
 ·exact⟨rfl,h⟩
 split
 ·exact⟨rfl,h⟩
 split
 ·exact⟨rfl,h⟩
 split
 ·exact⟨rfl,h⟩
 split
 ·exact⟨rfl,h⟩
 refine⟨rfl,?_⟩
 rw[Ledger.done,Ledger.done]
 split
 ·exact(h.trade hb).close _ _
 split
 ·exact h.close _ _
 ·exact h.close _ _
theorem vR (l:Ledger) (r:Rep) (R:List Rep):l.addAll (r::R)=if(l.add r).2≠0 then l.add r else(l.add r).1.addAll R:=by rw[Ledger.addAll]
theorem LdD.all {e:Nat} {x:Int}:∀{R:List Rep} {l l':Ledger},LdD l l' e x→(l.addAll R).2=0→(l'.addAll R).2=0∧LdD (l.addAll R).1 (l'.addAll R).1 e x
 |[],l,l',h,_=>⟨rfl,h⟩
 |r::R,l,l',h,h0=>by
  obtain⟨a1,a2⟩:=h.add r
  by_cases c:(l.add r).2=0
  ·have e1:l.addAll (r::R)=(l.add r).1.addAll R:=by rw[vR,ySe fun y=>y c]
   have e2:l'.addAll (r::R)=(l'.add r).1.addAll R:=by rw[vR,ySe fun y=>y (a1.trans c)]
   rw[e1]at h0
   rw[e1,e2]
   exact LdD.all a2 h0
  ·rw[vR,ySf c]at h0
   exact absurd h0 c
theorem zZi {p:Prd} (hc:p.check=0) {all:List Rep} {l:Ledger} (h:(y5 p).addAll all=(l,0)) (hl:l.net.length=p.count) (hz:∀n:Nat,n<p.months.length→l.net.getD n 0=0) {k:Nat} {r:Rep} (hr:all[k]? =some r) (hk3:r.kind=3) (hq:1≤r.qty∧r.qty≤1000000) (hs:r.side=1∨r.side=2) {d:Int} (hd:1≤d∧d≤10):
 yS p (all.set k {r with qty:=r.qty+d})=24∨yS p (all.set k {r with qty:=r.qty+d})=21:=by
 have hcg:=dX hc
 have hk:=(ySg.1 hr).1
 have e1:all=all.take k++r::all.drop (k+1):=by
  have:=yUy hk
  rw[(ySg.1 hr).2]at this
  rw[← this,yUm]
 have e2:all.set k {r with qty:=r.qty+d}=all.take k++{r with qty:=r.qty+d}::all.drop (k+1):=by
  rw[yVu,ySf hk]
 have h2:((y5 p).addAll all).2=0:=by rw[h]
 have hA:=zYq h2 k
 rw[e1,gI,ySe (fun x=>x hA),vR]at h
 have f2:(y5 p).addAll (all.set k {r with qty:=r.qty+d})=if(((y5 p).addAll (all.take k)).1.add {r with qty:=r.qty+d}).2≠0 then((y5 p).addAll (all.take k)).1.add {r with qty:=r.qty+d}else(((y5 p).addAll (all.take k)).1.add {r with qty:=r.qty+d}).1.addAll (all.drop (k+1)):=by
  rw[e2,gI,ySe (fun x=>x hA),vR]
 have hp:((y5 p).addAll (all.take k)).1.p=p:=by
  have key:∀(R:List Rep) (l:Ledger),(l.addAll R).1.p=l.p:=by
   intro R
   induction R with
   |nil=>intro l;rfl
   |cons r R ih=>
    intro l
    have ha:(l.add r).1.p=l.p:=by
     rw[Ledger.add]
     repeat' split
     all_goals first|rfl|skip
     ·rw[Ledger.acc];repeat' split
      all_goals rfl
     ·rw[Ledger.done];repeat' split
      all_goals rfl
    rw[vR]
    split
    ·exact ha
    ·rw[ih];exact ha
  rw[key];rfl
 have hfl:((y5 p).addAll (all.take k)).1.net.length=((y5 p).addAll (all.take k)).1.traded.length:=by
  have:((y5 p).addAll (all.take k)).1.ok:=by
   have key:∀(R:List Rep) (l:Ledger),l.ok→(l.addAll R).1.ok:=by
    intro R
    induction R with
    |nil=>intro l h;exact h
    |cons r R ih=>
     intro l h
     have ha:(l.add r).1.ok:=by
      have ht:(l.trade r).ok:=by
       obtain⟨a,b⟩:=h
       rw[Ledger.trade]
       refine⟨by simp only[vC,yTa];exact a,?_⟩
       dsimp only
       repeat' split
       all_goals(simp only[vC,rZ,yTa];exact b)
      rw[Ledger.add]
      repeat' split
      all_goals first|exact h|exact ht|skip
      ·rw[Ledger.acc];repeat' split
       all_goals exact h
      ·rw[Ledger.done];repeat' split
       all_goals first|exact ht|exact h
     rw[vR]
     split
     ·exact ha
     ·exact ih _ ha
   refine key _ _ ⟨?_,?_⟩
   ·simp only[y5,yUn]
    have:=xV p
    omega
   ·simp only[y5,yUn]
  exact this.2
 generalize ((y5 p).addAll (all.take k)).1=L at*
 have hadd0:(L.add r).2=0:=by
  by_cases c:(L.add r).2=0
  ·exact c
  ·rw[ySf c]at h;rw[h]at c;exact absurd rfl c
 rw[ySe (fun x=>x hadd0)]at h
 have hbk:¬r.badK=true:=by rw[Rep.badK,hk3];decide
 have hbk':¬Rep.badK {r with qty:=r.qty+d}=true:=hbk
 have hB:L.isB r.inst=true:=by
  cases c:L.isB r.inst with
  |true=>rfl
  |false=>
   rw[Ledger.add,ySe hbk,ySe (by omega),ySf c]at hadd0
   cases hadd0
 have hB':¬L.isB r.inst=false:=by rw[hB];decide
 by_cases hleg:L.isLeg r=true
 ·right
  have a1:L.add r=(L.trade r,0):=by
   rw[Ledger.add,ySe hbk,ySe (by omega),ySe hB',ySe (by omega),ySf hleg,ySe (by omega)]
  have hleg':L.isLeg {r with qty:=r.qty+d}=true:=hleg
  have a2:L.add {r with qty:=r.qty+d}=(L.trade {r with qty:=r.qty+d},0):=by
   rw[Ledger.add,ySe hbk',ySe (show ¬r.kind=2 by omega),ySe hB',ySe (show ¬r.kind=1 by omega),ySf hleg',ySe (show ¬r.qty+d<1 by omega)]
  rw[a1]at h
  dsimp only at h
  have f3:(y5 p).addAll (all.set k {r with qty:=r.qty+d})=(L.trade {r with qty:=r.qty+d}).addAll (all.drop (k+1)):=by
   rw[f2,a2];exact ySe fun x=>x rfl
  rw[yS,ySe (by rw[hc];decide),f3]
  have hir:0≤r.inst∧r.inst<L.traded.length:=by
   rw[Ledger.isB,ySs,yTj,yTj]at hB;exact hB
  have hkn:r.inst.toNat<L.net.length:=by omega
  have hD:LdD (L.trade r) (L.trade {r with qty:=r.qty+d}) r.inst.toNat (if r.side=1 then d else-d):=by
   rw[Ledger.trade,Ledger.trade]
   by_cases s1:r.side=1
   ·rw[ySf s1,ySf s1,ySf s1]
    refine⟨rfl,rfl,rfl,by simp only[vC,yTa],by simp only[vC,yTa];exact hfl,by simp only[vC,yTa],fun j hj=> ?_,?_⟩
    ·show(L.net.set _ _).getD j 0=(L.net.set _ _).getD j 0
     rw[kE hkn,kE hkn,ySe hj,ySe hj]
    ·show(L.net.set r.inst.toNat _).getD _ 0=IntKind.i64.wrap ((L.net.set r.inst.toNat _).getD _ 0+d)
     rw[kE hkn,kE hkn,ySf rfl,ySf rfl,mA]
     congr 1;dsimp only;omega
   ·have s2:r.side=2:=by omega
    rw[ySe s1,ySe s1,ySe s1,ySf s2,ySf s2]
    refine⟨rfl,rfl,rfl,by simp only[vC,yTa],by simp only[vC,rZ,yTa];exact hfl,by simp only[rZ,yTa],fun j hj=> ?_,?_⟩
    ·show(L.net.set _ _).getD j 0=(L.net.set _ _).getD j 0
     rw[kE hkn,kE hkn,ySe hj,ySe hj]
    ·show(L.net.set r.inst.toNat _).getD _ 0=IntKind.i64.wrap ((L.net.set r.inst.toNat _).getD _ 0+ -d)
     rw[kE hkn,kE hkn,ySf rfl,ySf rfl,mA]
     congr 1;dsimp only;omega
  obtain⟨b1,b2⟩:=hD.all (R:=all.drop (k+1)) (by rw[h])
  rw[h]at b2
  rw[ySe (fun x=>x b1),ySf]
  have hsp:(p.legs (L.own r.id)).2.2=true∧(r.inst=(p.legs (L.own r.id)).1∨r.inst=(p.legs (L.own r.id)).2.1):=by
   rw[Ledger.isLeg,Ledger.legB,hp]at hleg
   simp only[ySs,yVo,yTj]at hleg
   exact hleg.2.2
  have hown:0≤L.own r.id∧L.own r.id<p.count:=by
   by_cases c:L.own r.id<0∨(p.count:Int)≤L.own r.id
   ·have:=hsp.1
    rw[Prd.legs,ySf c]at this
    cases this
   ·omega
  have hm:=zAy hc hown hsp.1
  have hmr:0≤r.inst∧r.inst<p.months.length:=by omega
  have e5:=b2.e
  dsimp only at e5
  rw[hz _ (by omega),Int.zero_add]at e5
  rw[yYe]
  refine⟨r.inst.toNat,yUv.2 (by omega),ySw ?_⟩
  rw[Ledger.at]
  have hBl:Ledger.isB ((L.trade {r with qty:=r.qty+d}).addAll (all.drop (k+1))).1 (r.inst.toNat:Nat)=true:=by
   have t1:=b2.t
   have t2:=b2.n
   dsimp only at t1 t2
   rw[Ledger.isB,t1,← t2,hl,ySw (by omega),ySw (by omega)];rfl
  rw[ySf hBl,ySt,e5]
  obtain⟨c,hw⟩:=zHz (if r.side=1 then d else-d)
  rw[hw]
  split<;>omega
 ·left
  have hleg':¬L.isLeg {r with qty:=r.qty+d}=true:=hleg
  rw[Ledger.add,ySe hbk,ySe (by omega),ySe hB',ySe (by omega),ySe hleg]at hadd0
  cases hg:kP L.left r.id with
  |none=>rw[hg]at hadd0;cases hadd0
  |some left=>
   rw[hg]at hadd0
   dsimp only at hadd0
   split at hadd0
   ·cases hadd0
   rename_i he1
   split at hadd0
   ·cases hadd0
   rename_i he2
   have he2:r.qty≤left∧r.left=IntKind.i64.wrap (left-r.qty):=by
    rw[Rep.e2]at he2
    simp only[hk3,decide_true,yTm,yVo,yTj,not_or]at he2
    omega
   have he1':¬L.e1 {r with qty:=r.qty+d}=true:=he1
   have he2':Rep.e2 {r with qty:=r.qty+d} left=true:=by
    rw[Rep.e2]
    simp only[hk3,decide_true,yTm,yVo,yTj]
    right;right
    obtain⟨c1,w1⟩:=zHz (left-r.qty)
    obtain⟨c2,w2⟩:=zHz (left-(r.qty+d))
    rw[he2.2,w1,w2]
    omega
   have a2:L.add {r with qty:=r.qty+d}=(L,24):=by
    rw[Ledger.add,ySe hbk',ySe (show ¬r.kind=2 by omega),ySe hB',ySe (show ¬r.kind=1 by omega),ySe hleg',hg]
    dsimp only
    rw[ySe he1',ySf he2']
   have f3:(y5 p).addAll (all.set k {r with qty:=r.qty+d})=(L,24):=by
    rw[f2,a2];rfl
   rw[yS,ySe (by rw[hc];decide),f3];rfl
theorem z8j (i:WiI) (h:withinBC.cnd i):zUy i:=by
 obtain⟨⟨a1,a2⟩,a3,a4,a5⟩:yY i.n∧-1000000≤i.lo∧i.lo≤i.hi∧i.hi≤1099511627776:=h
 unfold zUy aM cG
 rw[w64 (x:=i.hi-i.lo) (by omega),w64 (x:=i.hi-i.lo+1) (by omega)]
 obtain⟨d,hd⟩:∃d:Int,i.hi-i.lo+1=d:=⟨_,rfl⟩
 rw[hd]
 have h1:i.n.tmod d=if 0≤i.n then i.n % d else-((-i.n) % d):=by
  split
  ·rename_i h;rw[yWq h]
  ·rename_i h
   have:i.n= -(-i.n):=by omega
   conv=>lhs;rw[this]
   rw[Int.neg_tmod,yWq (by omega)]
 have hb1:=yYi i.n (show d≠0 by omega)
 have hb2:=yYj i.n (show 0<d by omega)
 have hb3:=yYi (-i.n) (show d≠0 by omega)
 have hb4:=yYj (-i.n) (show 0<d by omega)
 have key:i.n.tmod d<0→i.n % d=i.n.tmod d+d:=fun hneg=>by
  have:=Int.emod_eq_of_lt (a:=i.n.tmod d+d) (b:=d) (by rw[h1]at hneg ⊢;split at hneg<;>split<;>omega) (by omega)
  rw[← this,Int.add_emod_right]
  have e:=Int.tmod_add_mul_tdiv i.n d
  conv=>lhs;rw[← e]
  rw[yXy]
 have key2:¬i.n.tmod d<0→i.n % d=i.n.tmod d:=fun hneg=>by
  have hlt:i.n.tmod d<d:=by rw[h1];split<;>omega
  have:=Int.emod_eq_of_lt (a:=i.n.tmod d) (b:=d) (by omega) hlt
  rw[← this]
  have e:=Int.tmod_add_mul_tdiv i.n d
  conv=>lhs;rw[← e]
  rw[yXy]
 refine⟨rfl,by omega,zK (fun c=>⟨(),?_,trivial⟩) (fun c=>⟨(),?_,trivial⟩)⟩
 ·have k:=key c
  rw[zH,hd,k]
  rw[w64 (x:=i.n.tmod d+i.hi) (by omega),w64 (x:=i.n.tmod d+i.hi-i.lo) (by omega),w64 (x:=i.n.tmod d+i.hi-i.lo+1) (by omega),w64 (by omega)]
  omega
 ·have k:=key2 c
  rw[zH,hd,k,w64 (by omega)]
theorem withinB_ok:withinBC.ok Tryz.prog 12:=okw mixed gok0 0 (fun _=>[]) (fun _=>[]) [] Tryz.func12 z8j
theorem zQd {p:Prd} {D:Int→Prop}:∀{l:List Rep} {s:Stm} {r:Rep},dV p D s l→r∈l→∃s',StG p D s' r
 |[],_,_,_,h=>by cases h
 |x::l,s,r,h,hm=>by
  rcases ySy.1 hm with rfl|hm
  ·exact⟨s,h.1⟩
  ·exact zQd h.2 hm
def yKa (all:List Rep):Prop:=∀r∈all,r.kind=3→(1≤r.qty∧r.qty≤1000000)∧(r.side=1∨r.side=2)
theorem yFx {p:Prd} {m o:Mkt} {l:Ledger} {all:List Rep} {j:Nat} {B:List (List zD)} {U:List Int} {S:Stm} {N:Int→Int} (hK:AmS p m l all j B U S N) (hT:yKa all) (C:Cmd) (ho:o.Rep p (doF p B U C).B (doF p B U C).U) (hB':BOk p (doF p B U C).B):
 ∃S' N',AmS p o (l.addAll (doF p B U C).R).1 (all++(doF p B U C).R) (j+1) (doF p B U C).B (doF p B U C).U S' N'∧yKa (all++(doF p B U C).R):=by
 have hM:=hK.r
 have hwf:BWf p B:=by have:=hM.s;exact this.wf hK.b
 have hc:=hK.b.pc
 have hst:=yPd hwf hK.a (c:=C) (D:=fun _=>True) trivial hK.n hK.f
 have hacc:=(yGu (p:=p) hK.a C).acc
 have hXl:=z0r hwf U C
 have hwf':BWf p (doF p B U C).B:=by have:=ho.s;exact this.wf hB'
 have hun:=yPn hwf U C hK.u hwf'
 generalize doF p B U C=X at*
 have hsz:(all++X.R).length≤2000000000*(j+1):=by
  have:=hK.s
  rw[ySm];omega
 have he:∀L',l.addAll X.R=(L',0)→(y5 p).addAll (all++X.R)=(L',0):=fun L' e=>by
  rw[gI,hK.e,ySe fun h=>h rfl];exact e
 rcases hst with⟨w,e⟩|⟨h1,h2,h3,h4⟩
 ·have e1:l.addAll (cK C w)=(l,0):=by rw[cK,zMa];exact yCh rfl
  subst e
  dsimp only at he hsz ⊢
  rw[e1]at he ⊢
  refine⟨S,N,⟨ho,hB',hacc,hK.n,hK.f,hK.z,hun,hK.lr,he _ rfl,hsz⟩,fun r hr h3=> ?_⟩
  rcases yTi.1 hr with hr|hr
  ·exact hT r hr h3
  ·rw[yUd.1 hr]at h3
   exact absurd (show(2:Int)=3 from h3) (by decide)
 ·obtain⟨a1,a2⟩:=zWf hc hK.lr h2
  refine⟨_,fun n=>N n+wY X.R n,⟨ho,hB',hacc,h1,h3,fun n hn=>by rw[hK.z n hn,h4 n (yUq _) hn];rfl,hun,a2,he _ (by rw[← a1]),hsz⟩,fun r hr k3=> ?_⟩
  rcases yTi.1 hr with hr|hr
  ·exact hT r hr k3
  ·obtain⟨s',g⟩:=zQd h2 hr
   have:=g.q
   rcases g.k with k|k|k|k
   ·omega
   ·exact⟨by omega,k.2.2.1⟩
   ·omega
   ·omega
def AtOk (all:List Rep) (l:List Int):Prop:=l.length≤all.length∧∀x∈l,∃(k:Nat) (r:Rep),x=k∧all[k]?=some r∧r.kind=3
theorem AtOk.one {all:List Rep} {l:List Int} (h:AtOk all l) (r:Rep):AtOk (all++[r]) l∧(r.kind=3→AtOk (all++[r]) (l++[(all.length:Int)])):=by
 have h2:∀x∈l,∃(k:Nat) (y:Rep),x=k∧(all++[r])[k]? =some y∧y.kind=3:=fun x hx=>by
  obtain⟨k,y,e,hy,h3⟩:=h.2 x hx
  exact⟨k,y,e,by rw[yVc (ySg.1 hy).1];exact hy,h3⟩
 refine⟨⟨by rw[ySm];exact yVa h.1 (Nat.le_add_right _ _),h2⟩,fun h3=>⟨by rw[ySm,ySm];exact Nat.add_le_add h.1 (yTd 1),fun x hx=> ?_⟩⟩
 rcases yTi.1 hx with hx|hx
 ·exact h2 x hx
 ·exact⟨all.length,r,yUd.1 hx,by rw[yUl (yTd _),yXv];rfl,h3⟩
theorem zLz (q:Int):∀(l:List Rep) (k:Nat) (r:Rep),l[k]? =some r→z9 (l.map yE) k (0+5) [D.v (.int .i64 q)]=(l.set k {r with qty:=q}).map yE
 |[],_,_,h=>by cases h
 |r::l,0,_,h=>by cases h;rfl
 |a::l,k+1,r,h=>by
  have ih:=zLz q l k r h
  simp only[z9,ySn,yWd,yVw]at ih ⊢
  rw[ih]
theorem vtu (i:TuI) (h:tuC.cnd i):Vtu i:=by
 obtain⟨hraw,hcraw,hlen,hw,hby⟩:i.raw:=h
 have hc:=zUr i.x
 have hs:=zTp i.x
 have hml:(List.map cmdE i.l).length=i.l.length:=ySh _
 unfold Vtu zYf z0a zXy zZw zZp zQu zZf zRy v9 zS dI
 rw[hml]
 refine⟨qU i.x,fun y=>y=qU i.x,⟨i.x,rfl,rfl,rfl,rfl,rfl,rfl,rfl,rfl,rfl,rfl,rfl,hraw,fun _ _=>⟨qU i.x,rfl,rfl,rfl,rfl,rfl,rfl,rfl,rfl,rfl,rfl,rfl,rfl,by(repeat'(first|exact trivial|exact rfl|apply And.intro))⟩⟩,?_⟩
 rintro _ rfl
 refine⟨qU i.x,rfl,rfl,rfl,rfl,rfl,rfl,rfl,rfl,rfl,rfl,rfl,hs,fun _ _=> ?_,fun _ hne=>absurd hc hne⟩
 have hcb:=zPk hc
 have hcg:=dX hc
 refine⟨(0,mk0 (qU i.x),[],[]),rfl,rfl,rfl,rfl,fun y=>(y.1≤40∧y.1≤i.l.length)∧∃B U S N l,AmS (qU i.x) y.2.1 l y.2.2.1 y.1 B U S N∧yKa y.2.2.1∧AtOk y.2.2.1 y.2.2.2,fun y=>40-y.1,⟨⟨yUq _,yUq _⟩,_,_,⟨fun _=>0,fun _=>0⟩,fun _=>0,_,⟨yHh _,BOk.new hc hs,?_,?_,⟨fun x=> ?_,?_,fun _ _ _ _=>trivial⟩,fun _ _=>rfl,yKf _,z6p _,rfl,yTd _⟩,fun r hr=>(by cases hr),⟨yTd _,fun x hx=>(by cases hx)⟩⟩,?_⟩
 ·intro L hL o ho
  rw[yVt hL]at ho
  cases ho
 ·rw[kQ,yXw];simp
 ·exact(zKl fun L hL o ho=>by rw[yVt hL]at ho;cases ho).symm
 ·intro k L hL o ho
  rw[yVt (ySo hL)]at ho
  cases ho
 rintro⟨j,m,all,pos⟩ ⟨⟨hj60,hjl⟩,B,U,S,N,l,hK,hT,hA⟩
 dsimp only at hj60 hjl hK hT hA ⊢
 refine⟨true,fun b=>b=decide (j<i.l.length∧j<40),zK (fun c=>⟨_,rfl,?_,by(repeat'(first|exact trivial|exact rfl|apply And.intro))⟩) (fun c=>⟨_,rfl,?_,by(repeat'(first|exact trivial|exact rfl|apply And.intro))⟩),fun b hb=> ?_⟩
 ·show decide ((j:Int)<40)=decide (j<i.l.length∧j<40)
  rw[Bool.eq_iff_iff,yTj,yTj];omega
 ·exact(ySp (by omega)).symm
 subst hb
 have hM:=hK.r
 have hB:=hK.b
 have hal:=hK.s
 have hwf:BWf (qU i.x) B:=by have:=hM.s;exact this.wf hB
 refine zK (fun hb=> ?_) (fun _=> ?_)
 ·obtain⟨hb1,hb2⟩:=hb
  obtain⟨c,hcj⟩:=z6 (l:=i.l) (i:=j) hb1
  have hcr:=hcraw c (ySo hcj)
  obtain⟨C,hC⟩:∃C:Cmd,C=qY ⟨qU i.x,c,j⟩:=⟨_,rfl⟩
  have hlb:C.label.length≤140737488355328:=by
   have:C.label=[]:=by rw[hC];exact zZb _
   rw[this];decide
  have hqt:1≤C.qty∧C.qty≤12:=by rw[hC];exact yDg _
  have hXl:=z0r hwf U C
  have hstep:=fun o ho hb=>yFx (o:=o) hK hT C ho hb
  have hB':BOk (qU i.x) (doF (qU i.x) B U C).B:=mdo hM hB C
  obtain⟨X,hX⟩:∃X,X=doF (qU i.x) B U C:=⟨_,rfl⟩
  rw[← hX]at hXl hstep hB'
  refine⟨(m,[]),rfl,fun y=>y.1.Rep (qU i.x) X.B X.U∧y.2=X.R,⟨⟨by omega,by omega⟩,c.kind,c.id,c.inst,c.side,c.price,c.qty,c.least,c.time,sb c.label,yRm hcj,⟨qU i.x,c,j⟩,rfl,rfl,rfl,rfl,rfl,rfl,rfl,rfl,rfl,rfl,rfl,rfl,rfl,rfl,rfl,rfl,rfl,rfl,rfl,rfl,rfl,⟨hc,hs,hcr,by dsimp only;omega,by dsimp only;omega⟩,fun _ _=>⟨⟨m,qU i.x,B,U,C,X⟩,by rw[hC],by rw[hC],by rw[hC],by rw[hC],by rw[hC],by rw[hC],by rw[hC],by rw[hC],by rw[hC],rfl,⟨⟨hM,hB⟩,hlb,⟨by dsimp only;omega,by dsimp only;omega⟩,hX⟩,fun o ho=>⟨(o,X.R),rfl,rfl,⟨ho,rfl⟩,by(repeat'(first|exact trivial|exact rfl|apply And.intro))⟩⟩⟩,?_⟩
  rintro⟨o,R⟩ ⟨ho,hR⟩
  dsimp only at ho hR ⊢
  subst hR
  have hstep:=hstep o ho hB'
  have hRl:(List.map yE X.R).length=X.R.length:=ySh _
  rw[hRl]
  refine⟨(0,all,pos),rfl,rfl,rfl,fun y=>y.1≤X.R.length∧y.2.1=all++X.R.take y.1∧AtOk y.2.1 y.2.2,fun y=>X.R.length-y.1,⟨yUq _,by simp,hA⟩,?_⟩
  rintro⟨k,Y,P⟩ ⟨hk,hY,hP⟩
  dsimp only at hk hY hP ⊢
  have hYl:Y.length≤all.length+k:=by rw[hY,ySm,yTe];omega
  have hYm:(List.map yE Y).length=Y.length:=ySh _
  rw[hYm]
  refine zK (fun e=> ?_) (fun e=> ?_)
  ·obtain⟨r,hr⟩:=z6 (l:=X.R) (i:=k) (by omega)
   have hkr:(0:Int)≤k∧(k:Int)<X.R.length:=by omega
   obtain⟨p1,p2⟩:=hP.one r
   have hPl:=hP.1
   refine⟨P,rfl,fun z=>AtOk (Y++[r]) z,⟨hkr,_,yRb hr,Cv.cnd.mk (fun e3=>⟨by rw[yW];omega,P++[(Y.length:Int)],by simp[iE],p2 (by simpa using e3),by(repeat'(first|exact trivial|exact rfl|apply And.intro))⟩) (fun _=>⟨P,rfl,p1,by(repeat'(first|exact trivial|exact rfl|apply And.intro))⟩)⟩,?_⟩
   intro Q hQ
   exact⟨hkr,r.kind,r.id,r.inst,r.side,r.price,r.qty,r.left,r.why,yKl hr,by omega,(k+1,Y++[r],Q),by rw[w64 (by omega)];rfl,by rw[ySr];rfl,rfl,⟨by dsimp only;omega,by dsimp only;rw[hY,yUf,hr,ySq];rfl,hQ⟩,by dsimp only;omega,by(repeat'(first|exact trivial|exact rfl|apply And.intro))⟩
  ·have hkl:k=X.R.length:=by omega
   subst hkl
   rw[yWt]at hY
   subst hY
   obtain⟨S',N',hK',hT'⟩:=hstep
   exact⟨(j+1,o,all++X.R,P),by rw[w64 (by omega)];rfl,rfl,rfl,rfl,⟨⟨by dsimp only;omega,by dsimp only;omega⟩,_,_,_,_,_,hK',hT',hP⟩,by dsimp only;omega,by(repeat'(first|exact trivial|exact rfl|apply And.intro))⟩
 ·have hz:∀n:Nat,n<(qU i.x).months.length→l.net.getD n 0=0:=fun n hn=>by
   rw[hK.lr.nt n (by omega),hK.z n hn];decide
  have hrep:yS (qU i.x) all=0:=by
   rw[yS,ySe (by rw[hc];decide),hK.e,ySe fun h=>h rfl,ySe]
   rw[Bool.not_eq_true]
   refine mV fun n hn=>ySp fun x=>x ?_
   dsimp only
   rw[Ledger.at,ySf (hK.lr.isB (by omega)),ySt,hz n hn]
  have hA1:=hA.1
  have hall2:(List.map yE all).length=all.length:=ySh _
  refine⟨⟨qU i.x,all⟩,rfl,rfl,rfl,rfl,rfl,rfl,rfl,rfl,rfl,rfl,rfl,rfl,⟨hs,by dsimp only;omega⟩,fun _ _=> ?_⟩
  dsimp only
  rw[hrep,yW]
  refine Cv.cnd.mk (fun e=>absurd e (by decide)) (fun _=>Cv.cnd.mk (fun _=>⟨(),trivial,fun _ _=>⟨(),rfl,trivial⟩⟩) (fun hne=> ?_))
  have hpl:1≤pos.length:=by
   rcases Nat.eq_zero_or_pos pos.length with e|e
   ·rw[e]at hne;cases hne
   ·exact e
  have wk:=xK (n:=i.which) (lo:=0) (hi:=(pos.length:Int)-1) (by omega)
  have wb:=xK (n:=i.by_) (lo:=0) (hi:=9) (by decide)
  refine⟨⟨i.which,0,(pos.length:Int)-1⟩,rfl,rfl,by rw[w64 (by omega)],⟨hw,by dsimp only;decide,by dsimp only;omega,by dsimp only;omega⟩,fun _ _=> ?_⟩
  dsimp only
  generalize zH i.which 0 ((pos.length:Int)-1)=W at wk ⊢
  obtain⟨K,rfl⟩:∃K:Nat,W=K:=⟨W.toNat,by omega⟩
  obtain⟨x,hx⟩:=z6 (l:=pos) (i:=K) (by omega)
  obtain⟨n,r,rfl,hr,h3⟩:=hA.2 x (ySo hx)
  obtain⟨⟨q1,q2⟩,hsd⟩:=hT r (ySo hr) h3
  have hnl:=(ySg.1 hr).1
  have g5:zF (List.map yE all) n (0+5) 1=some [D.v (.int .i64 r.qty)]:=elA hr (by simp[yE]) rfl
  refine⟨⟨by omega,by omega⟩,_,elI hx,all,rfl,fun z=>z=all.set n {r with qty:=r.qty+(1+zH i.by_ 0 9)},⟨⟨by omega,by rw[hall2];omega⟩,_,g5,⟨i.by_,0,9⟩,rfl,rfl,rfl,⟨hby,by dsimp only;decide,by dsimp only;decide,by dsimp only;decide⟩,fun _ _=>⟨⟨_,g5,rfl⟩,⟨⟨by omega,by rw[hall2];omega⟩,rfl⟩,⟨by omega,by rw[hall2];omega⟩,by rw[hall2];exact hnl,⟨_,?_,rfl,by(repeat'(first|exact trivial|exact rfl|apply And.intro))⟩⟩⟩,?_⟩
  ·dsimp only
   rw[w64 (x:=r.qty+1) (by omega),w64 (by omega),show r.qty+1+zH i.by_ 0 9=r.qty+(1+zH i.by_ 0 9)by omega]
   exact(zLz _ _ _ _ hr).symm
  rintro _ rfl
  refine⟨⟨qU i.x,_⟩,rfl,rfl,rfl,rfl,rfl,rfl,rfl,rfl,rfl,rfl,rfl,rfl,⟨hs,by dsimp only;rw[yTa];omega⟩,fun _ _=> ?_⟩
  dsimp only
  rcases zZi hc hK.e hK.lr.nl hz hr h3 ⟨q1,q2⟩ hsd (d:=1+zH i.by_ 0 9) (by omega)with e|e
  ·rw[e];exact Cv.cnd.mk (fun _=>⟨(),trivial,fun _ _=>⟨(),rfl,trivial⟩⟩) (fun x=>absurd x (by decide))
  ·rw[e];exact Cv.cnd.mk (fun x=>absurd x (by decide)) (fun _=>Cv.cnd.mk (fun _=>⟨(),trivial,fun _ _=>⟨(),rfl,trivial⟩⟩) (fun x=>absurd x (by decide)))
end Sx
