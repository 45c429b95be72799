/- Texts of ours, one behind the other: a walk that the kernel reckons, and contracts of functions. No condition. -/
import Derived.Test.YtpgpnnncaidcjaaGreatA10
namespace Sx
set_option linter.unusedVariables false
set_option linter.unusedSimpArgs false
set_option maxRecDepth 100000
open Go Cv Go.Proofs
structure Un (p:Prd) (T:List Top):Prop where
 d:∀n,n<p.count→(T.getD n top0).has1=true→(T.getD n top0).has2=true→(T.getD n top0).p1<(T.getD n top0).p2
 x:∀{a b k},Tri p a b k→(T.getD a top0).has1=true→(T.getD b top0).has2=true→(T.getD k top0).has2=true→(T.getD a top0).p1-(T.getD b top0).p2<(T.getD k top0).p2
 y:∀{a b k},Tri p a b k→(T.getD a top0).has2=true→(T.getD b top0).has1=true→(T.getD k top0).has1=true→(T.getD k top0).p1<(T.getD a top0).p2-(T.getD b top0).p1
def Wrs (T T':List Top):Prop:=∀n,((T'.getD n top0).has1=true→(T.getD n top0).has1=true∧(T'.getD n top0).p1≤(T.getD n top0).p1)∧((T'.getD n top0).has2=true→(T.getD n top0).has2=true∧(T.getD n top0).p2≤(T'.getD n top0).p2)
theorem Un.wrs {p:Prd} {T T':List Top} (h:Un p T) (w:Wrs T T'):Un p T':=by
 refine⟨fun n hn h1 h2=> ?_,fun{a b k} t h1 h2 h3=> ?_,fun{a b k} t h1 h2 h3=> ?_⟩
 ·obtain⟨u1,u2⟩:=(w n).1 h1
  obtain⟨v1,v2⟩:=(w n).2 h2
  have:=h.d n hn u1 v1
  omega
 ·obtain⟨u1,u2⟩:=(w a).1 h1
  obtain⟨v1,v2⟩:=(w b).2 h2
  obtain⟨w1,w2⟩:=(w k).2 h3
  have:=h.x t u1 v1 w1
  omega
 ·obtain⟨u1,u2⟩:=(w a).2 h1
  obtain⟨v1,v2⟩:=(w b).1 h2
  obtain⟨w1,w2⟩:=(w k).1 h3
  have:=h.y t u1 v1 w1
  omega
theorem Un.ps {p:Prd} (hc:p.check=0) {T:List Top} (h:Un p T) (hs:cK T) (hT:T.length=p.count) {n:Nat} (hn:n<p.count) {v:Int}:
 (PS p T n 1 v→(T.getD n top0).has2=true→v<(T.getD n top0).p2)∧(PS p T n 2 v→(T.getD n top0).has1=true→(T.getD n top0).p1<v):=by
 by_cases hm:p.months.length≤n
 ·obtain⟨a,b,t⟩:=z0w hc hn hm
  refine⟨fun hv h2=> ?_,fun hv h1=> ?_⟩
  ·obtain⟨q1,q2,rfl⟩:=(zGn hc hs hT t).1 hv
   exact h.x t q1 q2 h2
  ·obtain⟨q1,q2,rfl⟩:=(zGn hc hs hT t).1 hv
   exact h.y t q1 q2 h1
 ·refine⟨fun hv h2=> ?_,fun hv h1=> ?_⟩
  ·rcases(cN hc hs hT (by omega)).1 hv with⟨b,k,t,q1,q2,rfl⟩|⟨a,k,t,q1,q2,rfl⟩
   ·have:=h.y t h2 q2 q1
    simp only[vC]
    omega
   ·have:=h.x t q2 h2 q1
    simp only[vC,show(3:Int)-1=2 by decide,uQ]
    omega
  ·rcases(cN hc hs hT (by omega)).1 hv with⟨b,k,t,q1,q2,rfl⟩|⟨a,k,t,q1,q2,rfl⟩
   ·have:=h.x t h1 q2 q1
    simp only[uQ]
    omega
   ·have:=h.y t q2 h1 q1
    simp only[uQ,show(3:Int)-2=1 by decide,vC]
    omega
theorem Tri.ne {p:Prd} {a b k:Nat} (t:Tri p a b k):a≠b∧a≠k∧b≠k∧a<p.months.length∧b<p.months.length:=by
 have:=t.hab
 have:=t.hb
 have:=t.hm
 omega
theorem Un.add1 {p:Prd} (hc:p.check=0) {T T':List Top} (h:Un p T) (hs:cK T) (hT:T.length=p.count) {n:Nat} (ho:∀m,m≠n→T'.getD m top0=T.getD m top0)
 (h2:(T'.getD n top0).has2=true→(T.getD n top0).has2=true∧(T.getD n top0).p2≤(T'.getD n top0).p2)
 (h1:(T'.getD n top0).has1=true→((T.getD n top0).has2=true→(T'.getD n top0).p1<(T.getD n top0).p2)∧∀v,PS p T n 2 v→(T'.getD n top0).p1<v):Un p T':=by
 refine⟨fun m hm g1 g2=> ?_,fun{a b k} t g1 g2 g3=> ?_,fun{a b k} t g1 g2 g3=> ?_⟩
 ·by_cases e:m=n
  ·subst e
   have:=(h1 g1).1 (h2 g2).1
   have:=(h2 g2).2
   omega
  ·rw[ho m e]at g1 g2 ⊢;exact h.d m hm g1 g2
 ·obtain⟨n1,n2,n3,n4,n5⟩:=t.ne
  by_cases e:a=n
  ·subst e
   rw[ho b (Ne.symm n1)]at g2 ⊢
   rw[ho k (Ne.symm n2)]at g3 ⊢
   have:=(h1 g1).2 _ ((cN hc hs hT n4).2 (.inl ⟨b,k,t,g3,g2,rfl⟩))
   simp only[uQ]at this
   omega
  ·rw[ho a e]at g1 ⊢
   have gb:(T.getD b top0).has2=true∧(T.getD b top0).p2≤(T'.getD b top0).p2:=by
    by_cases eb:b=n
    ·subst eb;exact h2 g2
    ·rw[ho b eb]at g2 ⊢;exact⟨g2,yWf _⟩
   have gk:(T.getD k top0).has2=true∧(T.getD k top0).p2≤(T'.getD k top0).p2:=by
    by_cases eb:k=n
    ·subst eb;exact h2 g3
    ·rw[ho k eb]at g3 ⊢;exact⟨g3,yWf _⟩
   have:=h.x t g1 gb.1 gk.1
   omega
 ·obtain⟨n1,n2,n3,n4,n5⟩:=t.ne
  by_cases eb:b=n
  ·subst eb
   rw[ho a n1]at g1 ⊢
   rw[ho k (Ne.symm n3)]at g3 ⊢
   have:=(h1 g2).2 _ ((cN hc hs hT n5).2 (.inr ⟨a,k,t,g3,g1,rfl⟩))
   simp only[uQ,show(3:Int)-2=1 by decide,vC]at this
   omega
  by_cases ek:k=n
  ·subst ek
   rw[ho a n2]at g1 ⊢
   rw[ho b n3]at g2 ⊢
   have:=(h1 g3).2 _ ((zGn hc hs hT t).2 ⟨g1,g2,rfl⟩)
   simp only[uQ,show(3:Int)-2=1 by decide,vC]at this
   omega
  rw[ho b eb]at g2 ⊢
  rw[ho k ek]at g3 ⊢
  have ga:(T.getD a top0).has2=true∧(T.getD a top0).p2≤(T'.getD a top0).p2:=by
   by_cases ea:a=n
   ·subst ea;exact h2 g1
   ·rw[ho a ea]at g1 ⊢;exact⟨g1,yWf _⟩
  have:=h.y t ga.1 g2 g3
  omega
theorem Un.add2 {p:Prd} (hc:p.check=0) {T T':List Top} (h:Un p T) (hs:cK T) (hT:T.length=p.count) {n:Nat} (ho:∀m,m≠n→T'.getD m top0=T.getD m top0)
 (h1:(T'.getD n top0).has1=true→(T.getD n top0).has1=true∧(T'.getD n top0).p1≤(T.getD n top0).p1)
 (h2:(T'.getD n top0).has2=true→((T.getD n top0).has1=true→(T.getD n top0).p1<(T'.getD n top0).p2)∧∀v,PS p T n 1 v→v<(T'.getD n top0).p2):Un p T':=by
 refine⟨fun m hm g1 g2=> ?_,fun{a b k} t g1 g2 g3=> ?_,fun{a b k} t g1 g2 g3=> ?_⟩
 ·by_cases e:m=n
  ·subst e
   have:=(h2 g2).1 (h1 g1).1
   have:=(h1 g1).2
   omega
  ·rw[ho m e]at g1 g2 ⊢;exact h.d m hm g1 g2
 ·obtain⟨n1,n2,n3,n4,n5⟩:=t.ne
  by_cases eb:b=n
  ·subst eb
   rw[ho a n1]at g1 ⊢
   rw[ho k (Ne.symm n3)]at g3 ⊢
   have:=(h2 g2).2 _ ((cN hc hs hT n5).2 (.inr ⟨a,k,t,g3,g1,rfl⟩))
   simp only[vC,show(3:Int)-1=2 by decide,uQ]at this
   omega
  by_cases ek:k=n
  ·subst ek
   rw[ho a n2]at g1 ⊢
   rw[ho b n3]at g2 ⊢
   have:=(h2 g3).2 _ ((zGn hc hs hT t).2 ⟨g1,g2,rfl⟩)
   simp only[vC,show(3:Int)-1=2 by decide,uQ]at this
   omega
  rw[ho b eb]at g2 ⊢
  rw[ho k ek]at g3 ⊢
  have ga:(T.getD a top0).has1=true∧(T'.getD a top0).p1≤(T.getD a top0).p1:=by
   by_cases ea:a=n
   ·subst ea;exact h1 g1
   ·rw[ho a ea]at g1 ⊢;exact⟨g1,yWf _⟩
  have:=h.x t ga.1 g2 g3
  omega
 ·obtain⟨n1,n2,n3,n4,n5⟩:=t.ne
  by_cases e:a=n
  ·subst e
   rw[ho b (Ne.symm n1)]at g2 ⊢
   rw[ho k (Ne.symm n2)]at g3 ⊢
   have:=(h2 g1).2 _ ((cN hc hs hT n4).2 (.inl ⟨b,k,t,g3,g2,rfl⟩))
   simp only[vC]at this
   omega
  ·rw[ho a e]at g1 ⊢
   have gb:(T.getD b top0).has1=true∧(T'.getD b top0).p1≤(T.getD b top0).p1:=by
    by_cases eb:b=n
    ·subst eb;exact h1 g2
    ·rw[ho b eb]at g2 ⊢;exact⟨g2,yWf _⟩
   have gk:(T.getD k top0).has1=true∧(T'.getD k top0).p1≤(T.getD k top0).p1:=by
    by_cases eb:k=n
    ·subst eb;exact h1 g3
    ·rw[ho k eb]at g3 ⊢;exact⟨g3,yWf _⟩
   have:=h.y t g1 gb.1 gk.1
   omega
theorem zDc {L:List zD} {s:Int} (hs:zBe s (kV L s)) (h:(bestL L s).2=true):(∃o∈L,o.side=s∧o.price=(bestL L s).1.price)∧∀o∈L,o.side=s→btr s o.price (bestL L s).1.price=false:=by
 have e:wE L s=grp (kV L s):=rfl
 cases hg:grp (kV L s)with
 |nil=>rw[bestL,e,hg]at h;cases h
 |cons v vs=>
  obtain⟨o,r,ho,hp⟩:=rQ hg
  have hb:(bestL L s).1=v:=by rw[bestL,e,hg]
  rw[hb,← hp]
  have hm:∀x,x∈kV L s↔x∈L∧x.side=s:=fun x=>by rw[kV,yTu,yTo]
  refine⟨⟨o,((hm o).1 (by rw[ho];exact ySp)).1,((hm o).1 (by rw[ho];exact ySp)).2,rfl⟩,fun x hx hxs=> ?_⟩
  have hx':=(hm x).2 ⟨hx,hxs⟩
  rw[ho]at hs hx'
  rcases yTb.1 hx' with rfl|hx'
  ·rw[btr];split<;>exact ySu (by omega)
  ·exact(yWl.1 hs).1 x hx'
theorem zWk {L:List zD} {s:Int} {o:zD} (ho:o∈L) (hos:o.side=s):(bestL L s).2=true:=by
 have hm:o∈kV L s:=yTu.2 ⟨ho,by simpa using hos⟩
 obtain⟨v,vs,h⟩:=z7x (A:=kV L s) (by intro e;rw[e]at hm;cases hm)
 have e:wE L s=grp (kV L s):=rfl
 rw[bestL,e,h]
theorem btr1 {x y:Int}:btr 1 x y=false↔x≤y:=by simp[btr]
theorem btr2 {x y:Int}:btr 2 x y=false↔y≤x:=by simp[btr]
def SubB (B B':List (List zD)):Prop:=∀(k:Nat) (L':List zD),B'[k]?=some L'→∃L,B[k]?=some L∧∀o∈L',∃o'∈L,o.price=o'.price∧o.side=o'.side
theorem SubB.refl (B:List (List zD)):SubB B B:=fun k L h=>⟨L,h,fun o ho=>⟨o,ho,rfl,rfl⟩⟩
theorem SubB.trans {A B C:List (List zD)} (h:SubB A B) (h2:SubB B C):SubB A C:=fun k L hL=>by
 obtain⟨M,hM,m⟩:=h2 k L hL
 obtain⟨N,hN,n⟩:=h k M hM
 refine⟨N,hN,fun o ho=> ?_⟩
 obtain⟨o',ho',e1,e2⟩:=m o ho
 obtain⟨o2,ho2,e3,e4⟩:=n o' ho'
 exact⟨o2,ho2,e1.trans e3,e2.trans e4⟩
theorem SubB.take (B:List (List zD)) (id q:Int):SubB B (yU B id q).1:=by
 rw[yU]
 split
 ·exact .refl B
 ·rename_i k hk
  obtain⟨M,hM,_⟩:=xK hk
  intro j L hL
  dsimp only at hL
  rcases vG hL with⟨rfl,rfl⟩|⟨_,hL⟩
  ·rw[zH hM]
   refine⟨M,hM,fun o ho=> ?_⟩
   obtain⟨o',ho',e1,e2,_⟩:=zCh ho
   exact⟨o',ho',e1,e2⟩
  ·exact⟨L,hL,fun o ho=>⟨o,ho,rfl,rfl⟩⟩
theorem SubB.takes:∀(fs:List vD) (B:List (List zD)),SubB B (yY B fs)
 |[],B=> .refl B
 |f::fs,B=>(SubB.take B f.id f.qty).trans (SubB.takes fs _)
theorem SubB.run {p:Prd} {inst:Int} {sd:Bool} {price:Int}:∀(m:Nat) (q:Int) (B:List (List zD)),q.toNat≤m→SubB B (xZ p B inst sd price q).B
 |m,q,B,hm=>by
  by_cases hq:q≤0
  ·rw[kU (.inl hq)];exact .refl B
  cases hs:jF p B inst sd price q with
  |none=>rw[kU (.inr hs)];exact .refl B
  |some x=>
   obtain⟨t,C⟩:=x
   have hq2:=aY (by omega) hs
   cases m with
   |zero=>omega
   |succ m=>
   rw[cE (by omega) hs]
   have:=zKf hs
   subst this
   exact(SubB.takes t.fills B).trans (SubB.run m (q-t.qty) _ (by omega))
theorem BWf.srtD {p:Prd} {B:List (List zD)} (h:BWf p B) (n:Nat) {s:Int} (hs:s=1∨s=2):zBe s (kV (B.getD n []) s):=by
 rw[ySn]
 cases e:B[n]? with
 |none=>exact List.Pairwise.nil
 |some L=>exact h.srt n L e s hs
theorem SubB.wrs {p:Prd} {B B':List (List zD)} (h:BWf p B) (h':BWf p B') (s:SubB B B'):Wrs (B.map xF) (B'.map xF):=by
 have key:∀(n:Nat) (z:Int),z=1∨z=2→(bestL (B'.getD n []) z).2=true→(bestL (B.getD n []) z).2=true∧btr z (bestL (B'.getD n []) z).1.price (bestL (B.getD n []) z).1.price=false:=by
  intro n z hz hh
  obtain⟨⟨o,ho,hos,hop⟩,_⟩:=zDc (h'.srtD n hz) hh
  cases e:B'[n]? with
  |none=>
   rw[ySn,e]at ho
   cases ho
  |some L'=>
   obtain⟨L,hL,hm⟩:=s n L' e
   rw[zH e]at ho hop ⊢
   rw[zH hL]
   obtain⟨o',ho',e1,e2⟩:=hm o ho
   have hb:=zWk ho' (e2.symm.trans hos)
   refine⟨hb,?_⟩
   rw[← hop,e1]
   exact(zDc (h.srt n L hL z hz) hb).2 o' ho' (e2.symm.trans hos)
 intro n
 obtain⟨a1,_,a3⟩:=uE B n 1 (.inl rfl)
 obtain⟨b1,_,b3⟩:=uE B n 2 (.inr rfl)
 obtain⟨c1,_,c3⟩:=uE B' n 1 (.inl rfl)
 obtain⟨d1,_,d3⟩:=uE B' n 2 (.inr rfl)
 rw[z2y,vC]at*
 refine⟨fun g=> ?_,fun g=> ?_⟩
 ·have g':(bestL (B'.getD n []) 1).2=true:=c1▸g
  obtain⟨k1,k2⟩:=key n 1 (.inl rfl) g'
  refine⟨a1.trans k1,?_⟩
  have:((B.map xF).getD n top0).p1=_:=a3
  have:((B'.map xF).getD n top0).p1=_:=c3
  have:=btr1.1 k2
  omega
 ·have g':(bestL (B'.getD n []) 2).2=true:=d1▸g
  obtain⟨k1,k2⟩:=key n 2 (.inr rfl) g'
  refine⟨b1.trans k1,?_⟩
  have:((B.map xF).getD n top0).p2=_:=b3
  have:((B'.map xF).getD n top0).p2=_:=d3
  have:=btr2.1 k2
  omega
theorem BWf.small {p:Prd} {B:List (List zD)} (h:BWf p B):cK (B.map xF):=by
 have key:∀(n:Nat) (z:Int),z=1∨z=2→-2000000≤((B.map xF).getD n top0).price z∧((B.map xF).getD n top0).price z≤2000000:=by
  intro n z hz
  rw[(uE B n z hz).2.2]
  cases c:(bestL (B.getD n []) z).2 with
  |false=>
   have:(bestL (B.getD n []) z).1.price=0:=by
    rw[bestL]at c ⊢
    split at c
    ·rfl
    ·cases c
   omega
  |true=>
   obtain⟨⟨o,ho,_,hop⟩,_⟩:=zDc (h.srtD n hz) c
   rw[← hop]
   cases e:B[n]? with
   |none=>rw[ySn,e]at ho;cases ho
   |some L=>
    rw[zH e]at ho
    exact h.ok.prices e o ho
 intro n z
 by_cases hz:z=1
 ·exact key n z (.inl hz)
 ·have:((B.map xF).getD n top0).price z=((B.map xF).getD n top0).price 2:=by rw[Top.price,ySj hz];rfl
  rw[this]
  exact key n 2 (.inr rfl)
theorem z2x {p:Prd} {inst:Int} {sd:Bool} {price:Int}:∀(m:Nat) (q:Int) (B:List (List zD)),q.toNat≤m→BWf p B→0≤inst∧inst<B.length→0≤q→1≤(xZ p B inst sd price q).left→goB p (xZ p B inst sd price q).B inst sd price=false
 |m,q,B,hm,h,hi,hq0,hl=>by
  by_cases hq:q≤0
  ·rw[kU (.inl hq)]at hl
   dsimp only at hl;omega
  cases hs:jF p B inst sd price q with
  |none=>
   rw[kU (.inr hs)]
   dsimp only
   cases hg:goB p B inst sd price with
   |false=>rfl
   |true=>
    obtain⟨t,C,a1,_⟩:=zUw h hi hg (q:=q) (by omega)
    rw[a1]at hs;cases hs
  |some x=>
   obtain⟨t,C⟩:=x
   have htq:=aY (by omega) hs
   obtain⟨hW,hln⟩:=sY h hs
   cases m with
   |zero=>omega
   |succ m=>
   rw[cE (by omega) hs]at hl ⊢
   exact z2x m (q-t.qty) C (by omega) hW (by rw[hln];exact hi) (by omega) hl
theorem z6r {p:Prd} {B:List (List zD)} (h:BWf p B) {inst:Int} (hi:0≤inst∧inst<B.length) {sd:Bool} {price:Int} (hg:goB p B inst sd price=false) (hb:(bestL (B.getD inst.toNat []) (zB (!sd))).2=true):jC sd price (bestL (B.getD inst.toNat []) (zB (!sd))).1.price=false:=by
 rw[yKf h hi,zW]at hg
 split at hg
 ·simpa using hg
 ·rename_i c
  rw[hb]at c
  simp only[yTr,yXl,Bool.and_eq_false_iff,not_or,Bool.not_eq_false]at c
  rw[c.1]at hg
  have hg:jC sd price (z5 (yF ⟨p,B.map xF,inst⟩ (zB (!sd))) (zB (!sd))).1.price=false:=by simpa using hg
  have c2:=c.2
  cases sd with
  |false=>
   have c2:btr 2 _ _=true:=c2
   simp[btr]at c2
   simp[jC]at hg ⊢
   omega
  |true=>
   have c2:btr 1 _ _=true:=c2
   simp[btr]at c2
   simp[jC]at hg ⊢
   omega
theorem z8w {L:List zD} {s id pr q:Int} {o:zD} (h:o∈lE L s id pr q):(o.side=s∧o.price=pr)∨∃o'∈L,o.price=o'.price∧o.side=o'.side:=by
 have hX:∀X:List zD,(∀y∈X,∃o'∈L,y.price=o'.price∧y.side=o'.side)→∀b,o∈X.takeWhile (before s pr)++⟨id,s,pr,q,b⟩::X.dropWhile (before s pr)→(o.side=s∧o.price=pr)∨∃o'∈L,o.price=o'.price∧o.side=o'.side:=by
  intro X hx b hm
  rcases yTp.1 hm with hm|hm
  ·exact .inr (hx o ((List.takeWhile_sublist _).mem hm))
  ·rcases yTb.1 hm with rfl|hm
   ·exact .inl ⟨rfl,rfl⟩
   ·exact .inr (hx o ((List.dropWhile_sublist _).mem hm))
 rw[lE]at h
 refine hX _ ?_ _ h
 split
 ·intro y hy
  obtain⟨z,hz,rfl⟩:=yTk.1 hy
  exact⟨z,hz,by split<;>exact⟨rfl,rfl⟩⟩
 ·exact fun y hy=>⟨y,hy,rfl,rfl⟩
theorem Un.add {p:Prd} {B:List (List zD)} (h:BWf p B) {inst id:Int} {sd:Bool} {price q:Int} (hi:0≤inst∧inst<B.length) (hB':BWf p (rF p B inst id (zB sd) price q).1) (hU:Un p (B.map xF))
 (hd:(bestL (B.getD inst.toNat []) (zB (!sd))).2=true→jC sd price (bestL (B.getD inst.toNat []) (zB (!sd))).1.price=false) (hq:∀x∈qC ⟨p,B.map xF,inst⟩ (zB (!sd)),jC sd price x.price=false):Un p ((rF p B inst id (zB sd) price q).1.map xF):=by
 obtain⟨k,rfl⟩:∃k:Nat,inst=k:=⟨inst.toNat,by omega⟩
 obtain⟨L,hL⟩:=z9 (l:=B) (i:=k) (by omega)
 have hk:=(ySl.1 hL).1
 have hbl:=h.ok.bl
 have hc:=h.ok.pc
 have hT:(B.map xF).length=p.count:=by rw[ySm];exact hbl
 obtain⟨M,hM,hMm⟩:∃M,(rF p B k id (zB sd) price q).1=B.set k M∧∀o∈M,(o.side=zB sd∧o.price=price)∨∃o'∈L,o.price=o'.price∧o.side=o'.side:=by
  have self:∃M,B=B.set k M∧∀o∈M,(o.side=zB sd∧o.price=price)∨∃o'∈L,o.price=o'.price∧o.side=o'.side:=⟨L,(kK hL).symm,fun o ho=> .inr ⟨o,ho,rfl,rfl⟩⟩
  rw[rF]
  split
  ·exact self
  split
  ·exact self
  split
  ·exact self
  split
  ·exact self
  refine⟨_,by rw[ySy],fun o ho=> ?_⟩
  rw[zH hL,rB]at ho
  split at ho
  ·exact .inr ⟨o,ho,rfl,rfl⟩
  split at ho
  ·exact .inr ⟨o,ho,rfl,rfl⟩
  split at ho
  ·exact .inr ⟨o,ho,rfl,rfl⟩
  exact z8w ho
 rw[hM]at hB' ⊢
 have gk:(B.set k M).getD k []=M:=zH (wZ hk)
 have gL:B.getD k []=L:=zH hL
 rw[ySy,gL]at hd
 have ho:∀m,m≠k→((B.set k M).map xF).getD m top0=(B.map xF).getD m top0:=fun m hm=>by
  rw[ySn,ySn,yUd,yUd,List.getElem?_set_ne (Ne.symm hm)]
 obtain⟨a1,_,a3⟩:=uE B k 1 (.inl rfl)
 obtain⟨b1,_,b3⟩:=uE B k 2 (.inr rfl)
 obtain⟨c1,_,c3⟩:=uE (B.set k M) k 1 (.inl rfl)
 obtain⟨d1,_,d3⟩:=uE (B.set k M) k 2 (.inr rfl)
 rw[gL]at a1 a3 b1 b3
 rw[gk]at c1 c3 d1 d3
 have a1:((B.map xF).getD k top0).has1=_:=a1
 have a3:((B.map xF).getD k top0).p1=_:=a3
 have b1:((B.map xF).getD k top0).has2=_:=b1
 have b3:((B.map xF).getD k top0).p2=_:=b3
 have c1:(((B.set k M).map xF).getD k top0).has1=_:=c1
 have c3:(((B.set k M).map xF).getD k top0).p1=_:=c3
 have d1:(((B.set k M).map xF).getD k top0).has2=_:=d1
 have d3:(((B.set k M).map xF).getD k top0).p2=_:=d3
 have old:∀z,z=1∨z=2→(bestL M z).2=true→((bestL L z).2=true∧btr z (bestL M z).1.price (bestL L z).1.price=false)∨(z=zB sd∧(bestL M z).1.price=price):=by
  intro z hz hh
  obtain⟨⟨o,ho,hos,hop⟩,_⟩:=zDc (hB'.srt k M (wZ hk) z hz) hh
  rcases hMm o ho with⟨e1,e2⟩|⟨o',ho',e1,e2⟩
  ·exact .inr ⟨hos.symm.trans e1,hop.symm.trans e2⟩
  ·have hb:=zWk ho' (e2.symm.trans hos)
   refine .inl ⟨hb,?_⟩
   rw[← hop,e1]
   exact(zDc (h.srt k L hL z hz) hb).2 o' ho' (e2.symm.trans hos)
 cases sd with
 |false=>
  have e1:zB (!false)=2:=rfl
  have e2:zB false=1:=rfl
  rw[e1]at hd hq
  rw[e2]at old
  refine hU.add1 hc h.small hT (n:=k) ho (fun g=> ?_) (fun g=> ?_)
  ·rcases old 2 (.inr rfl) (d1▸g)with⟨x,y⟩|⟨x,_⟩
   ·have:=btr2.1 y
    exact⟨b1.trans x,by omega⟩
   ·cases x
  ·rcases old 1 (.inl rfl) (c1▸g)with⟨x,y⟩|⟨_,y⟩
   ·have y:=btr1.1 y
    have hx:((B.map xF).getD k top0).has1=true:=a1.trans x
    refine⟨fun g2=> ?_,fun v hv=> ?_⟩
    ·have:=hU.d k (by omega) hx g2
     omega
    ·have:=(hU.ps hc h.small hT (n:=k) (by omega) (v:=v)).2 hv hx
     omega
   ·refine⟨fun g2=> ?_,fun v hv=> ?_⟩
    ·have:=hd (b1▸g2)
     have:¬(bestL L 2).1.price≤price:=by simpa[jC]using this
     omega
    ·obtain⟨x,hx,rfl⟩:=hv
     have:=hq x hx
     have:¬x.price≤price:=by simpa[jC]using this
     omega
 |true=>
  have e1:zB (!true)=1:=rfl
  have e2:zB true=2:=rfl
  rw[e1]at hd hq
  rw[e2]at old
  refine hU.add2 hc h.small hT (n:=k) ho (fun g=> ?_) (fun g=> ?_)
  ·rcases old 1 (.inl rfl) (c1▸g)with⟨x,y⟩|⟨x,_⟩
   ·have:=btr1.1 y
    exact⟨a1.trans x,by omega⟩
   ·cases x
  ·rcases old 2 (.inr rfl) (d1▸g)with⟨x,y⟩|⟨_,y⟩
   ·have y:=btr2.1 y
    have hx:((B.map xF).getD k top0).has2=true:=b1.trans x
    refine⟨fun g2=> ?_,fun v hv=> ?_⟩
    ·have:=hU.d k (by omega) g2 hx
     omega
    ·have:=(hU.ps hc h.small hT (n:=k) (by omega) (v:=v)).1 hv hx
     omega
   ·refine⟨fun g2=> ?_,fun v hv=> ?_⟩
    ·have:=hd (a1▸g2)
     have:¬price≤(bestL L 1).1.price:=by simpa[jC]using this
     omega
    ·obtain⟨x,hx,rfl⟩:=hv
     have:=hq x hx
     have:¬price≤x.price:=by simpa[jC]using this
     omega
theorem Un.take {p:Prd} {B:List (List zD)} (h:BWf p B) (hU:Un p (B.map xF)) (id q:Int):Un p ((yU B id q).1.map xF):=hU.wrs (SubB.wrs h (h.take id q) (SubB.take B id q))
theorem Un.enter {p:Prd} {B:List (List zD)} (h:BWf p B) (U:List Int) {c:Cmd} (hi:0≤c.inst∧c.inst<B.length) (hs:c.side=1∨c.side=2) (hq:1≤c.qty) (hU:Un p (B.map xF)) (hst:c.time=1→dJ p B c.inst (decide (c.side=2)) c.price c.qty=false) (hB':BWf p (wH p B U c).B):Un p ((wH p B U c).B.map xF):=by
 obtain⟨hW,hl,hleft⟩:=cI (inst:=c.inst) (sd:=decide (c.side=2)) (price:=c.price) _ c.qty B (yTj _) h
 have hleft:=hleft (by omega)
 have hend:=z2x (inst:=c.inst) (sd:=decide (c.side=2)) (price:=c.price) _ c.qty B (yTj _) h hi (by omega)
 have hUr:Un p ((xZ p B c.inst (decide (c.side=2)) c.price c.qty).B.map xF):=hU.wrs (SubB.wrs h hW (SubB.run _ _ _ (yTj _)))
 have hsd:c.side=zB (decide (c.side=2)):=(uI hs).symm
 rw[wP]at hB' ⊢
 dsimp only at hB' ⊢
 by_cases cl:(xZ p B c.inst (decide (c.side=2)) c.price c.qty).left≠0∧c.time=1
 ·rw[ySk cl]at hB' ⊢
  have hst:=hst cl.2
  rw[dJ]at hst
  have hall:∀x∈qC ⟨p,(xZ p B c.inst (decide (c.side=2)) c.price c.qty).B.map xF,c.inst⟩ (zB (!decide (c.side=2))),jC (decide (c.side=2)) c.price x.price=false:=by
   rw[yTd cl.1,yTr,yXn]at hst
   exact fun x hx=>by simpa using hst x hx
  have hg:=hend (by omega)
  generalize xZ p B c.inst (decide (c.side=2)) c.price c.qty=R at*
  rw[hsd]at hB' ⊢
  have hcong:decide (zB (decide (c.side=2))=2)=decide (c.side=2):=by rw[← hsd]
  exact Un.add hW (by omega) hB' hUr (fun hb=>z6r hW (by omega) hg hb) hall
 ·rw[ySj cl];exact hUr
theorem yOi {p:Prd} {B:List (List zD)} (h:BWf p B) (U:List Int) (c:Cmd) (hU:Un p (B.map xF)):BWf p (doF p B U c).B→Un p ((doF p B U c).B.map xF):=by
 have hbl:=h.ok.bl
 rw[doF]
 split
 ·exact fun _=>hU
 rename_i hr
 have hr:c.right=0:=by simpa using hr
 split
 ·rename_i hk
  obtain⟨hs,hq,_⟩:=eR hr hk
  rw[cM]
  split
  ·exact fun _=>hU
  rename_i hp
  have hi:=zKl (p:=p) (i:=c.inst) (n:=c.price) (by simpa using hp)
  split
  ·exact fun _=>hU
  split
  ·exact fun _=>hU
  split
  ·exact fun _=>hU
  split
  ·exact fun _=>hU
  rename_i hst
  exact Un.enter h U (by omega) hs hq.1 hU (fun e=>by simpa[e]using hst)
 rename_i hk
 split
 ·exact fun _=>hU
 rename_i hf
 obtain⟨k,L,f1,hL,ho,hid⟩:=zMx (by simpa using hf)
 generalize zI B c.id=F at*
 obtain⟨fi,o,fb⟩:=F
 dsimp only at f1 hL ho hid ⊢
 subst f1
 have hklt:=(ySl.1 hL).1
 split
 ·have hqc:=cY hr hk (by omega)
  rw[vM]
  split
  ·exact fun _=>hU
  split
  ·exact fun _=>hU.take h _ _
  split
  ·exact fun _=>hU
  rename_i hst
  have hW:BWf p (yU B c.id o.qty).1:=h.take _ _
  have hbl':=hW.ok.bl
  exact fun hB'=>Un.enter hW U (c:=⟨1,c.id,k,o.side,c.price,c.qty,0,1,[]⟩) (by dsimp only;omega) ((h.od k L hL).1 o ho).s hqc.1 (hU.take h _ _) (fun _=>by simpa using hst) hB'
 split
 ·exact fun _=>hU.take h _ _
 ·exact fun _=>hU.take h _ _
theorem yKc (p:Prd):Un p ((List.replicate p.count []).map xF):=by
 have e:∀n,((List.replicate p.count ([]:List zD)).map xF).getD n top0=top0∨((List.replicate p.count ([]:List zD)).map xF).getD n top0=xF []:=fun n=>by
  rw[yYa,ySn,yYj]
  split
  ·exact .inr rfl
  ·exact .inl rfl
 have f:∀n,(((List.replicate p.count ([]:List zD)).map xF).getD n top0).has1=false∧(((List.replicate p.count ([]:List zD)).map xF).getD n top0).has2=false:=fun n=>by
  rcases e n with h|h<;>rw[h]<;>exact⟨rfl,rfl⟩
 refine⟨fun n _ h=> ?_,fun{a b k} _ h=> ?_,fun{a b k} _ h=> ?_⟩
 ·rw[(f n).1]at h;cases h
 ·rw[(f a).1]at h;cases h
 ·rw[(f a).2]at h;cases h
open Go Cv Go.Proofs
def reportsOC:Con:=con1 RpI (fun i=>[prdV i.p,.own 0]) (fun i=>[zFf i.l]) (fun i=>i.p.small∧i.l.length≤1099511627776) (fun i=>zA (xE i.p i.l)) (fun i=>[zFf i.l])
def amC:Con:=con1 AbI (fun i=>[prdV i.x,roV 9 (i.l.map cmdE)]) (fun _=>[]) (fun i=>i.raw) (fun _=>yP true) (fun _=>[])
def doJ (a b:Nat):SAnn:={ι:=Mkt×List Rep,slots:=fun _=>[(a,.nm 0 0),(b,.own 1)],rows:=fun j=>[vH j.1,zFf j.2],slots0:=fun _=>[(a,.nm 0 0)],rows0:=fun j=>[vH j.1]}
def amA:List SAnn:=[
 {ι:=Nat×Mkt×Ledger×List Rep,slots:=fun j=>[(6,.nm 0 0),(8,.nm 1 0),(10,.own 2),(11,zA j.1)],rows:=fun j=>[vH j.2.1,yE j.2.2.1,zFf j.2.2.2]},
 {ι:=Nat×Ledger,slots:=fun j=>[(8,.nm 0 0),(13,zA j.1)],rows:=fun j=>[yE j.2]}]
def amJ:List (Nat×SAnn):=[(4,yRu 5),(32,bj 52),(40,doJ 6 12),(72,bj 124),(84,bj 138)]
open Go Cv Go.Proofs
def pU (a:RpI):Prop:=Sx.AObj.cells [V.d (D.v (Value.string (sb a.p.code))),V.own 1,V.d (dI a.p.tick),V.d (dI a.p.low),V.d (dI a.p.high),V.d (dI a.p.wide),V.d (dI a.p.rule),V.d (dI a.p.top),V.d (dI a.p.least),V.d (dI a.p.part),V.own ((1:Nat)+(1:Nat))] 29=Sx.AObj.cells [V.d (D.v (Value.string (sb a.p.code))),V.own 1,V.d (dI a.p.tick),V.d (dI a.p.low),V.d (dI a.p.high),V.d (dI a.p.wide),V.d (dI a.p.rule),V.d (dI a.p.top),V.d (dI a.p.least),V.d (dI a.p.part),V.own ((1:Nat)+(1:Nat))] 29∧AObj.fro 1 (iE a.p.settle)=AObj.fro 1 (iE a.p.settle)∧AObj.fro 1 (iE a.p.months)=AObj.fro 1 (iE a.p.months)∧zFf a.l=zFf a.l
def zPu (i:RpI):Prop:=
 ∃(a:Prd),sb a.code=sb i.p.code∧iE a.months=iE i.p.months∧a.tick=i.p.tick∧a.low=i.p.low∧a.high=i.p.high∧a.wide=i.p.wide∧a.rule=i.p.rule∧a.top=i.p.top∧a.least=i.p.least∧a.part=i.p.part∧iE a.settle=iE i.p.settle∧(zS a)∧(∀(b:Unit),a.check=0→∃(c:Nat),(↑c:Int)=0∧yE (xV i c).fst=yE (qV a)∧∃(d:Nat→Prop),∃(e:Nat→Nat),d c∧∀(f:Nat),d f→cnd (decide ((↑f:Int)<(↑(List.map yG i.l).length:Int))) ((0≤(↑f:Int)∧(↑f:Int)<(↑(List.map yG i.l).length:Int))∧∃(g:Int),∃(h:Int),∃(j:Int),∃(k:Int),∃(l:Int),∃(m:Int),∃(n:Int),∃(p:Int),zF (List.map yG i.l) (↑f:Int).toNat 0 8=some [dI g,dI h,dI j,dI k,dI l,dI m,dI n,dI p]∧∃(q:LgR),q.r.kind=g∧q.r.id=h∧q.r.inst=j∧q.r.side=k∧q.r.price=l∧q.r.qty=m∧q.r.left=n∧q.r.why=p∧yE q.l=yE (xV i f).fst∧(uJ q)∧∀(r:Unit),True→cnd ((q.l.add q.r).snd !=0) (∃(s:Unit),xE i.p i.l=(q.l.add q.r).snd∧List.map yG i.l=List.map yG i.l∧True) (∃(s:Nat),(↑s:Int)=IntKind.i64.wrap ((↑f:Int)+1)∧yE (xV i s).fst=yE (q.l.add q.r).fst∧d s∧e s<e f∧pU i)) (∃(g:Nat),(↑g:Int)=0∧∃(h:Nat→Prop),∃(j:Nat→Nat),h g∧∀(k:Nat),h k→cnd (decide ((↑k:Int)<(↑(iE i.p.months).length:Int))) (∃(l:LgN),l.n=(↑k:Int)∧yE l.l=yE (xV i f).fst∧(l.l.traded.length≤1000000∧l.l.net.length=l.l.traded.length)∧∀(m:Unit),True→cnd (l.l.at l.l.net l.n !=0) (∃(n:Unit),xE i.p i.l=21∧List.map yG i.l=List.map yG i.l∧True) (∃(n:Nat),(↑n:Int)=IntKind.i64.wrap ((↑k:Int)+1)∧h n∧j n<j k∧yE l.l=yE (xV i f).fst∧pU i)) (∃(l:Unit),xE i.p i.l=0∧List.map yG i.l=List.map yG i.l∧True)))∧∀(b:Unit),a.check≠0→cnd (a.check !=0) (∃(c:Unit),xE i.p i.l=a.check∧List.map yG i.l=List.map yG i.l∧True) (∃(c:Nat),False)
def zZz (a:AbI):Prop:=Sx.AObj.cells [V.d (D.v (Value.string (sb a.x.code))),V.own 0,V.d (dI a.x.tick),V.d (dI a.x.low),V.d (dI a.x.high),V.d (dI a.x.wide),V.d (dI a.x.rule),V.d (dI a.x.top),V.d (dI a.x.least),V.d (dI a.x.part),V.own ((0:Nat)+(1:Nat))] 29=Sx.AObj.cells [V.d (D.v (Value.string (sb a.x.code))),V.own 0,V.d (dI a.x.tick),V.d (dI a.x.low),V.d (dI a.x.high),V.d (dI a.x.wide),V.d (dI a.x.rule),V.d (dI a.x.top),V.d (dI a.x.least),V.d (dI a.x.part),V.own ((0:Nat)+(1:Nat))] 29∧AObj.fro 1 (iE a.x.settle)=AObj.fro 1 (iE a.x.settle)∧AObj.fro 1 (iE a.x.months)=AObj.fro 1 (iE a.x.months)
def zSp (a:Prd) (b:AbI):Prop:=Sx.AObj.cells (gC (zMe ((0:Nat)+(1:Nat)+(1:Nat)+(1:Nat)) (jQ [] 0 []) 3) [sV a.code,V.own 1,zA a.tick,zA a.low,zA a.high,zA a.wide,zA a.rule,zA a.top,zA a.least,zA a.part,V.own 2]) (29:TypeId)=Sx.AObj.cells (gC (zMe ((0:Nat)+(1:Nat)+(1:Nat)+(1:Nat)) (jQ [] 0 []) 3) [sV a.code,V.own 1,zA a.tick,zA a.low,zA a.high,zA a.wide,zA a.rule,zA a.top,zA a.least,zA a.part,V.own 2]) (29:TypeId)∧AObj.fro 1 (iE a.months)=AObj.fro 1 (iE a.months)∧AObj.fro 1 (iE a.settle)=AObj.fro 1 (iE a.settle)∧zZz b
def zYc (a:Nat×Mkt×Ledger×List Rep) (b:Prd) (c:AbI):Prop:=AObj.own tRp 8 (List.map yG a.snd.snd.snd)=AObj.own tRp 8 (List.map yG a.snd.snd.snd)∧zSp b c
def z0s (a:Mkt×List Rep) (b:Nat×Mkt×Ledger×List Rep) (c:Prd) (d:AbI):Prop:=AObj.own tRp 8 (List.map yG a.snd)=AObj.own tRp 8 (List.map yG a.snd)∧zYc b c d
def zSv (a:Bool→Prop) (b:Bool) (c:LgN) (d:MfI) (e:Mkt×List Rep) (f:Nat×Mkt×Ledger×List Rep) (g:Prd) (h:AbI):Prop:=a b∧yE c.l=yE c.l∧Sx.AObj.cells [V.d (dI ((zI d.B d.id).snd.fst.id)),V.d (dI ((zI d.B d.id).snd.fst.side)),V.d (dI ((zI d.B d.id).snd.fst.price)),V.d (dI ((zI d.B d.id).snd.fst.qty)),V.d (D.v (.bool (zI d.B d.id).snd.fst.top))] 68=Sx.AObj.cells [V.d (dI ((zI d.B d.id).snd.fst.id)),V.d (dI ((zI d.B d.id).snd.fst.side)),V.d (dI ((zI d.B d.id).snd.fst.price)),V.d (dI ((zI d.B d.id).snd.fst.qty)),V.d (D.v (.bool (zI d.B d.id).snd.fst.top))] 68∧vH d.m=vH d.m∧z0s e f g h
def zSy (a:Bool→Prop) (b:LgN) (c:MfI) (d:Mkt×List Rep) (e:Nat×Mkt×Ledger×List Rep) (f:Prd) (g:AbI):Prop:=∃(h:Bool),h=false∧zSv a h b c d e f g
def z0d (a:Nat×Mkt×Ledger×List Rep) (b:Prd) (c:AbI):Prop:=yE a.snd.snd.fst=yE a.snd.snd.fst∧zYc a b c
def zZr (a:Bool→Prop) (b:Bool) (c:Nat×Mkt×Ledger×List Rep) (d:Prd) (e:AbI):Prop:=a b∧vH c.snd.fst=vH c.snd.fst∧z0d c d e
def z0b (a:Nat×Ledger) (b:Mkt) (c:Mkt×List Rep) (d:Prd) (e:AbI):Prop:=yE a.snd=yE a.snd∧vH b=vH c.fst∧AObj.own tRp 8 (List.map yG c.snd)=AObj.own tRp 8 (List.map yG c.snd)∧zSp d e
def zCq (a:Nat×Ledger) (b:Mkt×List Rep):Prop:=0≤(↑a.fst:Int)∧(↑a.fst:Int)<(↑(List.map yG b.snd).length:Int)
def Vam (i:AbI):Prop:=
 ∃(a:Prd),∃(b:Prd→Prop),(∃(c:Prd),sb c.code=sb i.x.code∧iE c.months=iE i.x.months∧c.tick=i.x.tick∧c.low=i.x.low∧c.high=i.x.high∧c.wide=i.x.wide∧c.rule=i.x.rule∧c.top=i.x.top∧c.least=i.x.least∧c.part=i.x.part∧iE c.settle=iE i.x.settle∧(((-9223372036854775808)≤c.tick∧c.tick≤9223372036854775807)∧((-9223372036854775808)≤c.wide∧c.wide≤9223372036854775807)∧((-9223372036854775808)≤c.rule∧c.rule≤9223372036854775807)∧((-9223372036854775808)≤c.top∧c.top≤9223372036854775807)∧((-9223372036854775808)≤c.least∧c.least≤9223372036854775807)∧((-9223372036854775808)≤c.part∧c.part≤9223372036854775807)∧c.months.length≤9223372036854775807)∧∀(d:Unit),True→∃(e:Prd),sb e.code=sb [(206:UInt8),(169:UInt8)]∧e.tick=yJ c∧e.low=(-20)*yJ c∧e.high=100*yJ c∧e.wide=yJ c*(5+zJ c.wide 0 60)∧e.rule=1+zJ c.rule 0 2∧e.top=zJ c.top 0 9∧e.least=1+zJ c.least 0 4∧e.part=zJ c.part 0 100∧AObj.fro 1 (iE e.months)=AObj.fro 1 (iE (jK (kN c).toNat))∧AObj.fro 1 (iE e.settle)=AObj.fro 1 (iE (kH (yJ c) (kN c).toNat))∧b e∧zZz i)∧∀(c:Prd),b c→∃(d:Prd),sb d.code=sb c.code∧iE d.months=iE c.months∧d.tick=c.tick∧d.low=c.low∧d.high=c.high∧d.wide=c.wide∧d.rule=c.rule∧d.top=c.top∧d.least=c.least∧d.part=c.part∧iE d.settle=iE c.settle∧(zS d)∧(∀(e:Unit),d.check=0→∃(f:Prd),sb f.code=sb c.code∧iE f.months=iE c.months∧f.tick=c.tick∧f.low=c.low∧f.high=c.high∧f.wide=c.wide∧f.rule=c.rule∧f.top=c.top∧f.least=c.least∧f.part=c.part∧iE f.settle=iE c.settle∧(zS f)∧(∀(g:Unit),f.check=0→∃(h:Nat×Mkt×Ledger×List Rep),(↑h.fst:Int)=0∧vH h.snd.fst=vH (Mkt.mk d (h9 d) [])∧yE h.snd.snd.fst=yE (qV f)∧List.map yG h.snd.snd.snd=[]∧∃(j:Nat×Mkt×Ledger×List Rep→Prop),∃(k:Nat×Mkt×Ledger×List Rep→Nat),j h∧∀(l:Nat×Mkt×Ledger×List Rep),j l→∃(m:Bool),∃(n:Bool→Prop),cnd (decide ((↑l.fst:Int)<(↑(List.map cmdE i.l).length:Int))) (∃(p:Bool),p=decide ((↑l.fst:Int)<50)∧zZr n p l c i) (∃(p:Bool),p=false∧zZr n p l c i)∧∀(p:Bool),n p→cnd p (∃(q:Mkt×List Rep),vH q.fst=vH l.snd.fst∧∃(r:Mkt×List Rep→Prop),((0≤(↑l.fst:Int)∧(↑l.fst:Int)<(↑(List.map cmdE i.l).length:Int))∧∃(s:Int),∃(t:Int),∃(u:Int),∃(v:Int),∃(w:Int),∃(x:Int),∃(y:Int),∃(z:Int),∃(a_1:ByteArray),zF (List.map cmdE i.l) (↑l.fst:Int).toNat 0 9=some [dI s,dI t,dI u,dI v,dI w,dI x,dI y,dI z,D.v (Value.string a_1)]∧∃(a_2:TmI),sb a_2.p.code=sb c.code∧iE a_2.p.months=iE c.months∧a_2.p.tick=c.tick∧a_2.p.low=c.low∧a_2.p.high=c.high∧a_2.p.wide=c.wide∧a_2.p.rule=c.rule∧a_2.p.top=c.top∧a_2.p.least=c.least∧a_2.p.part=c.part∧iE a_2.p.settle=iE c.settle∧a_2.c.kind=s∧a_2.c.id=t∧a_2.c.inst=u∧a_2.c.side=v∧a_2.c.price=w∧a_2.c.qty=x∧a_2.c.least=y∧a_2.c.time=z∧sb a_2.c.label=a_1∧a_2.i=(↑l.fst:Int)∧(a_2.p.check=0∧(a_2.p.code.length≤1099511627776∧a_2.p.months.length≤1099511627776∧a_2.p.settle.length≤1099511627776)∧(((-9223372036854775808)≤a_2.c.kind∧a_2.c.kind≤9223372036854775807)∧((-9223372036854775808)≤a_2.c.id∧a_2.c.id≤9223372036854775807)∧((-9223372036854775808)≤a_2.c.inst∧a_2.c.inst≤9223372036854775807)∧((-9223372036854775808)≤a_2.c.side∧a_2.c.side≤9223372036854775807)∧((-9223372036854775808)≤a_2.c.price∧a_2.c.price≤9223372036854775807)∧((-9223372036854775808)≤a_2.c.qty∧a_2.c.qty≤9223372036854775807)∧((-9223372036854775808)≤a_2.c.least∧a_2.c.least≤9223372036854775807)∧(-9223372036854775808)≤a_2.c.time∧a_2.c.time≤9223372036854775807)∧0≤a_2.i∧a_2.i≤1000000)∧∀(a_3:Unit),True→∃(a_4:EnI),a_4.c.kind=(qZ a_2).kind∧a_4.c.id=(qZ a_2).id∧a_4.c.inst=(qZ a_2).inst∧a_4.c.side=(qZ a_2).side∧a_4.c.price=(qZ a_2).price∧a_4.c.qty=(qZ a_2).qty∧a_4.c.least=(qZ a_2).least∧a_4.c.time=(qZ a_2).time∧sb a_4.c.label=sb (qZ a_2).label∧vH a_4.m=vH q.fst∧((a_4.m.Rep a_4.p a_4.B a_4.U∧BOk a_4.p a_4.B)∧a_4.c.label.length≤140737488355328∧((-9223372036854775808)≤a_4.c.qty∧a_4.c.qty≤9223372036854775807)∧a_4.X=doF a_4.p a_4.B a_4.U a_4.c)∧∀(a_5:Mkt),a_5.Rep a_4.p a_4.X.B a_4.X.U→∃(a_6:Mkt×List Rep),vH a_6.fst=vH a_5∧List.map yG a_6.snd=List.map yG a_4.X.R∧r a_6∧z0d l c i)∧∀(s:Mkt×List Rep),r s→∃(t:Nat×Ledger),(↑t.fst:Int)=0∧yE t.snd=yE l.snd.snd.fst∧∃(u:Nat×Ledger→Prop),∃(v:Nat×Ledger→Nat),u t∧∀(w:Nat×Ledger),u w→cnd (decide ((↑w.fst:Int)<(↑(List.map yG s.snd).length:Int))) ((zCq w s)∧∃(x:Int),∃(y:Int),∃(z:Int),∃(a_1:Int),∃(a_2:Int),∃(a_3:Int),∃(a_4:Int),∃(a_5:Int),zF (List.map yG s.snd) (↑w.fst:Int).toNat 0 8=some [dI x,dI y,dI z,dI a_1,dI a_2,dI a_3,dI a_4,dI a_5]∧∃(a_6:LgR),a_6.r.kind=x∧a_6.r.id=y∧a_6.r.inst=z∧a_6.r.side=a_1∧a_6.r.price=a_2∧a_6.r.qty=a_3∧a_6.r.left=a_4∧a_6.r.why=a_5∧yE a_6.l=yE w.snd∧(uJ a_6)∧∀(a_7:Unit),True→cnd ((a_6.l.add a_6.r).snd !=0) (∃(a_8:Unit),true=false∧True) ((zCq w s)∧∃(a_8:Int),zF (List.map yG s.snd) (↑w.fst:Int).toNat ((0:Nat)+(1:Nat)) 1=some [dI a_8]∧∃(a_9:MfI),a_9.id=a_8∧vH a_9.m=vH s.fst∧(a_9.m.Rep a_9.p a_9.B a_9.U∧BOk a_9.p a_9.B)∧∀(a_10:Unit),True→(zCq w s)∧∃(a_11:Int),zF (List.map yG s.snd) (↑w.fst:Int).toNat ((0:Nat)+(1:Nat)) 1=some [dI a_11]∧∃(a_12:LgN),a_12.n=a_11∧yE a_12.l=yE (a_6.l.add a_6.r).fst∧True∧∀(a_13:Unit),True→∃(a_14:Bool),∃(a_15:Bool→Prop),cnd ((↑w.fst:Int)==IntKind.i64.wrap ((↑(List.map yG s.snd).length:Int)-1)) ((zCq w s)∧∃(a_16:Int),zF (List.map yG s.snd) (↑w.fst:Int).toNat ((0:Nat)+(0:Nat)) 1=some [dI a_16]∧cnd (a_16 !=2) (cnd (!(zI a_9.B a_9.id).snd.snd==(qK a_12.l.left a_12.n).isSome) (∃(a_17:Bool),a_17=true∧zSv a_15 a_17 a_12 a_9 s l c i) (cnd (zI a_9.B a_9.id).snd.snd (∃(a_17:Bool),a_17=((zI a_9.B a_9.id).snd.fst.qty !=(qK a_12.l.left a_12.n).getD 0)∧zSv a_15 a_17 a_12 a_9 s l c i) (zSy a_15 a_12 a_9 s l c i))) (zSy a_15 a_12 a_9 s l c i)) (zSy a_15 a_12 a_9 s l c i)∧∀(a_16:Bool),a_15 a_16→cnd a_16 (∃(a_17:Unit),true=false∧True) (∃(a_17:Nat×Ledger),(↑a_17.fst:Int)=IntKind.i64.wrap ((↑w.fst:Int)+1)∧yE a_17.snd=yE a_12.l∧u a_17∧v a_17<v w∧vH a_9.m=vH s.fst∧z0s s l c i))) (((List.map yG l.snd.snd.snd).length+(List.map yG s.snd).length)*(64:Nat)≤(70368744177664:Nat)∧∃(x:Bool),∃(y:Bool→Prop),(∃(z:Mkt),vH z=vH s.fst∧(cT z)∧∀(a_1:Unit),True→(jZ c)∧∃(a_2:BkI),sb a_2.p.code=sb c.code∧iE a_2.p.months=iE c.months∧a_2.p.tick=c.tick∧a_2.p.low=c.low∧a_2.p.high=c.high∧a_2.p.wide=c.wide∧a_2.p.rule=c.rule∧a_2.p.top=c.top∧a_2.p.least=c.least∧a_2.p.part=c.part∧iE a_2.p.settle=iE c.settle∧zE a_2.s=zE z.s∧(cU a_2)∧∀(a_3:Unit),True→cnd (x6 a_2.p a_2.s.tops !=0) (∃(a_4:Bool),a_4=true∧y a_4∧AObj.own 41 8 (List.map yG l.snd.snd.snd++List.map yG s.snd)=AObj.own 41 8 (List.map yG l.snd.snd.snd++List.map yG s.snd)∧z0b w z s c i) (∃(a_4:RpI),sb a_4.p.code=sb c.code∧iE a_4.p.months=iE c.months∧a_4.p.tick=c.tick∧a_4.p.low=c.low∧a_4.p.high=c.high∧a_4.p.wide=c.wide∧a_4.p.rule=c.rule∧a_4.p.top=c.top∧a_4.p.least=c.least∧a_4.p.part=c.part∧iE a_4.p.settle=iE c.settle∧List.map yG a_4.l=List.map yG l.snd.snd.snd++List.map yG s.snd∧(fK a_4)∧∀(a_5:Unit),True→∃(a_6:Bool),a_6=(xE a_4.p a_4.l !=0)∧y a_6∧AObj.own tRp 8 (List.map yG a_4.l)=AObj.own 41 8 (List.map yG l.snd.snd.snd++List.map yG s.snd)∧z0b w z s c i))∧∀(z:Bool),y z→cnd z (∃(a_1:Unit),true=false∧True) (∃(a_1:Nat×Mkt×Ledger×List Rep),(↑a_1.fst:Int)=IntKind.i64.wrap ((↑l.fst:Int)+1)∧vH a_1.snd.fst=vH s.fst∧yE a_1.snd.snd.fst=yE w.snd∧List.map yG a_1.snd.snd.snd=List.map yG l.snd.snd.snd++List.map yG s.snd∧j a_1∧k a_1<k l∧zSp c i))) (∃(q:Unit),True∧∀(r:Unit),True→∃(s:Unit),true=true∧True))∧∀(g:Unit),f.check≠0→∃(h:Unit),true=false∧True)∧∀(e:Unit),d.check≠0→∃(f:Prd),sb f.code=sb c.code∧iE f.months=iE c.months∧f.tick=c.tick∧f.low=c.low∧f.high=c.high∧f.wide=c.wide∧f.rule=c.rule∧f.top=c.top∧f.least=c.least∧f.part=c.part∧iE f.settle=iE c.settle∧(zS f)∧(∀(g:Unit),f.check=0→∃(h:Unit),true=false∧True)∧∀(g:Unit),f.check≠0→∃(h:Unit),true=false∧True
theorem eqam (i:AbI):Vam i=walk Tryz.prog ([(20,kprodC),(10,newMC),(33,newLC),(21,tameC),(13,doC),(34,laddC),(26,mfindC),(35,lleftC),(22,stateC),(36,booksC),(31,reportsOC),(32,known25C)]) 0 (amJ) (amA) [] Tryz.f9 (Tryz.f9.body.getD .skip) (amC.pat i) (amC.pre i) (amC.alts i):=by kernel_rfl
open Go Cv Go.Proofs
theorem yFq (a:Int):∃c,IntKind.i64.wrap a=a+c*18446744073709551616:=by
 by_cases h:a % 18446744073709551616≥9223372036854775808
 ·refine⟨-(a / 18446744073709551616)-1,?_⟩
  have:IntKind.i64.wrap a=a % 18446744073709551616-18446744073709551616:=by
   simp only[IntKind.wrap,IntKind.bits,IntKind.signed]
   exact ySk (by simpa using h)
  omega
 ·refine⟨-(a / 18446744073709551616),?_⟩
  have:IntKind.i64.wrap a=a % 18446744073709551616:=by
   simp only[IntKind.wrap,IntKind.bits,IntKind.signed]
   exact ySj (by simpa using h)
  omega
theorem yCv (a c:Int):IntKind.i64.wrap (a+c*18446744073709551616)=IntKind.i64.wrap a:=by
 have e:(a+c*18446744073709551616) % 2 ^ IntKind.i64.bits=a % 2 ^ IntKind.i64.bits:=Int.add_mul_emod_self_right a c _
 simp only[IntKind.wrap,e]
theorem z5j (a b:Int):IntKind.i64.wrap (IntKind.i64.wrap a+b)=IntKind.i64.wrap (a+b):=by
 obtain⟨c,h⟩:=yFq a
 rw[h,show a+c*18446744073709551616+b=a+b+c*18446744073709551616 by omega,yCv]
theorem gW (a b k:Int) (l:List (Int×Int)):qK ((a,b)::l) k=if a=k then some b else qK l k:=by
 rw[qK,yYl]
 by_cases h:a=k
 ·rw[yTd h,ySk h];rfl
 ·rw[ySu h,ySj h];rfl
theorem sN (k v x:Int):∀l:List (Int×Int),qK (fA k v l) x=if x=k then some v else qK l x
 |[]=>by
  rw[fA,gW]
  by_cases h:x=k
  ·rw[ySk h,ySk h.symm]
  ·rw[ySj h,ySj fun e=>h e.symm]
 |(a,b)::l=>by
  have ih:=sN k v x l
  rw[fA]
  by_cases h:k=a
  ·subst h
   rw[ySk rfl,gW,gW]
   by_cases e:x=k
   ·rw[ySk e,ySk e.symm]
   ·rw[ySj e,ySj fun c=>e c.symm,ySj fun c=>e c.symm]
  ·rw[ySj h,gW,gW,ih]
   by_cases e:x=k
   ·rw[ySj fun c=>h (by rw[c,e]),ySk e,ySk e]
   ·rw[ySj e,ySj e]
theorem zKj (k v:Int):∀{l:List (Int×Int)},(l.map (·.1)).Nodup→((fA k v l).map (·.1)).Nodup∧∀x,x∈(fA k v l).map (·.1)→x=k∨x∈l.map (·.1)
 |[],_=>⟨by simp[fA],fun x hx=> .inl (by simpa[fA]using hx)⟩
 |(a,b)::l,h=>by
  rw[ySs,yUg]at h
  obtain⟨i1,i2⟩:=zKj k v h.2
  rw[fA]
  by_cases e:k=a
  ·rw[ySk e,ySs]
   exact⟨yUg.2 h,fun x hx=> .inr hx⟩
  ·rw[ySj e,ySs,ySs]
   refine⟨yUg.2 ⟨fun hm=> ?_,i1⟩,fun x hx=> ?_⟩
   ·rcases i2 a hm with c|c
    ·exact e c.symm
    ·exact h.1 c
   ·rcases yTb.1 hx with c|c
    ·exact .inr (yTb.2 (.inl c))
    ·exact(i2 x c).imp_right (ySq _)
theorem zUr (k x:Int):∀{l:List (Int×Int)},(l.map (·.1)).Nodup→qK (zEb k l) x=if x=k then none else qK l x
 |[],_=>by rw[zEb];split<;>rfl
 |(a,b)::l,h=>by
  rw[ySs,yUg]at h
  rw[zEb]
  by_cases e:k=a
  ·subst e
   rw[ySk rfl,gW]
   by_cases c:x=k
   ·rw[ySk c,c,zPa h.1]
   ·rw[ySj c,ySj fun d=>c d.symm]
  ·rw[ySj e,gW,gW,zUr k x h.2]
   by_cases c:x=k
   ·rw[ySj fun d=>e (by rw[d,c]),ySk c,ySk c]
   ·rw[ySj c,ySj c]
theorem zTs (k:Int):∀(l:List (Int×Int)),((zEb k l).map (·.1)).Sublist (l.map (·.1))
 |[]=>List.Sublist.refl _
 |(a,b)::l=>by
  rw[zEb]
  split
  ·exact List.sublist_cons_self _ _
  ·exact(zTs k l).cons_cons _
structure LdR (l:Ledger) (p:Prd) (S:Stm) (N:Int→Int):Prop where
 ep:l.p=p
 tl:l.traded.length=p.count
 nl:l.net.length=p.count
 kd:(l.left.map (·.1)).Nodup
 lf:∀id,qK l.left id=if S.left id=0 then none else some (S.left id)
 ow:∀id,qK l.inst id=some (S.own id)∨(qK l.inst id=none∧S.own id=0∧S.left id=0)
 nt:∀n:Nat,n<p.count→l.net.getD n 0=IntKind.i64.wrap (N n)
theorem zKx {l:Ledger} (h:(l.left.map (·.1)).Nodup) (id n x:Int):qK (l.close id n).left x=(if x=id then(if n=0 then none else some n)else qK l.left x)∧((l.close id n).left.map (·.1)).Nodup:=by
 obtain⟨k1,_⟩:=zKj id n h
 rw[Ledger.close]
 dsimp only
 by_cases c:n=0
 ·rw[ySk c,ySk c,zUr id x k1,sN]
  refine⟨?_,k1.sublist (zTs id _)⟩
  by_cases e:x=id
  ·rw[ySk e,ySk e]
  ·rw[ySj e,ySj e,ySj e]
 ·rw[ySj c,ySj c,sN]
  exact⟨rfl,k1⟩
theorem LdR.close {l:Ledger} {p:Prd} {S:Stm} {N:Int→Int} (h:LdR l p S N) {id:Int} (n:Int) (hs:S.left id≠0):LdR (l.close id n) p ⟨upd S.left id n,S.own⟩ N:=by
 refine⟨h.ep,h.tl,h.nl,(zKx h.kd id n 0).2,fun x=> ?_,fun x=> ?_,h.nt⟩
 ·rw[(zKx h.kd id n x).1,h.lf]
  show _=if upd S.left id n x=0 then none else some (upd S.left id n x)
  by_cases e:x=id
  ·have eu:upd S.left id n x=n:=ySk e
   rw[ySk e,eu]
  ·have eu:upd S.left id n x=S.left x:=ySj e
   rw[ySj e,eu]
 ·rcases h.ow x with c|⟨c1,c2,c3⟩
  ·exact .inl c
  ·refine .inr ⟨c1,c2,?_⟩
   dsimp only[upd]
   rw[ySj fun e:x=id=>hs (by rw[← e];exact c3)];exact c3
theorem z9u {l:Ledger} {r:Rep} {N:Int→Int} {c:Nat} (h:∀n:Nat,n<c→l.net.getD n 0=IntKind.i64.wrap (N n)) (hl:l.net.length=c) (hk:r.kind=3) (hs:r.side=1∨r.side=2) (hi:0≤r.inst∧r.inst<c):(l.trade r).net.length=c∧∀n:Nat,n<c→(l.trade r).net.getD n 0=IntKind.i64.wrap (N n+one r n):=by
 have key:∀x:Int,x=one r r.inst→∀n:Nat,n<c→(l.net.set r.inst.toNat (IntKind.i64.wrap (l.net.getD r.inst.toNat 0+x))).getD n 0=IntKind.i64.wrap (N n+one r n):=by
  intro x hx n hn
  rw[zBq (by omega)]
  by_cases e:n=r.inst.toNat
  ·have ei:(r.inst.toNat:Int)=r.inst:=by omega
   rw[ySk e,h _ (by omega),z5j,hx,e,ei]
  ·rw[ySj e,h n hn,one,ySj fun d=>e (by omega),Int.add_zero]
 rw[Ledger.trade]
 dsimp only
 rcases hs with s|s
 ·rw[ySk s,e8]
  exact⟨by rw[yTq];exact hl,key r.qty (by rw[one,ySk ⟨hk,rfl⟩,ySk s])⟩
 ·rw[ySj (by omega),ySk s,zQm]
  exact⟨by rw[yTq];exact hl,key (-r.qty) (by rw[one,ySk ⟨hk,rfl⟩,ySj (by omega)])⟩
theorem LdR.trade {l:Ledger} {p:Prd} {S:Stm} {N:Int→Int} (h:LdR l p S N) {r:Rep} (hk:r.kind=3) (hs:r.side=1∨r.side=2) (hi:0≤r.inst∧r.inst<p.count):LdR (l.trade r) p S fun n=>N n+one r n:=by
 obtain⟨n1,n2⟩:=z9u h.nt h.nl hk hs hi
 exact⟨h.ep,by rw[Ledger.trade,e8];dsimp only;rw[yTq];exact h.tl,n1,h.kd,h.lf,h.ow,n2⟩
theorem LdR.net {l:Ledger} {p:Prd} {S:Stm} {N N':Int→Int} (h:LdR l p S N) (e:∀n,N' n=N n):LdR l p S N':=⟨h.ep,h.tl,h.nl,h.kd,h.lf,h.ow,fun n hn=>by rw[e];exact h.nt n hn⟩
theorem LdR.isB {l:Ledger} {p:Prd} {S:Stm} {N:Int→Int} (h:LdR l p S N) {n:Int} (hn:0≤n∧n<p.count):l.isB n=true:=by
 rw[Ledger.isB,h.tl,yTd hn.1,yTd hn.2];rfl
theorem z8z {l:Ledger} {r:Rep} (h:r.kind=2):l.add r=(l,0):=by
 rw[Ledger.add,ySj (by rw[Rep.badK,h];decide),ySk h]
theorem yGy {l:Ledger} {p:Prd} (hc:p.check=0) {D:Int→Prop} {S:Stm} {N:Int→Int} (h:LdR l p S N) {r:Rep} (g:StG p D S r):(l.add r).2=0∧LdR (l.add r).1 p (stN S r) fun n=>N n+one r n:=by
 have gi:=g.i
 have gl:=g.l
 have gq:=g.q
 have hk15:1≤r.kind∧r.kind≤5∧r.kind≠2:=by rcases g.k with k|k|k|k<;>omega
 have hbad:¬r.badK=true:=by
  rw[Rep.badK,ySu (by omega),ySu (by omega)];decide
 have hin:¬l.isB r.inst=false:=by rw[h.isB gi];decide
 have one0:r.kind≠3→∀n,N n+one r n=N n:=fun e n=>by rw[one,ySj fun x=>e x.1,Int.add_zero]
 rw[Ledger.add,ySj hbad,ySj hk15.2.2,ySj hin]
 have hlo:=h.lf r.id
 by_cases k1:r.kind=1
 ·obtain⟨l0,q1,lq⟩:S.left r.id=0∧1≤r.qty∧r.left=r.qty:=by
   rcases g.k with k|k|k|k
   ·exact k.2
   ·omega
   ·omega
   ·omega
  rw[ySk l0]at hlo
  rw[ySk k1,Ledger.acc,hlo,ySj (by decide),ySj (by omega),stN,ySk k1]
  refine⟨rfl,h.ep,h.tl,h.nl,(zKj _ _ h.kd).1,fun x=> ?_,fun x=> ?_,fun n hn=>by rw[one0 (by omega)];exact h.nt n hn⟩
  ·rw[sN,h.lf,lq]
   show _=if upd S.left r.id r.qty x=0 then none else some (upd S.left r.id r.qty x)
   by_cases e:x=r.id
   ·have eu:upd S.left r.id r.qty x=r.qty:=ySk e
    rw[ySk e,eu,ySj (by omega)]
   ·have eu:upd S.left r.id r.qty x=S.left x:=ySj e
    rw[ySj e,eu]
  ·dsimp only[upd]
   rw[sN]
   by_cases e:x=r.id
   ·rw[ySk e,ySk e];exact .inl rfl
   ·rw[ySj e,ySj e,ySj e];exact h.ow x
 rw[ySj k1]
 by_cases k3:r.kind=3
 ·obtain⟨q1,s12,G3⟩:1≤r.qty∧(r.side=1∨r.side=2)∧((r.inst=S.own r.id∧r.qty≤S.left r.id∧r.left=S.left r.id-r.qty)∨(r.inst≠S.own r.id∧(p.legs (S.own r.id)).2.2=true∧(r.inst=(p.legs (S.own r.id)).1∨r.inst=(p.legs (S.own r.id)).2.1)∧r.left=S.left r.id)):=by
   rcases g.k with k|k|k|k
   ·omega
   ·exact k.2
   ·omega
   ·omega
  rcases G3 with⟨ho,hq,hl⟩|⟨ho,hsp,hlg,hl⟩
  ·have hown:l.own r.id=S.own r.id:=by
    rcases h.ow r.id with c|⟨_,_,c⟩
    ·rw[Ledger.own,c];rfl
    ·omega
   have hleg:¬l.isLeg r=true:=by
    rw[Ledger.isLeg,Ledger.legB,hown,h.ep]
    intro x
    simp only[ySx,yVy,yTo]at x
    obtain⟨_,_,y,z⟩:=x
    have:=zIa hc (k:=S.own r.id) (by omega) y
    omega
   rw[ySj hleg,hlo,ySj (by omega)]
   dsimp only
   have e1:¬l.e1 r=true:=by rw[Ledger.e1,hown,ySu (show ¬r.inst≠S.own r.id from fun x=>x ho)];simp
   have e2:¬r.e2 (S.left r.id)=true:=by
    intro x
    rw[Rep.e2,w64 (by omega)]at x
    simp only[ySx,yVy,yTo]at x
    omega
   have e3:¬r.e3 (S.left r.id)=true:=by rw[Rep.e3,ySu (by omega)];simp
   have e4:¬r.e4 (S.left r.id)=true:=by rw[Rep.e4,ySu (by omega)];simp
   rw[ySj e1,ySj e2,ySj e3,ySj e4,Ledger.done,ySk k3,zEg k1 hk15.2.2 fun _=>ho]
   exact⟨rfl,(h.trade k3 s12 gi).close r.left (by omega)⟩
  ·have hown:qK l.inst r.id=some (S.own r.id):=by
    rcases h.ow r.id with c|⟨_,c,_⟩
    ·exact c
    ·exfalso
     rw[c]at hsp
     have hct:=zOn hc
     have:=(zIa hc (k:=0) (by omega) hsp)
     omega
   have hleg:l.isLeg r=true:=by
    rw[Ledger.isLeg,Ledger.legB,Ledger.own,hown,h.ep,yTd k3]
    simp only[Option.isSome_some,yUo,hsp,yTr,yVy,yTo]
    exact hlg
   rw[ySk hleg,ySj (by omega),zTh k3 ho]
   exact⟨rfl,h.trade k3 s12 gi⟩
 ·have hleg:¬l.isLeg r=true:=by rw[Ledger.isLeg,ySu k3];simp
  have hl0:S.left r.id≠0:=by rcases g.k with k|k|k|k<;>omega
  have e1:¬l.e1 r=true:=by rw[Ledger.e1,ySu k3];simp
  have e2:¬r.e2 (S.left r.id)=true:=by rw[Rep.e2,ySu k3];simp
  rw[ySj hleg,hlo,ySj hl0]
  dsimp only
  rw[ySj e1,ySj e2,zEg k1 hk15.2.2 fun x=>absurd x k3]
  rcases g.k with k|k|⟨k4,q1,q2,lz⟩|⟨k5,q1,lq⟩
  ·omega
  ·omega
  ·have e3:¬r.e3 (S.left r.id)=true:=by rw[Rep.e3,ySu (show ¬r.qty≠S.left r.id from fun x=>x q2)];simp
   have e4:¬r.e4 (S.left r.id)=true:=by rw[Rep.e4,ySu (by omega)];simp
   rw[ySj e3,ySj e4,Ledger.done,ySj k3,ySk k4,lz]
   exact⟨rfl,(h.close 0 hl0).net (one0 k3)⟩
  ·have e3:¬r.e3 (S.left r.id)=true:=by rw[Rep.e3,ySu (by omega)];simp
   have e4:¬r.e4 (S.left r.id)=true:=by
    intro x
    rw[Rep.e4,w64 (by omega)]at x
    simp only[ySx,yVy,yTo]at x
    omega
   rw[ySj e3,ySj e4,Ledger.done,ySj k3,ySj (by omega)]
   exact⟨rfl,(h.close r.left hl0).net (one0 k3)⟩
theorem zWw {p:Prd} (hc:p.check=0) {D:Int→Prop}:∀{R:List Rep} {l:Ledger} {S:Stm} {N:Int→Int},LdR l p S N→cO p D S R→(l.addAll R).2=0∧LdR (l.addAll R).1 p (vT S R) fun n=>N n+wI R n
 |[],l,S,N,h,_=>⟨rfl,h.net fun n=>by rw[wI,Int.add_zero]⟩
 |r::R,l,S,N,h,g=>by
  obtain⟨a1,a2⟩:=yGy hc h g.1
  obtain⟨b1,b2⟩:=zWw hc a2 g.2
  rw[Ledger.addAll,ySj (by rw[a1];decide)]
  exact⟨b1,b2.net fun n=>by rw[wI];omega⟩
theorem z4y (p:Prd):LdR (qV p) p ⟨fun _=>0,fun _=>0⟩ fun _=>0:=by
 refine⟨rfl,yVb,yVb,List.nodup_nil,fun id=>rfl,fun id=> .inr ⟨rfl,rfl,rfl⟩,fun n hn=> ?_⟩
 show(List.replicate p.count (0:Int)).getD n 0=_
 rw[yEr];decide
theorem yAt {p:Prd} (hc:p.check=0) {T:List Top} (h:Un p T) (hs:cK T) (hT:T.length=p.count):x6 p T=0:=by
 rw[zXp hc hs hT,ySj,ySj]
 ·intro x
  obtain⟨k,hk,hm⟩:=any_iff.1 x
  by_cases hmk:p.months.length≤k
  ·obtain⟨a,b,t⟩:=z0w hc (by omega) hmk
   rcases(gE t).1 hm with⟨h1,h2,h3,h4,_⟩|⟨h1,h2,h3,h4,_⟩
   ·have:=h.x t h1 h2 h3;omega
   ·have:=h.y t h1 h2 h3;omega
  ·have hls:(p.legs k).2.2=false:=sK hc (by omega)
   rw[lY,hls]at hm
   cases hm
 ·intro x
  obtain⟨k,hk,hm⟩:=any_iff.1 x
  rw[zIf]at hm
  simp only[ySx,yTo]at hm
  have:=h.d k (by omega) hm.1 hm.2.1
  omega
open Go Cv Go.Proofs
open Go Cv Go.Proofs
open Go Cv Go.Proofs
theorem yGe {p:Prd} {B:List (List zD)} (h:BWf p B) (U:List Int) (c:Cmd):(doF p B U c).R.length≤1503000003:=by
 have hbl:=h.ok.bl
 have hrj:∀w,(dX c w).length≤1503000003:=fun w=>by simp[dX]
 rw[doF]
 split
 ·exact hrj _
 rename_i hr
 have hr:c.right=0:=by simpa using hr
 split
 ·rename_i hk
  obtain⟨_,hq,_⟩:=eR hr hk
  rw[cM]
  split
  ·exact hrj _
  rename_i hp
  have hp:p.price c.inst c.price=0:=by simpa using hp
  have hin:=zJg hp
  split
  ·exact hrj _
  split
  ·exact hrj _
  split
  ·exact hrj _
  split
  ·exact hrj _
  have:=lS h U (c:=c) (by omega) hq
  omega
 rename_i hk
 split
 ·exact hrj _
 rename_i hf
 have hf:(zI B c.id).2.2=true:=by simpa using hf
 have hf:zI B c.id=((zI B c.id).1,(zI B c.id).2.1,true):=by rw[← hf]
 obtain⟨hin,_⟩:=zSa h hf
 split
 ·rename_i h4
  have hq:=cY hr hk (by omega)
  rw[vM]
  split
  ·exact hrj _
  split
  ·simp[hJ]
  split
  ·exact hrj _
  have:=lS (h.take c.id (zI B c.id).2.1.qty) U (c:=⟨1,c.id,(zI B c.id).1,(zI B c.id).2.1.side,c.price,c.qty,0,1,[]⟩) (by dsimp only;rw[mZ];exact hin) hq
  dsimp only
  rw[ySr]
  have e1:(jT B U c.id (zI B c.id).1 (zI B c.id).2.1).R.length=1:=rfl
  have e2:(jT B U c.id (zI B c.id).1 (zI B c.id).2.1).B=(yU B c.id (zI B c.id).2.1.qty).1:=rfl
  rw[e1,e2]
  omega
 split
 ·simp[jT]
 ·simp[hJ]
open Go Cv Go.Proofs
theorem z6m (i:RpI) (h:reportsOC.cnd i):zPu i:=by
 obtain⟨hs,hlen⟩:i.p.small∧i.l.length≤1099511627776:=h
 have hs':=hs
 obtain⟨h1,h2,h3⟩:=hs'
 unfold zPu xV uJ pU zS dI
 simp only[yX,ySm]
 refine⟨i.p,?_⟩
 (repeat'(first|exact rfl|exact trivial|assumption|apply And.intro|refine fun(_:Unit) (_:True)=>?_|refine Exists.intro () ?_|omega|(dsimp only;omega)))
 ·intro _ c
  have c:i.p.check=0:=c
  generalize hL:qV i.p=L
  have hf:L.fit:=hL▸zGh hs
  have e0:xE i.p i.l=if(L.addAll i.l).2≠0 then(L.addAll i.l).2 else if(List.range i.p.months.length).any (fun n=>decide ((L.addAll i.l).1.at (L.addAll i.l).1.net n≠0))then 21 else 0:=by
   rw[xE,ySj (by simp[c]),hL]
  refine⟨0,rfl,by rw[yXw];rfl,fun j=>j≤i.l.length∧(L.addAll (i.l.take j)).2=0,fun j=>i.l.length-j,⟨by omega,rfl⟩,?_⟩
  rintro j ⟨g1,g2⟩
  refine zL (fun hlt=> ?_) (fun hlt=> ?_)
  ·obtain⟨r,hr⟩:=z9 (l:=i.l) (i:=j) (by omega)
   refine⟨⟨by omega,by omega⟩,r.kind,r.id,r.inst,r.side,r.price,r.qty,r.left,r.why,yJy hr,⟨(L.addAll (i.l.take j)).1,r⟩,rfl,rfl,rfl,rfl,rfl,rfl,rfl,rfl,rfl,dE hf,fun _ _=> ?_⟩
   dsimp only
   refine Cv.cnd.mk (fun e=>⟨(),?_,trivial,trivial⟩) (fun e=>⟨j+1,?_,?_,⟨by omega,?_⟩,by omega,by(repeat'(first|exact trivial|exact rfl|apply And.intro))⟩)
   ·have e:((L.addAll (i.l.take j)).1.add r).2≠0:=by simpa using e
    rw[e0,zGv hr g2 e,ySk e]
   ·rw[w64 (by omega)];rfl
   ·rw[gO hr g2]
   ·rw[gO hr g2];simpa using e
  ·have ej:i.l.take j=i.l:=yTe (by omega)
   rw[ej]at g2 ⊢
   have hfit:=dE hf (xs:=i.l)
   generalize L.addAll i.l=X at*
   have e1:xE i.p i.l=if(List.range i.p.months.length).any (fun n=>decide (X.1.at X.1.net n≠0))then 21 else 0:=by
    rw[e0,ySj (by simp[g2])]
   refine⟨0,rfl,fun k=>k≤i.p.months.length∧∀m<k,X.1.at X.1.net m=0,fun k=>i.p.months.length-k,⟨by omega,fun m hm=>by omega⟩,?_⟩
   rintro k ⟨g3,g4⟩
   refine zL (fun hlt=>⟨⟨X.1,k⟩,rfl,rfl,hfit.1,fun _ _=> ?_⟩) (fun hlt=>⟨(),?_,trivial,trivial⟩)
   ·dsimp only
    refine Cv.cnd.mk (fun e=>⟨(),?_,trivial,trivial⟩) (fun e=>⟨k+1,?_,⟨by omega,fun m hm=> ?_⟩,by omega,rfl,by(repeat'(first|exact trivial|exact rfl|apply And.intro))⟩)
    ·rw[e1,ySk (zCw (k:=k) (by omega) (by simpa using e))]
    ·rw[w64 (by omega)];rfl
    ·rcases yUu m k with h|h
     ·exact g4 m h
     ·obtain rfl:m=k:=by omega
      simpa using e
   ·rw[e1,ySj (by
     rw[Bool.not_eq_true]
     exact mH fun m hm=>by simpa using g4 m (by omega))]
 ·intro _ c
  refine Cv.cnd.mk (fun e=>⟨(),?_,trivial,trivial⟩) (fun e=>absurd (by simpa using e) c)
  rw[xE,ySk c]
theorem reportsO_ok:reportsOC.ok Tryz.prog 31:=okw mixed (gokc newL_ok (gokc ladd_ok (gokc z2u gok0))) 0 (fun _=>[]) (fun i=>zXr i) [] Tryz.func31 z6m
theorem yMp {p:Prd} {B:List (List zD)} (h:BWf p B) (id:Int):((zI B id).2.2=true∧(zI B id).2.1.qty=qB B id∧1≤qB B id)∨((zI B id).2.2=false∧qB B id=0):=by
 cases c:(zI B id).2.2 with
 |true=>
  obtain⟨k,L,f1,hL,ho,hid⟩:=zMx c
  have h1:=zEc h hL ho
  have h2:=((h.od k L hL).1 _ ho).q
  rw[hid]at h1
  exact .inl ⟨rfl,h1.symm,by omega⟩
 |false=>
  have hn:g7 B id=none:=by
   rw[zI]at c
   split at c
   ·assumption
   ·cases c
  refine .inr ⟨rfl,zHi fun L hL o ho e=> ?_⟩
  have:=lO hn L hL
  rw[hasId_iff.2 (yTk.2 ⟨o,ho,e⟩)]at this
  cases this
structure AmS (p:Prd) (m:Mkt) (l:Ledger) (all:List Rep) (j:Nat) (B:List (List zD)) (U:List Int) (S:Stm) (N:Int→Int):Prop where
 r:m.Rep p B U
 b:BOk p B
 a:Acc B U
 n:kT B≤250
 f:Fits (fun _=>True) S B
 z:∀n:Nat,n<p.months.length→N n=0
 u:Un p (B.map xF)
 lr:LdR l p S N
 e:(qV p).addAll all=(l,0)
 s:all.length≤2000000000*j
theorem zKo {l:Ledger} {R:List Rep} (h:(l.addAll R).2=0) (k:Nat):(l.addAll (R.take k)).2=0:=by
 have:=aD (R.take k) (R.drop k) l
 rw[yUt]at this
 by_cases c:(l.addAll (R.take k)).2=0
 ·exact c
 ·rw[ySk c]at this
  rw[this]at h;exact h
theorem yRd {l:List Rep} {k:Nat} {r:Rep} (h:l[k]? =some r):zF (l.map yG) k (0+0) 1=some [D.v (.int .i64 r.kind)]:=elA h (by simp[yG]) rfl
theorem yOs {l:List Rep} {k:Nat} {r:Rep} (h:l[k]? =some r):zF (l.map yG) k (0+1) 1=some [D.v (.int .i64 r.id)]:=elA h (by simp[yG]) rfl
theorem vam (i:AbI) (h:amC.cnd i):Vam i:=by
 obtain⟨hraw,hcraw,hlen⟩:i.raw:=h
 have hc:=zUu i.x
 have hs:=zVr i.x
 have hml:(List.map cmdE i.l).length=i.l.length:=ySm _
 unfold Vam uJ jZ fK cT wG cU x7 j0 zS z0b zZr z0d zSy zSv z0s zYc zSp zZz zCq dI
 rw[hml]
 refine⟨x0 i.x,fun y=>y=x0 i.x,⟨i.x,rfl,rfl,rfl,rfl,rfl,rfl,rfl,rfl,rfl,rfl,rfl,hraw,fun _ _=>⟨x0 i.x,rfl,rfl,rfl,rfl,rfl,rfl,rfl,rfl,rfl,rfl,rfl,rfl,by(repeat'(first|exact trivial|exact rfl|apply And.intro))⟩⟩,?_⟩
 rintro _ rfl
 refine⟨x0 i.x,rfl,rfl,rfl,rfl,rfl,rfl,rfl,rfl,rfl,rfl,rfl,hs,fun _ _=>⟨x0 i.x,rfl,rfl,rfl,rfl,rfl,rfl,rfl,rfl,rfl,rfl,rfl,hs,fun _ _=> ?_,fun _ hne=>absurd hc hne⟩,fun _ hne=>absurd hc hne⟩
 have hcb:=zOn hc
 have hcg:=dW hc
 refine⟨(0,mk0 (x0 i.x),qV (x0 i.x),[]),rfl,rfl,rfl,rfl,fun y=>(y.1≤50∧y.1≤i.l.length)∧∃B U S N,AmS (x0 i.x) y.2.1 y.2.2.1 y.2.2.2 y.1 B U S N,fun y=>50-y.1,⟨⟨yUs _,yUs _⟩,_,_,⟨fun _=>0,fun _=>0⟩,fun _=>0,⟨yHm _,BOk.new hc hs,?_,?_,⟨fun x=> ?_,?_,fun _ _ _ _=>trivial⟩,fun _ _=>rfl,yKc _,z4y _,rfl,yTj _⟩⟩,?_⟩
 ·intro L hL o ho
  rw[yVx hL]at ho
  cases ho
 ·rw[kT,yYa];simp
 ·exact(zHi fun L hL o ho=>by rw[yVx hL]at ho;cases ho).symm
 ·intro k L hL o ho
  rw[yVx (ySt hL)]at ho
  cases ho
 rintro⟨j,m,l,all⟩ ⟨⟨hj60,hjl⟩,B,U,S,N,hK⟩
 dsimp only at hj60 hjl hK ⊢
 refine⟨true,fun b=>b=decide (j<i.l.length∧j<50),zL (fun c=>⟨_,rfl,?_,by(repeat'(first|exact trivial|exact rfl|apply And.intro))⟩) (fun c=>⟨_,rfl,?_,by(repeat'(first|exact trivial|exact rfl|apply And.intro))⟩),fun b hb=> ?_⟩
 ·show decide ((j:Int)<50)=decide (j<i.l.length∧j<50)
  rw[Bool.eq_iff_iff,yTo,yTo];omega
 ·exact(ySu (by omega)).symm
 subst hb
 have hM:=hK.r
 have hB:=hK.b
 have hwf:BWf (x0 i.x) B:=by have:=hM.s;exact this.wf hB
 refine zL (fun hb=> ?_) (fun _=>⟨(),trivial,fun _ _=>⟨(),rfl,trivial⟩⟩)
 obtain⟨hb1,hb2⟩:=hb
 obtain⟨c,hcj⟩:=z9 (l:=i.l) (i:=j) hb1
 have hcr:=hcraw c (ySt hcj)
 obtain⟨C,hC⟩:∃C:Cmd,C=qZ ⟨x0 i.x,c,j⟩:=⟨_,rfl⟩
 have hlb:C.label.length≤140737488355328:=by
  have:C.label=[]:=by rw[hC];exact zYx _
  rw[this];decide
 have hqt:1≤C.qty∧C.qty≤12:=by rw[hC];exact yAq _
 have hst:=yQg hwf hK.a (c:=C) (D:=fun _=>True) trivial hK.n hK.f
 have hacc:=(yHr (p:=x0 i.x) hK.a C).acc
 have hXl:=yGe hwf U C
 have hun:=yOi hwf U C hK.u
 obtain⟨X,hX⟩:∃X,X=doF (x0 i.x) B U C:=⟨_,rfl⟩
 rw[← hX]at hst hacc hXl hun
 have hB':BOk (x0 i.x) X.B:=by rw[hX];exact mdo hM hB C
 refine⟨(m,[]),rfl,fun y=>y.1.Rep (x0 i.x) X.B X.U∧y.2=X.R,⟨⟨by omega,by omega⟩,c.kind,c.id,c.inst,c.side,c.price,c.qty,c.least,c.time,sb c.label,yRm hcj,⟨x0 i.x,c,j⟩,rfl,rfl,rfl,rfl,rfl,rfl,rfl,rfl,rfl,rfl,rfl,rfl,rfl,rfl,rfl,rfl,rfl,rfl,rfl,rfl,rfl,⟨hc,hs,hcr,by dsimp only;omega,by dsimp only;omega⟩,fun _ _=>⟨⟨m,x0 i.x,B,U,C,X⟩,by rw[hC],by rw[hC],by rw[hC],by rw[hC],by rw[hC],by rw[hC],by rw[hC],by rw[hC],by rw[hC],rfl,⟨⟨hM,hB⟩,hlb,⟨by dsimp only;omega,by dsimp only;omega⟩,hX⟩,fun o ho=>⟨(o,X.R),rfl,rfl,⟨ho,rfl⟩,by(repeat'(first|exact trivial|exact rfl|apply And.intro))⟩⟩⟩,?_⟩
 rintro⟨o,R⟩ ⟨ho,hR⟩
 dsimp only at ho hR ⊢
 subst hR
 have hwf':BWf (x0 i.x) X.B:=by have:=ho.s;exact this.wf hB'
 have hun:=hun hwf'
 have hbl:=hB'.bl
 have hTl:(X.B.map xF).length=(x0 i.x).count:=by rw[ySm];exact hbl
 have hend:(l.addAll X.R).2=0∧∃S',AmS (x0 i.x) o (l.addAll X.R).1 (all++X.R) (j+1) X.B X.U S' fun n=>N n+wI X.R n:=by
  have hsz:(all++X.R).length≤2000000000*(j+1):=by
   have:=hK.s
   rw[ySr];omega
  have he:∀L',l.addAll X.R=(L',0)→(qV (x0 i.x)).addAll (all++X.R)=(L',0):=fun L' e=>by
   rw[aD,hK.e,ySj fun h=>h rfl];exact e
  rcases hst with⟨w,e⟩|⟨h1,h2,h3,h4⟩
  ·have e1:l.addAll (dX C w)=(l,0):=by rw[dX,zJj];exact z8z rfl
   rw[e]at ho hB' hacc hun he hsz ⊢
   dsimp only at he hsz ⊢
   rw[e1]at he ⊢
   exact⟨rfl,S,ho,hB',hacc,hK.n,hK.f,fun n hn=>by rw[hK.z n hn];rfl,hun,hK.lr.net fun n=>by rw[dX,wI,wI,one,ySj (fun x=>absurd (show(2:Int)=3 from x.1) (by decide))];omega,he _ rfl,hsz⟩
  ·obtain⟨a1,a2⟩:=zWw hc hK.lr h2
   exact⟨a1,_,ho,hB',hacc,h1,h3,fun n hn=>by rw[hK.z n hn,h4 n (yUs _) hn];rfl,hun,a2,he _ (by rw[← a1]),hsz⟩
 obtain⟨hall,S',hE⟩:=hend
 have hRl:(List.map yG X.R).length=X.R.length:=ySm _
 rw[hRl]
 refine⟨(0,l),rfl,rfl,fun y=>y.1≤X.R.length∧y.2=(l.addAll (X.R.take y.1)).1,fun y=>X.R.length-y.1,⟨yUs _,rfl⟩,?_⟩
 rintro⟨k,Y⟩ ⟨hk,hY⟩
 dsimp only at hk hY ⊢
 subst hY
 refine zL (fun e=> ?_) (fun e=> ?_)
 ·obtain⟨r,hr⟩:=z9 (l:=X.R) (i:=k) (by omega)
  have hpre:=zKo hall k
  have hsu:=gO hr hpre
  have hadd:((l.addAll (X.R.take k)).1.add r).2=0:=by rw[← hsu];exact zKo hall (k+1)
  have hfit:(l.addAll (X.R.take k)).1.fit:=dE (l:=l) ⟨⟨by rw[hK.lr.tl];omega,by rw[hK.lr.nl,hK.lr.tl]⟩,by rw[hK.lr.ep];exact hs⟩
  have hkr:(0:Int)≤k∧(k:Int)<X.R.length:=by omega
  refine⟨hkr,r.kind,r.id,r.inst,r.side,r.price,r.qty,r.left,r.why,yJy hr,⟨(l.addAll (X.R.take k)).1,r⟩,rfl,rfl,rfl,rfl,rfl,rfl,rfl,rfl,rfl,hfit,fun _ _=> ?_⟩
  dsimp only
  rw[hadd,w64 (x:=(X.R.length:Int)-1) (by omega)]
  refine Cv.cnd.mk (fun e=>absurd e (by decide)) (fun _=>⟨hkr,_,yOs hr,⟨o,x0 i.x,X.B,X.U,r.id⟩,rfl,rfl,⟨ho,hB'⟩,fun _ _=>⟨hkr,_,yOs hr,⟨((l.addAll (X.R.take k)).1.add r).1,r.id⟩,rfl,rfl,trivial,fun _ _=>⟨true,fun b=>b=false,Cv.cnd.mk (fun e2=>⟨hkr,_,yRd hr,Cv.cnd.mk (fun e3=> ?_) (fun _=>⟨_,rfl,rfl,by(repeat'(first|exact trivial|exact rfl|apply And.intro))⟩)⟩) (fun _=>⟨_,rfl,rfl,by(repeat'(first|exact trivial|exact rfl|apply And.intro))⟩),?_⟩⟩⟩)
  ·have e2:(k:Int)=X.R.length-1:=by simpa using e2
   have ht:X.R.take (k+1)=X.R:=yTe (by omega)
   have hlf:=hE.lr.lf r.id
   rw[hE.f.lf,← ht,hsu]at hlf
   dsimp only
   rw[hlf]
   rcases yMp hwf' r.id with⟨f1,f2,f3⟩|⟨f1,f2⟩
   ·rw[f1,ySj (by omega)]
    refine Cv.cnd.mk (fun e=>by simp at e) (fun _=>Cv.cnd.mk (fun _=>⟨_,rfl,by rw[f2];simp,by(repeat'(first|exact trivial|exact rfl|apply And.intro))⟩) (fun _=>⟨_,rfl,rfl,by(repeat'(first|exact trivial|exact rfl|apply And.intro))⟩))
   ·rw[f1,ySk f2]
    refine Cv.cnd.mk (fun e=>by simp at e) (fun _=>Cv.cnd.mk (fun e=>absurd e (by decide)) (fun _=>⟨_,rfl,rfl,by(repeat'(first|exact trivial|exact rfl|apply And.intro))⟩))
  ·rintro _ rfl
   exact Cv.cnd.mk (fun e=>absurd e (by decide)) (fun _=>⟨(k+1,((l.addAll (X.R.take k)).1.add r).1),by rw[w64 (by omega)];rfl,rfl,⟨by dsimp only;omega,by dsimp only;rw[hsu]⟩,by dsimp only;omega,by(repeat'(first|exact trivial|exact rfl|apply And.intro))⟩)
 ·have hkl:k=X.R.length:=by omega
  subst hkl
  rw[yWw]
  have hal:=hK.s
  have hall2:(List.map yG all).length=all.length:=ySm _
  have hsz:=hE.s
  have hbooks:x6 (x0 i.x) (X.B.map xF)=0:=yAt hc hun hwf'.small hTl
  have hrep:xE (x0 i.x) (all++X.R)=0:=by
   have h1:=hE.e
   rw[xE,ySj (by rw[hc];decide),h1,ySj fun h=>h rfl,ySj]
   rw[Bool.not_eq_true]
   refine mH fun n hn=>ySu fun x=>x ?_
   dsimp only
   rw[Ledger.at,ySk (hE.lr.isB (by omega)),ySy,hE.lr.nt n (by omega),hE.z n hn];decide
  rw[hall2]
  refine⟨by omega,true,fun b=>b=false,⟨o,rfl,ho.s.small hB',fun _ _=>⟨by(repeat'(first|exact trivial|exact rfl|apply And.intro)),⟨x0 i.x,o.s⟩,rfl,rfl,rfl,rfl,rfl,rfl,rfl,rfl,rfl,rfl,rfl,rfl,⟨hs,ho.s.cnt (by rw[hbl];omega),by dsimp only;rw[ho.s.tops];exact hB'.tops⟩,fun _ _=> ?_⟩⟩,?_⟩
  ·dsimp only
   rw[ho.s.tops,hbooks]
   refine Cv.cnd.mk (fun e=>absurd e (by decide)) (fun _=>⟨⟨x0 i.x,all++X.R⟩,rfl,rfl,rfl,rfl,rfl,rfl,rfl,rfl,rfl,rfl,rfl,ySv,⟨hs,by dsimp only;omega⟩,fun _ _=>⟨_,rfl,?_,?_⟩⟩)
   ·dsimp only;rw[hrep];rfl
   ·dsimp only
    rw[ySv]
    (repeat'(first|exact trivial|exact rfl|apply And.intro))
  ·rintro _ rfl
   exact Cv.cnd.mk (fun e=>absurd e (by decide)) (fun _=>⟨(j+1,o,(l.addAll X.R).1,all++X.R),by rw[w64 (by omega)];rfl,rfl,rfl,ySv,⟨⟨by dsimp only;omega,by dsimp only;omega⟩,_,_,_,_,hE⟩,by dsimp only;omega,by(repeat'(first|exact trivial|exact rfl|apply And.intro))⟩)
end Sx
