/- Texts of ours, one behind the other: a walk that the kernel reckons, and contracts of functions. No condition. -/
import Derived.Test.YtpgpnnncaidcjaaGreatU10
namespace Sx
set_option linter.unusedVariables false
set_option linter.unusedSimpArgs false
set_option maxRecDepth 100000
open Go Cv Go.Proofs
structure Un (p:Prd) (T:List Top):Prop where
 d:∀n,n<p.count→(T.getD n top0).has1=true→(T.getD n top0).has2=true→(T.getD n top0).p1<(T.getD n top0).p2
 x:∀{a b k},Tri p a b k→(T.getD a top0).has1=true→(T.getD b top0).has2=true→(T.getD k top0).has2=true→(T.getD a top0).p1-(T.getD b top0).p2<(T.getD k top0).p2
 y:∀{a b k},Tri p a b k→(T.getD a top0).has2=true→(T.getD b top0).has1=true→(T.getD k top0).has1=true→(T.getD k top0).p1<(T.getD a top0).p2-(T.getD b top0).p1
def Wrs (T T':List Top):Prop:=∀n,((T'.getD n top0).has1=true→(T.getD n top0).has1=true∧(T'.getD n top0).p1≤(T.getD n top0).p1)∧((T'.getD n top0).has2=true→(T.getD n top0).has2=true∧(T.getD n top0).p2≤(T'.getD n top0).p2)
theorem Un.wrs {p:Prd} {T T':List Top} (h:Un p T) (w:Wrs T T'):Un p T':=by
 refine⟨fun n hn h1 h2=> ?_,fun{a b k} t h1 h2 h3=> ?_,fun{a b k} t h1 h2 h3=> ?_⟩
 ·obtain⟨u1,u2⟩:=(w n).1 h1
  obtain⟨v1,v2⟩:=(w n).2 h2
  have:=h.d n hn u1 v1
  omega
 ·obtain⟨u1,u2⟩:=(w a).1 h1
  obtain⟨v1,v2⟩:=(w b).2 h2
  obtain⟨w1,w2⟩:=(w k).2 h3
  have:=h.x t u1 v1 w1
  omega
 ·obtain⟨u1,u2⟩:=(w a).2 h1
  obtain⟨v1,v2⟩:=(w b).1 h2
  obtain⟨w1,w2⟩:=(w k).1 h3
  have:=h.y t u1 v1 w1
  omega
theorem Un.ps {p:Prd} (hc:p.check=0) {T:List Top} (h:Un p T) (hs:mG T) (hT:T.length=p.count) {n:Nat} (hn:n<p.count) {v:Int}:
 (PS p T n 1 v→(T.getD n top0).has2=true→v<(T.getD n top0).p2)∧(PS p T n 2 v→(T.getD n top0).has1=true→(T.getD n top0).p1<v):=by
 by_cases hm:p.months.length≤n
 ·obtain⟨a,b,t⟩:=yLu hc hn hm
  refine⟨fun hv h2=> ?_,fun hv h1=> ?_⟩
  ·obtain⟨q1,q2,rfl⟩:=(zZg hc hs hT t).1 hv
   exact h.x t q1 q2 h2
  ·obtain⟨q1,q2,rfl⟩:=(zZg hc hs hT t).1 hv
   exact h.y t q1 q2 h1
 ·refine⟨fun hv h2=> ?_,fun hv h1=> ?_⟩
  ·rcases(lZ hc hs hT (by omega)).1 hv with⟨b,k,t,q1,q2,rfl⟩|⟨a,k,t,q1,q2,rfl⟩
   ·have:=h.y t h2 q2 q1
    simp only[fZ]
    omega
   ·have:=h.x t q2 h2 q1
    simp only[fZ,show(3:Int)-1=2 by decide,cS]
    omega
  ·rcases(lZ hc hs hT (by omega)).1 hv with⟨b,k,t,q1,q2,rfl⟩|⟨a,k,t,q1,q2,rfl⟩
   ·have:=h.x t h1 q2 q1
    simp only[cS]
    omega
   ·have:=h.y t q2 h1 q1
    simp only[cS,show(3:Int)-2=1 by decide,fZ]
    omega
theorem Tri.ne {p:Prd} {a b k:Nat} (t:Tri p a b k):a≠b∧a≠k∧b≠k∧a<p.months.length∧b<p.months.length:=by
 have:=t.hab
 have:=t.hb
 have:=t.hm
 omega
theorem Un.add1 {p:Prd} (hc:p.check=0) {T T':List Top} (h:Un p T) (hs:mG T) (hT:T.length=p.count) {n:Nat} (ho:∀m,m≠n→T'.getD m top0=T.getD m top0)
 (h2:(T'.getD n top0).has2=true→(T.getD n top0).has2=true∧(T.getD n top0).p2≤(T'.getD n top0).p2)
 (h1:(T'.getD n top0).has1=true→((T.getD n top0).has2=true→(T'.getD n top0).p1<(T.getD n top0).p2)∧∀v,PS p T n 2 v→(T'.getD n top0).p1<v):Un p T':=by
 refine⟨fun m hm g1 g2=> ?_,fun{a b k} t g1 g2 g3=> ?_,fun{a b k} t g1 g2 g3=> ?_⟩
 ·by_cases e:m=n
  ·subst e
   have:=(h1 g1).1 (h2 g2).1
   have:=(h2 g2).2
   omega
  ·rw[ho m e]at g1 g2 ⊢;exact h.d m hm g1 g2
 ·obtain⟨n1,n2,n3,n4,n5⟩:=t.ne
  by_cases e:a=n
  ·subst e
   rw[ho b (Ne.symm n1)]at g2 ⊢
   rw[ho k (Ne.symm n2)]at g3 ⊢
   have:=(h1 g1).2 _ ((lZ hc hs hT n4).2 (.inl ⟨b,k,t,g3,g2,rfl⟩))
   simp only[cS]at this
   omega
  ·rw[ho a e]at g1 ⊢
   have gb:(T.getD b top0).has2=true∧(T.getD b top0).p2≤(T'.getD b top0).p2:=by
    by_cases eb:b=n
    ·subst eb;exact h2 g2
    ·rw[ho b eb]at g2 ⊢;exact⟨g2,Int.le_refl _⟩
   have gk:(T.getD k top0).has2=true∧(T.getD k top0).p2≤(T'.getD k top0).p2:=by
    by_cases eb:k=n
    ·subst eb;exact h2 g3
    ·rw[ho k eb]at g3 ⊢;exact⟨g3,Int.le_refl _⟩
   have:=h.x t g1 gb.1 gk.1
   omega
 ·obtain⟨n1,n2,n3,n4,n5⟩:=t.ne
  by_cases eb:b=n
  ·subst eb
   rw[ho a n1]at g1 ⊢
   rw[ho k (Ne.symm n3)]at g3 ⊢
   have:=(h1 g2).2 _ ((lZ hc hs hT n5).2 (.inr ⟨a,k,t,g3,g1,rfl⟩))
   simp only[cS,show(3:Int)-2=1 by decide,fZ]at this
   omega
  by_cases ek:k=n
  ·subst ek
   rw[ho a n2]at g1 ⊢
   rw[ho b n3]at g2 ⊢
   have:=(h1 g3).2 _ ((zZg hc hs hT t).2 ⟨g1,g2,rfl⟩)
   simp only[cS,show(3:Int)-2=1 by decide,fZ]at this
   omega
  rw[ho b eb]at g2 ⊢
  rw[ho k ek]at g3 ⊢
  have ga:(T.getD a top0).has2=true∧(T.getD a top0).p2≤(T'.getD a top0).p2:=by
   by_cases ea:a=n
   ·subst ea;exact h2 g1
   ·rw[ho a ea]at g1 ⊢;exact⟨g1,Int.le_refl _⟩
  have:=h.y t ga.1 g2 g3
  omega
theorem Un.add2 {p:Prd} (hc:p.check=0) {T T':List Top} (h:Un p T) (hs:mG T) (hT:T.length=p.count) {n:Nat} (ho:∀m,m≠n→T'.getD m top0=T.getD m top0)
 (h1:(T'.getD n top0).has1=true→(T.getD n top0).has1=true∧(T'.getD n top0).p1≤(T.getD n top0).p1)
 (h2:(T'.getD n top0).has2=true→((T.getD n top0).has1=true→(T.getD n top0).p1<(T'.getD n top0).p2)∧∀v,PS p T n 1 v→v<(T'.getD n top0).p2):Un p T':=by
 refine⟨fun m hm g1 g2=> ?_,fun{a b k} t g1 g2 g3=> ?_,fun{a b k} t g1 g2 g3=> ?_⟩
 ·by_cases e:m=n
  ·subst e
   have:=(h2 g2).1 (h1 g1).1
   have:=(h1 g1).2
   omega
  ·rw[ho m e]at g1 g2 ⊢;exact h.d m hm g1 g2
 ·obtain⟨n1,n2,n3,n4,n5⟩:=t.ne
  by_cases eb:b=n
  ·subst eb
   rw[ho a n1]at g1 ⊢
   rw[ho k (Ne.symm n3)]at g3 ⊢
   have:=(h2 g2).2 _ ((lZ hc hs hT n5).2 (.inr ⟨a,k,t,g3,g1,rfl⟩))
   simp only[fZ,show(3:Int)-1=2 by decide,cS]at this
   omega
  by_cases ek:k=n
  ·subst ek
   rw[ho a n2]at g1 ⊢
   rw[ho b n3]at g2 ⊢
   have:=(h2 g3).2 _ ((zZg hc hs hT t).2 ⟨g1,g2,rfl⟩)
   simp only[fZ,show(3:Int)-1=2 by decide,cS]at this
   omega
  rw[ho b eb]at g2 ⊢
  rw[ho k ek]at g3 ⊢
  have ga:(T.getD a top0).has1=true∧(T'.getD a top0).p1≤(T.getD a top0).p1:=by
   by_cases ea:a=n
   ·subst ea;exact h1 g1
   ·rw[ho a ea]at g1 ⊢;exact⟨g1,Int.le_refl _⟩
  have:=h.x t ga.1 g2 g3
  omega
 ·obtain⟨n1,n2,n3,n4,n5⟩:=t.ne
  by_cases e:a=n
  ·subst e
   rw[ho b (Ne.symm n1)]at g2 ⊢
   rw[ho k (Ne.symm n2)]at g3 ⊢
   have:=(h2 g1).2 _ ((lZ hc hs hT n4).2 (.inl ⟨b,k,t,g3,g2,rfl⟩))
   simp only[fZ]at this
   omega
  ·rw[ho a e]at g1 ⊢
   have gb:(T.getD b top0).has1=true∧(T'.getD b top0).p1≤(T.getD b top0).p1:=by
    by_cases eb:b=n
    ·subst eb;exact h1 g2
    ·rw[ho b eb]at g2 ⊢;exact⟨g2,Int.le_refl _⟩
   have gk:(T.getD k top0).has1=true∧(T'.getD k top0).p1≤(T.getD k top0).p1:=by
    by_cases eb:k=n
    ·subst eb;exact h1 g3
    ·rw[ho k eb]at g3 ⊢;exact⟨g3,Int.le_refl _⟩
   have:=h.y t g1 gb.1 gk.1
   omega
theorem eQ {L:List zD} {s:Int} (hs:eD s (kM L s)) (h:(bestL L s).2=true):(∃o∈L,o.side=s∧o.price=(bestL L s).1.price)∧∀o∈L,o.side=s→btr s o.price (bestL L s).1.price=false:=by
 have e:jR L s=grp (kM L s):=rfl
 cases hg:grp (kM L s)with
 |nil=>rw[bestL,e,hg]at h;cases h
 |cons v vs=>
  obtain⟨o,r,ho,hp⟩:=pA hg
  have hb:(bestL L s).1=v:=by rw[bestL,e,hg]
  rw[hb,← hp]
  have hm:∀x,x∈kM L s↔x∈L∧x.side=s:=fun x=>by rw[kM,List.mem_filter,decide_eq_true_eq]
  refine⟨⟨o,((hm o).1 (by rw[ho];exact List.mem_cons_self)).1,((hm o).1 (by rw[ho];exact List.mem_cons_self)).2,rfl⟩,fun x hx hxs=> ?_⟩
  have hx':=(hm x).2 ⟨hx,hxs⟩
  rw[ho]at hs hx'
  rcases List.mem_cons.1 hx' with rfl|hx'
  ·rw[btr];split<;>exact decide_eq_false (by omega)
  ·exact(List.pairwise_cons.1 hs).1 x hx'
theorem zQz {L:List zD} {s:Int} {o:zD} (ho:o∈L) (hos:o.side=s):(bestL L s).2=true:=by
 have hm:o∈kM L s:=List.mem_filter.2 ⟨ho,by simpa using hos⟩
 obtain⟨v,vs,h⟩:=z3v (A:=kM L s) (by intro e;rw[e]at hm;cases hm)
 have e:jR L s=grp (kM L s):=rfl
 rw[bestL,e,h]
theorem btr1 {x y:Int}:btr 1 x y=false↔x≤y:=by simp[btr]
theorem btr2 {x y:Int}:btr 2 x y=false↔y≤x:=by simp[btr]
def SubB (B B':List (List zD)):Prop:=∀(k:Nat) (L':List zD),B'[k]?=some L'→∃L,B[k]?=some L∧∀o∈L',∃o'∈L,o.price=o'.price∧o.side=o'.side
theorem SubB.refl (B:List (List zD)):SubB B B:=fun k L h=>⟨L,h,fun o ho=>⟨o,ho,rfl,rfl⟩⟩
theorem SubB.trans {A B C:List (List zD)} (h:SubB A B) (h2:SubB B C):SubB A C:=fun k L hL=>by
 obtain⟨M,hM,m⟩:=h2 k L hL
 obtain⟨N,hN,n⟩:=h k M hM
 refine⟨N,hN,fun o ho=> ?_⟩
 obtain⟨o',ho',e1,e2⟩:=m o ho
 obtain⟨o2,ho2,e3,e4⟩:=n o' ho'
 exact⟨o2,ho2,e1.trans e3,e2.trans e4⟩
theorem SubB.take (B:List (List zD)) (id q:Int):SubB B (yT B id q).1:=by
 rw[yT]
 split
 ·exact .refl B
 ·rename_i k hk
  obtain⟨M,hM,_⟩:=xW hk
  intro j L hL
  dsimp only at hL
  rcases uC hL with⟨rfl,rfl⟩|⟨_,hL⟩
  ·rw[zI hM]
   refine⟨M,hM,fun o ho=> ?_⟩
   obtain⟨o',ho',e1,e2,_⟩:=eF ho
   exact⟨o',ho',e1,e2⟩
  ·exact⟨L,hL,fun o ho=>⟨o,ho,rfl,rfl⟩⟩
theorem SubB.takes:∀(fs:List wO) (B:List (List zD)),SubB B (xF B fs)
 |[],B=> .refl B
 |f::fs,B=>(SubB.take B f.id f.qty).trans (SubB.takes fs _)
theorem SubB.run {p:Prd} {inst:Int} {sd:Bool} {price:Int}:∀(m:Nat) (q:Int) (B:List (List zD)),q.toNat≤m→SubB B (qE p B inst sd price q).B
 |m,q,B,hm=>by
  by_cases hq:q≤0
  ·rw[jB (.inl hq)];exact .refl B
  cases hs:jK p B inst sd price q with
  |none=>rw[jB (.inr hs)];exact .refl B
  |some x=>
   obtain⟨t,C⟩:=x
   have hq2:=pF (by omega) hs
   cases m with
   |zero=>omega
   |succ m=>
   rw[fL (by omega) hs]
   have:=zHm hs
   subst this
   exact(SubB.takes t.fills B).trans (SubB.run m (q-t.qty) _ (by omega))
theorem BWf.srtD {p:Prd} {B:List (List zD)} (h:BWf p B) (n:Nat) {s:Int} (hs:s=1∨s=2):eD s (kM (B.getD n []) s):=by
 rw[List.getD_eq_getElem?_getD]
 cases e:B[n]? with
 |none=>exact List.Pairwise.nil
 |some L=>exact h.srt n L e s hs
theorem SubB.wrs {p:Prd} {B B':List (List zD)} (h:BWf p B) (h':BWf p B') (s:SubB B B'):Wrs (B.map yV) (B'.map yV):=by
 have key:∀(n:Nat) (z:Int),z=1∨z=2→(bestL (B'.getD n []) z).2=true→(bestL (B.getD n []) z).2=true∧btr z (bestL (B'.getD n []) z).1.price (bestL (B.getD n []) z).1.price=false:=by
  intro n z hz hh
  obtain⟨⟨o,ho,hos,hop⟩,_⟩:=eQ (h'.srtD n hz) hh
  cases e:B'[n]? with
  |none=>
   rw[List.getD_eq_getElem?_getD,e]at ho
   cases ho
  |some L'=>
   obtain⟨L,hL,hm⟩:=s n L' e
   rw[zI e]at ho hop ⊢
   rw[zI hL]
   obtain⟨o',ho',e1,e2⟩:=hm o ho
   have hb:=zQz ho' (e2.symm.trans hos)
   refine⟨hb,?_⟩
   rw[← hop,e1]
   exact(eQ (h.srt n L hL z hz) hb).2 o' ho' (e2.symm.trans hos)
 intro n
 obtain⟨a1,_,a3⟩:=jZ B n 1 (.inl rfl)
 obtain⟨b1,_,b3⟩:=jZ B n 2 (.inr rfl)
 obtain⟨c1,_,c3⟩:=jZ B' n 1 (.inl rfl)
 obtain⟨d1,_,d3⟩:=jZ B' n 2 (.inr rfl)
 rw[yNj,fZ]at*
 refine⟨fun g=> ?_,fun g=> ?_⟩
 ·have g':(bestL (B'.getD n []) 1).2=true:=c1▸g
  obtain⟨k1,k2⟩:=key n 1 (.inl rfl) g'
  refine⟨a1.trans k1,?_⟩
  have:((B.map yV).getD n top0).p1=_:=a3
  have:((B'.map yV).getD n top0).p1=_:=c3
  have:=btr1.1 k2
  omega
 ·have g':(bestL (B'.getD n []) 2).2=true:=d1▸g
  obtain⟨k1,k2⟩:=key n 2 (.inr rfl) g'
  refine⟨b1.trans k1,?_⟩
  have:((B.map yV).getD n top0).p2=_:=b3
  have:((B'.map yV).getD n top0).p2=_:=d3
  have:=btr2.1 k2
  omega
theorem BWf.small {p:Prd} {B:List (List zD)} (h:BWf p B):mG (B.map yV):=by
 have key:∀(n:Nat) (z:Int),z=1∨z=2→-2000000≤((B.map yV).getD n top0).price z∧((B.map yV).getD n top0).price z≤2000000:=by
  intro n z hz
  rw[(jZ B n z hz).2.2]
  cases c:(bestL (B.getD n []) z).2 with
  |false=>
   have:(bestL (B.getD n []) z).1.price=0:=by
    rw[bestL]at c ⊢
    split at c
    ·rfl
    ·cases c
   omega
  |true=>
   obtain⟨⟨o,ho,_,hop⟩,_⟩:=eQ (h.srtD n hz) c
   rw[← hop]
   cases e:B[n]? with
   |none=>rw[List.getD_eq_getElem?_getD,e]at ho;cases ho
   |some L=>
    rw[zI e]at ho
    exact h.ok.prices e o ho
 intro n z
 by_cases hz:z=1
 ·exact key n z (.inl hz)
 ·have:((B.map yV).getD n top0).price z=((B.map yV).getD n top0).price 2:=by rw[Top.price,if_neg hz];rfl
  rw[this]
  exact key n 2 (.inr rfl)
theorem zYv {p:Prd} {inst:Int} {sd:Bool} {price:Int}:∀(m:Nat) (q:Int) (B:List (List zD)),q.toNat≤m→BWf p B→0≤inst∧inst<B.length→0≤q→1≤(qE p B inst sd price q).left→goB p (qE p B inst sd price q).B inst sd price=false
 |m,q,B,hm,h,hi,hq0,hl=>by
  by_cases hq:q≤0
  ·rw[jB (.inl hq)]at hl
   dsimp only at hl;omega
  cases hs:jK p B inst sd price q with
  |none=>
   rw[jB (.inr hs)]
   dsimp only
   cases hg:goB p B inst sd price with
   |false=>rfl
   |true=>
    obtain⟨t,C,a1,_⟩:=z4r h hi hg (q:=q) (by omega)
    rw[a1]at hs;cases hs
  |some x=>
   obtain⟨t,C⟩:=x
   have htq:=pF (by omega) hs
   obtain⟨hW,hln⟩:=zAh h hs
   cases m with
   |zero=>omega
   |succ m=>
   rw[fL (by omega) hs]at hl ⊢
   exact zYv m (q-t.qty) C (by omega) hW (by rw[hln];exact hi) (by omega) hl
theorem z1w {p:Prd} {B:List (List zD)} (h:BWf p B) {inst:Int} (hi:0≤inst∧inst<B.length) {sd:Bool} {price:Int} (hg:goB p B inst sd price=false) (hb:(bestL (B.getD inst.toNat []) (zA (!sd))).2=true):jH sd price (bestL (B.getD inst.toNat []) (zA (!sd))).1.price=false:=by
 rw[yJc h hi,zV]at hg
 split at hg
 ·simpa using hg
 ·rename_i c
  rw[hb]at c
  simp only[Bool.true_and,Bool.not_eq_true',Bool.and_eq_false_iff,not_or,Bool.not_eq_false]at c
  rw[c.1]at hg
  have hg:jH sd price (yW (j6 ⟨p,B.map yV,inst⟩ (zA (!sd))) (zA (!sd))).1.price=false:=by simpa using hg
  have c2:=c.2
  cases sd with
  |false=>
   have c2:btr 2 _ _=true:=c2
   simp[btr]at c2
   simp[jH]at hg ⊢
   omega
  |true=>
   have c2:btr 1 _ _=true:=c2
   simp[btr]at c2
   simp[jH]at hg ⊢
   omega
theorem z5l {L:List zD} {s id pr q:Int} {o:zD} (h:o∈zGh L s id pr q):(o.side=s∧o.price=pr)∨∃o'∈L,o.price=o'.price∧o.side=o'.side:=by
 have hX:∀X:List zD,(∀y∈X,∃o'∈L,y.price=o'.price∧y.side=o'.side)→∀b,o∈X.takeWhile (before s pr)++⟨id,s,pr,q,b⟩::X.dropWhile (before s pr)→(o.side=s∧o.price=pr)∨∃o'∈L,o.price=o'.price∧o.side=o'.side:=by
  intro X hx b hm
  rcases List.mem_append.1 hm with hm|hm
  ·exact .inr (hx o ((List.takeWhile_sublist _).mem hm))
  ·rcases List.mem_cons.1 hm with rfl|hm
   ·exact .inl ⟨rfl,rfl⟩
   ·exact .inr (hx o ((List.dropWhile_sublist _).mem hm))
 rw[zGh]at h
 refine hX _ ?_ _ h
 split
 ·intro y hy
  obtain⟨z,hz,rfl⟩:=List.mem_map.1 hy
  exact⟨z,hz,by split<;>exact⟨rfl,rfl⟩⟩
 ·exact fun y hy=>⟨y,hy,rfl,rfl⟩
theorem Un.add {p:Prd} {B:List (List zD)} (h:BWf p B) {inst id:Int} {sd:Bool} {price q:Int} (hi:0≤inst∧inst<B.length) (hB':BWf p (zCd p B inst id (zA sd) price q).1) (hU:Un p (B.map yV))
 (hd:(bestL (B.getD inst.toNat []) (zA (!sd))).2=true→jH sd price (bestL (B.getD inst.toNat []) (zA (!sd))).1.price=false) (hq:∀x∈xG ⟨p,B.map yV,inst⟩ (zA (!sd)),jH sd price x.price=false):Un p ((zCd p B inst id (zA sd) price q).1.map yV):=by
 obtain⟨k,rfl⟩:∃k:Nat,inst=k:=⟨inst.toNat,by omega⟩
 obtain⟨L,hL⟩:=yA (l:=B) (i:=k) (by omega)
 have hk:=(List.getElem?_eq_some_iff.1 hL).1
 have hbl:=h.ok.bl
 have hc:=h.ok.pc
 have hT:(B.map yV).length=p.count:=by rw[List.length_map];exact hbl
 obtain⟨M,hM,hMm⟩:∃M,(zCd p B k id (zA sd) price q).1=B.set k M∧∀o∈M,(o.side=zA sd∧o.price=price)∨∃o'∈L,o.price=o'.price∧o.side=o'.side:=by
  have self:∃M,B=B.set k M∧∀o∈M,(o.side=zA sd∧o.price=price)∨∃o'∈L,o.price=o'.price∧o.side=o'.side:=⟨L,(kH hL).symm,fun o ho=> .inr ⟨o,ho,rfl,rfl⟩⟩
  rw[zCd]
  split
  ·exact self
  split
  ·exact self
  split
  ·exact self
  split
  ·exact self
  refine⟨_,by rw[Int.toNat_natCast],fun o ho=> ?_⟩
  rw[zI hL,eL]at ho
  split at ho
  ·exact .inr ⟨o,ho,rfl,rfl⟩
  split at ho
  ·exact .inr ⟨o,ho,rfl,rfl⟩
  split at ho
  ·exact .inr ⟨o,ho,rfl,rfl⟩
  exact z5l ho
 rw[hM]at hB' ⊢
 have gk:(B.set k M).getD k []=M:=zI (vD hk)
 have gL:B.getD k []=L:=zI hL
 rw[Int.toNat_natCast,gL]at hd
 have ho:∀m,m≠k→((B.set k M).map yV).getD m top0=(B.map yV).getD m top0:=fun m hm=>by
  rw[List.getD_eq_getElem?_getD,List.getD_eq_getElem?_getD,List.getElem?_map,List.getElem?_map,List.getElem?_set_ne (Ne.symm hm)]
 obtain⟨a1,_,a3⟩:=jZ B k 1 (.inl rfl)
 obtain⟨b1,_,b3⟩:=jZ B k 2 (.inr rfl)
 obtain⟨c1,_,c3⟩:=jZ (B.set k M) k 1 (.inl rfl)
 obtain⟨d1,_,d3⟩:=jZ (B.set k M) k 2 (.inr rfl)
 rw[gL]at a1 a3 b1 b3
 rw[gk]at c1 c3 d1 d3
 have a1:((B.map yV).getD k top0).has1=_:=a1
 have a3:((B.map yV).getD k top0).p1=_:=a3
 have b1:((B.map yV).getD k top0).has2=_:=b1
 have b3:((B.map yV).getD k top0).p2=_:=b3
 have c1:(((B.set k M).map yV).getD k top0).has1=_:=c1
 have c3:(((B.set k M).map yV).getD k top0).p1=_:=c3
 have d1:(((B.set k M).map yV).getD k top0).has2=_:=d1
 have d3:(((B.set k M).map yV).getD k top0).p2=_:=d3
 have old:∀z,z=1∨z=2→(bestL M z).2=true→((bestL L z).2=true∧btr z (bestL M z).1.price (bestL L z).1.price=false)∨(z=zA sd∧(bestL M z).1.price=price):=by
  intro z hz hh
  obtain⟨⟨o,ho,hos,hop⟩,_⟩:=eQ (hB'.srt k M (vD hk) z hz) hh
  rcases hMm o ho with⟨e1,e2⟩|⟨o',ho',e1,e2⟩
  ·exact .inr ⟨hos.symm.trans e1,hop.symm.trans e2⟩
  ·have hb:=zQz ho' (e2.symm.trans hos)
   refine .inl ⟨hb,?_⟩
   rw[← hop,e1]
   exact(eQ (h.srt k L hL z hz) hb).2 o' ho' (e2.symm.trans hos)
 cases sd with
 |false=>
  have e1:zA (!false)=2:=rfl
  have e2:zA false=1:=rfl
  rw[e1]at hd hq
  rw[e2]at old
  refine hU.add1 hc h.small hT (n:=k) ho (fun g=> ?_) (fun g=> ?_)
  ·rcases old 2 (.inr rfl) (d1▸g)with⟨x,y⟩|⟨x,_⟩
   ·have:=btr2.1 y
    exact⟨b1.trans x,by omega⟩
   ·cases x
  ·rcases old 1 (.inl rfl) (c1▸g)with⟨x,y⟩|⟨_,y⟩
   ·have y:=btr1.1 y
    have hx:((B.map yV).getD k top0).has1=true:=a1.trans x
    refine⟨fun g2=> ?_,fun v hv=> ?_⟩
    ·have:=hU.d k (by omega) hx g2
     omega
    ·have:=(hU.ps hc h.small hT (n:=k) (by omega) (v:=v)).2 hv hx
     omega
   ·refine⟨fun g2=> ?_,fun v hv=> ?_⟩
    ·have:=hd (b1▸g2)
     have:¬(bestL L 2).1.price≤price:=by simpa[jH]using this
     omega
    ·obtain⟨x,hx,rfl⟩:=hv
     have:=hq x hx
     have:¬x.price≤price:=by simpa[jH]using this
     omega
 |true=>
  have e1:zA (!true)=1:=rfl
  have e2:zA true=2:=rfl
  rw[e1]at hd hq
  rw[e2]at old
  refine hU.add2 hc h.small hT (n:=k) ho (fun g=> ?_) (fun g=> ?_)
  ·rcases old 1 (.inl rfl) (c1▸g)with⟨x,y⟩|⟨x,_⟩
   ·have:=btr1.1 y
    exact⟨a1.trans x,by omega⟩
   ·cases x
  ·rcases old 2 (.inr rfl) (d1▸g)with⟨x,y⟩|⟨_,y⟩
   ·have y:=btr2.1 y
    have hx:((B.map yV).getD k top0).has2=true:=b1.trans x
    refine⟨fun g2=> ?_,fun v hv=> ?_⟩
    ·have:=hU.d k (by omega) g2 hx
     omega
    ·have:=(hU.ps hc h.small hT (n:=k) (by omega) (v:=v)).1 hv hx
     omega
   ·refine⟨fun g2=> ?_,fun v hv=> ?_⟩
    ·have:=hd (a1▸g2)
     have:¬price≤(bestL L 1).1.price:=by simpa[jH]using this
     omega
    ·obtain⟨x,hx,rfl⟩:=hv
     have:=hq x hx
     have:¬price≤x.price:=by simpa[jH]using this
     omega
theorem Un.take {p:Prd} {B:List (List zD)} (h:BWf p B) (hU:Un p (B.map yV)) (id q:Int):Un p ((yT B id q).1.map yV):=hU.wrs (SubB.wrs h (h.take id q) (SubB.take B id q))
theorem Un.enter {p:Prd} {B:List (List zD)} (h:BWf p B) (U:List Int) {c:Cmd} (hi:0≤c.inst∧c.inst<B.length) (hs:c.side=1∨c.side=2) (hq:1≤c.qty) (hU:Un p (B.map yV)) (hst:c.time=1→fP p B c.inst (decide (c.side=2)) c.price c.qty=false) (hB':BWf p (u6 p B U c).B):Un p ((u6 p B U c).B.map yV):=by
 obtain⟨hW,hl,hleft⟩:=dR (inst:=c.inst) (sd:=decide (c.side=2)) (price:=c.price) _ c.qty B (Nat.le_refl _) h
 have hleft:=hleft (by omega)
 have hend:=zYv (inst:=c.inst) (sd:=decide (c.side=2)) (price:=c.price) _ c.qty B (Nat.le_refl _) h hi (by omega)
 have hUr:Un p ((qE p B c.inst (decide (c.side=2)) c.price c.qty).B.map yV):=hU.wrs (SubB.wrs h hW (SubB.run _ _ _ (Nat.le_refl _)))
 have hsd:c.side=zA (decide (c.side=2)):=(vG hs).symm
 rw[bW]at hB' ⊢
 dsimp only at hB' ⊢
 by_cases cl:(qE p B c.inst (decide (c.side=2)) c.price c.qty).left≠0∧c.time=1
 ·rw[if_pos cl]at hB' ⊢
  have hst:=hst cl.2
  rw[fP]at hst
  have hall:∀x∈xG ⟨p,(qE p B c.inst (decide (c.side=2)) c.price c.qty).B.map yV,c.inst⟩ (zA (!decide (c.side=2))),jH (decide (c.side=2)) c.price x.price=false:=by
   rw[decide_eq_true cl.1,Bool.true_and,List.any_eq_false]at hst
   exact fun x hx=>by simpa using hst x hx
  have hg:=hend (by omega)
  generalize qE p B c.inst (decide (c.side=2)) c.price c.qty=R at*
  rw[hsd]at hB' ⊢
  have hcong:decide (zA (decide (c.side=2))=2)=decide (c.side=2):=by rw[← hsd]
  exact Un.add hW (by omega) hB' hUr (fun hb=>z1w hW (by omega) hg hb) hall
 ·rw[if_neg cl];exact hUr
theorem yNz {p:Prd} {B:List (List zD)} (h:BWf p B) (U:List Int) (c:Cmd) (hU:Un p (B.map yV)):BWf p (doF p B U c).B→Un p ((doF p B U c).B.map yV):=by
 have hbl:=h.ok.bl
 rw[doF]
 split
 ·exact fun _=>hU
 rename_i hr
 have hr:c.right=0:=by simpa using hr
 split
 ·rename_i hk
  obtain⟨hs,hq,_⟩:=zJj hr hk
  rw[mM]
  split
  ·exact fun _=>hU
  rename_i hp
  have hi:=zTg (p:=p) (i:=c.inst) (n:=c.price) (by simpa using hp)
  split
  ·exact fun _=>hU
  split
  ·exact fun _=>hU
  split
  ·exact fun _=>hU
  split
  ·exact fun _=>hU
  rename_i hst
  exact Un.enter h U (by omega) hs hq.1 hU (fun e=>by simpa[e]using hst)
 rename_i hk
 split
 ·exact fun _=>hU
 rename_i hf
 obtain⟨k,L,f1,hL,ho,hid⟩:=z7o (by simpa using hf)
 generalize z6 B c.id=F at*
 obtain⟨fi,o,fb⟩:=F
 dsimp only at f1 hL ho hid ⊢
 subst f1
 have hklt:=(List.getElem?_eq_some_iff.1 hL).1
 split
 ·have hqc:=zCa hr hk (by omega)
  rw[fC]
  split
  ·exact fun _=>hU
  split
  ·exact fun _=>hU.take h _ _
  split
  ·exact fun _=>hU
  rename_i hst
  have hW:BWf p (yT B c.id o.qty).1:=h.take _ _
  have hbl':=hW.ok.bl
  exact fun hB'=>Un.enter hW U (c:=⟨1,c.id,k,o.side,c.price,c.qty,0,1,[]⟩) (by dsimp only;omega) ((h.od k L hL).1 o ho).s hqc.1 (hU.take h _ _) (fun _=>by simpa using hst) hB'
 split
 ·exact fun _=>hU.take h _ _
 ·exact fun _=>hU.take h _ _
theorem yIy (p:Prd):Un p ((List.replicate p.count []).map yV):=by
 have e:∀n,((List.replicate p.count ([]:List zD)).map yV).getD n top0=top0∨((List.replicate p.count ([]:List zD)).map yV).getD n top0=yV []:=fun n=>by
  rw[List.map_replicate,List.getD_eq_getElem?_getD,List.getElem?_replicate]
  split
  ·exact .inr rfl
  ·exact .inl rfl
 have f:∀n,(((List.replicate p.count ([]:List zD)).map yV).getD n top0).has1=false∧(((List.replicate p.count ([]:List zD)).map yV).getD n top0).has2=false:=fun n=>by
  rcases e n with h|h<;>rw[h]<;>exact⟨rfl,rfl⟩
 refine⟨fun n _ h=> ?_,fun{a b k} _ h=> ?_,fun{a b k} _ h=> ?_⟩
 ·rw[(f n).1]at h;cases h
 ·rw[(f a).1]at h;cases h
 ·rw[(f a).2]at h;cases h
open Go Cv Go.Proofs
def uxC:Con:=con1 AbI (fun i=>[prdV i.x,roV 9 (i.l.map cmdE)]) (fun _=>[]) (fun i=>i.raw) (fun _=>yO true) (fun _=>[])
def mJ1 (t:Nat):SAnn:={ι:=Mkt,slots:=fun _=>[(t,.nm 0 0)],rows:=fun j=>[zIn j],slots0:=fun _=>[(t,.nm 0 0)],rows0:=fun j=>[zIn j]}
def uxA:List SAnn:=[
 {ι:=Nat×Mkt,slots:=fun j=>[(6,.nm 0 0),(8,zB j.1)],rows:=fun j=>[zIn j.2]},
 {ι:=Nat×List Top,slots:=fun j=>[(10,roV 6 (j.2.map zT)),(11,zB j.1)],rows:=fun _=>[]},
 {ι:=Nat,slots:=fun j=>[(14,zB j)],rows:=fun _=>[]},
 {ι:=Nat,slots:=fun j=>[(15,zB j)],rows:=fun _=>[]}]
def uxJ:List (Nat×SAnn):=[(4,yPs 5),(24,bj 36),(32,mJ1 6),(72,bj 93),(100,bj 127),(120,bj 153)]
open Go Cv Go.Proofs
def zTx (a:AbI):Prop:=Sx.AObj.cells [V.d (D.v (Value.string (sb a.x.code))),V.own 0,V.d (D.v (.int .i64 a.x.tick)),V.d (D.v (.int .i64 a.x.low)),V.d (D.v (.int .i64 a.x.high)),V.d (D.v (.int .i64 a.x.wide)),V.d (D.v (.int .i64 a.x.rule)),V.d (D.v (.int .i64 a.x.top)),V.d (D.v (.int .i64 a.x.least)),V.d (D.v (.int .i64 a.x.part)),V.own ((0:Nat)+(1:Nat))] 29=Sx.AObj.cells [V.d (D.v (Value.string (sb a.x.code))),V.own 0,V.d (D.v (.int .i64 a.x.tick)),V.d (D.v (.int .i64 a.x.low)),V.d (D.v (.int .i64 a.x.high)),V.d (D.v (.int .i64 a.x.wide)),V.d (D.v (.int .i64 a.x.rule)),V.d (D.v (.int .i64 a.x.top)),V.d (D.v (.int .i64 a.x.least)),V.d (D.v (.int .i64 a.x.part)),V.own ((0:Nat)+(1:Nat))] 29∧AObj.fro 1 (iE a.x.settle)=AObj.fro 1 (iE a.x.settle)∧AObj.fro 1 (iE a.x.months)=AObj.fro 1 (iE a.x.months)
def zIm (a:Prd) (b:AbI):Prop:=Sx.AObj.cells (hZ (zFz ((0:Nat)+(1:Nat)+(1:Nat)+(1:Nat)) (jC [] 0 []) 3) [sV a.code,V.own 1,zB a.tick,zB a.low,zB a.high,zB a.wide,zB a.rule,zB a.top,zB a.least,zB a.part,V.own 2]) (29:TypeId)=Sx.AObj.cells (hZ (zFz ((0:Nat)+(1:Nat)+(1:Nat)+(1:Nat)) (jC [] 0 []) 3) [sV a.code,V.own 1,zB a.tick,zB a.low,zB a.high,zB a.wide,zB a.rule,zB a.top,zB a.least,zB a.part,V.own 2]) (29:TypeId)∧AObj.fro 1 (iE a.months)=AObj.fro 1 (iE a.months)∧AObj.fro 1 (iE a.settle)=AObj.fro 1 (iE a.settle)∧zTx b
def zMf (a:MSt) (b:Mkt) (c:Prd) (d:AbI):Prop:=zE a=zE a∧AObj.fro 6 (List.map zT a.tops)=AObj.fro 6 (List.map zT a.tops)∧AObj.adt Mkt 5 yH b=AObj.adt Mkt 5 yH b∧zIm c d
def zUx (a:fM) (b:fM) (c:MSt) (d:Mkt) (e:Prd) (f:AbI):Prop:=AObj.own 62 6 (qN a)=AObj.own 62 6 (qN a)∧AObj.own 62 6 (qN b)=AObj.own 62 6 (qN b)∧zMf c d e f
def zWi (a:Bool→Prop) (b:Bool) (c:Nat) (d:Nat→Prop) (e:Nat→Nat) (f:fM) (g:fM) (h:MSt) (j:Mkt) (k:Prd) (l:AbI):Prop:=a b→cnd b (∃(m:Unit),true=false∧True) (∃(m:Nat),(↑m:Int)=IntKind.i64.wrap ((↑c:Int)+1)∧d m∧e m<e c∧zUx f g h j k l)
def zMo (a:Bool→Prop) (b:Bool) (c:fM) (d:fM) (e:MSt) (f:Mkt) (g:Prd) (h:AbI):Prop:=a b∧zUx c d e f g h
def zSy (a:Bool→Prop) (b:fM) (c:fM) (d:MSt) (e:Mkt) (f:Prd) (g:AbI):Prop:=∃(h:Bool),h=false∧zMo a h b c d e f g
def zVu (a:Bool→Prop) (b:Bool) (c:MSt) (d:Mkt) (e:Prd) (f:AbI):Prop:=a b∧zMf c d e f
def zWv (a:Bool→Prop) (b:MSt) (c:Mkt) (d:Prd) (e:AbI):Prop:=∃(f:Bool),f=false∧zVu a f b c d e
def zUm (a:Bool→Prop) (b:Bool) (c:Nat×Mkt) (d:Prd) (e:AbI):Prop:=a b∧AObj.adt Mkt 5 yH c.snd=AObj.adt Mkt 5 yH c.snd∧zIm d e
def fT (a:Nat×List Top):Prop:=0≤(↑a.fst:Int)∧(↑a.fst:Int)<(↑(List.map zT a.snd).length:Int)
def Vux (i:AbI):Prop:=
 ∃(a:Prd),∃(b:Prd→Prop),(∃(c:Prd),sb c.code=sb i.x.code∧iE c.months=iE i.x.months∧c.tick=i.x.tick∧c.low=i.x.low∧c.high=i.x.high∧c.wide=i.x.wide∧c.rule=i.x.rule∧c.top=i.x.top∧c.least=i.x.least∧c.part=i.x.part∧iE c.settle=iE i.x.settle∧(((-9223372036854775808)≤c.tick∧c.tick≤9223372036854775807)∧((-9223372036854775808)≤c.wide∧c.wide≤9223372036854775807)∧((-9223372036854775808)≤c.rule∧c.rule≤9223372036854775807)∧((-9223372036854775808)≤c.top∧c.top≤9223372036854775807)∧((-9223372036854775808)≤c.least∧c.least≤9223372036854775807)∧((-9223372036854775808)≤c.part∧c.part≤9223372036854775807)∧c.months.length≤9223372036854775807)∧∀(d:Unit),True→∃(e:Prd),sb e.code=sb [(206:UInt8),(169:UInt8)]∧e.tick=yE c∧e.low=(-20)*yE c∧e.high=100*yE c∧e.wide=yE c*(5+zJ c.wide 0 60)∧e.rule=1+zJ c.rule 0 2∧e.top=zJ c.top 0 9∧e.least=1+zJ c.least 0 4∧e.part=zJ c.part 0 100∧AObj.fro 1 (iE e.months)=AObj.fro 1 (iE (kY (kN c).toNat))∧AObj.fro 1 (iE e.settle)=AObj.fro 1 (iE (kD (yE c) (kN c).toNat))∧b e∧zTx i)∧∀(c:Prd),b c→∃(d:Prd),sb d.code=sb c.code∧iE d.months=iE c.months∧d.tick=c.tick∧d.low=c.low∧d.high=c.high∧d.wide=c.wide∧d.rule=c.rule∧d.top=c.top∧d.least=c.least∧d.part=c.part∧iE d.settle=iE c.settle∧(xZ d)∧(∀(e:Unit),d.check=0→∃(f:Nat×Mkt),(↑f.fst:Int)=0∧AObj.adt Mkt 5 yH f.snd=AObj.adt Mkt 5 yH (Mkt.mk d (gJ d) [])∧∃(g:Nat×Mkt→Prop),∃(h:Nat×Mkt→Nat),g f∧∀(j:Nat×Mkt),g j→∃(k:Bool),∃(l:Bool→Prop),cnd (decide ((↑j.fst:Int)<(↑(List.map cmdE i.l).length:Int))) (∃(m:Bool),m=decide ((↑j.fst:Int)<50)∧zUm l m j c i) (∃(m:Bool),m=false∧zUm l m j c i)∧∀(m:Bool),l m→cnd m (∃(n:Mkt),AObj.adt Mkt 5 yH n=AObj.adt Mkt 5 yH j.snd∧∃(p:Mkt→Prop),((0≤(↑j.fst:Int)∧(↑j.fst:Int)<(↑(List.map cmdE i.l).length:Int))∧∃(q:Int),∃(r:Int),∃(s:Int),∃(t:Int),∃(u:Int),∃(v:Int),∃(w:Int),∃(x:Int),∃(y:ByteArray),zF (List.map cmdE i.l) (↑j.fst:Int).toNat 0 9=some [D.v (.int .i64 q),D.v (.int .i64 r),D.v (.int .i64 s),D.v (.int .i64 t),D.v (.int .i64 u),D.v (.int .i64 v),D.v (.int .i64 w),D.v (.int .i64 x),D.v (Value.string y)]∧∃(z:TmI),sb z.p.code=sb c.code∧iE z.p.months=iE c.months∧z.p.tick=c.tick∧z.p.low=c.low∧z.p.high=c.high∧z.p.wide=c.wide∧z.p.rule=c.rule∧z.p.top=c.top∧z.p.least=c.least∧z.p.part=c.part∧iE z.p.settle=iE c.settle∧z.c.kind=q∧z.c.id=r∧z.c.inst=s∧z.c.side=t∧z.c.price=u∧z.c.qty=v∧z.c.least=w∧z.c.time=x∧sb z.c.label=y∧z.i=(↑j.fst:Int)∧(z.p.check=0∧(z.p.code.length≤1099511627776∧z.p.months.length≤1099511627776∧z.p.settle.length≤1099511627776)∧(((-9223372036854775808)≤z.c.kind∧z.c.kind≤9223372036854775807)∧((-9223372036854775808)≤z.c.id∧z.c.id≤9223372036854775807)∧((-9223372036854775808)≤z.c.inst∧z.c.inst≤9223372036854775807)∧((-9223372036854775808)≤z.c.side∧z.c.side≤9223372036854775807)∧((-9223372036854775808)≤z.c.price∧z.c.price≤9223372036854775807)∧((-9223372036854775808)≤z.c.qty∧z.c.qty≤9223372036854775807)∧((-9223372036854775808)≤z.c.least∧z.c.least≤9223372036854775807)∧(-9223372036854775808)≤z.c.time∧z.c.time≤9223372036854775807)∧0≤z.i∧z.i≤1000000)∧∀(a_1:Unit),True→∃(a_2:EnI),a_2.c.kind=(qX z).kind∧a_2.c.id=(qX z).id∧a_2.c.inst=(qX z).inst∧a_2.c.side=(qX z).side∧a_2.c.price=(qX z).price∧a_2.c.qty=(qX z).qty∧a_2.c.least=(qX z).least∧a_2.c.time=(qX z).time∧sb a_2.c.label=sb (qX z).label∧AObj.adt Mkt 5 yH a_2.m=AObj.adt Mkt 5 yH n∧(gD a_2)∧∀(a_3:Mkt),a_3.Rep a_2.p a_2.X.B a_2.X.U→∃(a_4:Mkt),AObj.adt Mkt 5 yH a_4=AObj.adt Mkt 5 yH a_3∧p a_4∧zIm c i)∧∀(q:Mkt),p q→∃(r:Mkt),AObj.adt Mkt 5 yH r=AObj.adt Mkt 5 yH q∧(r.s.books.length≤1000000∧∀(s:Book),s∈r.s.books→pT s)∧∀(s:Unit),True→∃(t:MSt),zE t=zE r.s∧(gM t)∧∀(u:Unit),True→∃(v:Prd),sb v.code=sb c.code∧iE v.months=iE c.months∧v.tick=c.tick∧v.low=c.low∧v.high=c.high∧v.wide=c.wide∧v.rule=c.rule∧v.top=c.top∧v.least=c.least∧v.part=c.part∧iE v.settle=iE c.settle∧(xZ v)∧∀(w:Unit),True→cnd ((↑(List.map zT t.tops).length:Int) !=(↑v.count:Int)) (∃(x:Unit),true=false∧True) (∃(x:Nat×List Top),List.map zT x.snd=List.map zT t.tops∧(↑x.fst:Int)=0∧∃(y:Nat×List Top→Prop),∃(z:Nat×List Top→Nat),y x∧∀(a_1:Nat×List Top),y a_1→cnd (decide ((↑a_1.fst:Int)<(↑(List.map zT a_1.snd).length:Int))) (∃(a_2:Bool),∃(a_3:Bool→Prop),((fT a_1)∧∃(a_4:Bool),zF (List.map zT a_1.snd) (↑a_1.fst:Int).toNat ((0:Nat)+(0:Nat)+nat_lit 0*1) 1=some [D.v (.bool a_4)]∧cnd a_4 ((fT a_1)∧∃(a_5:Bool),zF (List.map zT a_1.snd) (↑a_1.fst:Int).toNat ((0:Nat)+(0:Nat)+nat_lit 1*1) 1=some [D.v (.bool a_5)]∧cnd a_5 ((fT a_1)∧∃(a_6:Int),zF (List.map zT a_1.snd) (↑a_1.fst:Int).toNat ((0:Nat)+(2:Nat)+nat_lit 0*1) 1=some [D.v (.int .i64 a_6)]∧(fT a_1)∧∃(a_7:Int),zF (List.map zT a_1.snd) (↑a_1.fst:Int).toNat ((0:Nat)+(2:Nat)+nat_lit 1*1) 1=some [D.v (.int .i64 a_7)]∧∃(a_8:Bool),a_8=decide (a_6≥a_7)∧zVu a_3 a_8 t r c i) (zWv a_3 t r c i)) (zWv a_3 t r c i))∧∀(a_4:Bool),a_3 a_4→cnd a_4 (∃(a_5:Unit),true=false∧True) (∃(a_5:fM),sb a_5.i.p.code=sb c.code∧iE a_5.i.p.months=iE c.months∧a_5.i.p.tick=c.tick∧a_5.i.p.low=c.low∧a_5.i.p.high=c.high∧a_5.i.p.wide=c.wide∧a_5.i.p.rule=c.rule∧a_5.i.p.top=c.top∧a_5.i.p.least=c.least∧a_5.i.p.part=c.part∧iE a_5.i.p.settle=iE c.settle∧List.map zT a_5.i.tops=List.map zT a_1.snd∧a_5.i.inst=(↑a_1.fst:Int)∧zA a_5.s=1∧(fA a_5)∧∀(a_6:Unit),True→∃(a_7:fM),sb a_7.i.p.code=sb c.code∧iE a_7.i.p.months=iE c.months∧a_7.i.p.tick=c.tick∧a_7.i.p.low=c.low∧a_7.i.p.high=c.high∧a_7.i.p.wide=c.wide∧a_7.i.p.rule=c.rule∧a_7.i.p.top=c.top∧a_7.i.p.least=c.least∧a_7.i.p.part=c.part∧iE a_7.i.p.settle=iE c.settle∧List.map zT a_7.i.tops=List.map zT a_1.snd∧a_7.i.inst=(↑a_1.fst:Int)∧zA a_7.s=2∧(fA a_7)∧∀(a_8:Unit),True→∃(a_9:Nat),(↑a_9:Int)=0∧∃(a_10:Nat→Prop),∃(a_11:Nat→Nat),a_10 a_9∧∀(a_12:Nat),a_10 a_12→cnd (cB a_12 a_5) (∃(a_13:Bool),∃(a_14:Bool→Prop),((fT a_1)∧∃(a_15:Bool),zF (List.map zT a_1.snd) (↑a_1.fst:Int).toNat ((0:Nat)+(0:Nat)+nat_lit 1*1) 1=some [D.v (.bool a_15)]∧cnd a_15 ((dL a_12 a_5)∧∃(a_16:Int),zF (qN a_5) (↑a_12:Int).toNat ((0:Nat)+(0:Nat)) 1=some [D.v (.int .i64 a_16)]∧(fT a_1)∧∃(a_17:Int),zF (List.map zT a_1.snd) (↑a_1.fst:Int).toNat ((0:Nat)+(2:Nat)+nat_lit 1*1) 1=some [D.v (.int .i64 a_17)]∧∃(a_18:Bool),a_18=decide (a_16≥a_17)∧zMo a_14 a_18 a_7 a_5 t r c i) (zSy a_14 a_7 a_5 t r c i))∧∀(a_15:Bool),zWi a_14 a_15 a_12 a_10 a_11 a_7 a_5 t r c i) (∃(a_13:Nat),(↑a_13:Int)=0∧∃(a_14:Nat→Prop),∃(a_15:Nat→Nat),a_14 a_13∧∀(a_16:Nat),a_14 a_16→cnd (cB a_16 a_7) (∃(a_17:Bool),∃(a_18:Bool→Prop),((fT a_1)∧∃(a_19:Bool),zF (List.map zT a_1.snd) (↑a_1.fst:Int).toNat ((0:Nat)+(0:Nat)+nat_lit 0*1) 1=some [D.v (.bool a_19)]∧cnd a_19 ((dL a_16 a_7)∧∃(a_20:Int),zF (qN a_7) (↑a_16:Int).toNat ((0:Nat)+(0:Nat)) 1=some [D.v (.int .i64 a_20)]∧(fT a_1)∧∃(a_21:Int),zF (List.map zT a_1.snd) (↑a_1.fst:Int).toNat ((0:Nat)+(2:Nat)+nat_lit 0*1) 1=some [D.v (.int .i64 a_21)]∧∃(a_22:Bool),a_22=decide (a_20≤a_21)∧zMo a_18 a_22 a_7 a_5 t r c i) (zSy a_18 a_7 a_5 t r c i))∧∀(a_19:Bool),zWi a_18 a_19 a_16 a_14 a_15 a_7 a_5 t r c i) (∃(a_17:Nat×List Top),List.map zT a_17.snd=List.map zT a_1.snd∧(↑a_17.fst:Int)=IntKind.i64.wrap ((↑a_1.fst:Int)+1)∧y a_17∧z a_17<z a_1∧zMf t r c i)))) (∃(a_2:Nat×Mkt),(↑a_2.fst:Int)=IntKind.i64.wrap ((↑j.fst:Int)+1)∧AObj.adt Mkt 5 yH a_2.snd=AObj.adt Mkt 5 yH r∧g a_2∧h a_2<h j∧zIm c i))) (∃(n:Unit),True∧∀(p:Unit),True→∃(q:Unit),true=true∧True))∧∀(e:Unit),d.check≠0→∃(f:Unit),true=false∧True
theorem equx (i:AbI):Vux i=walk Tryz.prog ([(20,kprodC),(10,newMC),(21,tameC),(13,doC),(22,stateC),(23,topsC),(24,pcountC),(25,allC),(15,known17C)]) 0 (uxJ) (uxA) [] Tryz.f4 (Tryz.f4.body.getD .skip) (uxC.pat i) (uxC.pre i) (uxC.alts i):=by kernel_rfl
open Go Cv Go.Proofs
structure yPx where
 s:MSt
 p:Prd
 B:List (List zD)
 inst:Int
 side:Int
 price:Int
 q:Int
structure HdI where
 s:List UInt8
 n:Int
open Go Cv Go.Proofs
open Go Cv Go.Proofs
open Go Cv Go.Proofs
theorem vux (i:AbI) (h:uxC.cnd i):Vux i:=by
 obtain⟨hraw,hcraw,hlen⟩:i.raw:=h
 have hc:=zQw i.x
 have hs:=zQk i.x
 have hml:(List.map cmdE i.l).length=i.l.length:=List.length_map _
 unfold Vux zUm zWv zVu zSy zMo zWi zUx zMf zIm zTx fT pT cB dL qN fA gM gD xZ
 rw[hml]
 refine⟨xC i.x,fun y=>y=xC i.x,⟨i.x,rfl,rfl,rfl,rfl,rfl,rfl,rfl,rfl,rfl,rfl,rfl,hraw,fun _ _=>⟨xC i.x,rfl,rfl,rfl,rfl,rfl,rfl,rfl,rfl,rfl,rfl,rfl,rfl,by(repeat'(first|exact trivial|exact rfl|apply And.intro))⟩⟩,?_⟩
 rintro _ rfl
 refine⟨xC i.x,rfl,rfl,rfl,rfl,rfl,rfl,rfl,rfl,rfl,rfl,rfl,hs,fun _ _=> ?_,fun _ hne=>absurd hc hne⟩
 have hcb:=z2c hc
 refine⟨(0,mk0 (xC i.x)),rfl,rfl,fun y=>(y.1≤50∧y.1≤i.l.length)∧∃B U,y.2.Rep (xC i.x) B U∧BOk (xC i.x) B∧Un (xC i.x) (B.map yV),fun y=>50-y.1,⟨⟨Nat.zero_le _,Nat.zero_le _⟩,_,_,zXf _,BOk.new hc hs,yIy _⟩,?_⟩
 rintro⟨j,m⟩ ⟨⟨hj60,hjl⟩,B,U,hM,hB,hU⟩
 dsimp only at hj60 hjl hM ⊢
 refine⟨true,fun b=>b=decide (j<i.l.length∧j<50),zK (fun c=>⟨_,rfl,?_,by(repeat'(first|exact trivial|exact rfl|apply And.intro))⟩) (fun c=>⟨_,rfl,?_,by(repeat'(first|exact trivial|exact rfl|apply And.intro))⟩),fun b hb=> ?_⟩
 ·show decide ((j:Int)<50)=decide (j<i.l.length∧j<50)
  rw[Bool.eq_iff_iff,decide_eq_true_eq,decide_eq_true_eq];omega
 ·exact(decide_eq_false (by omega)).symm
 subst hb
 have hwf:BWf (xC i.x) B:=by have:=hM.s;exact this.wf hB
 refine zK (fun hb=> ?_) (fun _=>⟨(),trivial,fun _ _=>⟨(),rfl,trivial⟩⟩)
 obtain⟨hb1,hb2⟩:=hb
 obtain⟨c,hcj⟩:=yA (l:=i.l) (i:=j) hb1
 have hcr:=hcraw c (List.mem_of_getElem? hcj)
 obtain⟨C,hC⟩:∃C:Cmd,C=qX ⟨xC i.x,c,j⟩:=⟨_,rfl⟩
 have hlb:C.label.length≤140737488355328:=by
  have:C.label=[]:=by rw[hC];exact zSu _
  rw[this];decide
 have hqt:1≤C.qty∧C.qty≤12:=by rw[hC];exact z5f _
 have hun:=yNz hwf U C hU
 obtain⟨X,hX⟩:∃X,X=doF (xC i.x) B U C:=⟨_,rfl⟩
 rw[← hX]at hun
 have hB':BOk (xC i.x) X.B:=by rw[hX];exact mdo hM hB C
 refine⟨m,rfl,fun y=>y.Rep (xC i.x) X.B X.U,⟨⟨by omega,by omega⟩,c.kind,c.id,c.inst,c.side,c.price,c.qty,c.least,c.time,sb c.label,yPh hcj,⟨xC i.x,c,j⟩,rfl,rfl,rfl,rfl,rfl,rfl,rfl,rfl,rfl,rfl,rfl,rfl,rfl,rfl,rfl,rfl,rfl,rfl,rfl,rfl,rfl,⟨hc,hs,hcr,by dsimp only;omega,by dsimp only;omega⟩,fun _ _=>⟨⟨m,xC i.x,B,U,C,X⟩,by rw[hC],by rw[hC],by rw[hC],by rw[hC],by rw[hC],by rw[hC],by rw[hC],by rw[hC],by rw[hC],rfl,⟨⟨hM,hB⟩,hlb,⟨by dsimp only;omega,by dsimp only;omega⟩,hX⟩,fun o ho=>⟨o,rfl,ho,by(repeat'(first|exact trivial|exact rfl|apply And.intro))⟩⟩⟩,?_⟩
 intro o ho
 have hwf':BWf (xC i.x) X.B:=by have:=ho.s;exact this.wf hB'
 have hun:=hun hwf'
 have hbl:=hB'.bl
 have hTl:(X.B.map yV).length=(xC i.x).count:=by rw[List.length_map];exact hbl
 have hTs:=hwf'.small
 have hTo:=hB'.tops
 refine⟨o,rfl,ho.s.small hB',fun _ _=>⟨o.s,rfl,ho.s.cnt (by rw[hbl];omega),fun _ _=>⟨xC i.x,rfl,rfl,rfl,rfl,rfl,rfl,rfl,rfl,rfl,rfl,rfl,hs,fun _ _=> ?_⟩⟩⟩
 rw[ho.s.tops]
 generalize hT0:X.B.map yV=T at hun hTl hTs hTo ⊢
 have hTe:(List.map zT T).length=T.length:=List.length_map _
 rw[hTe,hTl]
 refine Cv.cnd.mk (fun e=>by simp at e) (fun _=>⟨(0,T),rfl,rfl,fun y=>y.1≤T.length∧y.2=T,fun y=>T.length-y.1,⟨Nat.zero_le _,rfl⟩,?_⟩)
 rintro⟨k,Y⟩ ⟨hk,hY⟩
 dsimp only at hk hY ⊢
 subst hY
 rw[hTe]
 refine zK (fun e=> ?_) (fun e=>⟨(j+1,o),by rw[w64 (by omega)];rfl,rfl,⟨⟨by dsimp only;omega,by dsimp only;omega⟩,_,_,ho,hB',?_⟩,by dsimp only;omega,by(repeat'(first|exact trivial|exact rfl|apply And.intro))⟩)
 ·obtain⟨t,ht⟩:=yA (l:=Y) (i:=k) (by omega)
  have htD:Y.getD k top0=t:=zI ht
  have hkr:(0:Int)≤k∧(k:Int)<Y.length:=by omega
  have g0:zF (List.map zT Y) k (0+0+0*1) 1=some [D.v (.bool t.has1)]:=elA ht (by simp[zT]) rfl
  have g1:zF (List.map zT Y) k (0+0+1*1) 1=some [D.v (.bool t.has2)]:=elA ht (by simp[zT]) rfl
  have g2:zF (List.map zT Y) k (0+2+0*1) 1=some [D.v (.int .i64 t.p1)]:=elA ht (by simp[zT]) rfl
  have g3:zF (List.map zT Y) k (0+2+1*1) 1=some [D.v (.int .i64 t.p2)]:=elA ht (by simp[zT]) rfl
  have hps:=fun v=>hun.ps hc hTs hTl (n:=k) (by omega) (v:=v)
  have hd:=hun.d k (by omega)
  rw[htD]at hps hd
  refine⟨true,fun b=>b=false,⟨hkr,_,g0,Cv.cnd.mk (fun h1=>⟨hkr,_,g1,Cv.cnd.mk (fun h2=>⟨hkr,_,g2,hkr,_,g3,_,rfl,decide_eq_false (by have:=hd h1 h2;omega),by(repeat'(first|exact trivial|exact rfl|apply And.intro))⟩) (fun _=>⟨_,rfl,rfl,by(repeat'(first|exact trivial|exact rfl|apply And.intro))⟩)⟩) (fun _=>⟨_,rfl,rfl,by(repeat'(first|exact trivial|exact rfl|apply And.intro))⟩)⟩,?_⟩
  rintro _ rfl
  refine Cv.cnd.mk (fun e=>absurd e (by decide)) (fun _=>⟨⟨⟨xC i.x,Y,k⟩,false⟩,rfl,rfl,rfl,rfl,rfl,rfl,rfl,rfl,rfl,rfl,rfl,rfl,rfl,rfl,⟨hs,hTo⟩,fun _ _=>⟨⟨⟨xC i.x,Y,k⟩,true⟩,rfl,rfl,rfl,rfl,rfl,rfl,rfl,rfl,rfl,rfl,rfl,rfl,rfl,rfl,⟨hs,hTo⟩,fun _ _=> ?_⟩⟩)
  have l1:=m5 ⟨xC i.x,Y,k⟩ 1
  have l2:=m5 ⟨xC i.x,Y,k⟩ 2
  have e1:(List.map zH (xG ⟨xC i.x,Y,k⟩ 1)).length=(xG ⟨xC i.x,Y,k⟩ 1).length:=List.length_map _
  have e2:(List.map zH (xG ⟨xC i.x,Y,k⟩ 2)).length=(xG ⟨xC i.x,Y,k⟩ 2).length:=List.length_map _
  have s1:zA false=1:=rfl
  have s2:zA true=2:=rfl
  dsimp only
  rw[s1,s2,e1,e2]
  refine⟨0,rfl,fun n=>n≤(xG ⟨xC i.x,Y,k⟩ 1).length,fun n=>(xG ⟨xC i.x,Y,k⟩ 1).length-n,Nat.zero_le _,fun n hn=>zK (fun e=> ?_) (fun e=> ?_)⟩
  ·obtain⟨q,hq⟩:=yA (l:=xG ⟨xC i.x,Y,k⟩ 1) (i:=n) (by omega)
   have gq:zF (List.map zH (xG ⟨xC i.x,Y,k⟩ 1)) n (0+0) 1=some [D.v (.int .i64 q.price)]:=elA hq (by simp[zH]) rfl
   refine⟨true,fun b=>b=false,⟨hkr,_,g1,Cv.cnd.mk (fun h2=>⟨⟨by omega,by omega⟩,_,gq,hkr,_,g3,_,rfl,decide_eq_false (by have:=(hps q.price).1 ⟨q,List.mem_of_getElem? hq,rfl⟩ h2;omega),by(repeat'(first|exact trivial|exact rfl|apply And.intro))⟩) (fun _=>⟨_,rfl,rfl,by(repeat'(first|exact trivial|exact rfl|apply And.intro))⟩)⟩,?_⟩
   rintro _ rfl
   exact Cv.cnd.mk (fun e=>absurd e (by decide)) (fun _=>⟨n+1,by rw[w64 (by omega)];rfl,by omega,by dsimp only;omega,by(repeat'(first|exact trivial|exact rfl|apply And.intro))⟩)
  refine⟨0,rfl,fun n=>n≤(xG ⟨xC i.x,Y,k⟩ 2).length,fun n=>(xG ⟨xC i.x,Y,k⟩ 2).length-n,Nat.zero_le _,fun n hn=>zK (fun e=> ?_) (fun e=> ?_)⟩
  ·obtain⟨q,hq⟩:=yA (l:=xG ⟨xC i.x,Y,k⟩ 2) (i:=n) (by omega)
   have gq:zF (List.map zH (xG ⟨xC i.x,Y,k⟩ 2)) n (0+0) 1=some [D.v (.int .i64 q.price)]:=elA hq (by simp[zH]) rfl
   refine⟨true,fun b=>b=false,⟨hkr,_,g0,Cv.cnd.mk (fun h1=>⟨⟨by omega,by omega⟩,_,gq,hkr,_,g2,_,rfl,decide_eq_false (by have:=(hps q.price).2 ⟨q,List.mem_of_getElem? hq,rfl⟩ h1;omega),by(repeat'(first|exact trivial|exact rfl|apply And.intro))⟩) (fun _=>⟨_,rfl,rfl,by(repeat'(first|exact trivial|exact rfl|apply And.intro))⟩)⟩,?_⟩
   rintro _ rfl
   exact Cv.cnd.mk (fun e=>absurd e (by decide)) (fun _=>⟨n+1,by rw[w64 (by omega)];rfl,by omega,by dsimp only;omega,by(repeat'(first|exact trivial|exact rfl|apply And.intro))⟩)
  exact⟨(k+1,Y),rfl,by rw[w64 (by omega)];rfl,⟨by dsimp only;omega,rfl⟩,by dsimp only;omega,by(repeat'(first|exact trivial|exact rfl|apply And.intro))⟩
 ·rw[hT0];exact hun
end Sx
