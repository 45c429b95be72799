/- Texts of ours, one behind the other: a walk that the kernel reckons, and contracts of functions. No condition. -/
import Derived.Test.YtpgpnnncaidcjaaGreatA8
namespace Sx
set_option linter.unusedVariables false
set_option linter.unusedSimpArgs false
set_option maxRecDepth 100000
open Go Cv Go.Proofs
structure QOk (T:List Top) (q:Quote):Prop where
 a:0≤q.a.inst∧q.a.inst<T.length
 b:0≤q.b.inst∧q.b.inst<T.length
 sa:q.a.side=1∨q.a.side=2
 sb:q.b.side=1∨q.b.side=2
 ne:q.a.inst≠q.b.inst
 ha:(T.getD q.a.inst.toNat top0).has q.a.side=true
 hb:(T.getD q.b.inst.toNat top0).has q.b.side=true
 qty:q.qty=min ((T.getD q.a.inst.toNat top0).qty q.a.side) ((T.getD q.b.inst.toNat top0).qty q.b.side)
theorem zMf {T:List Top} {a b:Leg} {less:Bool} {q:Quote} (h:q∈mkq T a b less) (h1:0≤a.inst∧a.inst<T.length) (h2:0≤b.inst∧b.inst<T.length) (h3:a.side=1∨a.side=2) (h4:b.side=1∨b.side=2) (hne:a.inst≠b.inst):QOk T q∧q.a=a∧q.b=b:=by
 cases less
 all_goals
  simp only[mkq,ySz,↓reduceIte]at h
  split at h
  ·rename_i hc
   simp only[ySx]at hc
   rw[yUk]at h
   subst h
   exact⟨⟨h1,h2,h3,h4,hne,hc.1.1,hc.1.2,rfl⟩,rfl,rfl⟩
  ·cases h
theorem yNr:∀n≤6,∀k<n+n*(n-1) / 2,n≤k→(kF n k n 0).1≠(kF n k n 0).2.1:=by decide
theorem zSd {p:Prd} (hc:p.check=0) {k:Nat} (hk:k<p.count) (hs:(p.legs k).2.2=true):(p.legs k).1≠(p.legs k).2.1:=by
 have m6:=(qM hc).m6
 have hk':=hk
 rw[Prd.count,ySk hc]at hk'
 by_cases h:k<p.months.length
 ·rw[Prd.legs,ySj (by omega),ySk (by omega)]at hs
  cases hs
 ·rw[Prd.legs,ySj (by omega),ySj (by omega)]
  exact yNr p.months.length m6 k hk' (by omega)
theorem z6b:∀n≤6,∀a<n,∀b<n,a<b→(yI n a:Int)+b-a-1≥n:=by decide
theorem eA {p:Prd} (hc:p.check=0) {a b:Nat} (hab:a<b) (hb:b<p.months.length):(p.months.length:Int)≤(p.spread a b).1:=by
 have m6:=(qM hc).m6
 have:=z6b p.months.length m6 a (by omega) b hb hab
 rw[Prd.spread,ySj (by omega)]
 simpa using this
theorem yGj {p:Prd} (hc:p.check=0) {T:List Top} (hT:T.length=p.count) {inst:Int} {s:Int} (hs:s=1∨s=2) {q:Quote} (h:q∈qC ⟨p,T,inst⟩ s):QOk T q∧0≤inst∧inst<p.count∧
 (((p.legs inst).2.2=true∧q.a=⟨(p.legs inst).1,s⟩∧q.b=⟨(p.legs inst).2.1,3-s⟩)∨(inst<p.months.length∧q.a.inst≠inst∧(p.months.length:Int)≤q.a.inst)):=by
 rw[qC]at h
 dsimp only at h
 split at h
 ·cases h
 ·rename_i hn
  have h0:0≤inst∧inst<p.count:=by omega
  obtain⟨k,rfl⟩:∃k:Nat,inst=k:=⟨inst.toNat,by omega⟩
  have hk:k<p.count:=by omega
  have hge:=dW hc
  split at h
  ·rename_i hl
   obtain⟨q',hq',rfl⟩:=yTk.1 h
   have hle:=vO hc hk
   rcases hle with⟨_,l1,l2,l3,l4⟩|⟨e,_⟩
   ·obtain⟨ok,e1,e2⟩:=zMf hq' (by dsimp only;omega) (by dsimp only;omega) (by dsimp only;omega) hs (fun e=>zSd hc hk hl e.symm)
    refine⟨⟨by dsimp only[fU];omega,by dsimp only[fU];omega,hs,by dsimp only[fU];omega,zSd hc hk hl,?_,?_,?_⟩,h0.1,h0.2,.inl ⟨hl,rfl,rfl⟩⟩
    ·have:=ok.hb;rw[e2]at this;exact this
    ·have:=ok.ha;rw[e1]at this;exact this
    ·have:=ok.qty;rw[e1,e2]at this;dsimp only[fU];rw[this];exact Int.min_comm _ _
   ·rw[e]at hl;cases hl
  ·rename_i hl
   have hm:k<p.months.length:=by
    rcases vO hc hk with⟨e,_⟩|⟨_,e⟩
    ·exact absurd e hl
    ·exact e
   rcases yTp.1 h with h|h
   ·obtain⟨j,hj,h⟩:=yUj.1 h
    have hj:=yUz.1 hj
    rw[ySy]at hj
    have s1:=gU hc (a:=k) (b:=k+1+j) (by omega) (by omega)
    have s2:=eA hc (a:=k) (b:=k+1+j) (by omega) (by omega)
    have ec:((k:Int)+1+j)=((k+1+j:Nat):Int):=by omega
    rw[ec]at h
    obtain⟨ok,e1,e2⟩:=zMf h (by dsimp only;omega) (by dsimp only;omega) hs hs (by dsimp only;omega)
    exact⟨ok,h0.1,h0.2,.inr ⟨by omega,by rw[e1];dsimp only;omega,by rw[e1];exact s2⟩⟩
   ·obtain⟨j,hj,h⟩:=yUj.1 h
    have hj:=yUz.1 hj
    rw[ySy]at hj
    have s1:=gU hc (a:=j) (b:=k) (by omega) (by omega)
    have s2:=eA hc (a:=j) (b:=k) (by omega) (by omega)
    obtain⟨ok,e1,e2⟩:=zMf h (by dsimp only;omega) (by dsimp only;omega) (by dsimp only;omega) hs (by dsimp only;omega)
    exact⟨ok,h0.1,h0.2,.inr ⟨by omega,by rw[e1];dsimp only;omega,by rw[e1];exact s2⟩⟩
theorem zPf {s:Int}:∀(r:List Quote) (q:Quote),r.foldl (fun b q=>if btr s q.price b.price then q else b) q∈q::r
 |[],q=>ySp
 |x::r,q=>by
  rw[yVz]
  have:=zPf (s:=s) r (if btr s x.price q.price then x else q)
  rcases yTb.1 this with e|h
  ·rw[e];split
   ·exact ySq _ ySp
   ·exact ySp
  ·exact ySq _ (ySq _ h)
theorem zQn {l:List Quote} {s:Int} (h:(z5 l s).2=true):(z5 l s).1∈l:=by
 cases l with
 |nil=>cases h
 |cons q r=>exact zPf r q
def yFu (B:List (List zD)):Prop:=∀(k:Nat) (L:List zD),B[k]?=some L→(∀o∈L,zJa o)∧(L.map (·.id)).Nodup∧L.length≤250
theorem MSt.Rep.ords {s:MSt} {p:Prd} {B:List (List zD)} (h:s.Rep p B):yFu B:=by
 intro k L hL
 obtain⟨b,hb⟩:=z9 (l:=s.books) (i:=k) (by rw[h.bl];exact(ySl.1 hL).1)
 exact(h.bk k b L hb hL).ords
theorem yIp:∀{l:List zD} {v:Lv},(∀o∈l,zJa o)→v∈grp l→1≤v.qty∧v.qty≤1000000*l.length
 |[],v,_,h=>by cases h
 |o::l,v,ho,h=>by
  have h0:=(ho o ySp).q
  have ih:∀v∈grp l,1≤v.qty∧v.qty≤1000000*l.length:=fun v hv=>yIp (fun x hx=>ho x (ySq _ hx)) hv
  rw[grp]at h
  rw[yTc]
  split at h
  ·rw[yUk]at h
   subst h;dsimp only;omega
  ·rename_i w ws e
   rw[e]at ih
   have hw:=ih w ySp
   split at h
   ·rcases yTb.1 h with rfl|h
    ·dsimp only;omega
    ·have:=ih v (ySq _ h);omega
   ·rcases yTb.1 h with rfl|h
    ·dsimp only;omega
    ·have:=ih v h;omega
theorem z0h {L:List zD} {s:Int} (h:∀o∈L,zJa o) (hl:L.length≤250) (hb:(bestL L s).2=true):1≤(bestL L s).1.qty∧(bestL L s).1.qty≤250000000:=by
 rw[bestL]at hb ⊢
 cases hl2:wE L s with
 |nil=>rw[hl2]at hb;cases hb
 |cons v vs=>
  dsimp only
  have hm:v∈grp (L.filter fun o=>decide (o.side=s)):=by rw[← wE,hl2];exact ySp
  have:=yIp (fun o ho=>h o (yTu.1 ho).1) hm
  have:=yVp (fun o:zD=>decide (o.side=s)) L
  omega
theorem lV {B:List (List zD)} {k:Nat} {L:List zD} (hL:B[k]? =some L):(B.map xF).getD k top0=xF L:=zH (by rw[yUd,hL];rfl)
theorem uP (L:List zD) {s:Int} (hs:s=1∨s=2):(xF L).has s=(bestL L s).2∧(xF L).qty s=(bestL L s).1.qty∧(xF L).price s=(bestL L s).1.price:=by
 obtain⟨e1,e2,e3,e4,e5,e6⟩:=zRd L
 rcases hs with rfl|rfl
 ·exact⟨e3,e2,e1⟩
 ·exact⟨e6,e5,e4⟩
theorem m9 {p:Prd} {B:List (List zD)} (h:BOk p B) (ho:yFu B) {inst:Int} (hi:0≤inst∧inst<B.length) {s:Int} (hs:s=1∨s=2) (hn:(zW p B inst s).2.2=true):
 (1≤(zW p B inst s).1.qty∧(zW p B inst s).1.qty≤250000000)∧((zW p B inst s).2.1=true→(zW p B inst s).1∈qC ⟨p,B.map xF,inst⟩ s∧QOk (B.map xF) (zW p B inst s).1)∧
 ((zW p B inst s).2.1=false→(bestL (B.getD inst.toNat []) s).2=true∧(zW p B inst s).1.price=(bestL (B.getD inst.toNat []) s).1.price∧(zW p B inst s).1.qty=(bestL (B.getD inst.toNat []) s).1.qty):=by
 obtain⟨k,rfl⟩:∃k:Nat,inst=k:=⟨inst.toNat,by omega⟩
 obtain⟨L,hL⟩:=z9 (l:=B) (i:=k) (by omega)
 have hLo:=ho k L hL
 rw[zW]at hn ⊢
 rw[ySy,zH hL]at hn ⊢
 split
 ·rename_i c
  simp only[ySx]at c
  exact⟨z0h hLo.1 hLo.2.2 c.1,⟨fun e=>(by cases e),fun _=>⟨c.1,rfl,rfl⟩⟩⟩
 ·rename_i c
  rw[ySj c]at hn
  dsimp only at hn ⊢
  have hm:=zQn hn
  have ha:(z5 (yF ⟨p,B.map xF,k⟩ s) s).1∈qC ⟨p,B.map xF,k⟩ s:=(yTu.1 hm).1
  obtain⟨ok,_⟩:=yGj h.pc (by rw[ySm];exact h.bl) hs ha
  refine⟨?_,fun _=>⟨ha,ok⟩,fun e=>by rw[hn]at e;cases e⟩
  generalize (z5 (yF ⟨p,B.map xF,k⟩ s) s).1=q at ok
  have a:=ok.a
  have b:=ok.b
  rw[ySm]at a b
  obtain⟨La,hLa⟩:=z9 (l:=B) (i:=q.a.inst.toNat) (by omega)
  obtain⟨Lb,hLb⟩:=z9 (l:=B) (i:=q.b.inst.toNat) (by omega)
  have e1:=ok.ha
  have e2:=ok.hb
  have e3:=ok.qty
  rw[lV hLa]at e1 e3
  rw[lV hLb]at e2 e3
  rw[(uP La ok.sa).1]at e1
  rw[(uP Lb ok.sb).1]at e2
  rw[(uP La ok.sa).2.1,(uP Lb ok.sb).2.1]at e3
  have:=z0h (ho _ _ hLa).1 (ho _ _ hLa).2.2 e1
  have:=z0h (ho _ _ hLb).1 (ho _ _ hLb).2.2 e2
  omega
theorem zCh {L:List zD} {id q:Int} {o:zD} (h:o∈(xU L id q).1):∃o'∈L,o.price=o'.price∧o.side=o'.side∧o.id=o'.id:=by
 rw[xU]at h
 split at h
 ·exact⟨o,h,rfl,rfl,rfl⟩
 split at h
 ·exact⟨o,h,rfl,rfl,rfl⟩
 obtain⟨o',ho',e⟩:=yWa.1 h
 refine⟨o',ho',?_⟩
 split at e
 ·split at e
  ·cases e
  ·cases e;exact⟨rfl,rfl,rfl⟩
 ·cases e;exact⟨rfl,rfl,rfl⟩
theorem BOk.take {p:Prd} {B:List (List zD)} (h:BOk p B) (id q:Int):BOk p (yU B id q).1:=by
 refine⟨h.pc,h.ps,by rw[mZ];exact h.bl,fun k L hL o ho=> ?_⟩
 rw[yU]at hL
 split at hL
 ·exact h.pr k L hL o ho
 ·rename_i j hj
  dsimp only at hL
  rcases vG hL with⟨rfl,rfl⟩|⟨_,hL⟩
  ·obtain⟨o',ho',e,_⟩:=zCh ho
   obtain⟨L',hL',_⟩:=xK hj
   rw[zH hL']at ho'
   rw[e];exact h.pr k L' hL' o' ho'
  ·exact h.pr k L hL o ho
theorem BOk.takes {p:Prd}:∀{fs:List vD} {B:List (List zD)},BOk p B→BOk p (yY B fs)
 |[],B,h=>h
 |f::fs,B,h=>BOk.takes (fs:=fs) (h.take f.id f.qty)
theorem zVm (inst s:Int):∀(os:List zD) (sh:List Int),(yM inst s os sh).length≤os.length
 |[],sh=>yTj 0
 |o::os,[]=>yUs _
 |o::os,k::sh=>by
  have:=zVm inst s os sh
  rw[yM]
  split
  ·simp only[yTc];omega
  ·simp only[yTc];omega
theorem mM {p:Prd} {B:List (List zD)} (ho:yFu B) (inst s q:Int):(y3 p B inst s q).length≤250:=by
 refine yVg (zVm _ _ _ _) (yVg (yVp _ _) ?_)
 by_cases h:inst.toNat<B.length
 ·obtain⟨L,hL⟩:=z9 h
  rw[zH hL];exact(ho _ _ hL).2.2
 ·rw[ySn,yTh (by omega)];exact yUs _
theorem aY {p:Prd} {B:List (List zD)} {inst:Int} {sd:Bool} {price q:Int} {t:kM} {B':List (List zD)} (hq:1≤q) (h:jF p B inst sd price q=some (t,B')):1≤t.qty∧t.qty≤q:=by
 rw[jF]at h
 dsimp only at h
 split at h
 ·rename_i c
  simp only[ySx,yTo]at c
  split at h
  ·cases h;dsimp only;omega
  ·cases h;dsimp only;omega
 ·cases h
theorem zUi {p:Prd} {inst:Int} {sd:Bool} {price:Int}:∀(m n:Nat) (B:List (List zD)) (q:Int),q.toNat≤m→q.toNat≤n→zHj p inst sd price m B q=zHj p inst sd price n B q
 |0,0,B,q,_,_=>rfl
 |0,n+1,B,q,h,_=>by rw[zHj,zHj,ySk (by omega)]
 |m+1,0,B,q,_,h=>by rw[zHj,zHj,ySk (by omega)]
 |m+1,n+1,B,q,h1,h2=>by
  rw[zHj,zHj]
  split
  ·rfl
  ·rename_i hq
   cases hs:jF p B inst sd price q with
   |none=>rfl
   |some x=>
    obtain⟨t,B'⟩:=x
    have:=aY (by omega) hs
    dsimp only
    rw[zUi m n B' (q-t.qty) (by omega) (by omega)]
theorem kU {p:Prd} {B:List (List zD)} {inst:Int} {sd:Bool} {price q:Int} (h:q≤0∨jF p B inst sd price q=none):xZ p B inst sd price q=⟨[],q,B⟩:=by
 rw[xZ]
 cases hn:q.toNat with
 |zero=>rfl
 |succ n=>
  rw[zHj]
  rcases h with h|h
  ·rw[ySk h]
  ·rw[ySj (by omega),h]
theorem cE {p:Prd} {B:List (List zD)} {inst:Int} {sd:Bool} {price q:Int} {t:kM} {B':List (List zD)} (hq:1≤q) (h:jF p B inst sd price q=some (t,B')):
 xZ p B inst sd price q=⟨t::(xZ p B' inst sd price (q-t.qty)).steps,(xZ p B' inst sd price (q-t.qty)).left,(xZ p B' inst sd price (q-t.qty)).B⟩:=by
 have ht:=aY hq h
 rw[xZ]
 cases hn:q.toNat with
 |zero=>omega
 |succ n=>
  rw[zHj,ySj (by omega),h]
  dsimp only
  rw[zUi n (q-t.qty).toNat B' (q-t.qty) (by omega) (yTj _)]
  rfl
open Go Cv Go.Proofs
theorem uI {s:Int} (h:s=1∨s=2):zB (decide (s=2))=s:=by
 rcases h with rfl|rfl<;>rfl
theorem yRy (i:RunI) (h:runC.cnd i):yOj i:=by
 obtain⟨hR,hB,⟨h0,h1⟩,hq1,hq2⟩:i.s.Rep i.p i.B∧BOk i.p i.B∧(0≤i.inst∧i.inst<i.B.length)∧1≤i.q∧i.q≤1000000:=h
 have hbl:=hR.bl
 have hcl:=xQ i.p
 have hbB:=hB.bl
 unfold yOj aQ zZs fX rW h8 zLl zCt zKm zZ dI
 refine(fun hT=>zL (fun c=>zL (fun c2=>Cv.cnd.mk (fun _=>zL (fun _=>Cv.cnd.mk (fun e=>absurd hq2 (by simpa using e)) (fun _=>hT)) (fun e=>absurd hq1 e)) (fun e1=>Cv.cnd.mk (fun _=>zL (fun _=>Cv.cnd.mk (fun e=>absurd hq2 (by simpa using e)) (fun _=>hT)) (fun e=>absurd hq1 e)) (fun e2=>by
  rcases dQ i.sd with e|e
  ·rw[e]at e1;cases e1
  ·rw[e]at e2;cases e2))) (fun c2=>absurd (by omega) c2)) (fun c=>absurd h0 c)) ?_
 refine⟨⟨i.s,i.B,[],i.q⟩,rfl,rfl,rfl,rfl,rfl,rfl,rfl,rfl,rfl,rfl,rfl,rfl,rfl,rfl,rfl,fun j=>j.s.Rep i.p j.B∧BOk i.p j.B∧j.B.length=i.B.length∧(0≤j.q∧j.q≤i.q)∧(j.steps.length:Int)≤i.q-j.q∧i.r=⟨j.steps++(xZ i.p j.B i.inst i.sd i.price j.q).steps,(xZ i.p j.B i.inst i.sd i.price j.q).left,(xZ i.p j.B i.inst i.sd i.price j.q).B⟩,fun j=>j.q.toNat,⟨hR,hB,rfl,⟨by dsimp only;omega,yWf _⟩,by dsimp only;simp,rfl⟩,?_⟩
 rintro⟨s,B,st,q⟩ ⟨r1,r2,r3,⟨r4,r4'⟩,r5,r6⟩
 dsimp only at r1 r2 r3 r4 r4' r5 r6 ⊢
 have hno (hn:q≤0∨jF i.p B i.inst i.sd i.price q=none):∃(o:MSt),i.r.left=q∧AObj.adt MSt (5:Nat) xR o=AObj.adt MSt (5:Nat) xR s∧List.map jV i.r.steps=List.map jV st∧o.Rep i.p i.r.B:=by
  rw[kU hn,yTl]at r6
  rw[r6];exact⟨s,rfl,rfl,rfl,r1⟩
 refine zL (fun c=> ?_) (fun c=>hno (.inl (by omega)))
 have c:0<q:=c
 refine⟨i.sd,rfl,trivial,fun _ _=>⟨⟨s,i.p,B,i.inst,!i.sd⟩,rfl,rfl,rfl,⟨r1,r2,h0,by dsimp only;omega⟩,fun _ _=> ?_⟩⟩
 dsimp only
 have hni:=m9 r2 r1.ords (inst:=i.inst) ⟨h0,by omega⟩ (dQ (!i.sd))
 have hsb:jF i.p B i.inst i.sd i.price q=(if((zW i.p B i.inst (zB (!i.sd))).2.2 && (jC i.sd i.price (zW i.p B i.inst (zB (!i.sd))).1.price && decide (1≤(zW i.p B i.inst (zB (!i.sd))).1.qty)))=true then
  if(zW i.p B i.inst (zB (!i.sd))).2.1=true then
   some (⟨(zW i.p B i.inst (zB (!i.sd))).1.price,min q (zW i.p B i.inst (zB (!i.sd))).1.qty,true,y3 i.p B (zW i.p B i.inst (zB (!i.sd))).1.a.inst (zW i.p B i.inst (zB (!i.sd))).1.a.side (min q (zW i.p B i.inst (zB (!i.sd))).1.qty)++y3 i.p (yY B (y3 i.p B (zW i.p B i.inst (zB (!i.sd))).1.a.inst (zW i.p B i.inst (zB (!i.sd))).1.a.side (min q (zW i.p B i.inst (zB (!i.sd))).1.qty))) (zW i.p B i.inst (zB (!i.sd))).1.b.inst (zW i.p B i.inst (zB (!i.sd))).1.b.side (min q (zW i.p B i.inst (zB (!i.sd))).1.qty)⟩,yY (yY B (y3 i.p B (zW i.p B i.inst (zB (!i.sd))).1.a.inst (zW i.p B i.inst (zB (!i.sd))).1.a.side (min q (zW i.p B i.inst (zB (!i.sd))).1.qty))) (y3 i.p (yY B (y3 i.p B (zW i.p B i.inst (zB (!i.sd))).1.a.inst (zW i.p B i.inst (zB (!i.sd))).1.a.side (min q (zW i.p B i.inst (zB (!i.sd))).1.qty))) (zW i.p B i.inst (zB (!i.sd))).1.b.inst (zW i.p B i.inst (zB (!i.sd))).1.b.side (min q (zW i.p B i.inst (zB (!i.sd))).1.qty)))
  else some (⟨(zW i.p B i.inst (zB (!i.sd))).1.price,min q (zW i.p B i.inst (zB (!i.sd))).1.qty,false,y3 i.p B i.inst (zB (!i.sd)) (min q (zW i.p B i.inst (zB (!i.sd))).1.qty)⟩,yY B (y3 i.p B i.inst (zB (!i.sd)) (min q (zW i.p B i.inst (zB (!i.sd))).1.qty)))else none):=rfl
 generalize zW i.p B i.inst (zB (!i.sd))=nb at hni hsb ⊢
 refine Cv.cnd.mk (fun n1=> ?_) (fun n1=>⟨⟨i.sd,i.price,nb.1.price⟩,rfl,rfl,rfl,trivial,fun _ _=>Cv.cnd.mk (fun n2=> ?_) (fun n2=> ?_)⟩)
 ·have n1:nb.2.2=false:=by simpa using n1
  rw[n1,ySj (by simp)]at hsb
  exact hno (.inr hsb)
 ·have n2:jC i.sd i.price nb.1.price=false:=by simpa using n2
  rw[n2,ySj (by simp)]at hsb
  exact hno (.inr hsb)
 have n1:nb.2.2=true:=by simpa using n1
 have n2:jC i.sd i.price nb.1.price=true:=by simpa using n2
 obtain⟨⟨b1,b2⟩,hi,hr⟩:=hni n1
 rw[n1,n2,yTd b1,ySk (by rfl)]at hsb
 have hk:yZ (min q nb.1.qty):=by constructor<;>omega
 have hsl:(st.length+1)*48≤70368744177664:=by omega
 have beh:∀(t:kM) (B':List (List zD)) (s':MSt),jF i.p B i.inst i.sd i.price q=some (t,B')→s'.Rep i.p B'→BOk i.p B'→B'.length=B.length→
  (s'.Rep i.p B'∧BOk i.p B'∧B'.length=i.B.length∧(0≤q-t.qty∧q-t.qty≤i.q)∧((st++[t]).length:Int)≤i.q-(q-t.qty)∧i.r=⟨(st++[t])++(xZ i.p B' i.inst i.sd i.price (q-t.qty)).steps,(xZ i.p B' i.inst i.sd i.price (q-t.qty)).left,(xZ i.p B' i.inst i.sd i.price (q-t.qty)).B⟩)∧(q-t.qty).toNat<q.toNat:=by
  intro t B' s' h1 h2 h3 h4
  have ht:=aY (by omega) h1
  refine⟨⟨h2,h3,by omega,⟨by omega,by omega⟩,by rw[ySr,yXb];omega,?_⟩,by omega⟩
  rw[cE (by omega) h1]at r6
  rw[r6,ySw];rfl
 refine Cv.cnd.mk (fun n3=> ?_) (fun n3=> ?_)
 ·obtain⟨_,ok⟩:=hi n3
  rw[n3,ySk rfl]at hsb
  have oka:=ok.a
  have okb:=ok.b
  rw[ySm]at oka okb
  have ea:=uI ok.sa
  have eb:=uI ok.sb
  refine⟨⟨s,i.p,B,nb.1.a.inst,decide (nb.1.a.side=2),min q nb.1.qty⟩,rfl,ea,rfl,rfl,⟨r1,r2,oka.1,oka.2,hk⟩,fun s1 hs1=> ?_⟩
  dsimp only at hs1 ⊢
  rw[ea]at hs1 ⊢
  have l1:=mM (p:=i.p) r1.ords nb.1.a.inst nb.1.a.side (min q nb.1.qty)
  have hB1:=r2.takes (fs:=y3 i.p B nb.1.a.inst nb.1.a.side (min q nb.1.qty))
  have l2:=mM (p:=i.p) hs1.ords nb.1.b.inst nb.1.b.side (min q nb.1.qty)
  refine⟨trivial,by rw[ySm];omega,⟨s1,i.p,yY B (y3 i.p B nb.1.a.inst nb.1.a.side (min q nb.1.qty)),nb.1.b.inst,decide (nb.1.b.side=2),min q nb.1.qty⟩,rfl,eb,rfl,rfl,⟨hs1,hB1,okb.1,by dsimp only;rw[qH];exact okb.2,hk⟩,fun s2 hs2=> ?_⟩
  dsimp only at hs2 ⊢
  rw[eb]at hs2 ⊢
  obtain⟨g1,g2⟩:=beh _ _ s2 hsb hs2 hB1.takes (by rw[qH,qH])
  refine⟨trivial,by rw[ySm,ySm];omega,by rw[ySm];exact hsl,⟨s2,_,st++[_],_⟩,?_,rfl,?_,g1,g2,by(repeat'(first|exact trivial|exact rfl|apply And.intro))⟩
  ·dsimp only;rw[w64 (by omega)]
  ·dsimp only
   rw[ySv,n3]
   simp[jV]
 ·rw[n3,ySj (by decide)]at hsb
  refine⟨i.sd,rfl,trivial,fun _ _=>⟨rfl,⟨s,i.p,B,i.inst,!i.sd,min q nb.1.qty⟩,rfl,rfl,rfl,rfl,⟨r1,r2,h0,by dsimp only;omega,hk⟩,fun s1 hs1=> ?_⟩⟩
  dsimp only at hs1 ⊢
  obtain⟨g1,g2⟩:=beh _ _ s1 hsb hs1 r2.takes (by rw[qH])
  refine⟨by rw[ySm];exact hsl,⟨s1,_,st++[_],_⟩,?_,rfl,?_,g1,g2,by(repeat'(first|exact trivial|exact rfl|apply And.intro))⟩
  ·dsimp only;rw[w64 (by omega)]
  ·dsimp only
   rw[ySv,n3]
   simp[jV]
theorem zZc:runC.ok Tryz.prog 56:=okw mixed (gokc yEw (gokc zQj (gokc zUa (gokc yBf gok0)))) 2 (fun _=>[]) (fun _=>yRo) [0] Tryz.func56 yRy
open Go Cv Go.Proofs
open Go Cv Go.Proofs
open Go Cv Go.Proofs
theorem yDy {L:List zD} {s id p q:Int} {o:zD} (h:o∈lE L s id p q):o.price=p∨∃o'∈L,o.price=o'.price:=by
 have key:∀X:List zD,(o∈X.takeWhile (before s p)++⟨id,s,p,q,uV L s p⟩::X.dropWhile (before s p))→o.price=p∨o∈X:=by
  intro X hX
  rcases yTp.1 hX with hX|hX
  ·exact .inr (List.takeWhile_sublist _|>.subset hX)
  ·rcases yTb.1 hX with rfl|hX
   ·exact .inl rfl
   ·exact .inr (List.dropWhile_sublist _|>.subset hX)
 rw[lE]at h
 split at h
 ·rcases key _ h with h|h
  ·exact .inl h
  ·obtain⟨o',ho',_,_,e,_⟩:=z2h h
   exact .inr ⟨o',ho',e⟩
 ·rcases key _ h with h|h
  ·exact .inl h
  ·exact .inr ⟨o,h,rfl⟩
theorem BOk.add {p:Prd} {B:List (List zD)} (h:BOk p B) (inst id s price q:Int):BOk p (rF p B inst id s price q).1:=by
 rw[rF]
 split
 ·exact h
 split
 ·exact h
 split
 ·exact h
 split
 ·exact h
 rename_i c1 _ _ c4
 have c4:p.price inst price=0:=by simpa using c4
 refine⟨h.pc,h.ps,by simpa using h.bl,fun k L hL o ho=> ?_⟩
 dsimp only at hL
 rcases vG hL with⟨rfl,rfl⟩|⟨_,hL⟩
 ·obtain⟨L',hL'⟩:=z9 (l:=B) (i:=inst.toNat) (by omega)
  rw[zH hL',rB]at ho
  have e:((inst.toNat:Nat):Int)=inst:=by omega
  repeat' split at ho
  ·exact h.pr _ L' hL' o ho
  ·exact h.pr _ L' hL' o ho
  ·exact h.pr _ L' hL' o ho
  ·rcases yDy ho with h1|⟨o',ho',h1⟩
   ·rw[h1,e];exact c4
   ·rw[h1];exact h.pr _ L' hL' o' ho'
 ·exact h.pr k L hL o ho
theorem BOk.new {p:Prd} (hc:p.check=0) (hp:p.small):BOk p (List.replicate p.count []):=by
 refine⟨hc,hp,by simp,fun k L hL o ho=> ?_⟩
 rw[yVx (ySt hL)]at ho
 cases ho
theorem MSt.Rep.fit {s:MSt} {p:Prd} {B:List (List zD)} (h:s.Rep p B) (hb:BOk p B):s.fit:=by
 have:=xQ p
 refine⟨by rw[h.ep];exact hb.ps,by rw[h.bl,hb.bl];omega,fun b hm=> ?_⟩
 obtain⟨k,hk⟩:=yUn.1 hm
 have hlt:=(ySl.1 hk).1
 rw[h.bl]at hlt
 obtain⟨L,hL⟩:=z9 hlt
 exact(h.bk k b L hk hL).fit
open Go Cv Go.Proofs
def zNh (r:Nat):Bool:=decide (32≤r) && decide (r≠127) && decide (r≠65533)
def cH (s:List UInt8):Bool:=(kX s).all zNh && decide (1≤(kX s).length) && decide ((kX s).length≤12)
def labC:Con:=con1 (List UInt8) (fun s=>[sV s]) (fun _=>[]) (fun s=>s.length≤140737488355328) (fun s=>yP (cH s)) (fun _=>[])
def yRs (s:List UInt8):List SAnn:=[{ι:=Nat×Nat,slots:=fun x=>[(3,zA x.2),(7,.nm 0 0)],rows:=fun x=>[.iter (sb s) x.1]}]
def dB (n:Int):Bool:=decide (-2000000≤n) && decide (n≤2000000)
def wV (n:Int):Bool:=decide (1≤n) && decide (n≤1000000)
def Cmd.orderE (c:Cmd):Int:=
 if c.side≠1∧c.side≠2 then 21 else if c.time<1∨3<c.time then 27 else if wV c.qty=false then 24 else if c.least<0∨c.qty<c.least then 28
 else if c.label≠[]∧cH c.label=false then 29 else if dB c.price=false then 23 else if c.inst<0∨255<c.inst then 20 else 0
def Cmd.right (c:Cmd):Int:=
 if c.kind<1∨4<c.kind then 31 else if c.id<1∨1099511627776<c.id then 1 else if c.kind=1 then c.orderE
 else if c.kind≠2∧wV c.qty=false then 24 else if c.kind=4∧dB c.price=false then 23 else 0
def cmdOrdC:Con:=con1 Cmd (fun c=>[zNj c]) (fun _=>[]) (fun c=>c.label.length≤140737488355328) (fun c=>zA c.orderE) (fun _=>[])
def cmdRtC:Con:=con1 Cmd (fun c=>[zNj c]) (fun _=>[]) (fun c=>c.label.length≤140737488355328) (fun c=>zA c.right) (fun _=>[])
open Go Cv Go.Proofs
def yOm (s:List UInt8):Prop:=
 ∃(a:Nat×Nat),(↑a.snd:Int)=0∧sb s=sb s∧a.fst=0∧∃(b:Nat×Nat→Prop),∃(c:Nat×Nat→Nat),b a∧∀(d:Nat×Nat),b d→cnd (d.fst.blt (sb s).size) (cnd (decide ((qE s d)<32)) (∃(e:Unit),cH s=false∧True) (cnd ((qE s d)==127) (∃(e:Unit),cH s=false∧True) (cnd ((qE s d)==65533) (∃(e:Unit),cH s=false∧True) (dN d s b c)))) (cnd (decide ((↑d.snd:Int)≥1)) (∃(e:Unit),cH s=decide ((↑d.snd:Int)≤12)∧True) (∃(e:Unit),cH s=false∧True))
def zFt (a:Cmd):Prop:=∃(b:List UInt8),sb b=sb a.label∧b.length≤140737488355328∧∀(c:Unit),True→cnd (!cH b) (∃(d:Unit),a.orderE=29∧True) (cnd (decide (a.price≥(-2000000))) (cnd (!decide (a.price≤2000000)) (∃(d:Unit),a.orderE=23∧True) (cnd (decide (a.inst<0)) (∃(d:Unit),a.orderE=20∧True) (cnd (decide (a.inst>255)) (∃(d:Unit),a.orderE=20∧True) (∃(d:Unit),a.orderE=0∧True)))) (∃(d:Unit),a.orderE=23∧True))
def yIz (c:Cmd):Prop:=
 cnd (c.side !=1) (cnd (c.side !=2) (∃(a:Unit),c.orderE=21∧True) (cnd (decide (c.time<1)) (∃(a:Unit),c.orderE=27∧True) (cnd (decide (c.time>3)) (∃(a:Unit),c.orderE=27∧True) (cnd (decide (c.qty≥1)) (cnd (!decide (c.qty≤1000000)) (∃(a:Unit),c.orderE=24∧True) (cnd (decide (c.least<0)) (∃(a:Unit),c.orderE=28∧True) (cnd (decide (c.least>c.qty)) (∃(a:Unit),c.orderE=28∧True) (cnd (!(sb c.label).toList==(ByteArray.mk #[]).toList) (zFt c) (cnd (decide (c.price≥(-2000000))) (cnd (!decide (c.price≤2000000)) (∃(a:Unit),c.orderE=23∧True) (cnd (decide (c.inst<0)) (∃(a:Unit),c.orderE=20∧True) (cnd (decide (c.inst>255)) (∃(a:Unit),c.orderE=20∧True) (∃(a:Unit),c.orderE=0∧True)))) (∃(a:Unit),c.orderE=23∧True)))))) (∃(a:Unit),c.orderE=24∧True))))) (cnd (decide (c.time<1)) (∃(a:Unit),c.orderE=27∧True) (cnd (decide (c.time>3)) (∃(a:Unit),c.orderE=27∧True) (cnd (decide (c.qty≥1)) (cnd (!decide (c.qty≤1000000)) (∃(a:Unit),c.orderE=24∧True) (cnd (decide (c.least<0)) (∃(a:Unit),c.orderE=28∧True) (cnd (decide (c.least>c.qty)) (∃(a:Unit),c.orderE=28∧True) (cnd (!(sb c.label).toList==(ByteArray.mk #[]).toList) (zFt c) (cnd (decide (c.price≥(-2000000))) (cnd (!decide (c.price≤2000000)) (∃(a:Unit),c.orderE=23∧True) (cnd (decide (c.inst<0)) (∃(a:Unit),c.orderE=20∧True) (cnd (decide (c.inst>255)) (∃(a:Unit),c.orderE=20∧True) (∃(a:Unit),c.orderE=0∧True)))) (∃(a:Unit),c.orderE=23∧True)))))) (∃(a:Unit),c.orderE=24∧True))))
def yCx (c:Cmd):Prop:=
 cnd (decide (c.kind<1)) (∃(a:Unit),c.right=31∧True) (cnd (decide (c.kind>4)) (∃(a:Unit),c.right=31∧True) (cnd (decide (c.id<1)) (∃(a:Unit),c.right=1∧True) (cnd (decide (c.id>1099511627776)) (∃(a:Unit),c.right=1∧True) (cnd (c.kind==1) (∃(a:Cmd),a.kind=c.kind∧a.id=c.id∧a.inst=c.inst∧a.side=c.side∧a.price=c.price∧a.qty=c.qty∧a.least=c.least∧a.time=c.time∧sb a.label=sb c.label∧a.label.length≤140737488355328∧∀(b:Unit),True→∃(d:Unit),c.right=a.orderE∧True) (cnd (c.kind !=2) (cnd (decide (c.qty≥1)) (cnd (!decide (c.qty≤1000000)) (∃(a:Unit),c.right=24∧True) (cnd (c.kind==4) (cnd (decide (c.price≥(-2000000))) (cnd (!decide (c.price≤2000000)) (∃(a:Unit),c.right=23∧True) (∃(a:Unit),c.right=0∧True)) (∃(a:Unit),c.right=23∧True)) (∃(a:Unit),c.right=0∧True))) (∃(a:Unit),c.right=24∧True)) (cnd (c.kind==4) (cnd (decide (c.price≥(-2000000))) (cnd (!decide (c.price≤2000000)) (∃(a:Unit),c.right=23∧True) (∃(a:Unit),c.right=0∧True)) (∃(a:Unit),c.right=23∧True)) (∃(a:Unit),c.right=0∧True)))))))
open Go Cv Go.Proofs
theorem yRn (s:List UInt8) (h:labC.cnd s):yOm s:=by
 have h:s.length≤140737488355328:=h
 have hr:=zFq s
 unfold yOm qE dN
 refine⟨(0,0),rfl,rfl,rfl,fun x=>x.1≤s.length∧x.2+(gH s x.1).length=(kX s).length∧(kX s).all zNh=(gH s x.1).all fun x=>zNh x.2,fun x=>s.length-x.1,⟨by omega,by rw[kX,ySm];simp,by rw[kX,List.all_map];rfl⟩,?_⟩
 rintro⟨p,n⟩ ⟨h1,h2,h3⟩
 dsimp only at h1 h2 h3 ⊢
 refine Cv.cnd.mk (fun hp=> ?_) (fun hp=> ?_)
 ·have hp:p<s.length:=by simpa[yVn]using hp
  have hw:=b8 s hp
  rw[j9 hp,yTc]at h2
  rw[j9 hp,List.all_cons]at h3
  generalize hc:(Utf8.decode (sb s) p).1=c at h2 h3 ⊢
  generalize hww:(Utf8.decode (sb s) p).2=w at h2 h3 hw ⊢
  dsimp only at h3
  have bad:zNh c=false→∃(o:Unit),cH s=false∧True:=fun e=>⟨(),by rw[cH,h3,e];rfl,trivial⟩
  refine zL (fun c1=>bad ?_) (fun c1=>Cv.cnd.mk (fun c2=>bad ?_) (fun c2=>Cv.cnd.mk (fun c3=>bad ?_) (fun c3=> ?_)))
  ·simp[zNh];omega
  ·have c2:(c:Int)=127:=by simpa using c2
   simp[zNh];omega
  ·have c3:(c:Int)=65533:=by simpa using c3
   simp[zNh];omega
  ·have c2:¬(c:Int)=127:=by simpa using c2
   have c3:¬(c:Int)=65533:=by simpa using c3
   have e:zNh c=true:=by simp[zNh];omega
   refine⟨(p+w,n+1),?_,rfl,rfl,⟨hw.2,by(first|omega|(dsimp only;omega)),by rw[h3,e];rfl⟩,by(first|omega|(dsimp only;omega)),trivial⟩
   rw[w64 (by omega)];rfl
 ·have hp:s.length≤p:=by have:=z2w hp;simpa using this
  rw[dC hp]at h2 h3
  have h2:n=(kX s).length:=h2
  have h3:(kX s).all zNh=true:=h3
  refine zL (fun c=>⟨(),?_,trivial⟩) (fun c=>⟨(),?_,trivial⟩)
  ·rw[cH,h3,← h2,yTd (show 1≤n by omega)]
   simp only[yTr]
   congr 1
   simp only[eq_iff_iff];omega
  ·rw[cH,← h2,ySu (show ¬1≤n by omega)];simp
theorem yNq:labC.ok Tryz.prog 96:=okw mixed gok0 0 (fun _=>[]) (fun s=>yRs s) [] Tryz.func96 yRn
theorem yRl (a b:Int):(a==b)=decide (a=b):=by
 by_cases h:a=b
 ·subst h;simp
 ·simp[h]
theorem yQu (a b:Int):(a !=b)=decide (a≠b):=by
 by_cases h:a=b
 ·subst h;simp
 ·simp[h]
theorem eqB (a b:List UInt8):((sb a).toList==(sb b).toList)=decide (a=b):=by
 rw[mK,mK]
 by_cases h:a=b
 ·subst h;simp
 ·simp[h]
theorem yKu:ByteArray.mk #[]=sb []:=rfl
theorem yQf (c:Cmd) (h:cmdOrdC.cnd c):yIz c:=by
 have h:c.label.length≤140737488355328:=h
 unfold yIz zFt
 simp only[yKu,eqB,yQu]
 have tail:¬(c.side≠1∧c.side≠2)→cnd (decide (c.time<1)) (∃(o:Unit),c.orderE=27∧True) (cnd (decide (c.time>3)) (∃(o:Unit),c.orderE=27∧True) (cnd (decide (c.qty≥1)) (cnd (!decide (c.qty≤1000000)) (∃(o:Unit),c.orderE=24∧True) (cnd (decide (c.least<0)) (∃(o:Unit),c.orderE=28∧True) (cnd (decide (c.least>c.qty)) (∃(o:Unit),c.orderE=28∧True) (cnd (!decide (c.label=[])) (∃(i:List UInt8),sb i=sb c.label∧i.length≤140737488355328∧∀(o:Unit),True→cnd (!cH i) (∃(o:Unit),c.orderE=29∧True) (cnd (decide (c.price≥-2000000)) (cnd (!decide (c.price≤2000000)) (∃(o:Unit),c.orderE=23∧True) (cnd (decide (c.inst<0)) (∃(o:Unit),c.orderE=20∧True) (cnd (decide (c.inst>255)) (∃(o:Unit),c.orderE=20∧True) (∃(o:Unit),c.orderE=0∧True)))) (∃(o:Unit),c.orderE=23∧True))) (cnd (decide (c.price≥-2000000)) (cnd (!decide (c.price≤2000000)) (∃(o:Unit),c.orderE=23∧True) (cnd (decide (c.inst<0)) (∃(o:Unit),c.orderE=20∧True) (cnd (decide (c.inst>255)) (∃(o:Unit),c.orderE=20∧True) (∃(o:Unit),c.orderE=0∧True)))) (∃(o:Unit),c.orderE=23∧True)))))) (∃(o:Unit),c.orderE=24∧True))):=by
  intro hs
  have e1:c.orderE=if c.time<1∨3<c.time then 27 else if wV c.qty=false then 24 else if c.least<0∨c.qty<c.least then 28
   else if c.label≠[]∧cH c.label=false then 29 else if dB c.price=false then 23 else if c.inst<0∨255<c.inst then 20 else 0:=by rw[Cmd.orderE,ySj hs]
  refine zL (fun d1=>⟨(),by rw[e1,ySk (.inl d1)],trivial⟩) fun d1=>zL (fun d2=>⟨(),by rw[e1,ySk (.inr d2)],trivial⟩) fun d2=> ?_
  rw[ySj (by omega)]at e1
  have q (hq:wV c.qty=false):∃(o:Unit),c.orderE=24∧True:=⟨(),by rw[e1,ySk hq],trivial⟩
  refine zL (fun d3=>Cv.cnd.mk (fun d4=>q ?_) fun d4=> ?_) fun d3=>q ?_
  ·have d4:¬c.qty≤1000000:=by simpa using d4
   simp[wV,d4]
  ·have d4:c.qty≤1000000:=by simpa using d4
   have hq:¬wV c.qty=false:=by simp[wV,d4];omega
   rw[ySj hq]at e1
   refine zL (fun d5=>⟨(),by rw[e1,ySk (.inl d5)],trivial⟩) fun d5=>zL (fun d6=>⟨(),by rw[e1,ySk (.inr d6)],trivial⟩) fun d6=> ?_
   rw[ySj (by omega)]at e1
   have last:¬(c.label≠[]∧cH c.label=false)→cnd (decide (c.price≥-2000000)) (cnd (!decide (c.price≤2000000)) (∃(o:Unit),c.orderE=23∧True) (cnd (decide (c.inst<0)) (∃(o:Unit),c.orderE=20∧True) (cnd (decide (c.inst>255)) (∃(o:Unit),c.orderE=20∧True) (∃(o:Unit),c.orderE=0∧True)))) (∃(o:Unit),c.orderE=23∧True):=by
    intro hl
    rw[ySj hl]at e1
    have pr (hq:dB c.price=false):∃(o:Unit),c.orderE=23∧True:=⟨(),by rw[e1,ySk hq],trivial⟩
    refine zL (fun g1=>Cv.cnd.mk (fun g2=>pr ?_) fun g2=> ?_) fun g1=>pr ?_
    ·have g2:¬c.price≤2000000:=by simpa using g2
     simp[dB,g2]
    ·have g2:c.price≤2000000:=by simpa using g2
     have hp:¬dB c.price=false:=by simp[dB,g2];omega
     rw[ySj hp]at e1
     refine zL (fun g3=>⟨(),by rw[e1,ySk (.inl g3)],trivial⟩) fun g3=>zL (fun g4=>⟨(),by rw[e1,ySk (.inr g4)],trivial⟩) fun g4=>⟨(),by rw[e1,ySj (by omega)],trivial⟩
    ·simp[dB];omega
   refine Cv.cnd.mk (fun d7=>⟨c.label,rfl,h,fun _ _=>Cv.cnd.mk (fun d8=> ?_) fun d8=>last ?_⟩) fun d7=>last ?_
   ·have d7:¬c.label=[]:=by simpa using d7
    have d8:cH c.label=false:=by simpa using d8
    exact⟨(),by rw[e1,ySk ⟨d7,d8⟩],trivial⟩
   ·have d8:cH c.label=true:=by simpa using d8
    simp[d8]
   ·have d7:c.label=[]:=by simpa using d7
    simp[d7]
  ·simp[wV];omega
 refine zL (fun c1=>zL (fun c2=>⟨(),by rw[Cmd.orderE,ySk ⟨c1,c2⟩],trivial⟩) fun c2=>tail ?_) fun c1=>tail ?_
 ·omega
 ·omega
theorem yHi:cmdOrdC.ok Tryz.prog 69:=okw mixed (gokc yNq gok0) 1 (fun _=>[]) (fun _=>[]) [] Tryz.func69 yQf
theorem yNf (c:Cmd) (h:cmdRtC.cnd c):yCx c:=by
 have h:c.label.length≤140737488355328:=h
 unfold yCx
 simp only[yRl,yQu]
 refine zL (fun c1=>⟨(),by rw[Cmd.right,ySk (.inl c1)],trivial⟩) fun c1=>zL (fun c2=>⟨(),by rw[Cmd.right,ySk (.inr c2)],trivial⟩) fun c2=> ?_
 refine zL (fun c3=>⟨(),by rw[Cmd.right,ySj (by omega),ySk (.inl c3)],trivial⟩) fun c3=>zL (fun c4=>⟨(),by rw[Cmd.right,ySj (by omega),ySk (.inr c4)],trivial⟩) fun c4=> ?_
 have e0:c.right=if c.kind=1 then c.orderE else if c.kind≠2∧wV c.qty=false then 24 else if c.kind=4∧dB c.price=false then 23 else 0:=by rw[Cmd.right,ySj (by omega),ySj (by omega)]
 refine zL (fun c5=>⟨c,?_⟩) fun c5=> ?_
 ·rw[ySk c5]at e0
  exact kp
 rw[ySj c5]at e0
 have last (hn:¬(c.kind≠2∧wV c.qty=false)):cnd (decide (c.kind=4)) (cnd (decide (c.price≥-2000000)) (cnd (!decide (c.price≤2000000)) (∃(o:Unit),c.right=23∧True) (∃(o:Unit),c.right=0∧True)) (∃(o:Unit),c.right=23∧True)) (∃(o:Unit),c.right=0∧True):=by
  rw[ySj hn]at e0
  refine zL (fun d1=>zL (fun d2=>Cv.cnd.mk (fun d3=> ?_) fun d3=> ?_) fun d2=> ?_) fun d1=> ?_
  ·have d3:¬c.price≤2000000:=by simpa using d3
   exact⟨(),by rw[e0,ySk ⟨d1,by simp[dB,d3]⟩],trivial⟩
  ·have d3:c.price≤2000000:=by simpa using d3
   exact⟨(),by rw[e0,ySj (by simp[dB,d3];omega)],trivial⟩
  ·exact⟨(),by rw[e0,ySk ⟨d1,by simp[dB];omega⟩],trivial⟩
  ·exact⟨(),by rw[e0,ySj (by simp[d1])],trivial⟩
 refine zL (fun d1=>zL (fun d2=>Cv.cnd.mk (fun d3=> ?_) fun d3=>last ?_) fun d2=> ?_) fun d1=>last ?_
 ·have d3:¬c.qty≤1000000:=by simpa using d3
  exact⟨(),by rw[e0,ySk ⟨d1,by simp[wV,d3]⟩],trivial⟩
 ·have d3:c.qty≤1000000:=by simpa using d3
  simp[wV,d3];omega
 ·exact⟨(),by rw[e0,ySk ⟨d1,by simp[wV];omega⟩],trivial⟩
 ·omega
theorem z9t:cmdRtC.ok Tryz.prog 38:=okw mixed (gokc yHi gok0) 1 (fun _=>[]) (fun _=>[]) [] Tryz.func38 yNf
open Go Cv Go.Proofs
structure SoI where
 s:MSt
 p:Prd
 B:List (List zD)
 inst:Int
 sd:Bool
@[reducible] def SoI.ok (i:SoI):Prop:=i.s.Rep i.p i.B∧i.B.length≤1000
open Go Cv Go.Proofs
open Go Cv Go.Proofs
open Go Cv Go.Proofs
def zBe (s:Int) (F:List zD):Prop:=F.Pairwise fun o o'=>btr s o'.price o.price=false
def kV (L:List zD) (s:Int):List zD:=L.filter fun o=>decide (o.side=s)
structure BWf (p:Prd) (B:List (List zD)):Prop where
 ok:BOk p B
 od:yFu B
 ub:((whL 0 B).map (·.1)).Nodup
 srt:∀(k:Nat) (L:List zD),B[k]? =some L→∀s,s=1∨s=2→zBe s (kV L s)
theorem yDt {s x y:Int} (h:btr s y x=false) (h2:btr s x y=false):x=y:=by
 rw[btr]at h h2
 split at h
 ·rename_i e;rw[ySk e]at h2;have:=yWb h;have:=yWb h2;omega
 ·rename_i e;rw[ySj e]at h2;have:=yWb h;have:=yWb h2;omega
theorem zXn {s:Int} {b:Book} {Q:List (List Nat)}:∀{R:List xM},(R.Pairwise fun r r'=>btr s r.price r'.price=true)→zBe s (R.flatMap (b.rOrds Q s))
 |[],_=>List.Pairwise.nil
 |r::R,h=>by
  rw[yWl]at h
  rw[yUa,zBe,List.pairwise_append]
  refine⟨List.pairwise_of_forall_mem_list fun o ho o' ho'=> ?_,zXn h.2,fun o ho o' ho'=> ?_⟩
  ·rw[(qI ho).2,(qI ho').2];exact pD _ _
  ·obtain⟨r',hr',ho'⟩:=yUj.1 ho'
   rw[(qI ho).2,(qI ho').2];exact zWv (h.1 r' hr')
theorem Book.Rep.srt {b:Book} {L:List zD} (h:b.Rep L) {s:Int} (hs:s=1∨s=2):zBe s (kV L s):=by
 obtain⟨Q,c,ht,rfl⟩:=h
 rw[kV,zPd hs]
 exact zXn (c.srt s hs)
theorem MSt.Rep.wf {s:MSt} {p:Prd} {B:List (List zD)} (h:s.Rep p B) (hb:BOk p B):BWf p B:=by
 refine⟨hb,h.ords,h.ids,fun k L hL=> ?_⟩
 obtain⟨b,hb⟩:=z9 (l:=s.books) (i:=k) (by rw[h.bl];exact(ySl.1 hL).1)
 exact fun s hs=>(h.bk k b L hb hL).srt hs
theorem z7w {L:List zD} (h:∀o∈L,zJa o) (hn:(L.map (·.id)).Nodup) (id q:Int):∀o∈(xU L id q).1,zJa o:=by
 intro o ho
 rw[xU]at ho
 split at ho
 ·exact h o ho
 split at ho
 ·exact h o ho
 rename_i hb
 obtain⟨o',ho',e⟩:=yWa.1 ho
 have h0:=h o' ho'
 split at e
 ·rename_i e1
  have hg:=vX hn ho'
  rw[e1]at hg
  rw[hg]at hb
  split at e
  ·cases e
  ·rename_i e2
   cases e
   have:=h0.q
   exact⟨h0.s,by dsimp only;omega⟩
 ·cases e;exact h0
theorem z8x (L:List zD) (id q:Int):(xU L id q).1.length≤L.length:=by
 rw[xU]
 split
 ·exact yTj _
 split
 ·exact yTj _
 exact List.length_filterMap_le _ _
theorem z9y {L:List zD} {s:Int} (h:zBe s (kV L s)) (id q:Int):zBe s (kV (xU L id q).1 s):=by
 rw[xU]
 split
 ·exact h
 split
 ·exact h
 have e:kV (yS L id q) s=yS (kV L s) id q:=by
  rw[kV,kV,yS,yS,List.filter_filterMap,List.filterMap_filter]
  refine vV fun o _=> ?_
  by_cases e1:o.id=id
  ·rw[ySk e1]
   by_cases e2:o.qty=q
   ·rw[ySk e2];simp
   ·rw[ySj e2];by_cases e3:o.side=s<;>simp[Option.filter,e3]
  ·rw[ySj e1];by_cases e3:o.side=s<;>simp[Option.filter,e3]
 rw[e,yS]
 refine List.Pairwise.filterMap _ (fun a a' haa b hb b' hb'=> ?_) h
 have g:∀{a b:zD},(if a.id=id then(if a.qty=q then none else some {a with qty:=a.qty-q})else some a)=some b→b.price=a.price:=by
  intro a b e
  split at e
  ·split at e
   ·cases e
   ·cases e;rfl
  ·cases e;rfl
 rw[g hb,g hb'];exact haa
theorem yFz {B:List (List zD)} (h:((whL 0 B).map (·.1)).Nodup) {k:Nat} {L L':List zD} (hL:B[k]? =some L) (hs:(L'.map (·.id)).Sublist (L.map (·.id))):((whL 0 (B.set k L')).map (·.1)).Nodup:=by
 have hk:=(ySl.1 hL).1
 obtain⟨rest,hr⟩:=zIi (B:=B) 0 k hk
 have h0:=hr L
 rw[kK hL]at h0
 have h1:=(h0.map (·.1)).nodup_iff.1 h
 refine((hr L').map (·.1)).nodup_iff.2 ?_
 rw[ySv,yVc]at h1 ⊢
 exact h1.sublist (List.Sublist.append hs (List.Sublist.refl _))
theorem BWf.take {p:Prd} {B:List (List zD)} (h:BWf p B) (id q:Int):BWf p (yU B id q).1:=by
 refine⟨h.ok.take id q,?_,?_,?_⟩
 all_goals
  rw[yU]
  cases hi:g7 B id with
  |none=>first|exact h.od|exact h.ub|exact h.srt
  |some k=>
   obtain⟨L,hL,hh⟩:=xK hi
   have ho:=h.od k L hL
   dsimp only
   rw[zH hL]
   first
   |(intro j M hM
     rcases vG hM with⟨rfl,rfl⟩|⟨_,hM⟩
     ·refine⟨z7w ho.1 ho.2.1 id q,?_,yVg (z8x L id q) ho.2.2⟩
      rcases zJi ho.2.1 id q with⟨e,_⟩|⟨e,_⟩
      ·rw[e];exact ho.2.1
      ·rw[e];exact ho.2.1.sublist (List.Sublist.map _ yVu)
     ·exact h.od j M hM)
   |(refine yFz h.ub hL ?_
     rcases zJi ho.2.1 id q with⟨e,_⟩|⟨e,_⟩
     ·rw[e];exact List.Sublist.refl _
     ·rw[e];exact List.Sublist.map _ yVu)
   |(intro j M hM s hs
     rcases vG hM with⟨rfl,rfl⟩|⟨_,hM⟩
     ·exact z9y (h.srt _ L hL s hs) id q
     ·exact h.srt j M hM s hs)
theorem BWf.takes {p:Prd}:∀{fs:List vD} {B:List (List zD)},BWf p B→BWf p (yY B fs)
 |[],B,h=>h
 |f::fs,B,h=>BWf.takes (fs:=fs) (h.take f.id f.qty)
theorem BWf.inst {p:Prd} {B:List (List zD)} (h:BWf p B) {k:Nat} {L:List zD} (hL:B[k]? =some L) {id:Int} (hid:id∈L.map (·.id)):g7 B id=some k:=by
 cases hi:g7 B id with
 |none=>
  have:=lO hi L (ySt hL)
  rw[hasId_iff.2 hid]at this;cases this
 |some j=>
  obtain⟨M,hM,hh⟩:=xK hi
  rw[zIx h.ub hM hL (hasId_iff.1 hh) hid]
theorem zDh {s:Int} {F:List zD} (hs:zBe s F) {v:Lv} {vs:List Lv} (h:grp F=v::vs):
 v=zNl v.price (F.filter fun o=>decide (o.price=v.price))∧vs=grp (F.filter fun o=> !decide (o.price=v.price))∧∀o∈F,btr s o.price v.price=false:=by
 obtain⟨o,r,rfl,he⟩:=rQ h
 rw[zBe,yWl]at hs
 have key:∀(r:List zD),(∀x∈r,btr s x.price o.price=false)→zBe s r→r=r.filter (fun x=>decide (x.price=o.price))++r.filter fun x=> !decide (x.price=o.price):=by
  intro r
  induction r with
  |nil=>intro _ _;rfl
  |cons x r ih=>
   intro h1 h2
   rw[zBe,yWl]at h2
   by_cases e:x.price=o.price
   ·rw[yVq (by simpa using e),yVr (by simpa using e),yTy,← ih (fun y hy=>h1 y (ySq _ hy)) h2.2]
   ·have h3:∀y∈r,¬y.price=o.price:=by
     intro y hy e2
     have a:=h2.1 y hy
     have b:=h1 x ySp
     rw[e2]at a
     exact e (yDt a b)
    rw[yVr (by simpa using e),yVq (by simpa using e)]
    have e1:r.filter (fun x=>decide (x.price=o.price))=[]:=by
     rw[yXy];intro y hy;simpa using h3 y hy
    have e2:r.filter (fun x=> !decide (x.price=o.price))=r:=by
     rw[yWq];intro y hy;simpa using h3 y hy
    rw[e1,e2,yUy]
 have hk:=key r hs.1 hs.2
 rw[← he]
 have hf1:(o::r).filter (fun x=>decide (x.price=o.price))=o::r.filter fun x=>decide (x.price=o.price):=yVq (by simp)
 have hf2:(o::r).filter (fun x=> !decide (x.price=o.price))=r.filter fun x=> !decide (x.price=o.price):=yVr (by simp)
 rw[hf1,hf2]
 have hg:grp (o::r)=zNl o.price (o::r.filter fun x=>decide (x.price=o.price))::grp (r.filter fun x=> !decide (x.price=o.price)):=by
  conv=>lhs;rw[hk]
  refine zTc (l:=o::r.filter fun x=>decide (x.price=o.price)) (by simp) (fun x hx=> ?_) (fun x y e=> ?_)
  ·rcases yTb.1 hx with rfl|hx
   ·rfl
   ·simpa using(yTu.1 hx).2
  ·have:x∈r.filter fun x=> !decide (x.price=o.price):=by rw[e];exact ySp
   simpa using(yTu.1 this).2
 rw[h]at hg
 cases hg
 refine⟨rfl,rfl,fun x hx=> ?_⟩
 rcases yTb.1 hx with rfl|hx
 ·exact pD _ _
 ·exact hs.1 x hx
theorem z8f (L:List zD) (s p:Int):atL L s p=(kV L s).filter fun o=>decide (o.price=p):=by
 rw[atL,kV,List.filter_filter]
 refine List.filter_congr fun o _=> ?_
 exact Bool.and_comm _ _
open Go Cv Go.Proofs
theorem sY {p:Prd} {B:List (List zD)} (h:BWf p B) {inst:Int} {sd:Bool} {price q:Int} {t:kM} {B':List (List zD)} (e:jF p B inst sd price q=some (t,B')):BWf p B'∧B'.length=B.length:=by
 rw[jF]at e
 dsimp only at e
 split at e
 ·split at e
  ·cases e;exact⟨h.takes.takes,by rw[qH,qH]⟩
  ·cases e;exact⟨h.takes,by rw[qH]⟩
 ·cases e
theorem cI {p:Prd} {inst:Int} {sd:Bool} {price:Int}:∀(m:Nat) (q:Int) (B:List (List zD)),q.toNat≤m→BWf p B→BWf p (xZ p B inst sd price q).B∧(xZ p B inst sd price q).B.length=B.length∧(0≤q→0≤(xZ p B inst sd price q).left∧(xZ p B inst sd price q).left≤q)
 |m,q,B,hm,h=>by
  by_cases hq:q≤0
  ·rw[kU (.inl hq)]
   exact⟨h,rfl,fun x=>⟨x,yWf _⟩⟩
  cases hs:jF p B inst sd price q with
  |none=>
   rw[kU (.inr hs)]
   exact⟨h,rfl,fun x=>⟨x,yWf _⟩⟩
  |some x=>
   obtain⟨t,C⟩:=x
   obtain⟨k1,k2⟩:=sY h hs
   have hq2:=aY (by omega) hs
   cases m with
   |zero=>omega
   |succ m=>
   obtain⟨i1,i2,i3⟩:=cI (p:=p) (inst:=inst) (sd:=sd) (price:=price) m (q-t.qty) C (by omega) k1
   rw[cE (by omega) hs]
   exact⟨i1,i2.trans k2,fun _=>⟨(i3 (by omega)).1,by dsimp only;have:=(i3 (by omega)).2;omega⟩⟩
open Go Cv Go.Proofs
@[reducible] def RunI.ok (i:RunI):Prop:=i.s.Rep i.p i.B∧BOk i.p i.B∧(0≤i.inst∧i.inst<i.B.length)∧1≤i.q∧i.q≤1000000
def scouldC:Con:=con1 RunI (fun i=>[.nm 0 0,zA i.inst,zA (zB i.sd),zA i.price,zA i.q]) (fun i=>[zE i.s]) (fun i=>i.ok) (fun i=>zA (i.q-i.r.left)) (fun i=>[zE i.s])
def dJ (p:Prd) (B:List (List zD)) (inst:Int) (sd:Bool) (price q:Int):Bool:=
 decide ((xZ p B inst sd price q).left≠0) && (qC ⟨p,(xZ p B inst sd price q).B.map xF,inst⟩ (zB (!sd))).any fun x=>jC sd price x.price
def stuckC:Con:=con1 RunI (fun i=>[.nm 0 0,zA i.inst,zA (zB i.sd),zA i.price,zA i.q]) (fun i=>[zE i.s]) (fun i=>i.ok) (fun i=>yP (dJ i.p i.B i.inst i.sd i.price i.q)) (fun i=>[zE i.s])
def zNd (B:List (List zD)):Nat:=(whL 0 B).length
def countC16:Con:=con1 SoI (fun i=>[.nm 0 0]) (fun i=>[zE i.s]) (fun i=>i.ok) (fun i=>zA (zNd i.B)) (fun i=>[zE i.s])
def fE (p:Prd) (inst price:Int):Int×Int×Int:=
 if(p.legs inst).2.2=false then(0,0,20)else if p.price inst price≠0 then(0,0,p.price inst price)else
 let far:=p.settle.getD (p.legs inst).2.1.toNat 0
 let a:=if p.high<far+price then(p.high,p.high-price)else(far+price,far)
 if a.1<p.low then(p.low,p.low-price,0)else(a.1,a.2,0)
structure LpI where
 p:Prd
 inst:Int
 price:Int
def lpricesC:Con:=con1 LpI (fun i=>[prdV i.p,zA i.inst,zA i.price]) (fun _=>[]) (fun i=>i.p.check=0∧i.p.small∧yZ i.price) (fun i=> .tup [zA (fE i.p i.inst i.price).1,zA (fE i.p i.inst i.price).2.1,zA (fE i.p i.inst i.price).2.2]) (fun _=>[])
def ijj (t u:Nat):SAnn:={ι:=Int×Int,slots:=fun n=>[(t,zA n.1),(u,zA n.2)],rows:=fun _=>[]}
def lpJ:List (Nat×SAnn):=[(50,ijj 15 14),(58,ijj 15 14)]
def yMf:List SAnn:=[{ι:=Nat,slots:=fun j=>[(40,zA j)],rows:=fun _=>[]}]
def yMw:List (Nat×SAnn):=[(8,{ι:=Unit,slots:=fun _=>[],rows:=fun _=>[],opn:=[11]})]
open Go Cv Go.Proofs
def gR (a:MSt):Prop:=a.books.length≤1000000∧∀(b:Book),b∈a.books→wG b
def qR (a:RunI):Prop:=a.s.Rep a.p a.B∧BOk a.p a.B∧(0≤a.inst∧a.inst<(↑a.B.length:Int))∧1≤a.q∧a.q≤1000000
def lK (a:RunI):Prop:=∃(b:MSt),sb b.p.code=sb a.s.p.code∧b.p.tick=a.s.p.tick∧b.p.low=a.s.p.low∧b.p.high=a.s.p.high∧b.p.wide=a.s.p.wide∧b.p.rule=a.s.p.rule∧b.p.top=a.s.p.top∧b.p.least=a.s.p.least∧b.p.part=a.s.p.part∧AObj.objs 102 Book 6 zT b.books none=AObj.objs 102 Book 6 zT a.s.books none∧zV b.wh=zV a.s.wh∧AObj.fro 1 (iE b.p.months)=AObj.fro 1 (iE a.s.p.months)∧AObj.fro 1 (iE b.p.settle)=AObj.fro 1 (iE a.s.p.settle)∧(gR b)∧∀(c:Unit),True→∃(d:RunI),d.inst=a.inst∧zB d.sd=zB a.sd∧d.price=a.price∧d.q=a.q∧zE d.s=zE b∧(qR d)∧∀(e:MSt),e.Rep d.p d.r.B→∃(f:Unit),a.q-a.r.left=IntKind.i64.wrap (a.q-d.r.left)∧zE a.s=zE b∧True
def vN (a:RunI):Prop:=∃(b:Unit),a.q-a.r.left=0∧sb a.s.p.code=sb a.s.p.code∧a.s.p.tick=a.s.p.tick∧a.s.p.low=a.s.p.low∧a.s.p.high=a.s.p.high∧a.s.p.wide=a.s.p.wide∧a.s.p.rule=a.s.p.rule∧a.s.p.top=a.s.p.top∧a.s.p.least=a.s.p.least∧a.s.p.part=a.s.p.part∧AObj.objs 102 Book 6 zT a.s.books none=AObj.objs 102 Book 6 zT a.s.books none∧zV a.s.wh=zV a.s.wh∧AObj.fro 1 (iE a.s.p.months)=AObj.fro 1 (iE a.s.p.months)∧AObj.fro 1 (iE a.s.p.settle)=AObj.fro 1 (iE a.s.p.settle)∧True
def z3j (i:RunI):Prop:=
 cnd (decide (i.inst≥0)) (cnd (decide (i.inst<(↑i.s.books.length:Int))) (cnd (zB i.sd==1) (cnd (decide (i.q≥1)) (cnd (!decide (i.q≤1000000)) (vN i) (lK i)) (vN i)) (cnd (zB i.sd==2) (cnd (decide (i.q≥1)) (cnd (!decide (i.q≤1000000)) (vN i) (lK i)) (vN i)) (vN i))) (vN i)) (vN i)
def zVp (i:SoI):Prop:=
 ∃(a:Unit),(↑(zNd i.B):Int)=(↑(zV i.s.wh).length:Int)∧sb i.s.p.code=sb i.s.p.code∧i.s.p.tick=i.s.p.tick∧i.s.p.low=i.s.p.low∧i.s.p.high=i.s.p.high∧i.s.p.wide=i.s.p.wide∧i.s.p.rule=i.s.p.rule∧i.s.p.top=i.s.p.top∧i.s.p.least=i.s.p.least∧i.s.p.part=i.s.p.part∧AObj.objs 102 Book 6 zT i.s.books none=AObj.objs 102 Book 6 zT i.s.books none∧zV i.s.wh=zV i.s.wh∧AObj.fro 1 (iE i.s.p.months)=AObj.fro 1 (iE i.s.p.months)∧AObj.fro 1 (iE i.s.p.settle)=AObj.fro 1 (iE i.s.p.settle)∧True
def dY (a:Int×Int→Prop) (b:Int×Int) (c:LpI):Prop:=a b∧Sx.AObj.cells [V.d (D.v (Value.string (sb c.p.code))),V.own 0,V.d (dI c.p.tick),V.d (dI c.p.low),V.d (dI c.p.high),V.d (dI c.p.wide),V.d (dI c.p.rule),V.d (dI c.p.top),V.d (dI c.p.least),V.d (dI c.p.part),V.own ((0:Nat)+(1:Nat))] 29=Sx.AObj.cells [V.d (D.v (Value.string (sb c.p.code))),V.own 0,V.d (dI c.p.tick),V.d (dI c.p.low),V.d (dI c.p.high),V.d (dI c.p.wide),V.d (dI c.p.rule),V.d (dI c.p.top),V.d (dI c.p.least),V.d (dI c.p.part),V.own ((0:Nat)+(1:Nat))] 29∧AObj.fro 1 (iE c.p.settle)=AObj.fro 1 (iE c.p.settle)∧AObj.fro 1 (iE c.p.months)=AObj.fro 1 (iE c.p.months)
def y4 (a:LpI):=(fE a.p a.inst a.price)
def zWb (i:LpI):Prop:=
 ∃(a:Prd),sb a.code=sb i.p.code∧iE a.months=iE i.p.months∧a.tick=i.p.tick∧a.low=i.p.low∧a.high=i.p.high∧a.wide=i.p.wide∧a.rule=i.p.rule∧a.top=i.p.top∧a.least=i.p.least∧a.part=i.p.part∧iE a.settle=iE i.p.settle∧(zS a)∧∀(b:Unit),True→cnd (a.check !=0) (∃(c:Unit),(y4 i).fst=0∧(y4 i).snd.fst=0∧(y4 i).snd.snd=1∧True) (∃(c:dP),sb c.p.code=sb i.p.code∧iE c.p.months=iE i.p.months∧c.p.tick=i.p.tick∧c.p.low=i.p.low∧c.p.high=i.p.high∧c.p.wide=i.p.wide∧c.p.rule=i.p.rule∧c.p.top=i.p.top∧c.p.least=i.p.least∧c.p.part=i.p.part∧iE c.p.settle=iE i.p.settle∧c.n=i.inst∧(qX c)∧∀(d:Unit),True→cnd (!(c.p.legs c.n).snd.snd) (∃(e:Unit),(y4 i).fst=0∧(y4 i).snd.fst=0∧(y4 i).snd.snd=20∧True) (∃(e:rC),sb e.p.code=sb i.p.code∧iE e.p.months=iE i.p.months∧e.p.tick=i.p.tick∧e.p.low=i.p.low∧e.p.high=i.p.high∧e.p.wide=i.p.wide∧e.p.rule=i.p.rule∧e.p.top=i.p.top∧e.p.least=i.p.least∧e.p.part=i.p.part∧iE e.p.settle=iE i.p.settle∧e.a=i.inst∧e.b=i.price∧(x9 e)∧∀(f:Unit),True→cnd (e.p.price e.a e.b !=0) (∃(g:Unit),(y4 i).fst=0∧(y4 i).snd.fst=0∧(y4 i).snd.snd=e.p.price e.a e.b∧True) ((0≤(c.p.legs c.n).snd.fst∧(c.p.legs c.n).snd.fst<(↑(iE i.p.settle).length:Int))∧∃(g:Int),zF (iE i.p.settle) (c.p.legs c.n).snd.fst.toNat 0 1=some [dI g]∧∃(h:Int×Int),∃(j:Int×Int→Prop),cnd (decide (IntKind.i64.wrap (g+i.price)>i.p.high)) (∃(k:Int×Int),k.fst=i.p.high∧k.snd=IntKind.i64.wrap (i.p.high-i.price)∧dY j k i) (∃(k:Int×Int),k.fst=IntKind.i64.wrap (g+i.price)∧k.snd=g∧dY j k i)∧∀(k:Int×Int),j k→∃(l:Int×Int),∃(m:Int×Int→Prop),cnd (decide (k.fst<i.p.low)) (∃(n:Int×Int),n.fst=i.p.low∧n.snd=IntKind.i64.wrap (i.p.low-i.price)∧dY m n i) (∃(n:Int×Int),n.fst=k.fst∧n.snd=k.snd∧dY m n i)∧∀(n:Int×Int),m n→∃(p:Unit),(y4 i).fst=n.fst∧(y4 i).snd.fst=n.snd∧(y4 i).snd.snd=0∧True)))
def l7 (a:MSt) (b:MSt):Prop:=sb a.p.code=sb b.p.code∧True∧a.p.tick=b.p.tick∧a.p.low=b.p.low∧a.p.high=b.p.high∧a.p.wide=b.p.wide∧a.p.rule=b.p.rule∧a.p.top=b.p.top∧a.p.least=b.p.least∧a.p.part=b.p.part∧True∧True
def yBm (i:RunI):Prop:=
 ∃(a:MSt),zE a=zE i.s∧(gR a)∧∀(b:Unit),True→∃(c:RunI),c.inst=i.inst∧zB c.sd=zB i.sd∧c.price=i.price∧c.q=i.q∧zE c.s=zE a∧(qR c)∧∀(d:MSt),d.Rep c.p c.r.B→cnd (c.r.left==0) (∃(e:Unit),dJ i.p i.B i.inst i.sd i.price i.q=false∧zE i.s=zE a∧True) (∃(e:MSt),sb e.p.code=sb d.p.code∧e.p.tick=d.p.tick∧e.p.low=d.p.low∧e.p.high=d.p.high∧e.p.wide=d.p.wide∧e.p.rule=d.p.rule∧e.p.top=d.p.top∧e.p.least=d.p.least∧e.p.part=d.p.part∧AObj.objs 102 Book 6 zT e.books none=AObj.objs 102 Book 6 zT d.books none∧zV e.wh=zV d.wh∧AObj.fro 1 (iE e.p.months)=AObj.fro 1 (iE d.p.months)∧AObj.fro 1 (iE e.p.settle)=AObj.fro 1 (iE d.p.settle)∧(gD e)∧∀(f:Unit),True→(l7 e d)∧∃(g:Bool),zB g=zB i.sd∧True∧∀(h:Unit),True→(l7 e d)∧∃(j:sS),sb j.i.p.code=sb d.p.code∧iE j.i.p.months=iE e.p.months∧j.i.p.tick=d.p.tick∧j.i.p.low=d.p.low∧j.i.p.high=d.p.high∧j.i.p.wide=d.p.wide∧j.i.p.rule=d.p.rule∧j.i.p.top=d.p.top∧j.i.p.least=d.p.least∧j.i.p.part=d.p.part∧iE j.i.p.settle=iE e.p.settle∧List.map zU j.i.tops=List.map zU e.tops∧j.i.inst=i.inst∧zB j.s=zB !g∧(kJ j)∧∀(k:Unit),True→∃(l:Nat),(↑l:Int)=0∧∃(m:Nat→Prop),∃(n:Nat→Nat),m l∧∀(p:Nat),m p→cnd (decide ((↑p:Int)<(gX j))) ((0≤(↑p:Int)∧(↑p:Int)<(gX j))∧∃(q:Int),∃(r:Int),∃(s:Int),∃(t:Int),∃(u:Int),∃(v:Int),zF (jA j) (↑p:Int).toNat 0 6=some [dI q,dI r,dI s,dI t,dI u,dI v]∧∃(w:GoI),zB w.s=zB i.sd∧w.p=i.price∧w.x=q∧True∧∀(x:Unit),True→cnd (jC w.s w.p w.x) (∃(y:Unit),dJ i.p i.B i.inst i.sd i.price i.q=true∧zE i.s=zE a∧True) (∃(y:Nat),(↑y:Int)=IntKind.i64.wrap ((↑p:Int)+1)∧m y∧n y<n p∧AObj.own 62 6 (jA j)=AObj.own 62 6 (jA j)∧Sx.AObj.cells (gC (aC 5 (1+((2:Nat)-(1:Nat))+((2:Nat)-(1:Nat))+((5:Nat)-(1:Nat))) ((6:Nat)-(5:Nat)) [((2:Nat),1+((2:Nat)-(1:Nat))+((2:Nat)-(1:Nat))+nat_lit 1),((1:Nat),1+((2:Nat)-(1:Nat))+((2:Nat)-(1:Nat))+nat_lit 0),((4:Nat),1+((2:Nat)-(1:Nat))+((2:Nat)-(1:Nat))+nat_lit 3),((3:Nat),1+((2:Nat)-(1:Nat))+((2:Nat)-(1:Nat))+nat_lit 2),((0:Nat),1+nat_lit 0)]) [sV e.p.code,V.own 3,zA e.p.tick,zA e.p.low,zA e.p.high,zA e.p.wide,zA e.p.rule,zA e.p.top,zA e.p.least,zA e.p.part,V.own 4,V.own 1,V.mp 2]) (101:TypeId)=Sx.AObj.cells (gC (aC 5 (1+((2:Nat)-(1:Nat))+((2:Nat)-(1:Nat))+((5:Nat)-(1:Nat))) ((6:Nat)-(5:Nat)) [((2:Nat),1+((2:Nat)-(1:Nat))+((2:Nat)-(1:Nat))+nat_lit 1),((1:Nat),1+((2:Nat)-(1:Nat))+((2:Nat)-(1:Nat))+nat_lit 0),((4:Nat),1+((2:Nat)-(1:Nat))+((2:Nat)-(1:Nat))+nat_lit 3),((3:Nat),1+((2:Nat)-(1:Nat))+((2:Nat)-(1:Nat))+nat_lit 2),((0:Nat),1+nat_lit 0)]) [sV e.p.code,V.own 3,zA e.p.tick,zA e.p.low,zA e.p.high,zA e.p.wide,zA e.p.rule,zA e.p.top,zA e.p.least,zA e.p.part,V.own 4,V.own 1,V.mp 2]) (101:TypeId)∧AObj.objs 102 Book 6 zT e.books none=AObj.objs 102 Book 6 zT e.books none∧Sx.AObj.map (zV e.wh)=Sx.AObj.map (zV e.wh)∧AObj.fro 1 (iE e.p.months)=AObj.fro 1 (iE e.p.months)∧AObj.fro 1 (iE e.p.settle)=AObj.fro 1 (iE e.p.settle)∧AObj.fro 6 (List.map zU e.tops)=AObj.fro 6 (List.map zU e.tops)∧AObj.fro 1 (iE d.p.months)=AObj.fro 1 (iE d.p.months)∧AObj.fro 1 (iE d.p.settle)=AObj.fro 1 (iE d.p.settle)∧AObj.own 158 4 (List.map jV c.r.steps)=AObj.own 158 4 (List.map jV c.r.steps)∧zE a=zE a)) (∃(q:Unit),dJ i.p i.B i.inst i.sd i.price i.q=false∧zE i.s=zE a∧True))
open Go Cv Go.Proofs
theorem MSt.Rep.small {s:MSt} {p:Prd} {B:List (List zD)} (h:s.Rep p B) (hb:BOk p B):s.small:=by
 have:=xQ p
 refine⟨by rw[h.bl,hb.bl];omega,fun b hm=> ?_⟩
 obtain⟨k,hk⟩:=yUn.1 hm
 have hlt:=(ySl.1 hk).1
 rw[h.bl]at hlt
 obtain⟨L,hL⟩:=z9 hlt
 obtain⟨Q,c,_⟩:=h.bk k b L hk hL
 exact c.small
theorem yGk (i:RunI) (h:scouldC.cnd i):z3j i:=by
 have h':i.ok:=h
 obtain⟨hR,hB,⟨h0,h1⟩,hq1,hq2⟩:=h'
 have hbl:=hR.bl
 have hl:=(cI (inst:=i.inst) (sd:=i.sd) (price:=i.price) _ i.q i.B (yTj _) (hR.wf hB)).2.2 (by omega)
 have er:i.r=xZ i.p i.B i.inst i.sd i.price i.q:=rfl
 unfold z3j vN lK qR gR wG
 refine(fun hT=>zL (fun c=>zL (fun c2=>Cv.cnd.mk (fun _=>zL (fun _=>Cv.cnd.mk (fun e=>absurd hq2 (by simpa using e)) (fun _=>hT)) (fun e=>absurd hq1 e)) (fun e1=>Cv.cnd.mk (fun _=>zL (fun _=>Cv.cnd.mk (fun e=>absurd hq2 (by simpa using e)) (fun _=>hT)) (fun e=>absurd hq1 e)) (fun e2=>by
  rcases dQ i.sd with e|e
  ·rw[e]at e1;cases e1
  ·rw[e]at e2;cases e2))) (fun c2=>absurd (by omega) c2)) (fun c=>absurd h0 c)) ?_
 refine⟨i.s,rfl,rfl,rfl,rfl,rfl,rfl,rfl,rfl,rfl,rfl,rfl,rfl,rfl,hR.small hB,fun _ _=>⟨i,rfl,rfl,rfl,rfl,rfl,h,fun o ho=>⟨(),?_,rfl,trivial⟩⟩⟩
 rw[w64 (by rw[er];omega)]
theorem z7d:scouldC.ok Tryz.prog 29:=okw mixed (gokc zCl (gokc zZc gok0)) 2 (fun _=>[]) (fun _=>[]) [0] Tryz.func29 yGk
theorem yBj (i:SoI) (h:countC16.cnd i):zVp i:=by
 obtain⟨hR,hB⟩:i.s.Rep i.p i.B∧i.B.length≤1000:=h
 unfold zVp
 have e:(zV i.s.wh).length=zNd i.B:=by rw[zV,ySm,hR.wh.length_eq,zNd]
 exact⟨(),by rw[e],by(repeat'(first|exact trivial|exact rfl|apply And.intro))⟩
theorem zLm:countC16.ok Tryz.prog 45:=okw mixed gok0 0 (fun _=>[]) (fun _=>[]) [0] Tryz.func45 yBj
theorem zJg {p:Prd} {i n:Int} (h:p.price i n=0):0≤i∧i<p.count:=by
 rw[Prd.price]at h
 split at h
 ·cases h
 split at h
 ·cases h
 omega
theorem z9g (i:LpI) (h:lpricesC.cnd i):zWb i:=by
 obtain⟨hc,hp,hpr⟩:i.p.check=0∧i.p.small∧yZ i.price:=h
 unfold zWb dY y4 zS qX x9 dI
 refine⟨i.p,rfl,rfl,rfl,rfl,rfl,rfl,rfl,rfl,rfl,rfl,rfl,hp,fun _ _=>Cv.cnd.mk (fun e=>by rw[hc]at e;cases e) (fun _=> ?_)⟩
 refine⟨⟨i.p,i.inst⟩,rfl,rfl,rfl,rfl,rfl,rfl,rfl,rfl,rfl,rfl,rfl,rfl,hp,fun _ _=>Cv.cnd.mk (fun e=> ?_) (fun e=> ?_)⟩
 ·have e:(i.p.legs i.inst).2.2=false:=by simpa using e
  have h0:fE i.p i.inst i.price=(0,0,20):=by rw[fE,ySk e]
  rw[h0];exact⟨(),rfl,rfl,rfl,trivial⟩
 have e:(i.p.legs i.inst).2.2=true:=by simpa using e
 refine⟨⟨i.p,i.inst,i.price⟩,rfl,rfl,rfl,rfl,rfl,rfl,rfl,rfl,rfl,rfl,rfl,rfl,rfl,hp,fun _ _=>Cv.cnd.mk (fun e2=> ?_) (fun e2=> ?_)⟩
 ·have e2:¬i.p.price i.inst i.price=0:=by simpa using e2
  have h0:fE i.p i.inst i.price=(0,0,i.p.price i.inst i.price):=by rw[fE,ySj (by rw[e];decide),ySk e2]
  rw[h0];exact⟨(),rfl,rfl,rfl,trivial⟩
 have e2:i.p.price i.inst i.price=0:=by simpa using e2
 have hin:=zJg e2
 have hbd:=zBs hc e2
 have ok:=qM hc
 have b1:=ok.b1
 have b2:=ok.b2
 have b3:=ok.b3
 have s1:=ok.s1
 have s2:=ok.s2
 have s3:=ok.s3
 obtain⟨k,hk⟩:∃k:Nat,i.inst=k:=⟨i.inst.toNat,by omega⟩
 have hl:=vO hc (k:=k) (by omega)
 rw[← hk]at hl
 rcases hl with⟨_,_,_,l3,l4⟩|⟨x,_⟩
 rotate_left
 ·rw[e]at x;cases x
 have hsl:(iE i.p.settle).length=i.p.settle.length:=yX _
 obtain⟨n,hn⟩:=z9 (l:=i.p.settle) (i:=(i.p.legs i.inst).2.1.toNat) (by omega)
 have hm:=ySt hn
 have m1:=z4c hm
 have m2:=z3b hm
 have hg:i.p.settle.getD (i.p.legs i.inst).2.1.toNat 0=n:=zH hn
 have h0:fE i.p i.inst i.price=(if(if i.p.high<n+i.price then(i.p.high,i.p.high-i.price)else(n+i.price,n)).1<i.p.low then(i.p.low,i.p.low-i.price,0)else((if i.p.high<n+i.price then(i.p.high,i.p.high-i.price)else(n+i.price,n)).1,(if i.p.high<n+i.price then(i.p.high,i.p.high-i.price)else(n+i.price,n)).2,0)):=by
  rw[fE,ySj (by rw[e];decide),ySj (by rw[e2];decide)]
  dsimp only
  rw[hg]
 dsimp only
 refine⟨⟨l3,by omega⟩,n,elI hn,(0,0),fun a=>a=if i.p.high<n+i.price then(i.p.high,i.p.high-i.price)else(n+i.price,n),zL (fun c=>⟨(i.p.high,i.p.high-i.price),rfl,(w64 (by omega)).symm,?_,by(repeat'(first|exact trivial|exact rfl|apply And.intro))⟩) (fun c=>⟨(n+i.price,n),(w64 (by omega)).symm,rfl,?_,by(repeat'(first|exact trivial|exact rfl|apply And.intro))⟩),?_⟩
 ·rw[w64 (by omega)]at c;rw[ySk c]
 ·rw[w64 (by omega)]at c;rw[ySj c]
 rintro _ rfl
 generalize (if i.p.high<n+i.price then(i.p.high,i.p.high-i.price)else(n+i.price,n))=a at h0 ⊢
 refine⟨(0,0),fun b=>b=if a.1<i.p.low then(i.p.low,i.p.low-i.price)else a,zL (fun c=>⟨(i.p.low,i.p.low-i.price),rfl,(w64 (by omega)).symm,by rw[ySk c],by(repeat'(first|exact trivial|exact rfl|apply And.intro))⟩) (fun c=>⟨a,rfl,rfl,by rw[ySj c],by(repeat'(first|exact trivial|exact rfl|apply And.intro))⟩),?_⟩
 rintro _ rfl
 rw[h0]
 by_cases c:a.1<i.p.low
 ·rw[ySk c,ySk c];exact⟨(),rfl,rfl,rfl,trivial⟩
 ·rw[ySj c,ySj c];exact⟨(),rfl,rfl,rfl,trivial⟩
theorem zYd:lpricesC.ok Tryz.prog 133:=okw mixed (gokc bP (gokc pB (gokc sQ gok0))) 0 (fun _=>lpJ) (fun _=>[]) [] Tryz.func133 z9g
theorem yFf {l:List Quote} {k:Nat} {q:Quote} (h:l[k]? =some q):zF (l.map zK) k 0 6=some [D.v (.int .i64 q.price),D.v (.int .i64 q.qty),D.v (.int .i64 q.a.inst),D.v (.int .i64 q.a.side),D.v (.int .i64 q.b.inst),D.v (.int .i64 q.b.side)]:=elA h (by simp[zK]) rfl
theorem yJv (i:RunI) (h:stuckC.cnd i):yBm i:=by
 have h':i.ok:=h
 obtain⟨hR,hB,⟨h0,h1⟩,hq1,hq2⟩:=h'
 have hwf:=hR.wf hB
 obtain⟨k1,k2,k3⟩:=cI (inst:=i.inst) (sd:=i.sd) (price:=i.price) _ i.q i.B (yTj _) hwf
 have hcl:=xQ i.p
 unfold yBm l7 qR gR wG gX jA kJ j0 gD x7 dI
 refine⟨i.s,rfl,hR.small hB,fun _ _=>⟨i,rfl,rfl,rfl,rfl,rfl,h,fun o ho=> ?_⟩⟩
 have er:i.r=xZ i.p i.B i.inst i.sd i.price i.q:=rfl
 have es:dJ i.p i.B i.inst i.sd i.price i.q=(decide ((xZ i.p i.B i.inst i.sd i.price i.q).left≠0) && (qC ⟨i.p,(xZ i.p i.B i.inst i.sd i.price i.q).B.map xF,i.inst⟩ (zB (!i.sd))).any fun x=>jC i.sd i.price x.price):=rfl
 rw[er]at ho ⊢
 rw[es]
 generalize xZ i.p i.B i.inst i.sd i.price i.q=R at*
 obtain⟨ts,lf,RB⟩:=R
 dsimp only at*
 refine Cv.cnd.mk (fun e=>⟨(),?_,rfl,trivial⟩) (fun e=> ?_)
 ·have e:lf=0:=by simpa using e
  rw[e];rfl
 have e:lf≠0:=by simpa using e
 rw[yTd e,yTr]
 have ep:=ho.ep
 have hB':=k1.ok
 have hbl:=hB'.bl
 have hcnt:o.cntOk:=ho.cnt (by omega)
 have hps:o.p.small:=by rw[ep];exact hB'.ps
 have hto:jU (RB.map xF):=hB'.tops
 have hle:=zCv ⟨o.p,RB.map xF,i.inst⟩ (zB (!i.sd))
 refine⟨o,rfl,rfl,rfl,rfl,rfl,rfl,rfl,rfl,rfl,rfl,rfl,rfl,rfl,hcnt,fun _ _=>⟨⟨rfl,trivial,rfl,rfl,rfl,rfl,rfl,rfl,rfl,rfl,trivial,trivial⟩,i.sd,rfl,trivial,fun _ _=>⟨⟨rfl,trivial,rfl,rfl,rfl,rfl,rfl,rfl,rfl,rfl,trivial,trivial⟩,⟨⟨o.p,RB.map xF,i.inst⟩,!i.sd⟩,rfl,rfl,rfl,rfl,rfl,rfl,rfl,rfl,rfl,rfl,rfl,by rw[ho.tops],rfl,rfl,⟨hps,hto⟩,fun _ _=> ?_⟩⟩⟩
 dsimp only
 rw[← ep]
 generalize qC ⟨o.p,RB.map xF,i.inst⟩ (zB (!i.sd))=Q at*
 have e4:(Q.map zK).length=Q.length:=ySm ..
 refine⟨0,rfl,fun j=>j≤Q.length∧(Q.take j).any (fun x=>jC i.sd i.price x.price)=false,fun j=>Q.length-j,⟨yUs _,rfl⟩,?_⟩
 rintro j ⟨j1,j2⟩
 refine zL (fun c=> ?_) (fun c=>⟨(),?_,rfl,trivial⟩)
 ·obtain⟨q,hq⟩:=z9 (l:=Q) (i:=j) (by omega)
  refine⟨⟨by omega,by omega⟩,_,_,_,_,_,_,yFf hq,⟨i.sd,i.price,q.price⟩,rfl,rfl,rfl,trivial,fun _ _=>Cv.cnd.mk (fun g=>⟨(),?_,rfl,trivial⟩) (fun g=>⟨j+1,wjn (by omega),⟨by omega,?_⟩,by dsimp only;omega,by(repeat'(first|exact trivial|exact rfl|apply And.intro))⟩)⟩
  ·rw[yYh];exact⟨q,ySt hq,g⟩
  ·rw[yUm,hq,List.any_append,j2]
   show(false||([q].any fun x=>jC i.sd i.price x.price))=false
   simp only[List.any_cons,List.any_nil,Bool.or_false,yVs]
   exact g
 ·have:j=Q.length:=by omega
  rw[this,yTe (yTj _)]at j2
  exact j2
theorem zTx:stuckC.ok Tryz.prog 73:=okw mixed (gokc zCl (gokc zZc (gokc zUm (gokc z9j (gokc zQj (gokc zUa gok0)))))) 0 (fun _=>yMw) (fun _=>yMf) [] Tryz.func73 yJv
open Go Cv Go.Proofs
def dX (c:Cmd) (why:Int):List Rep:=[⟨2,c.id,0,0,0,0,0,why⟩]
def ofF (x:kM) (k:Int):Int:=match x.fills.find? fun f=>decide (f.inst=k)with
 |some f=>f.price
 |none=>x.price
def qO (p:Prd) (inst:Int) (x:kM):Int×Int:=if x.implied=false then((fE p inst x.price).1,(fE p inst x.price).2.1)else(ofF x (p.legs inst).1,ofF x (p.legs inst).2.1)
def zBm (p:Prd) (r:Rep) (near far:Int):List Rep:=[{r with inst:=(p.legs r.inst).1,price:=near},{r with inst:=(p.legs r.inst).2.1,side:=3-r.side,price:=far}]
def jD (p:Prd) (x:kM) (r:Rep):List Rep:=r::if(p.legs r.inst).2.2=true then zBm p r (qO p r.inst x).1 (qO p r.inst x).2 else[]
def fL (f:vD):Rep:=⟨3,f.id,f.inst,f.side,f.price,f.qty,f.left,0⟩
def dZ (p:Prd) (c:Cmd) (x:kM) (left:Int):List Rep:=x.fills.flatMap (fun f=>jD p x (fL f))++jD p x ⟨3,c.id,c.inst,c.side,x.price,x.qty,left,0⟩
def wX (p:Prd) (c:Cmd):List kM→Int→List Rep
 |[],_=>[]
 |x::l,left=>dZ p c x (left-x.qty)++wX p c l (left-x.qty)
structure MkX where
 B:List (List zD)
 U:List Int
 R:List Rep
def zCp (U:List Int) (id:Int):List Int:=if id∈U then U else U++[id]
def wH (p:Prd) (B:List (List zD)) (U:List Int) (c:Cmd):MkX:=match xZ p B c.inst (decide (c.side=2)) c.price c.qty with
 |⟨ts,left,B'⟩=>⟨if left≠0∧c.time=1 then(rF p B' c.inst c.id c.side c.price left).1 else B',zCp U c.id,
  (⟨1,c.id,c.inst,c.side,c.price,c.qty,c.qty,0⟩::wX p c ts c.qty)++if left≠0∧c.time≠1 then[⟨4,c.id,c.inst,c.side,c.price,left,0,0⟩]else[]⟩
def Cmd.lst (c:Cmd):Int:=if c.time=3 then c.qty else c.least
def cM (p:Prd) (B:List (List zD)) (U:List Int) (c:Cmd):MkX:=
 if p.price c.inst c.price≠0 then⟨B,U,dX c (p.price c.inst c.price)⟩
 else if c.id∈U then⟨B,U,dX c 25⟩
 else if 250≤zNd B then⟨B,U,dX c 13⟩
 else if 0<c.lst∧c.qty-(xZ p B c.inst (decide (c.side=2)) c.price c.qty).left<c.lst then⟨B,U,dX c 28⟩
 else if c.time=1∧dJ p B c.inst (decide (c.side=2)) c.price c.qty=true then⟨B,U,dX c 23⟩
 else wH p B U c
def jT (B:List (List zD)) (U:List Int) (id inst:Int) (o:zD):MkX:=⟨(yU B id o.qty).1,U,[⟨4,id,inst,o.side,o.price,o.qty,0,0⟩]⟩
def hJ (B:List (List zD)) (U:List Int) (id q inst:Int) (o:zD):MkX:=⟨(yU B id q).1,U,[⟨5,id,inst,o.side,o.price,q,o.qty-q,0⟩]⟩
def vM (p:Prd) (B:List (List zD)) (U:List Int) (c:Cmd) (inst:Int) (o:zD):MkX:=
 if p.price inst c.price≠0 then⟨B,U,dX c (p.price inst c.price)⟩
 else if c.price=o.price∧c.qty≤o.qty then hJ B U c.id (o.qty-c.qty) inst o
 else if dJ p (yU B c.id o.qty).1 inst (decide (o.side=2)) c.price c.qty=true then⟨B,U,dX c 23⟩
 else
  let x:=jT B U c.id inst o
  let y:=wH p x.B U ⟨1,c.id,inst,o.side,c.price,c.qty,0,1,[]⟩
  ⟨y.B,y.U,x.R++y.R⟩
def doF (p:Prd) (B:List (List zD)) (U:List Int) (c:Cmd):MkX:=
 if c.right≠0 then⟨B,U,dX c c.right⟩
 else if c.kind=1 then cM p B U c
 else if(zI B c.id).2.2=false then⟨B,U,dX c 26⟩
 else if c.kind=4 then vM p B U c (zI B c.id).1 (zI B c.id).2.1
 else if c.kind=2∨(zI B c.id).2.1.qty≤c.qty then jT B U c.id (zI B c.id).1 (zI B c.id).2.1
 else hJ B U c.id c.qty (zI B c.id).1 (zI B c.id).2.1
structure Mkt.Rep (m:Mkt) (p:Prd) (B:List (List zD)) (U:List Int):Prop where
 ep:m.p=p
 s:m.s.Rep p B
 u:m.used=U
@[reducible] def zBf (m:Mkt):List AObj:=[y7 m 0,y7 m 1,y7 m 2,y7 m 3,y7 m 4]
@[reducible] def yIs (x:kM):V:= .agg [zA x.price,zA x.qty,yP x.implied,roV 6 (x.fills.map yV)]
@[reducible] def tRp:Nat:=41
@[reducible] def zFf (l:List Rep):AObj:= .own tRp 8 (l.map yG)
structure RjI where
 c:Cmd
 why:Int
def rejC:Con:=con1 RjI (fun i=>[zNj i.c,zA i.why]) (fun _=>[]) (fun _=>True) (fun _=> .own 0) (fun i=>[zFf (dX i.c i.why)])
structure MsI where
 m:Mkt
 r:Rep
 near:Int
 far:Int
@[reducible] def Mkt.fine (m:Mkt):Prop:=m.p.check=0∧m.p.small
def mspreadC:Con:=con1 MsI (fun i=>[.nm 0 0,yOl i.r,zA i.near,zA i.far]) (fun i=>zBf i.m) (fun i=>i.m.fine∧(i.r.side=1∨i.r.side=2)) (fun _=> .own 5) (fun i=>zBf i.m++[zFf (zBm i.m.p i.r i.near i.far)])
structure MiN where
 m:Mkt
 inst:Int
def misC:Con:=con1 MiN (fun i=>[.nm 0 0,zA i.inst]) (fun i=>zBf i.m) (fun i=>i.m.fine) (fun i=>yP (i.m.p.legs i.inst).2.2) (fun i=>zBf i.m)
structure OfI where
 x:kM
 k:Int
@[reducible] def zUd (x:kM) (n:Nat):List AObj:=[.cells [zA x.price,zA x.qty,yP x.implied,.own n] 158,.fro 6 (x.fills.map yV)]
def ofC:Con:=con1 OfI (fun i=>[zA i.k,.nm 0 0]) (fun i=>zUd i.x 1) (fun i=>i.x.fills.length≤1000000) (fun i=>zA (ofF i.x i.k)) (fun i=>zUd i.x 1)
def ofA:List SAnn:=[{ι:=Nat,slots:=fun j=>[(9,zA j)],rows:=fun _=>[]}]
structure MpI where
 m:Mkt
 inst:Int
 x:kM
def mpricesC:Con:=con1 MpI (fun i=>[.nm 0 0,zA i.inst,yIs i.x]) (fun i=>zBf i.m) (fun i=>i.m.fine∧yZ i.x.price∧i.x.fills.length≤1000000) (fun i=> .tup [zA (qO i.m.p i.inst i.x).1,zA (qO i.m.p i.inst i.x).2]) (fun i=>zBf i.m)
structure StI' where
 m:Mkt
 c:Cmd
 x:kM
 left:Int
def StI'.out (i:StI') (j:Nat):List Rep:=(i.x.fills.take j).flatMap fun f=>jD i.m.p i.x (fL f)
def mstepC:Con:=con1 StI' (fun i=>[.nm 0 0,zNj i.c,yIs i.x,zA i.left]) (fun i=>zBf i.m) (fun i=>i.m.fine∧yZ i.x.price∧i.x.fills.length≤1000000∧(i.c.side=1∨i.c.side=2)∧∀f∈i.x.fills,f.side=1∨f.side=2) (fun _=> .own 5) (fun i=>zBf i.m++[zFf (dZ i.m.p i.c i.x i.left)])
def yKp (i:StI'):List SAnn:=[{ι:=Nat,slots:=fun j=>[(9,.nm 0 0),(17,zA j)],rows:=fun j=>[.cells [.own 1] 32,zFf (i.out j)]}]
open Go Cv Go.Proofs
def yRi (i:RjI):Prop:=
 ∃(o:Unit),[yG (Rep.mk 2 i.c.id 0 0 0 0 0 i.why)]=[[D.v (.int .i64 2),D.v (.int .i64 i.c.id),D.v (.int .i64 0),D.v (.int .i64 0),D.v (.int .i64 0),D.v (.int .i64 0),D.v (.int .i64 0),D.v (.int .i64 i.why)]]∧True
def v7 (a:MsI):Prop:=a.r.kind=a.r.kind∧a.r.id=a.r.id∧a.r.inst=a.r.inst∧a.r.side=a.r.side∧a.r.price=a.r.price∧a.r.qty=a.r.qty∧a.r.left=a.r.left∧a.r.why=a.r.why∧True
def fJ (a:MsI):=(Rep.mk a.r.kind a.r.id (a.m.p.legs a.r.inst).snd.fst (3-a.r.side) a.far a.r.qty a.r.left a.r.why)
def fN (a:MsI):=(Rep.mk a.r.kind a.r.id (a.m.p.legs a.r.inst).fst a.r.side a.near a.r.qty a.r.left a.r.why)
def sG (a:MsI) (b:dP):Prop:=(v7 a)∧(v7 a)∧(v7 a)∧(v7 a)∧(v7 a)∧a.r.side=a.r.side∧∃(c:Unit),sb a.m.p.code=sb a.m.p.code∧a.m.p.tick=a.m.p.tick∧a.m.p.low=a.m.p.low∧a.m.p.high=a.m.p.high∧a.m.p.wide=a.m.p.wide∧a.m.p.rule=a.m.p.rule∧a.m.p.top=a.m.p.top∧a.m.p.least=a.m.p.least∧a.m.p.part=a.m.p.part∧zE a.m.s=y7 a.m 1∧z6 a.m.used=z6 a.m.used∧AObj.fro 1 (iE a.m.p.months)=y7 a.m 3∧AObj.fro 1 (iE a.m.p.settle)=y7 a.m 4∧[yG (fN a),yG (fJ a)]=[[dI a.r.kind,dI a.r.id,dI ((b.p.legs b.n).fst),dI a.r.side,dI a.near,dI a.r.qty,dI a.r.left,dI a.r.why],[dI a.r.kind,dI a.r.id,dI (wO b),dI (IntKind.i64.wrap (3-a.r.side)),dI a.far,dI a.r.qty,dI a.r.left,dI a.r.why]]∧True
def zXg (i:MsI):Prop:=
 ∃(a:dP),sb a.p.code=sb i.m.p.code∧iE a.p.months=iE i.m.p.months∧a.p.tick=i.m.p.tick∧a.p.low=i.m.p.low∧a.p.high=i.m.p.high∧a.p.wide=i.m.p.wide∧a.p.rule=i.m.p.rule∧a.p.top=i.m.p.top∧a.p.least=i.m.p.least∧a.p.part=i.m.p.part∧iE a.p.settle=iE i.m.p.settle∧a.n=i.r.inst∧(qX a)∧∀(b:Unit),True→(sG i a)∧sG i a
def yRz (i:MiN):Prop:=
 ∃(i_1:dP),sb i_1.p.code=sb i.m.p.code∧iE i_1.p.months=iE i.m.p.months∧i_1.p.tick=i.m.p.tick∧i_1.p.low=i.m.p.low∧i_1.p.high=i.m.p.high∧i_1.p.wide=i.m.p.wide∧i_1.p.rule=i.m.p.rule∧i_1.p.top=i.m.p.top∧i_1.p.least=i.m.p.least∧i_1.p.part=i.m.p.part∧iE i_1.p.settle=iE i.m.p.settle∧i_1.n=i.inst∧(i_1.p.code.length≤1099511627776∧i_1.p.months.length≤1099511627776∧i_1.p.settle.length≤1099511627776)∧∀(o:Unit),True→∃(o:Unit),(i.m.p.legs i.inst).snd.snd=(i_1.p.legs i_1.n).snd.snd∧sb i.m.p.code=sb i.m.p.code∧i.m.p.tick=i.m.p.tick∧i.m.p.low=i.m.p.low∧i.m.p.high=i.m.p.high∧i.m.p.wide=i.m.p.wide∧i.m.p.rule=i.m.p.rule∧i.m.p.top=i.m.p.top∧i.m.p.least=i.m.p.least∧i.m.p.part=i.m.p.part∧zE i.m.s=y7 i.m 1∧z6 i.m.used=z6 i.m.used∧AObj.fro 1 (iE i.m.p.months)=y7 i.m 3∧AObj.fro 1 (iE i.m.p.settle)=y7 i.m 4∧True
def zSx (a:OfI):Prop:=a.x.price=a.x.price∧a.x.qty=a.x.qty∧a.x.implied=a.x.implied∧AObj.fro 6 (List.map yV a.x.fills)=AObj.fro 6 (List.map yV a.x.fills)∧True
def Vof (i:OfI):Prop:=
 ∃(a:Nat),(↑a:Int)=0∧∃(b:Nat→Prop),∃(c:Nat→Nat),b a∧∀(d:Nat),b d→cnd (decide ((↑d:Int)<(↑(List.map yV i.x.fills).length:Int))) ((0≤(↑d:Int)∧(↑d:Int)<(↑(List.map yV i.x.fills).length:Int))∧∃(e:Int),∃(f:Int),∃(g:Int),∃(h:Int),∃(j:Int),∃(k:Int),zF (List.map yV i.x.fills) (↑d:Int).toNat 0 6=some [dI e,dI f,dI g,dI h,dI j,dI k]∧cnd (f==i.k) (∃(l:Unit),ofF i.x i.k=h∧zSx i) (∃(l:Nat),(↑l:Int)=IntKind.i64.wrap ((↑d:Int)+1)∧b l∧c l<c d∧Sx.AObj.cells [zA i.x.price,zA i.x.qty,yP i.x.implied,V.own 1] (158:TypeId)=Sx.AObj.cells [zA i.x.price,zA i.x.qty,yP i.x.implied,V.own 1] (158:TypeId)∧AObj.fro 6 (List.map yV i.x.fills)=AObj.fro 6 (List.map yV i.x.fills))) (∃(e:Unit),ofF i.x i.k=i.x.price∧zSx i)
def nJ (a:MpI):Prop:=sb a.m.p.code=sb a.m.p.code∧a.m.p.tick=a.m.p.tick∧a.m.p.low=a.m.p.low∧a.m.p.high=a.m.p.high∧a.m.p.wide=a.m.p.wide∧a.m.p.rule=a.m.p.rule∧a.m.p.top=a.m.p.top∧a.m.p.least=a.m.p.least∧a.m.p.part=a.m.p.part∧zE a.m.s=y7 a.m 1∧z6 a.m.used=z6 a.m.used∧AObj.fro 1 (iE a.m.p.months)=y7 a.m 3∧AObj.fro 1 (iE a.m.p.settle)=y7 a.m 4∧True
def qP (a:MpI):=(qO a.m.p a.inst a.x)
def zWq (i:MpI):Prop:=
 cnd (!i.x.implied) (∃(a:LpI),sb a.p.code=sb i.m.p.code∧iE a.p.months=iE i.m.p.months∧a.p.tick=i.m.p.tick∧a.p.low=i.m.p.low∧a.p.high=i.m.p.high∧a.p.wide=i.m.p.wide∧a.p.rule=i.m.p.rule∧a.p.top=i.m.p.top∧a.p.least=i.m.p.least∧a.p.part=i.m.p.part∧iE a.p.settle=iE i.m.p.settle∧a.inst=i.inst∧a.price=i.x.price∧(a.p.check=0∧(a.p.code.length≤1099511627776∧a.p.months.length≤1099511627776∧a.p.settle.length≤1099511627776)∧(-9223372036854775808)≤a.price∧a.price≤9223372036854775807)∧∀(b:Unit),True→∃(c:Unit),(qP i).fst=(y4 a).fst∧(qP i).snd=(y4 a).snd.fst∧nJ i) (∃(a:dP),sb a.p.code=sb i.m.p.code∧iE a.p.months=iE i.m.p.months∧a.p.tick=i.m.p.tick∧a.p.low=i.m.p.low∧a.p.high=i.m.p.high∧a.p.wide=i.m.p.wide∧a.p.rule=i.m.p.rule∧a.p.top=i.m.p.top∧a.p.least=i.m.p.least∧a.p.part=i.m.p.part∧iE a.p.settle=iE i.m.p.settle∧a.n=i.inst∧(qX a)∧∀(b:Unit),True→∃(c:OfI),c.k=(a.p.legs a.n).fst∧c.x.price=i.x.price∧c.x.qty=i.x.qty∧c.x.implied=i.x.implied∧AObj.fro 6 (List.map yV c.x.fills)=AObj.fro 6 (List.map yV i.x.fills)∧c.x.fills.length≤1000000∧∀(d:Unit),True→∃(e:OfI),e.k=(a.p.legs a.n).snd.fst∧e.x.price=c.x.price∧e.x.qty=c.x.qty∧e.x.implied=c.x.implied∧AObj.fro 6 (List.map yV e.x.fills)=AObj.fro 6 (List.map yV c.x.fills)∧e.x.fills.length≤1000000∧∀(f:Unit),True→∃(g:Unit),(qP i).fst=ofF c.x c.k∧(qP i).snd=ofF e.x e.k∧nJ i)
def lC (a:MpI):Prop:=(a.m.p.check=0∧a.m.p.code.length≤1099511627776∧a.m.p.months.length≤1099511627776∧a.m.p.settle.length≤1099511627776)∧((-9223372036854775808)≤a.x.price∧a.x.price≤9223372036854775807)∧a.x.fills.length≤1000000
def zAi (a:MsI):Prop:=(a.m.p.check=0∧a.m.p.code.length≤1099511627776∧a.m.p.months.length≤1099511627776∧a.m.p.settle.length≤1099511627776)∧(a.r.side=1∨a.r.side=2)
def lP (a:MiN):Prop:=a.m.p.check=0∧a.m.p.code.length≤1099511627776∧a.m.p.months.length≤1099511627776∧a.m.p.settle.length≤1099511627776
def bK (a:StI'):=(D.v (Value.string (sb a.c.label)))
def z9v (i:StI'):Prop:=
 ∃(a:Nat),(↑a:Int)=0∧List.map yG (i.out a)=[]∧∃(b:Nat→Prop),∃(c:Nat→Nat),b a∧∀(d:Nat),b d→cnd (decide ((↑d:Int)<(↑(List.map yV i.x.fills).length:Int))) ((0≤(↑d:Int)∧(↑d:Int)<(↑(List.map yV i.x.fills).length:Int))∧∃(e:Int),∃(f:Int),∃(g:Int),∃(h:Int),∃(j:Int),∃(k:Int),zF (List.map yV i.x.fills) (↑d:Int).toNat 0 6=some [dI e,dI f,dI g,dI h,dI j,dI k]∧((List.map yG (i.out d)).length+1)*(64:Nat)≤(70368744177664:Nat)∧∃(l:MiN),l.inst=f∧sb l.m.p.code=sb i.m.p.code∧l.m.p.tick=i.m.p.tick∧l.m.p.low=i.m.p.low∧l.m.p.high=i.m.p.high∧l.m.p.wide=i.m.p.wide∧l.m.p.rule=i.m.p.rule∧l.m.p.top=i.m.p.top∧l.m.p.least=i.m.p.least∧l.m.p.part=i.m.p.part∧zE l.m.s=y7 i.m 1∧z6 l.m.used=z6 i.m.used∧AObj.fro 1 (iE l.m.p.months)=y7 i.m 3∧AObj.fro 1 (iE l.m.p.settle)=y7 i.m 4∧(lP l)∧∀(m:Unit),True→cnd (l.m.p.legs l.inst).snd.snd (∃(n:MpI),n.inst=f∧n.x.price=i.x.price∧n.x.qty=i.x.qty∧n.x.implied=i.x.implied∧List.map yV n.x.fills=List.map yV i.x.fills∧sb n.m.p.code=sb l.m.p.code∧n.m.p.tick=l.m.p.tick∧n.m.p.low=l.m.p.low∧n.m.p.high=l.m.p.high∧n.m.p.wide=l.m.p.wide∧n.m.p.rule=l.m.p.rule∧n.m.p.top=l.m.p.top∧n.m.p.least=l.m.p.least∧n.m.p.part=l.m.p.part∧zE n.m.s=zE l.m.s∧z6 n.m.used=z6 l.m.used∧AObj.fro 1 (iE n.m.p.months)=AObj.fro 1 (iE l.m.p.months)∧AObj.fro 1 (iE n.m.p.settle)=AObj.fro 1 (iE l.m.p.settle)∧(lC n)∧∀(p:Unit),True→∃(q:MsI),q.r.kind=3∧q.r.id=e∧q.r.inst=f∧q.r.side=g∧q.r.price=h∧q.r.qty=j∧q.r.left=k∧q.r.why=0∧q.near=(qP n).fst∧q.far=(qP n).snd∧sb q.m.p.code=sb n.m.p.code∧q.m.p.tick=n.m.p.tick∧q.m.p.low=n.m.p.low∧q.m.p.high=n.m.p.high∧q.m.p.wide=n.m.p.wide∧q.m.p.rule=n.m.p.rule∧q.m.p.top=n.m.p.top∧q.m.p.least=n.m.p.least∧q.m.p.part=n.m.p.part∧zE q.m.s=zE n.m.s∧z6 q.m.used=z6 n.m.used∧AObj.fro 1 (iE q.m.p.months)=AObj.fro 1 (iE n.m.p.months)∧AObj.fro 1 (iE q.m.p.settle)=AObj.fro 1 (iE n.m.p.settle)∧(zAi q)∧∀(r:Unit),True→True∧((List.map yG (i.out d)++[[dI 3,dI e,dI f,dI g,dI h,dI j,dI k,dI 0]]).length+2)*(64:Nat)≤(70368744177664:Nat)∧∃(s:Nat),(↑s:Int)=IntKind.i64.wrap ((↑d:Int)+1)∧List.map yG (i.out s)=List.map yG (i.out d)++[[dI 3,dI e,dI f,dI g,dI h,dI j,dI k,dI 0]]++[yG (fN q),yG (fJ q)]∧b s∧c s<c d∧Sx.AObj.cells [V.d (dI i.x.price),V.d (dI i.x.qty),V.d (D.v (.bool i.x.implied)),V.own ((5:Nat)+(1:Nat)+1)] 158=Sx.AObj.cells [V.d (dI i.x.price),V.d (dI i.x.qty),V.d (D.v (.bool i.x.implied)),V.own ((5:Nat)+(1:Nat)+1)] 158∧AObj.fro 6 (List.map yV i.x.fills)=AObj.fro 6 (List.map yV i.x.fills)∧Sx.AObj.cells [V.d (dI i.c.kind),V.d (dI i.c.id),V.d (dI i.c.inst),V.d (dI i.c.side),V.d (dI i.c.price),V.d (dI i.c.qty),V.d (dI i.c.least),V.d (dI i.c.time),V.d (bK i)] 35=Sx.AObj.cells [V.d (dI i.c.kind),V.d (dI i.c.id),V.d (dI i.c.inst),V.d (dI i.c.side),V.d (dI i.c.price),V.d (dI i.c.qty),V.d (dI i.c.least),V.d (dI i.c.time),V.d (bK i)] 35∧Sx.AObj.cells [V.nm 0 0] 23=Sx.AObj.cells [V.nm 0 0] 23∧Sx.AObj.cells (gC (aC 5 ((5:Nat)+(1:Nat)+(1:Nat)+(1:Nat)+(1:Nat)+(1:Nat)+(1:Nat)+(2:Nat)+(1:Nat)+(1:Nat)+(1:Nat)+(1:Nat)+((5:Nat)-(5:Nat))+((5:Nat)-(5:Nat))) ((6:Nat)-(5:Nat)) [((2:Nat),(2:Nat)),((1:Nat),(1:Nat)),((4:Nat),(4:Nat)),((3:Nat),(3:Nat)),((0:Nat),(0:Nat))]) [sV q.m.p.code,V.own 3,zA q.m.p.tick,zA q.m.p.low,zA q.m.p.high,zA q.m.p.wide,zA q.m.p.rule,zA q.m.p.top,zA q.m.p.least,zA q.m.p.part,V.own 4,V.nm 1 0,V.mp 2]) (90:TypeId)=y7 i.m 0∧zE q.m.s=y7 i.m 1∧Sx.AObj.map (z6 q.m.used)=y7 i.m 2∧AObj.fro 1 (iE q.m.p.months)=y7 i.m 3∧AObj.fro 1 (iE q.m.p.settle)=y7 i.m 4) (∃(n:Nat),(↑n:Int)=IntKind.i64.wrap ((↑d:Int)+1)∧List.map yG (i.out n)=List.map yG (i.out d)++[[dI 3,dI e,dI f,dI g,dI h,dI j,dI k,dI 0]]∧b n∧c n<c d∧Sx.AObj.cells [V.d (dI i.x.price),V.d (dI i.x.qty),V.d (D.v (.bool i.x.implied)),V.own ((5:Nat)+(1:Nat)+1)] 158=Sx.AObj.cells [V.d (dI i.x.price),V.d (dI i.x.qty),V.d (D.v (.bool i.x.implied)),V.own ((5:Nat)+(1:Nat)+1)] 158∧AObj.fro 6 (List.map yV i.x.fills)=AObj.fro 6 (List.map yV i.x.fills)∧Sx.AObj.cells [V.d (dI i.c.kind),V.d (dI i.c.id),V.d (dI i.c.inst),V.d (dI i.c.side),V.d (dI i.c.price),V.d (dI i.c.qty),V.d (dI i.c.least),V.d (dI i.c.time),V.d (bK i)] 35=Sx.AObj.cells [V.d (dI i.c.kind),V.d (dI i.c.id),V.d (dI i.c.inst),V.d (dI i.c.side),V.d (dI i.c.price),V.d (dI i.c.qty),V.d (dI i.c.least),V.d (dI i.c.time),V.d (bK i)] 35∧Sx.AObj.cells [V.nm 0 0] 23=Sx.AObj.cells [V.nm 0 0] 23∧Sx.AObj.cells (gC (aC 5 ((5:Nat)+(1:Nat)+(1:Nat)+(1:Nat)+(1:Nat)+(1:Nat)+(1:Nat)+(2:Nat)+(1:Nat)+(1:Nat)+(1:Nat)+(1:Nat)) ((5:Nat)-(5:Nat)) [((2:Nat),(2:Nat)),((1:Nat),(1:Nat)),((4:Nat),(4:Nat)),((3:Nat),(3:Nat)),((0:Nat),(0:Nat))]) [sV l.m.p.code,V.own 3,zA l.m.p.tick,zA l.m.p.low,zA l.m.p.high,zA l.m.p.wide,zA l.m.p.rule,zA l.m.p.top,zA l.m.p.least,zA l.m.p.part,V.own 4,V.nm 1 0,V.mp 2]) (90:TypeId)=y7 i.m 0∧zE l.m.s=y7 i.m 1∧Sx.AObj.map (z6 l.m.used)=y7 i.m 2∧AObj.fro 1 (iE l.m.p.months)=y7 i.m 3∧AObj.fro 1 (iE l.m.p.settle)=y7 i.m 4)) (((List.map yG (i.out d)).length+1)*(64:Nat)≤(70368744177664:Nat)∧∃(e:MiN),e.inst=i.c.inst∧sb e.m.p.code=sb i.m.p.code∧e.m.p.tick=i.m.p.tick∧e.m.p.low=i.m.p.low∧e.m.p.high=i.m.p.high∧e.m.p.wide=i.m.p.wide∧e.m.p.rule=i.m.p.rule∧e.m.p.top=i.m.p.top∧e.m.p.least=i.m.p.least∧e.m.p.part=i.m.p.part∧zE e.m.s=y7 i.m 1∧z6 e.m.used=z6 i.m.used∧AObj.fro 1 (iE e.m.p.months)=y7 i.m 3∧AObj.fro 1 (iE e.m.p.settle)=y7 i.m 4∧(lP e)∧∀(f:Unit),True→cnd (e.m.p.legs e.inst).snd.snd (∃(g:MpI),g.inst=i.c.inst∧g.x.price=i.x.price∧g.x.qty=i.x.qty∧g.x.implied=i.x.implied∧List.map yV g.x.fills=List.map yV i.x.fills∧sb g.m.p.code=sb e.m.p.code∧g.m.p.tick=e.m.p.tick∧g.m.p.low=e.m.p.low∧g.m.p.high=e.m.p.high∧g.m.p.wide=e.m.p.wide∧g.m.p.rule=e.m.p.rule∧g.m.p.top=e.m.p.top∧g.m.p.least=e.m.p.least∧g.m.p.part=e.m.p.part∧zE g.m.s=zE e.m.s∧z6 g.m.used=z6 e.m.used∧AObj.fro 1 (iE g.m.p.months)=AObj.fro 1 (iE e.m.p.months)∧AObj.fro 1 (iE g.m.p.settle)=AObj.fro 1 (iE e.m.p.settle)∧(lC g)∧∀(h:Unit),True→∃(j:MsI),j.r.kind=3∧j.r.id=i.c.id∧j.r.inst=i.c.inst∧j.r.side=i.c.side∧j.r.price=i.x.price∧j.r.qty=i.x.qty∧j.r.left=i.left∧j.r.why=0∧j.near=(qP g).fst∧j.far=(qP g).snd∧sb j.m.p.code=sb g.m.p.code∧j.m.p.tick=g.m.p.tick∧j.m.p.low=g.m.p.low∧j.m.p.high=g.m.p.high∧j.m.p.wide=g.m.p.wide∧j.m.p.rule=g.m.p.rule∧j.m.p.top=g.m.p.top∧j.m.p.least=g.m.p.least∧j.m.p.part=g.m.p.part∧zE j.m.s=zE g.m.s∧z6 j.m.used=z6 g.m.used∧AObj.fro 1 (iE j.m.p.months)=AObj.fro 1 (iE g.m.p.months)∧AObj.fro 1 (iE j.m.p.settle)=AObj.fro 1 (iE g.m.p.settle)∧(zAi j)∧∀(k:Unit),True→True∧((List.map yG (i.out d)++[[dI 3,dI i.c.id,dI i.c.inst,dI i.c.side,dI i.x.price,dI i.x.qty,dI i.left,dI 0]]).length+2)*(64:Nat)≤(70368744177664:Nat)∧∃(l:Unit),sb i.m.p.code=sb j.m.p.code∧i.m.p.tick=j.m.p.tick∧i.m.p.low=j.m.p.low∧i.m.p.high=j.m.p.high∧i.m.p.wide=j.m.p.wide∧i.m.p.rule=j.m.p.rule∧i.m.p.top=j.m.p.top∧i.m.p.least=j.m.p.least∧i.m.p.part=j.m.p.part∧zE i.m.s=zE j.m.s∧z6 i.m.used=z6 j.m.used∧AObj.fro 1 (iE i.m.p.months)=AObj.fro 1 (iE j.m.p.months)∧AObj.fro 1 (iE i.m.p.settle)=AObj.fro 1 (iE j.m.p.settle)∧List.map yG (dZ i.m.p i.c i.x i.left)=List.map yG (i.out d)++[[dI 3,dI i.c.id,dI i.c.inst,dI i.c.side,dI i.x.price,dI i.x.qty,dI i.left,dI 0]]++[yG (fN j),yG (fJ j)]∧True) (∃(g:Unit),sb i.m.p.code=sb e.m.p.code∧i.m.p.tick=e.m.p.tick∧i.m.p.low=e.m.p.low∧i.m.p.high=e.m.p.high∧i.m.p.wide=e.m.p.wide∧i.m.p.rule=e.m.p.rule∧i.m.p.top=e.m.p.top∧i.m.p.least=e.m.p.least∧i.m.p.part=e.m.p.part∧zE i.m.s=zE e.m.s∧z6 i.m.used=z6 e.m.used∧AObj.fro 1 (iE i.m.p.months)=AObj.fro 1 (iE e.m.p.months)∧AObj.fro 1 (iE i.m.p.settle)=AObj.fro 1 (iE e.m.p.settle)∧List.map yG (dZ i.m.p i.c i.x i.left)=List.map yG (i.out d)++[[dI 3,dI i.c.id,dI i.c.inst,dI i.c.side,dI i.x.price,dI i.x.qty,dI i.left,dI 0]]∧True))
open Go Cv Go.Proofs
theorem zZi:rejC.ok Tryz.prog 39:=okw (V:=yRi) mixed gok0 0 (fun _=>[]) (fun _=>[]) [] Tryz.func39 fun(i:RjI) _=>⟨(),rfl,trivial⟩
theorem yDi (i:MsI) (h:mspreadC.cnd i):zXg i:=by
 obtain⟨⟨hc,hp⟩,hs⟩:i.m.fine∧(i.r.side=1∨i.r.side=2):=h
 have hw:IntKind.i64.wrap (3-i.r.side)=3-i.r.side:=w64 (by omega)
 unfold zXg sG fN fJ v7 wO qX dI
 rw[hw]
 refine⟨⟨i.m.p,i.r.inst⟩,rfl,rfl,rfl,rfl,rfl,rfl,rfl,rfl,rfl,rfl,rfl,rfl,hp,fun _ _=> ?_⟩
 exact kp
theorem zZu:mspreadC.ok Tryz.prog 117:=okw mixed (gokc pB gok0) 0 (fun _=>[]) (fun _=>[]) [] Tryz.func117 yDi
theorem yMq:misC.ok Tryz.prog 115:=okw (V:=yRz) mixed (gokc pB gok0) 0 (fun _=>[]) (fun _=>[]) [] Tryz.func115 fun(i:MiN) h=>by
 obtain⟨hc,hp⟩:i.m.fine:=h
 exact⟨⟨i.m.p,i.inst⟩,rfl,rfl,rfl,rfl,rfl,rfl,rfl,rfl,rfl,rfl,rfl,rfl,hp,fun _ _=>kp⟩
theorem yPa {l:List vD} {k:Nat} {f:vD} (h:l[k]? =some f):zF (l.map yV) k 0 6=some [D.v (.int .i64 f.id),D.v (.int .i64 f.inst),D.v (.int .i64 f.side),D.v (.int .i64 f.price),D.v (.int .i64 f.qty),D.v (.int .i64 f.left)]:=elA h (by simp[yV]) rfl
theorem vof (i:OfI) (h:ofC.cnd i):Vof i:=by
 have hl:i.x.fills.length≤1000000:=h
 have e4:(i.x.fills.map yV).length=i.x.fills.length:=ySm ..
 unfold Vof zSx dI
 refine⟨0,rfl,fun j=>j≤i.x.fills.length∧(i.x.fills.take j).find? (fun f=>decide (f.inst=i.k))=none,fun j=>i.x.fills.length-j,⟨yUs _,rfl⟩,?_⟩
 rintro j ⟨j1,j2⟩
 refine zL (fun c=> ?_) (fun c=> ?_)
 ·obtain⟨f,hf⟩:=z9 (l:=i.x.fills) (i:=j) (by omega)
  refine⟨⟨by omega,by omega⟩,_,_,_,_,_,_,yPa hf,Cv.cnd.mk (fun g=>⟨(),?_,by(repeat'(first|exact trivial|exact rfl|apply And.intro))⟩) (fun g=>⟨j+1,wjn (by omega),⟨by omega,?_⟩,by dsimp only;omega,by(repeat'(first|exact trivial|exact rfl|apply And.intro))⟩)⟩
  ·have g:f.inst=i.k:=by simpa using g
   have e:i.x.fills.find? (fun f=>decide (f.inst=i.k))=some f:=by
    rw[← yUt j i.x.fills,List.find?_append,j2,yVd (by omega),(ySl.1 hf).2,List.find?_cons_of_pos (by simpa using g)]
    rfl
   rw[ofF,e]
  ·have g:¬f.inst=i.k:=by simpa using g
   rw[yUm,hf,List.find?_append,j2]
   simp[g]
 ·have:j=i.x.fills.length:=by omega
  rw[this,yTe (yTj _)]at j2
  exact⟨(),by rw[ofF,j2],by(repeat'(first|exact trivial|exact rfl|apply And.intro))⟩
theorem yQi:ofC.ok Tryz.prog 134:=okw mixed gok0 0 (fun _=>[]) (fun _=>ofA) [] Tryz.func134 vof
theorem yAn (i:MpI) (h:mpricesC.cnd i):zWq i:=by
 obtain⟨⟨hc,hp⟩,hpr,hl⟩:i.m.fine∧yZ i.x.price∧i.x.fills.length≤1000000:=h
 unfold zWq qP nJ y4 qX
 refine Cv.cnd.mk (fun e=> ?_) (fun e=> ?_)
 ·have e:i.x.implied=false:=by simpa using e
  have h0:qO i.m.p i.inst i.x=((fE i.m.p i.inst i.x.price).1,(fE i.m.p i.inst i.x.price).2.1):=by rw[qO,ySk e]
  rw[h0]
  exact⟨⟨i.m.p,i.inst,i.x.price⟩,rfl,rfl,rfl,rfl,rfl,rfl,rfl,rfl,rfl,rfl,rfl,rfl,rfl,⟨hc,hp,hpr⟩,fun _ _=>kp⟩
 ·have e:¬i.x.implied=false:=by simpa using e
  have h0:qO i.m.p i.inst i.x=(ofF i.x (i.m.p.legs i.inst).1,ofF i.x (i.m.p.legs i.inst).2.1):=by rw[qO,ySj e]
  rw[h0]
  exact⟨⟨i.m.p,i.inst⟩,rfl,rfl,rfl,rfl,rfl,rfl,rfl,rfl,rfl,rfl,rfl,rfl,hp,fun _ _=>⟨⟨i.x,(i.m.p.legs i.inst).1⟩,rfl,rfl,rfl,rfl,rfl,hl,fun _ _=>⟨⟨i.x,(i.m.p.legs i.inst).2.1⟩,rfl,rfl,rfl,rfl,rfl,hl,fun _ _=>kp⟩⟩⟩
theorem zYl:mpricesC.ok Tryz.prog 116:=okw mixed (gokc pB (gokc zYd (gokc yQi gok0))) 0 (fun _=>[]) (fun _=>[]) [] Tryz.func116 yAn
theorem zMz (p:Prd) (x:kM) (r:Rep):(jD p x r).length≤3:=by
 rw[jD,yTc]
 split
 ·rw[zBm];simp
 ·simp
theorem z2i {p:Prd} {x:kM} {r:Rep} (h:(p.legs r.inst).2.2=false):jD p x r=[r]:=by
 rw[jD,ySj (by rw[h];decide)]
theorem zTp {p:Prd} {x:kM} {r:Rep} (h:(p.legs r.inst).2.2=true):jD p x r=r::zBm p r (qO p r.inst x).1 (qO p r.inst x).2:=by
 rw[jD,ySk h]
theorem StI'.out_len (i:StI'):∀j,(i.out j).length≤3*j
 |0=>yTj _
 |j+1=>by
  have ih:=StI'.out_len i j
  rw[StI'.out]at ih ⊢
  rw[yUm,yUh,ySr]
  cases e:i.x.fills[j]? with
  |none=>simp only[Option.toList_none,yXx,yVe];omega
  |some f=>
   have:=zMz i.m.p i.x (fL f)
   simp only[yWz,yUa,yXx,yTl]
   omega
theorem StI'.out_succ (i:StI') {j:Nat} {f:vD} (h:i.x.fills[j]? =some f):i.out (j+1)=i.out j++jD i.m.p i.x (fL f):=by
 rw[StI'.out,StI'.out,yUm,yUh,h]
 simp
theorem yMm (i:StI') (h:mstepC.cnd i):z9v i:=by
 obtain⟨hf,hpr,hl,hcs,hfs⟩:i.m.fine∧yZ i.x.price∧i.x.fills.length≤1000000∧(i.c.side=1∨i.c.side=2)∧∀f∈i.x.fills,f.side=1∨f.side=2:=h
 have e4:(i.x.fills.map yV).length=i.x.fills.length:=ySm ..
 unfold z9v bK lP zAi lC fN fJ qP dI
 refine⟨0,rfl,rfl,fun j=>j≤i.x.fills.length,fun j=>i.x.fills.length-j,yUs _,?_⟩
 intro j hj
 have ho:=i.out_len j
 have e5:((i.out j).map yG).length=(i.out j).length:=ySm ..
 refine zL (fun c=> ?_) (fun c=> ?_)
 ·obtain⟨f,hfj⟩:=z9 (l:=i.x.fills) (i:=j) (by omega)
  have hos:=i.out_succ hfj
  have hfj2:=hfs f (ySt hfj)
  refine⟨⟨by omega,by omega⟩,_,_,_,_,_,_,yPa hfj,by omega,⟨i.m,f.inst⟩,rfl,rfl,rfl,rfl,rfl,rfl,rfl,rfl,rfl,rfl,rfl,rfl,rfl,rfl,hf,fun _ _=>Cv.cnd.mk (fun e=> ?_) (fun e=> ?_)⟩
  ·have e:(i.m.p.legs (fL f).inst).2.2=true:=e
   rw[zTp e]at hos
   refine⟨⟨i.m,f.inst,i.x⟩,rfl,rfl,rfl,rfl,rfl,rfl,rfl,rfl,rfl,rfl,rfl,rfl,rfl,rfl,rfl,rfl,rfl,rfl,⟨hf,hpr,hl⟩,fun _ _=>⟨⟨i.m,fL f,(qO i.m.p f.inst i.x).1,(qO i.m.p f.inst i.x).2⟩,rfl,rfl,rfl,rfl,rfl,rfl,rfl,rfl,rfl,rfl,rfl,rfl,rfl,rfl,rfl,rfl,rfl,rfl,rfl,rfl,rfl,rfl,rfl,⟨hf,hfj2⟩,fun _ _=>⟨trivial,by rw[ySr,e5];simp only[yTc,yVe];omega,j+1,wjn (by omega),?_,by omega,by dsimp only;omega,by(repeat'(first|exact trivial|exact rfl|apply And.intro))⟩⟩⟩
   rw[hos,ySv,ySw]
   rfl
  ·have e:(i.m.p.legs (fL f).inst).2.2=false:=e
   rw[z2i e]at hos
   refine⟨j+1,wjn (by omega),?_,by omega,by dsimp only;omega,by(repeat'(first|exact trivial|exact rfl|apply And.intro))⟩
   rw[hos,ySv];rfl
 ·have hj:j=i.x.fills.length:=by omega
  have ho2:i.x.fills.flatMap (fun f=>jD i.m.p i.x (fL f))=i.out j:=by rw[StI'.out,hj,yTe (yTj _)]
  have hR:dZ i.m.p i.c i.x i.left=i.out j++jD i.m.p i.x ⟨3,i.c.id,i.c.inst,i.c.side,i.x.price,i.x.qty,i.left,0⟩:=by rw[dZ,ho2]
  refine⟨by omega,⟨i.m,i.c.inst⟩,rfl,rfl,rfl,rfl,rfl,rfl,rfl,rfl,rfl,rfl,rfl,rfl,rfl,rfl,hf,fun _ _=>Cv.cnd.mk (fun e=> ?_) (fun e=> ?_)⟩
  ·have e:(i.m.p.legs (⟨3,i.c.id,i.c.inst,i.c.side,i.x.price,i.x.qty,i.left,0⟩:Rep).inst).2.2=true:=e
   rw[zTp e]at hR
   refine⟨⟨i.m,i.c.inst,i.x⟩,rfl,rfl,rfl,rfl,rfl,rfl,rfl,rfl,rfl,rfl,rfl,rfl,rfl,rfl,rfl,rfl,rfl,rfl,⟨hf,hpr,hl⟩,fun _ _=>⟨⟨i.m,⟨3,i.c.id,i.c.inst,i.c.side,i.x.price,i.x.qty,i.left,0⟩,(qO i.m.p i.c.inst i.x).1,(qO i.m.p i.c.inst i.x).2⟩,rfl,rfl,rfl,rfl,rfl,rfl,rfl,rfl,rfl,rfl,rfl,rfl,rfl,rfl,rfl,rfl,rfl,rfl,rfl,rfl,rfl,rfl,rfl,⟨hf,hcs⟩,fun _ _=>⟨trivial,by rw[ySr,e5];simp only[yTc,yVe];omega,?_⟩⟩⟩
   rw[hR,ySv,ySw]
   exact kp
  ·have e:(i.m.p.legs (⟨3,i.c.id,i.c.inst,i.c.side,i.x.price,i.x.qty,i.left,0⟩:Rep).inst).2.2=false:=e
   rw[z2i e]at hR
   rw[hR,ySv]
   exact kp
theorem z8v:mstepC.ok Tryz.prog 97:=okw mixed (gokc yMq (gokc zYl (gokc zZu gok0))) 1 (fun _=>[]) (fun i=>yKp i) [] Tryz.func97 yMm
open Go Cv Go.Proofs
structure EnI where
 m:Mkt
 p:Prd
 B:List (List zD)
 U:List Int
 c:Cmd
 X:MkX
@[reducible] def EnI.std (i:EnI):Prop:=i.m.Rep i.p i.B i.U∧BOk i.p i.B
@[reducible] def EnI.good (i:EnI):Prop:=(0≤i.c.inst∧i.c.inst<i.B.length)∧(1≤i.c.qty∧i.c.qty≤1000000)∧(i.c.side=1∨i.c.side=2)
@[reducible] def zTm (X:MkX) (p:Prd):Alt:={o:=Mkt,res:=fun _=> .own 5,post:=fun o=>zBf o++[zFf X.R],rel:=fun o=>o.Rep p X.B X.U}
def enterC:Con where
 ι:=EnI
 pat:=fun i=>[.nm 0 0,zNj i.c]
 pre:=fun i=>zBf i.m
 cnd:=fun i=>i.std∧i.good∧i.p.price i.c.inst i.c.price=0∧i.X=wH i.p i.B i.U i.c
 alts:=fun i=>[zTm i.X i.p]
structure EnJ where
 left:Int
 k:Nat
 out:List Rep
def yLt (i:EnI):List SAnn:=[{ι:=EnJ,slots:=fun j=>[(5,.own 0),(8,zA j.left),(51,zA j.k)],rows:=fun j=>[zFf j.out]}]
def orderC:Con where
 ι:=EnI
 pat:=fun i=>[.nm 0 0,zNj i.c]
 pre:=fun i=>zBf i.m
 cnd:=fun i=>i.std∧i.c.right=0∧i.c.kind=1∧i.X=cM i.p i.B i.U i.c
 alts:=fun i=>[zTm i.X i.p]
def yLo:List (Nat×SAnn):=[(22,ij 6),(44,bj 47),(52,bj 69)]
structure CaI where
 m:Mkt
 p:Prd
 B:List (List zD)
 U:List Int
 id:Int
 q:Int
 inst:Int
 o:zD
 X:MkX
@[reducible] def CaI.std (i:CaI):Prop:=i.m.Rep i.p i.B i.U∧BOk i.p i.B
def cancelC:Con where
 ι:=CaI
 pat:=fun i=>[.nm 0 0,zA i.id,zA i.inst,zYs i.o]
 pre:=fun i=>zBf i.m
 cnd:=fun i=>i.std∧i.X=jT i.B i.U i.id i.inst i.o
 alts:=fun i=>[zTm i.X i.p]
def reduceC:Con where
 ι:=CaI
 pat:=fun i=>[.nm 0 0,zA i.id,zA i.q,zA i.inst,zYs i.o]
 pre:=fun i=>zBf i.m
 cnd:=fun i=>i.std∧yZ (i.o.qty-i.q)∧i.X=hJ i.B i.U i.id i.q i.inst i.o
 alts:=fun i=>[zTm i.X i.p]
structure z5n where
 m:Mkt
 p:Prd
 B:List (List zD)
 U:List Int
 c:Cmd
 inst:Int
 o:zD
 X:MkX
def replaceC:Con where
 ι:=z5n
 pat:=fun i=>[.nm 0 0,zNj i.c,zA i.inst,zYs i.o]
 pre:=fun i=>zBf i.m
 cnd:=fun i=>i.m.Rep i.p i.B i.U∧BOk i.p i.B∧zI i.B i.c.id=(i.inst,i.o,true)∧(1≤i.c.qty∧i.c.qty≤1000000)∧i.X=vM i.p i.B i.U i.c i.inst i.o
 alts:=fun i=>[zTm i.X i.p]
def doC:Con where
 ι:=EnI
 pat:=fun i=>[.nm 0 0,zNj i.c]
 pre:=fun i=>[vH i.m]
 cnd:=fun i=>i.std∧i.c.label.length≤140737488355328∧yZ i.c.qty∧i.X=doF i.p i.B i.U i.c
 alts:=fun i=>[{o:=Mkt,res:=fun _=> .own 1,post:=fun o=>[vH o,zFf i.X.R],rel:=fun o=>o.Rep i.p i.X.B i.X.U}]
structure MfI where
 m:Mkt
 p:Prd
 B:List (List zD)
 U:List Int
 id:Int
def mfindC:Con:=con1 MfI (fun i=>[.nm 0 0,zA i.id]) (fun i=>[vH i.m]) (fun i=>i.m.Rep i.p i.B i.U∧BOk i.p i.B) (fun i=> .tup [zA (zI i.B i.id).1,zYs (zI i.B i.id).2.1,yP (zI i.B i.id).2.2]) (fun i=>[vH i.m])
def mcountC:Con:=con1 MfI (fun i=>[.nm 0 0]) (fun i=>[vH i.m]) (fun i=>i.m.Rep i.p i.B i.U∧BOk i.p i.B) (fun i=>zA (zNd i.B)) (fun i=>[vH i.m])
open Go Cv Go.Proofs
def zAv (a:Mkt) (b:EnI) (c:EnJ):Prop:=z6 a.used=jL (Value.int IntKind.i64 b.c.id) [D.v (.bool true)] (z6 b.m.used)∧AObj.fro 1 (iE a.p.months)=y7 b.m 3∧AObj.fro 1 (iE a.p.settle)=y7 b.m 4∧List.map yG b.X.R=List.map yG c.out∧a.Rep b.p b.X.B b.X.U
def vQ (a:EnI):=(D.v (Value.string (sb a.c.label)))
def yCf (i:EnI):Prop:=
 (∀(a:Value×List D),a∈z6 i.m.used→like (Value.int IntKind.i64 i.c.id) a.fst=true)∧∃(a:RunI),a.inst=i.c.inst∧zB a.sd=i.c.side∧a.price=i.c.price∧a.q=i.c.qty∧zE a.s=y7 i.m 1∧(qR a)∧∀(b:MSt),b.Rep a.p a.r.B→∃(c:EnJ),c.left=i.c.qty∧(↑c.k:Int)=0∧List.map yG c.out=[[dI 1,dI i.c.id,dI i.c.inst,dI i.c.side,dI i.c.price,dI i.c.qty,dI i.c.qty,dI 0]]∧∃(d:EnJ→Prop),∃(e:EnJ→Nat),d c∧∀(f:EnJ),d f→cnd (decide ((↑f.k:Int)<(↑(List.map jV a.r.steps).length:Int))) ((0≤(↑f.k:Int)∧(↑f.k:Int)<(↑(List.map jV a.r.steps).length:Int))∧∃(g:Int),∃(h:Int),∃(j:Bool),∃(k:List (List D)),zF (List.map jV a.r.steps) (↑f.k:Int).toNat 0 4=some [dI g,dI h,D.v (.bool j),D.ro 6 k]∧∃(l:StI'),l.c.kind=i.c.kind∧l.c.id=i.c.id∧l.c.inst=i.c.inst∧l.c.side=i.c.side∧l.c.price=i.c.price∧l.c.qty=i.c.qty∧l.c.least=i.c.least∧l.c.time=i.c.time∧sb l.c.label=sb i.c.label∧l.x.price=g∧l.x.qty=h∧l.x.implied=j∧List.map yV l.x.fills=k∧l.left=IntKind.i64.wrap (f.left-h)∧sb l.m.p.code=sb i.m.p.code∧l.m.p.tick=i.m.p.tick∧l.m.p.low=i.m.p.low∧l.m.p.high=i.m.p.high∧l.m.p.wide=i.m.p.wide∧l.m.p.rule=i.m.p.rule∧l.m.p.top=i.m.p.top∧l.m.p.least=i.m.p.least∧l.m.p.part=i.m.p.part∧zE l.m.s=zE b∧z6 l.m.used=jL (Value.int IntKind.i64 i.c.id) [D.v (.bool true)] (z6 i.m.used)∧AObj.fro 1 (iE l.m.p.months)=y7 i.m 3∧AObj.fro 1 (iE l.m.p.settle)=y7 i.m 4∧((l.m.p.check=0∧l.m.p.code.length≤1099511627776∧l.m.p.months.length≤1099511627776∧l.m.p.settle.length≤1099511627776)∧((-9223372036854775808)≤l.x.price∧l.x.price≤9223372036854775807)∧l.x.fills.length≤1000000∧(l.c.side=1∨l.c.side=2)∧∀(m:vD),m∈l.x.fills→m.side=1∨m.side=2)∧∀(m:Unit),True→((List.map yG f.out).length+(List.map yG (dZ l.m.p l.c l.x l.left)).length)*(64:Nat)≤(70368744177664:Nat)∧∃(n:EnJ),n.left=IntKind.i64.wrap (f.left-h)∧(↑n.k:Int)=IntKind.i64.wrap ((↑f.k:Int)+1)∧List.map yG n.out=List.map yG f.out++List.map yG (dZ l.m.p l.c l.x l.left)∧d n∧e n<e f∧zE l.m.s=zE b∧AObj.own 158 4 (List.map jV a.r.steps)=AObj.own 158 4 (List.map jV a.r.steps)∧Sx.AObj.cells [V.d (dI i.c.kind),V.d (dI i.c.id),V.d (dI i.c.inst),V.d (dI i.c.side),V.d (dI i.c.price),V.d (dI i.c.qty),V.d (dI i.c.least),V.d (dI i.c.time),V.d (vQ i)] 35=Sx.AObj.cells [V.d (dI i.c.kind),V.d (dI i.c.id),V.d (dI i.c.inst),V.d (dI i.c.side),V.d (dI i.c.price),V.d (dI i.c.qty),V.d (dI i.c.least),V.d (dI i.c.time),V.d (vQ i)] 35∧Sx.AObj.cells (gC (aC 5 ((5:Nat)+(1:Nat)+1+((2:Nat)-(1:Nat))+(1:Nat)+(1:Nat)+1) ((6:Nat)-(5:Nat)) [((2:Nat),(2:Nat)),((1:Nat),(1:Nat)),((4:Nat),(4:Nat)),((3:Nat),(3:Nat)),((0:Nat),(0:Nat))]) [sV l.m.p.code,V.own 3,zA l.m.p.tick,zA l.m.p.low,zA l.m.p.high,zA l.m.p.wide,zA l.m.p.rule,zA l.m.p.top,zA l.m.p.least,zA l.m.p.part,V.own 4,V.nm 1 0,V.mp 2]) (90:TypeId)=y7 i.m 0∧Sx.AObj.map (z6 l.m.used)=Sx.AObj.map (jL (Value.int IntKind.i64 i.c.id) [D.v (.bool true)] (z6 i.m.used))∧AObj.fro 1 (iE l.m.p.months)=y7 i.m 3∧AObj.fro 1 (iE l.m.p.settle)=y7 i.m 4) (cnd (a.r.left==0) (∃(g:Mkt),sb g.p.code=sb i.m.p.code∧g.p.tick=i.m.p.tick∧g.p.low=i.m.p.low∧g.p.high=i.m.p.high∧g.p.wide=i.m.p.wide∧g.p.rule=i.m.p.rule∧g.p.top=i.m.p.top∧g.p.least=i.m.p.least∧g.p.part=i.m.p.part∧zE g.s=zE b∧zAv g i f) (cnd (i.c.time==1) (∃(g:SaI),g.inst=i.c.inst∧g.id=i.c.id∧zB g.sd=i.c.side∧g.price=i.c.price∧g.qty=a.r.left∧zE g.s=zE b∧((g.s.p.code.length≤1099511627776∧g.s.p.months.length≤1099511627776∧g.s.p.settle.length≤1099511627776)∧g.s.books.length≤1000000∧∀(h:Book),h∈g.s.books→(h.a.slots.length≤1000000∧(h.a.free≠0→∃(j:Slot),j∈h.a.slots∧j.used=false)∧∀(j:fF),j∈h.a.queues→j.last=(-1)∨0≤j.last∧j.last<(↑h.a.slots.length:Int))∧h.a.queues.length≤100000∧h.buys.length≤100000∧h.sells.length≤100000∧h.spare.length≤100000)∧∀(h:Unit),True→∃(j:Mkt),sb j.p.code=sb i.m.p.code∧j.p.tick=i.m.p.tick∧j.p.low=i.m.p.low∧j.p.high=i.m.p.high∧j.p.wide=i.m.p.wide∧j.p.rule=i.m.p.rule∧j.p.top=i.m.p.top∧j.p.least=i.m.p.least∧j.p.part=i.m.p.part∧zE j.s=zE (MSt.addF g).fst∧zAv j i f) (((List.map yG f.out).length+1)*(64:Nat)≤(70368744177664:Nat)∧∃(g:Mkt),sb g.p.code=sb i.m.p.code∧g.p.tick=i.m.p.tick∧g.p.low=i.m.p.low∧g.p.high=i.m.p.high∧g.p.wide=i.m.p.wide∧g.p.rule=i.m.p.rule∧g.p.top=i.m.p.top∧g.p.least=i.m.p.least∧g.p.part=i.m.p.part∧zE g.s=zE b∧z6 g.used=jL (Value.int IntKind.i64 i.c.id) [D.v (.bool true)] (z6 i.m.used)∧AObj.fro 1 (iE g.p.months)=y7 i.m 3∧AObj.fro 1 (iE g.p.settle)=y7 i.m 4∧List.map yG i.X.R=List.map yG f.out++[[dI 4,dI i.c.id,dI i.c.inst,dI i.c.side,dI i.c.price,dI a.r.left,dI 0,dI 0]]∧g.Rep i.p i.X.B i.X.U)))
def zFr (a:EnI):Prop:=Sx.AObj.cells [V.d (dI a.c.kind),V.d (dI a.c.id),V.d (dI a.c.inst),V.d (dI a.c.side),V.d (dI a.c.price),V.d (dI a.c.qty),V.d (dI a.c.least),V.d (dI a.c.time),V.d (vQ a)] 35=Sx.AObj.cells [V.d (dI a.c.kind),V.d (dI a.c.id),V.d (dI a.c.inst),V.d (dI a.c.side),V.d (dI a.c.price),V.d (dI a.c.qty),V.d (dI a.c.least),V.d (dI a.c.time),V.d (vQ a)] 35∧y7 a.m 0=y7 a.m 0∧y7 a.m 2=y7 a.m 2∧y7 a.m 3=y7 a.m 3∧y7 a.m 4=y7 a.m 4
def zDk (a:Bool→Prop) (b:SoI) (c:EnI):Prop:=∃(d:Bool),d=false∧a d∧zE b.s=zE b.s∧zFr c
def zFu (a:Int→Prop) (b:Int) (c:EnI):Prop:=a b∧Sx.AObj.cells [V.d (dI c.c.kind),V.d (dI c.c.id),V.d (dI c.c.inst),V.d (dI c.c.side),V.d (dI c.c.price),V.d (dI c.c.qty),V.d (dI c.c.least),V.d (dI c.c.time),V.d (vQ c)] 35=Sx.AObj.cells [V.d (dI c.c.kind),V.d (dI c.c.id),V.d (dI c.c.inst),V.d (dI c.c.side),V.d (dI c.c.price),V.d (dI c.c.qty),V.d (dI c.c.least),V.d (dI c.c.time),V.d (vQ c)] 35∧y7 c.m 0=y7 c.m 0∧y7 c.m 1=y7 c.m 1∧y7 c.m 2=y7 c.m 2∧y7 c.m 3=y7 c.m 3∧y7 c.m 4=y7 c.m 4
def zEi (a:Bool→Prop) (b:Bool) (c:RunI) (d:SoI) (e:EnI):Prop:=a b∧zE c.s=zE d.s∧zFr e
def zAe (a:Mkt) (b:EnI) (c:RjI):Prop:=z6 a.used=z6 b.m.used∧AObj.fro 1 (iE a.p.months)=y7 b.m 3∧AObj.fro 1 (iE a.p.settle)=y7 b.m 4∧List.map yG b.X.R=[yG (Rep.mk 2 c.c.id 0 0 0 0 0 c.why)]∧a.Rep b.p b.X.B b.X.U
def zFv (a:EnI) (b:RjI):Prop:=True∧∀(c:Unit),True→∃(d:Mkt),sb d.p.code=sb a.m.p.code∧d.p.tick=a.m.p.tick∧d.p.low=a.m.p.low∧d.p.high=a.m.p.high∧d.p.wide=a.m.p.wide∧d.p.rule=a.m.p.rule∧d.p.top=a.m.p.top∧d.p.least=a.m.p.least∧d.p.part=a.m.p.part∧zE d.s=y7 a.m 1∧zAe d a b
def tD (a:EnI) (b:SoI) (c:RjI):Prop:=True∧∀(d:Unit),True→∃(e:Mkt),sb e.p.code=sb a.m.p.code∧e.p.tick=a.m.p.tick∧e.p.low=a.m.p.low∧e.p.high=a.m.p.high∧e.p.wide=a.m.p.wide∧e.p.rule=a.m.p.rule∧e.p.top=a.m.p.top∧e.p.least=a.m.p.least∧e.p.part=a.m.p.part∧zE e.s=zE b.s∧zAe e a c
def pY (a:EnI) (b:EnI):Prop:=∀(c:Mkt),c.Rep a.p a.X.B a.X.U→∃(d:Mkt),sb d.p.code=sb c.p.code∧d.p.tick=c.p.tick∧d.p.low=c.p.low∧d.p.high=c.p.high∧d.p.wide=c.p.wide∧d.p.rule=c.p.rule∧d.p.top=c.p.top∧d.p.least=c.p.least∧d.p.part=c.p.part∧zE d.s=zE c.s∧z6 d.used=z6 c.used∧AObj.fro 1 (iE d.p.months)=AObj.fro 1 (iE c.p.months)∧AObj.fro 1 (iE d.p.settle)=AObj.fro 1 (iE c.p.settle)∧List.map yG b.X.R=List.map yG a.X.R∧d.Rep b.p b.X.B b.X.U
def nR (a:EnI):Prop:=(a.m.Rep a.p a.B a.U∧BOk a.p a.B)∧((0≤a.c.inst∧a.c.inst<(↑a.B.length:Int))∧(1≤a.c.qty∧a.c.qty≤1000000)∧(a.c.side=1∨a.c.side=2))∧a.p.price a.c.inst a.c.price=0∧a.X=wH a.p a.B a.U a.c
def yBc (i:EnI):Prop:=
 ∃(a:rC),sb a.p.code=sb i.m.p.code∧iE a.p.months=iE i.m.p.months∧a.p.tick=i.m.p.tick∧a.p.low=i.m.p.low∧a.p.high=i.m.p.high∧a.p.wide=i.m.p.wide∧a.p.rule=i.m.p.rule∧a.p.top=i.m.p.top∧a.p.least=i.m.p.least∧a.p.part=i.m.p.part∧iE a.p.settle=iE i.m.p.settle∧a.a=i.c.inst∧a.b=i.c.price∧(x9 a)∧∀(b:Unit),True→cnd (a.p.price a.a a.b !=0) (∃(c:RjI),c.c.kind=i.c.kind∧c.c.id=i.c.id∧c.c.inst=i.c.inst∧c.c.side=i.c.side∧c.c.price=i.c.price∧c.c.qty=i.c.qty∧c.c.least=i.c.least∧c.c.time=i.c.time∧sb c.c.label=sb i.c.label∧c.why=a.p.price a.a a.b∧zFv i c) (∃(c:Int),∃(d:Int→Prop),cnd (i.c.time==3) (∃(e:Int),e=i.c.qty∧zFu d e i) (∃(e:Int),e=i.c.least∧zFu d e i)∧∀(e:Int),d e→(∀(f:Value×List D),f∈z6 i.m.used→like (Value.int IntKind.i64 i.c.id) f.fst=true)∧∃(f:Bool),∃(g:Bool),(j8 (Value.int IntKind.i64 i.c.id) (z6 i.m.used)=some [D.v (.bool g)]∧f=true∨j8 (Value.int IntKind.i64 i.c.id) (z6 i.m.used)=none∧[D.v (.bool g)]=[D.v (.bool false)]∧f=false)∧cnd g (∃(h:RjI),h.c.kind=i.c.kind∧h.c.id=i.c.id∧h.c.inst=i.c.inst∧h.c.side=i.c.side∧h.c.price=i.c.price∧h.c.qty=i.c.qty∧h.c.least=i.c.least∧h.c.time=i.c.time∧sb h.c.label=sb i.c.label∧h.why=25∧zFv i h) (∃(h:SoI),zE h.s=y7 i.m 1∧(h.s.Rep h.p h.B∧h.B.length≤1000)∧∀(j:Unit),True→cnd (decide ((↑(zNd h.B):Int)≥250)) (∃(k:RjI),k.c.kind=i.c.kind∧k.c.id=i.c.id∧k.c.inst=i.c.inst∧k.c.side=i.c.side∧k.c.price=i.c.price∧k.c.qty=i.c.qty∧k.c.least=i.c.least∧k.c.time=i.c.time∧sb k.c.label=sb i.c.label∧k.why=13∧tD i h k) (∃(k:Bool),∃(l:Bool→Prop),cnd (decide (e>0)) (∃(m:RunI),m.inst=i.c.inst∧zB m.sd=i.c.side∧m.price=i.c.price∧m.q=i.c.qty∧zE m.s=zE h.s∧(qR m)∧∀(n:Unit),True→∃(p:Bool),p=decide (m.q-m.r.left<e)∧zEi l p m h i) (zDk l h i)∧∀(m:Bool),l m→cnd m (∃(n:RjI),n.c.kind=i.c.kind∧n.c.id=i.c.id∧n.c.inst=i.c.inst∧n.c.side=i.c.side∧n.c.price=i.c.price∧n.c.qty=i.c.qty∧n.c.least=i.c.least∧n.c.time=i.c.time∧sb n.c.label=sb i.c.label∧n.why=28∧tD i h n) (∃(n:Bool),∃(p:Bool→Prop),cnd (i.c.time==1) (∃(q:RunI),q.inst=i.c.inst∧zB q.sd=i.c.side∧q.price=i.c.price∧q.q=i.c.qty∧zE q.s=zE h.s∧(qR q)∧∀(r:Unit),True→∃(s:Bool),s=dJ q.p q.B q.inst q.sd q.price q.q∧zEi p s q h i) (zDk p h i)∧∀(q:Bool),p q→cnd q (∃(r:RjI),r.c.kind=i.c.kind∧r.c.id=i.c.id∧r.c.inst=i.c.inst∧r.c.side=i.c.side∧r.c.price=i.c.price∧r.c.qty=i.c.qty∧r.c.least=i.c.least∧r.c.time=i.c.time∧sb r.c.label=sb i.c.label∧r.why=23∧tD i h r) (∃(r:EnI),r.c.kind=i.c.kind∧r.c.id=i.c.id∧r.c.inst=i.c.inst∧r.c.side=i.c.side∧r.c.price=i.c.price∧r.c.qty=i.c.qty∧r.c.least=i.c.least∧r.c.time=i.c.time∧sb r.c.label=sb i.c.label∧sb r.m.p.code=sb i.m.p.code∧r.m.p.tick=i.m.p.tick∧r.m.p.low=i.m.p.low∧r.m.p.high=i.m.p.high∧r.m.p.wide=i.m.p.wide∧r.m.p.rule=i.m.p.rule∧r.m.p.top=i.m.p.top∧r.m.p.least=i.m.p.least∧r.m.p.part=i.m.p.part∧zE r.m.s=zE h.s∧z6 r.m.used=z6 i.m.used∧AObj.fro 1 (iE r.m.p.months)=y7 i.m 3∧AObj.fro 1 (iE r.m.p.settle)=y7 i.m 4∧(nR r)∧pY r i)))))
def yHn (i:CaI):Prop:=
 ∃(i_1:StI),i_1.id=i.id∧i_1.q=i.o.qty∧zE i_1.s=y7 i.m 1∧(i_1.s.Rep i_1.p i_1.B∧i_1.B.length≤1000)∧∀(o:MSt),o.Rep i_1.p (yU i_1.B i_1.id i_1.q).fst→∃(o_1:Mkt),sb o_1.p.code=sb i.m.p.code∧o_1.p.tick=i.m.p.tick∧o_1.p.low=i.m.p.low∧o_1.p.high=i.m.p.high∧o_1.p.wide=i.m.p.wide∧o_1.p.rule=i.m.p.rule∧o_1.p.top=i.m.p.top∧o_1.p.least=i.m.p.least∧o_1.p.part=i.m.p.part∧zE o_1.s=zE o∧z6 o_1.used=z6 i.m.used∧AObj.fro 1 (iE o_1.p.months)=y7 i.m 3∧AObj.fro 1 (iE o_1.p.settle)=y7 i.m 4∧List.map yG i.X.R=[[D.v (.int .i64 4),D.v (.int .i64 i.id),D.v (.int .i64 i.inst),D.v (.int .i64 i.o.side),D.v (.int .i64 i.o.price),D.v (.int .i64 i.o.qty),D.v (.int .i64 0),D.v (.int .i64 0)]]∧o_1.Rep i.p i.X.B i.X.U
def z2c (i:CaI):Prop:=
 ∃(a:StI),a.id=i.id∧a.q=i.q∧zE a.s=y7 i.m 1∧(a.s.Rep a.p a.B∧a.B.length≤1000)∧∀(b:MSt),b.Rep a.p (yU a.B a.id a.q).fst→∃(c:Mkt),sb c.p.code=sb i.m.p.code∧c.p.tick=i.m.p.tick∧c.p.low=i.m.p.low∧c.p.high=i.m.p.high∧c.p.wide=i.m.p.wide∧c.p.rule=i.m.p.rule∧c.p.top=i.m.p.top∧c.p.least=i.m.p.least∧c.p.part=i.m.p.part∧zE c.s=zE b∧z6 c.used=z6 i.m.used∧AObj.fro 1 (iE c.p.months)=y7 i.m 3∧AObj.fro 1 (iE c.p.settle)=y7 i.m 4∧List.map yG i.X.R=[[dI 5,dI i.id,dI i.inst,dI i.o.side,dI i.o.price,dI i.q,dI (IntKind.i64.wrap (i.o.qty-i.q)),dI 0]]∧c.Rep i.p i.X.B i.X.U
def nD (a:Mkt) (b:z5n) (c:RjI):Prop:=z6 a.used=z6 b.m.used∧AObj.fro 1 (iE a.p.months)=y7 b.m 3∧AObj.fro 1 (iE a.p.settle)=y7 b.m 4∧List.map yG b.X.R=[yG (Rep.mk 2 c.c.id 0 0 0 0 0 c.why)]∧a.Rep b.p b.X.B b.X.U
def zAj (a:z5n):Prop:=∃(b:MSt),zE b=y7 a.m 1∧(gR b)∧∀(c:Unit),True→∃(d:StI),d.id=a.c.id∧d.q=a.o.qty∧zE d.s=zE b∧(d.s.Rep d.p d.B∧d.B.length≤1000)∧∀(e:MSt),e.Rep d.p (yU d.B d.id d.q).fst→∃(f:RunI),f.inst=a.inst∧zB f.sd=a.o.side∧f.price=a.c.price∧f.q=a.c.qty∧zE f.s=zE e∧(qR f)∧∀(g:Unit),True→cnd (dJ f.p f.B f.inst f.sd f.price f.q) (∃(h:RjI),h.c.kind=a.c.kind∧h.c.id=a.c.id∧h.c.inst=a.c.inst∧h.c.side=a.c.side∧h.c.price=a.c.price∧h.c.qty=a.c.qty∧h.c.least=a.c.least∧h.c.time=a.c.time∧sb h.c.label=sb a.c.label∧h.why=23∧True∧∀(j:Unit),True→∃(k:Mkt),sb k.p.code=sb a.m.p.code∧k.p.tick=a.m.p.tick∧k.p.low=a.m.p.low∧k.p.high=a.m.p.high∧k.p.wide=a.m.p.wide∧k.p.rule=a.m.p.rule∧k.p.top=a.m.p.top∧k.p.least=a.m.p.least∧k.p.part=a.m.p.part∧zE k.s=zE b∧nD k a h) (∃(h:CaI),h.id=a.c.id∧h.inst=a.inst∧h.o.id=a.o.id∧h.o.side=a.o.side∧h.o.price=a.o.price∧h.o.qty=a.o.qty∧h.o.top=a.o.top∧sb h.m.p.code=sb a.m.p.code∧h.m.p.tick=a.m.p.tick∧h.m.p.low=a.m.p.low∧h.m.p.high=a.m.p.high∧h.m.p.wide=a.m.p.wide∧h.m.p.rule=a.m.p.rule∧h.m.p.top=a.m.p.top∧h.m.p.least=a.m.p.least∧h.m.p.part=a.m.p.part∧zE h.m.s=zE b∧z6 h.m.used=z6 a.m.used∧AObj.fro 1 (iE h.m.p.months)=y7 a.m 3∧AObj.fro 1 (iE h.m.p.settle)=y7 a.m 4∧((h.m.Rep h.p h.B h.U∧BOk h.p h.B)∧h.X=jT h.B h.U h.id h.inst h.o)∧∀(j:Mkt),j.Rep h.p h.X.B h.X.U→∃(k:EnI),k.c.kind=1∧k.c.id=a.c.id∧k.c.inst=a.inst∧k.c.side=a.o.side∧k.c.price=a.c.price∧k.c.qty=a.c.qty∧k.c.least=0∧k.c.time=1∧sb k.c.label=ByteArray.mk #[]∧sb k.m.p.code=sb j.p.code∧k.m.p.tick=j.p.tick∧k.m.p.low=j.p.low∧k.m.p.high=j.p.high∧k.m.p.wide=j.p.wide∧k.m.p.rule=j.p.rule∧k.m.p.top=j.p.top∧k.m.p.least=j.p.least∧k.m.p.part=j.p.part∧zE k.m.s=zE j.s∧z6 k.m.used=z6 j.used∧AObj.fro 1 (iE k.m.p.months)=AObj.fro 1 (iE j.p.months)∧AObj.fro 1 (iE k.m.p.settle)=AObj.fro 1 (iE j.p.settle)∧(nR k)∧∀(l:Mkt),l.Rep k.p k.X.B k.X.U→((List.map yG h.X.R).length+(List.map yG k.X.R).length)*(64:Nat)≤(70368744177664:Nat)∧∃(m:Mkt),sb m.p.code=sb l.p.code∧m.p.tick=l.p.tick∧m.p.low=l.p.low∧m.p.high=l.p.high∧m.p.wide=l.p.wide∧m.p.rule=l.p.rule∧m.p.top=l.p.top∧m.p.least=l.p.least∧m.p.part=l.p.part∧zE m.s=zE l.s∧z6 m.used=z6 l.used∧AObj.fro 1 (iE m.p.months)=AObj.fro 1 (iE l.p.months)∧AObj.fro 1 (iE m.p.settle)=AObj.fro 1 (iE l.p.settle)∧List.map yG a.X.R=List.map yG h.X.R++List.map yG k.X.R∧m.Rep a.p a.X.B a.X.U)
def cQ (a:CaI):Prop:=(a.m.Rep a.p a.B a.U∧BOk a.p a.B)∧((-9223372036854775808)≤a.o.qty-a.q∧a.o.qty-a.q≤9223372036854775807)∧a.X=hJ a.B a.U a.id a.q a.inst a.o
def zWj (i:z5n):Prop:=
 ∃(a:rC),sb a.p.code=sb i.m.p.code∧iE a.p.months=iE i.m.p.months∧a.p.tick=i.m.p.tick∧a.p.low=i.m.p.low∧a.p.high=i.m.p.high∧a.p.wide=i.m.p.wide∧a.p.rule=i.m.p.rule∧a.p.top=i.m.p.top∧a.p.least=i.m.p.least∧a.p.part=i.m.p.part∧iE a.p.settle=iE i.m.p.settle∧a.a=i.inst∧a.b=i.c.price∧(x9 a)∧∀(b:Unit),True→cnd (a.p.price a.a a.b !=0) (∃(c:RjI),c.c.kind=i.c.kind∧c.c.id=i.c.id∧c.c.inst=i.c.inst∧c.c.side=i.c.side∧c.c.price=i.c.price∧c.c.qty=i.c.qty∧c.c.least=i.c.least∧c.c.time=i.c.time∧sb c.c.label=sb i.c.label∧c.why=a.p.price a.a a.b∧True∧∀(d:Unit),True→∃(e:Mkt),sb e.p.code=sb i.m.p.code∧e.p.tick=i.m.p.tick∧e.p.low=i.m.p.low∧e.p.high=i.m.p.high∧e.p.wide=i.m.p.wide∧e.p.rule=i.m.p.rule∧e.p.top=i.m.p.top∧e.p.least=i.m.p.least∧e.p.part=i.m.p.part∧zE e.s=y7 i.m 1∧nD e i c) (cnd (i.c.price==i.o.price) (cnd (decide (i.c.qty≤i.o.qty)) (∃(c:CaI),c.id=i.c.id∧c.q=IntKind.i64.wrap (i.o.qty-i.c.qty)∧c.inst=i.inst∧c.o.id=i.o.id∧c.o.side=i.o.side∧c.o.price=i.o.price∧c.o.qty=i.o.qty∧c.o.top=i.o.top∧sb c.m.p.code=sb i.m.p.code∧c.m.p.tick=i.m.p.tick∧c.m.p.low=i.m.p.low∧c.m.p.high=i.m.p.high∧c.m.p.wide=i.m.p.wide∧c.m.p.rule=i.m.p.rule∧c.m.p.top=i.m.p.top∧c.m.p.least=i.m.p.least∧c.m.p.part=i.m.p.part∧zE c.m.s=y7 i.m 1∧z6 c.m.used=z6 i.m.used∧AObj.fro 1 (iE c.m.p.months)=y7 i.m 3∧AObj.fro 1 (iE c.m.p.settle)=y7 i.m 4∧(cQ c)∧∀(d:Mkt),d.Rep c.p c.X.B c.X.U→∃(e:Mkt),sb e.p.code=sb d.p.code∧e.p.tick=d.p.tick∧e.p.low=d.p.low∧e.p.high=d.p.high∧e.p.wide=d.p.wide∧e.p.rule=d.p.rule∧e.p.top=d.p.top∧e.p.least=d.p.least∧e.p.part=d.p.part∧zE e.s=zE d.s∧z6 e.used=z6 d.used∧AObj.fro 1 (iE e.p.months)=AObj.fro 1 (iE d.p.months)∧AObj.fro 1 (iE e.p.settle)=AObj.fro 1 (iE d.p.settle)∧List.map yG i.X.R=List.map yG c.X.R∧e.Rep i.p i.X.B i.X.U) (zAj i)) (zAj i))
def zSb (a:CaI) (b:EnI):Prop:=∀(c:Mkt),c.Rep a.p a.X.B a.X.U→∃(d:Mkt),sb d.p.code=sb c.p.code∧d.p.tick=c.p.tick∧d.p.low=c.p.low∧d.p.high=c.p.high∧d.p.wide=c.p.wide∧d.p.rule=c.p.rule∧d.p.top=c.p.top∧d.p.least=c.p.least∧d.p.part=c.p.part∧zE d.s=zE c.s∧z6 d.used=z6 c.used∧AObj.fro 1 (iE d.p.months)=AObj.fro 1 (iE c.p.months)∧AObj.fro 1 (iE d.p.settle)=AObj.fro 1 (iE c.p.settle)∧List.map yG b.X.R=List.map yG a.X.R∧d.Rep b.p b.X.B b.X.U
def zSn (a:Mkt) (b:EnI) (c:RjI):Prop:=z6 a.used=z6 b.m.used∧AObj.fro 1 (iE a.p.months)=AObj.fro 1 (iE b.m.p.months)∧AObj.fro 1 (iE a.p.settle)=AObj.fro 1 (iE b.m.p.settle)∧List.map yG b.X.R=[yG (Rep.mk 2 c.c.id 0 0 0 0 0 c.why)]∧a.Rep b.p b.X.B b.X.U
def z0u (a:EnI) (b:StI):Prop:=∃(c:CaI),c.id=a.c.id∧c.inst=(zI b.B b.id).fst∧c.o.id=(zI b.B b.id).snd.fst.id∧c.o.side=(zI b.B b.id).snd.fst.side∧c.o.price=(zI b.B b.id).snd.fst.price∧c.o.qty=(zI b.B b.id).snd.fst.qty∧c.o.top=(zI b.B b.id).snd.fst.top∧sb c.m.p.code=sb a.m.p.code∧c.m.p.tick=a.m.p.tick∧c.m.p.low=a.m.p.low∧c.m.p.high=a.m.p.high∧c.m.p.wide=a.m.p.wide∧c.m.p.rule=a.m.p.rule∧c.m.p.top=a.m.p.top∧c.m.p.least=a.m.p.least∧c.m.p.part=a.m.p.part∧zE c.m.s=zE b.s∧z6 c.m.used=z6 a.m.used∧AObj.fro 1 (iE c.m.p.months)=AObj.fro 1 (iE a.m.p.months)∧AObj.fro 1 (iE c.m.p.settle)=AObj.fro 1 (iE a.m.p.settle)∧((c.m.Rep c.p c.B c.U∧BOk c.p c.B)∧c.X=jT c.B c.U c.id c.inst c.o)∧zSb c a
def yBl (a:EnI):Prop:=∃(b:StI),b.id=a.c.id∧zE b.s=zE a.m.s∧(b.s.Rep b.p b.B∧b.B.length≤1000)∧∀(c:Unit),True→cnd (!(zI b.B b.id).snd.snd) (∃(d:RjI),d.c.kind=a.c.kind∧d.c.id=a.c.id∧d.c.inst=a.c.inst∧d.c.side=a.c.side∧d.c.price=a.c.price∧d.c.qty=a.c.qty∧d.c.least=a.c.least∧d.c.time=a.c.time∧sb d.c.label=sb a.c.label∧d.why=26∧True∧∀(e:Unit),True→∃(f:Mkt),sb f.p.code=sb a.m.p.code∧f.p.tick=a.m.p.tick∧f.p.low=a.m.p.low∧f.p.high=a.m.p.high∧f.p.wide=a.m.p.wide∧f.p.rule=a.m.p.rule∧f.p.top=a.m.p.top∧f.p.least=a.m.p.least∧f.p.part=a.m.p.part∧zE f.s=zE b.s∧zSn f a d) (cnd (a.c.kind==4) (∃(d:z5n),d.c.kind=a.c.kind∧d.c.id=a.c.id∧d.c.inst=a.c.inst∧d.c.side=a.c.side∧d.c.price=a.c.price∧d.c.qty=a.c.qty∧d.c.least=a.c.least∧d.c.time=a.c.time∧sb d.c.label=sb a.c.label∧d.inst=(zI b.B b.id).fst∧d.o.id=(zI b.B b.id).snd.fst.id∧d.o.side=(zI b.B b.id).snd.fst.side∧d.o.price=(zI b.B b.id).snd.fst.price∧d.o.qty=(zI b.B b.id).snd.fst.qty∧d.o.top=(zI b.B b.id).snd.fst.top∧sb d.m.p.code=sb a.m.p.code∧d.m.p.tick=a.m.p.tick∧d.m.p.low=a.m.p.low∧d.m.p.high=a.m.p.high∧d.m.p.wide=a.m.p.wide∧d.m.p.rule=a.m.p.rule∧d.m.p.top=a.m.p.top∧d.m.p.least=a.m.p.least∧d.m.p.part=a.m.p.part∧zE d.m.s=zE b.s∧z6 d.m.used=z6 a.m.used∧AObj.fro 1 (iE d.m.p.months)=AObj.fro 1 (iE a.m.p.months)∧AObj.fro 1 (iE d.m.p.settle)=AObj.fro 1 (iE a.m.p.settle)∧(d.m.Rep d.p d.B d.U∧BOk d.p d.B∧zI d.B d.c.id=(d.inst,d.o,true)∧(1≤d.c.qty∧d.c.qty≤1000000)∧d.X=vM d.p d.B d.U d.c d.inst d.o)∧∀(e:Mkt),e.Rep d.p d.X.B d.X.U→∃(f:Mkt),sb f.p.code=sb e.p.code∧f.p.tick=e.p.tick∧f.p.low=e.p.low∧f.p.high=e.p.high∧f.p.wide=e.p.wide∧f.p.rule=e.p.rule∧f.p.top=e.p.top∧f.p.least=e.p.least∧f.p.part=e.p.part∧zE f.s=zE e.s∧z6 f.used=z6 e.used∧AObj.fro 1 (iE f.p.months)=AObj.fro 1 (iE e.p.months)∧AObj.fro 1 (iE f.p.settle)=AObj.fro 1 (iE e.p.settle)∧List.map yG a.X.R=List.map yG d.X.R∧f.Rep a.p a.X.B a.X.U) (cnd (a.c.kind==2) (z0u a b) (cnd (decide (a.c.qty≥(zI b.B b.id).snd.fst.qty)) (z0u a b) (∃(d:CaI),d.id=a.c.id∧d.q=a.c.qty∧d.inst=(zI b.B b.id).fst∧d.o.id=(zI b.B b.id).snd.fst.id∧d.o.side=(zI b.B b.id).snd.fst.side∧d.o.price=(zI b.B b.id).snd.fst.price∧d.o.qty=(zI b.B b.id).snd.fst.qty∧d.o.top=(zI b.B b.id).snd.fst.top∧sb d.m.p.code=sb a.m.p.code∧d.m.p.tick=a.m.p.tick∧d.m.p.low=a.m.p.low∧d.m.p.high=a.m.p.high∧d.m.p.wide=a.m.p.wide∧d.m.p.rule=a.m.p.rule∧d.m.p.top=a.m.p.top∧d.m.p.least=a.m.p.least∧d.m.p.part=a.m.p.part∧zE d.m.s=zE b.s∧z6 d.m.used=z6 a.m.used∧AObj.fro 1 (iE d.m.p.months)=AObj.fro 1 (iE a.m.p.months)∧AObj.fro 1 (iE d.m.p.settle)=AObj.fro 1 (iE a.m.p.settle)∧(cQ d)∧zSb d a))))
def Vdo (i:EnI):Prop:=
 ∃(a:Cmd),a.kind=i.c.kind∧a.id=i.c.id∧a.inst=i.c.inst∧a.side=i.c.side∧a.price=i.c.price∧a.qty=i.c.qty∧a.least=i.c.least∧a.time=i.c.time∧sb a.label=sb i.c.label∧a.label.length≤140737488355328∧∀(b:Unit),True→cnd (a.right !=0) (∃(c:RjI),c.c.kind=i.c.kind∧c.c.id=i.c.id∧c.c.inst=i.c.inst∧c.c.side=i.c.side∧c.c.price=i.c.price∧c.c.qty=i.c.qty∧c.c.least=i.c.least∧c.c.time=i.c.time∧sb c.c.label=sb i.c.label∧c.why=a.right∧True∧∀(d:Unit),True→∃(e:Mkt),sb e.p.code=sb i.m.p.code∧e.p.tick=i.m.p.tick∧e.p.low=i.m.p.low∧e.p.high=i.m.p.high∧e.p.wide=i.m.p.wide∧e.p.rule=i.m.p.rule∧e.p.top=i.m.p.top∧e.p.least=i.m.p.least∧e.p.part=i.m.p.part∧zE e.s=zE i.m.s∧zSn e i c) (cnd (i.c.kind==1) (∃(c:EnI),c.c.kind=i.c.kind∧c.c.id=i.c.id∧c.c.inst=i.c.inst∧c.c.side=i.c.side∧c.c.price=i.c.price∧c.c.qty=i.c.qty∧c.c.least=i.c.least∧c.c.time=i.c.time∧sb c.c.label=sb i.c.label∧sb c.m.p.code=sb i.m.p.code∧c.m.p.tick=i.m.p.tick∧c.m.p.low=i.m.p.low∧c.m.p.high=i.m.p.high∧c.m.p.wide=i.m.p.wide∧c.m.p.rule=i.m.p.rule∧c.m.p.top=i.m.p.top∧c.m.p.least=i.m.p.least∧c.m.p.part=i.m.p.part∧zE c.m.s=zE i.m.s∧z6 c.m.used=z6 i.m.used∧AObj.fro 1 (iE c.m.p.months)=AObj.fro 1 (iE i.m.p.months)∧AObj.fro 1 (iE c.m.p.settle)=AObj.fro 1 (iE i.m.p.settle)∧((c.m.Rep c.p c.B c.U∧BOk c.p c.B)∧c.c.right=0∧c.c.kind=1∧c.X=cM c.p c.B c.U c.c)∧pY c i) ((yBl i)∧i.c.id=i.c.id∧True∧yBl i))
def yKv (i:MfI):Prop:=
 ∃(i_1:StI),i_1.id=i.id∧zE i_1.s=zE i.m.s∧(i_1.s.Rep i_1.p i_1.B∧i_1.B.length≤1000)∧∀(o:Unit),True→∃(o:Unit),(zI i.B i.id).fst=(zI i_1.B i_1.id).fst∧(zI i.B i.id).snd.fst.id=(zI i_1.B i_1.id).snd.fst.id∧(zI i.B i.id).snd.fst.side=(zI i_1.B i_1.id).snd.fst.side∧(zI i.B i.id).snd.fst.price=(zI i_1.B i_1.id).snd.fst.price∧(zI i.B i.id).snd.fst.qty=(zI i_1.B i_1.id).snd.fst.qty∧(zI i.B i.id).snd.fst.top=(zI i_1.B i_1.id).snd.fst.top∧(zI i.B i.id).snd.snd=(zI i_1.B i_1.id).snd.snd∧sb i.m.p.code=sb i.m.p.code∧i.m.p.tick=i.m.p.tick∧i.m.p.low=i.m.p.low∧i.m.p.high=i.m.p.high∧i.m.p.wide=i.m.p.wide∧i.m.p.rule=i.m.p.rule∧i.m.p.top=i.m.p.top∧i.m.p.least=i.m.p.least∧i.m.p.part=i.m.p.part∧zE i.m.s=zE i_1.s∧z6 i.m.used=z6 i.m.used∧AObj.fro 1 (iE i.m.p.months)=AObj.fro 1 (iE i.m.p.months)∧AObj.fro 1 (iE i.m.p.settle)=AObj.fro 1 (iE i.m.p.settle)∧True
def yHh (i:MfI):Prop:=
 ∃(i_1:SoI),zE i_1.s=zE i.m.s∧(i_1.s.Rep i_1.p i_1.B∧i_1.B.length≤1000)∧∀(o:Unit),True→∃(o:Unit),(↑(zNd i.B):Int)=(↑(zNd i_1.B):Int)∧sb i.m.p.code=sb i.m.p.code∧i.m.p.tick=i.m.p.tick∧i.m.p.low=i.m.p.low∧i.m.p.high=i.m.p.high∧i.m.p.wide=i.m.p.wide∧i.m.p.rule=i.m.p.rule∧i.m.p.top=i.m.p.top∧i.m.p.least=i.m.p.least∧i.m.p.part=i.m.p.part∧zE i.m.s=zE i_1.s∧z6 i.m.used=z6 i.m.used∧AObj.fro 1 (iE i.m.p.months)=AObj.fro 1 (iE i.m.p.months)∧AObj.fro 1 (iE i.m.p.settle)=AObj.fro 1 (iE i.m.p.settle)∧True
open Go Cv Go.Proofs
theorem wP (p:Prd) (B:List (List zD)) (U:List Int) (c:Cmd):wH p B U c=⟨if(xZ p B c.inst (decide (c.side=2)) c.price c.qty).left≠0∧c.time=1 then(rF p (xZ p B c.inst (decide (c.side=2)) c.price c.qty).B c.inst c.id c.side c.price (xZ p B c.inst (decide (c.side=2)) c.price c.qty).left).1 else(xZ p B c.inst (decide (c.side=2)) c.price c.qty).B,zCp U c.id,
 (⟨1,c.id,c.inst,c.side,c.price,c.qty,c.qty,0⟩::wX p c (xZ p B c.inst (decide (c.side=2)) c.price c.qty).steps c.qty)++if(xZ p B c.inst (decide (c.side=2)) c.price c.qty).left≠0∧c.time≠1 then[⟨4,c.id,c.inst,c.side,c.price,(xZ p B c.inst (decide (c.side=2)) c.price c.qty).left,0,0⟩]else[]⟩:=by
 rw[wH]
theorem zQd {p:Prd} {B:List (List zD)} (h:BWf p B) (U:List Int) (c:Cmd):BOk p (wH p B U c).B:=by
 have:=(cI (inst:=c.inst) (sd:=decide (c.side=2)) (price:=c.price) _ c.qty B (yTj _) h).1.ok
 rw[wP]
 dsimp only
 split
 ·exact this.add _ _ _ _ _
 ·exact this
theorem z5m {p:Prd} {B:List (List zD)} (h:BWf p B) (U:List Int) (c:Cmd):BOk p (cM p B U c).B:=by
 rw[cM]
 split
 ·exact h.ok
 split
 ·exact h.ok
 split
 ·exact h.ok
 split
 ·exact h.ok
 split
 ·exact h.ok
 exact zQd h U c
theorem yKw {p:Prd} {B:List (List zD)} (h:BWf p B) (U:List Int) (c:Cmd):BOk p (doF p B U c).B:=by
 rw[doF]
 split
 ·exact h.ok
 split
 ·exact z5m h U c
 split
 ·exact h.ok
 split
 ·rw[vM]
  split
  ·exact h.ok
  split
  ·exact h.ok.take _ _
  split
  ·exact h.ok
  exact zQd (h.take _ _) U _
 split
 ·exact h.ok.take _ _
 ·exact h.ok.take _ _
def Acc (B:List (List zD)) (U:List Int):Prop:=∀L∈B,∀o∈L,o.id∈U
theorem use_mem {U:List Int} {id k:Int}:k∈zCp U id↔k∈U∨k=id:=by
 rw[zCp]
 split
 ·rename_i h
  constructor
  ·exact .inl
  ·rintro(h2|rfl)
   ·exact h2
   ·exact h
 ·simp
theorem Acc.mono {B:List (List zD)} {U U':List Int} (h:Acc B U) (hu:∀k∈U,k∈U'):Acc B U':=fun L hL o ho=>hu _ (h L hL o ho)
theorem Acc.take {B:List (List zD)} {U:List Int} (h:Acc B U) (id q:Int):Acc (yU B id q).1 U:=by
 rw[yU]
 split
 ·exact h
 ·rename_i k hk
  dsimp only
  obtain⟨L0,hL0,_⟩:=xK hk
  intro L hL o ho
  rcases yXd hL with hL|rfl
  ·exact h L hL o ho
  ·rw[zH hL0]at ho
   obtain⟨o',ho',_,_,e⟩:=zCh ho
   rw[e]
   exact h L0 (ySt hL0) o' ho'
theorem Acc.takes {U:List Int}:∀{fs:List vD} {B:List (List zD)},Acc B U→Acc (yY B fs) U
 |[],B,h=>h
 |f::fs,B,h=>Acc.takes (fs:=fs) (h.take f.id f.qty)
theorem Acc.run {p:Prd} {inst:Int} {sd:Bool} {price:Int} {U:List Int}:∀(m:Nat) (q:Int) (B:List (List zD)),q.toNat≤m→Acc B U→Acc (xZ p B inst sd price q).B U
 |m,q,B,hm,h=>by
  by_cases hq:q≤0
  ·rw[kU (.inl hq)];exact h
  cases hs:jF p B inst sd price q with
  |none=>rw[kU (.inr hs)];exact h
  |some x=>
   obtain⟨t,C⟩:=x
   have hC:Acc C U:=by
    rw[jF]at hs
    dsimp only at hs
    split at hs
    ·split at hs
     ·cases hs;exact h.takes.takes
     ·cases hs;exact h.takes
    ·cases hs
   have hq2:=aY (by omega) hs
   cases m with
   |zero=>omega
   |succ m=>
   rw[cE (by omega) hs]
   exact Acc.run m (q-t.qty) C (by omega) hC
theorem Acc.add {p:Prd} {B:List (List zD)} {U:List Int} (h:Acc B U) (inst id s price q:Int):Acc (rF p B inst id s price q).1 (zCp U id):=by
 have h':Acc B (zCp U id):=h.mono fun k hk=>use_mem.2 (.inl hk)
 rw[rF]
 split
 ·exact h'
 split
 ·exact h'
 split
 ·exact h'
 split
 ·exact h'
 rename_i c1 _ _ _
 obtain⟨L0,hL0⟩:=z9 (l:=B) (i:=inst.toNat) (by omega)
 have hm:=h L0 (ySt hL0)
 intro L hL o ho
 rcases yXd hL with hL|rfl
 ·exact h' L hL o ho
 ·rw[zH hL0,rB]at ho
  split at ho
  ·exact use_mem.2 (.inl (hm o ho))
  split at ho
  ·exact use_mem.2 (.inl (hm o ho))
  split at ho
  ·exact use_mem.2 (.inl (hm o ho))
  rcases yTb.1 ((zCd L0 s id price q).mem_iff.1 (yTf (f:=(·.id)) ho))with e|hm2
  ·exact use_mem.2 (.inr e)
  ·obtain⟨o',ho',e⟩:=yTk.1 hm2
   exact use_mem.2 (.inl (e▸hm o' ho'))
theorem Acc.enter {p:Prd} {B:List (List zD)} {U:List Int} (h:Acc B U) (c:Cmd):Acc (wH p B U c).B (wH p B U c).U:=by
 have hr:=Acc.run (p:=p) (inst:=c.inst) (sd:=decide (c.side=2)) (price:=c.price) _ c.qty B (yTj _) h
 rw[wP]
 dsimp only
 split
 ·exact hr.add _ _ _ _ _
 ·exact hr.mono fun k hk=>use_mem.2 (.inl hk)
structure DoU (p:Prd) (B:List (List zD)) (U:List Int) (c:Cmd) (X:MkX):Prop where
 acc:Acc X.B X.U
 fst:∃r l,X.R=r::l∧(c.right=0→c.kind=1→p.price c.inst c.price=0→(r.why=25↔c.id∈U))∧(∀k,k∈X.U↔k∈U∨(c.kind=1∧r.kind=1∧k=c.id))
theorem z7v {B:List (List zD)} {U:List Int} (h:Acc B U) {id:Int} (hf:(zI B id).2.2=true):id∈U:=by
 rw[zI]at hf
 split at hf
 ·cases hf
 ·rename_i k hk
  obtain⟨L,hL,hh⟩:=xK hk
  obtain⟨o,ho,e⟩:=yTk.1 (hasId_iff.1 hh)
  exact e▸h L (ySt hL) o ho
theorem yHr {p:Prd} {B:List (List zD)} {U:List Int} (h:Acc B U) (c:Cmd):DoU p B U c (doF p B U c):=by
 have hrej:∀why:Int,(c.right=0→c.kind=1→p.price c.inst c.price=0→(why=25↔c.id∈U))→DoU p B U c ⟨B,U,dX c why⟩:=fun why hw=>⟨h,_,_,rfl,hw,fun k=>⟨.inl,by rintro(x|x);exact x;cases x.2.1⟩⟩
 rw[doF]
 split
 ·rename_i c1
  exact hrej _ fun e=>absurd e c1
 split
 ·rename_i c1 c2
  rw[cM]
  split
  ·rename_i c3
   exact hrej _ fun _ _ e=>absurd e c3
  split
  ·rename_i c3 c4
   exact hrej _ fun _ _ _=>⟨fun _=>c4,fun _=>rfl⟩
  rename_i c4
  split
  ·exact hrej _ fun _ _ _=>⟨fun e=>(by cases e),fun e=>absurd e c4⟩
  split
  ·exact hrej _ fun _ _ _=>⟨fun e=>(by cases e),fun e=>absurd e c4⟩
  split
  ·exact hrej _ fun _ _ _=>⟨fun e=>(by cases e),fun e=>absurd e c4⟩
  refine⟨h.enter c,⟨1,c.id,c.inst,c.side,c.price,c.qty,c.qty,0⟩,_,by rw[wP];rfl,fun _ _ _=>⟨fun e=>(by cases e),fun e=>absurd e c4⟩,fun k=> ?_⟩
  rw[wP]
  dsimp only
  rw[use_mem]
  exact⟨fun x=>x.imp id fun e=>⟨c2,rfl,e⟩,fun x=>x.imp id fun e=>e.2.2⟩
 rename_i c1 c2
 have hk:∀(U':List Int) (r:Rep) (k:Int),(∀k,k∈U'↔k∈U)→(k∈U'↔k∈U∨(c.kind=1∧r.kind=1∧k=c.id)):=fun U' r k e=>by
  rw[e];exact⟨.inl,by rintro(x|x);exact x;exact absurd x.1 c2⟩
 split
 ·exact hrej _ fun _ e=>absurd e c2
 rename_i c3
 have hin:c.id∈U:=z7v h (by simpa using c3)
 split
 ·rw[vM]
  split
  ·exact hrej _ fun _ e=>absurd e c2
  split
  ·exact⟨h.take _ _,_,_,rfl,fun _ e=>absurd e c2,fun k=>hk _ _ k fun _=>Iff.rfl⟩
  split
  ·exact hrej _ fun _ e=>absurd e c2
  refine⟨(h.take _ _).enter _,_,_,rfl,fun _ e=>absurd e c2,fun k=>hk _ _ k fun k=> ?_⟩
  dsimp only
  rw[wP]
  dsimp only
  rw[use_mem]
  exact⟨by rintro(x|rfl);exact x;exact hin,.inl⟩
 split
 ·exact⟨h.take _ _,_,_,rfl,fun _ e=>absurd e c2,fun k=>hk _ _ k fun _=>Iff.rfl⟩
 ·exact⟨h.take _ _,_,_,rfl,fun _ e=>absurd e c2,fun k=>hk _ _ k fun _=>Iff.rfl⟩
open Go Cv Go.Proofs
def Two (L:List zD):Prop:=L=kV L 1++kV L 2
open Go Cv Go.Proofs
end Sx
