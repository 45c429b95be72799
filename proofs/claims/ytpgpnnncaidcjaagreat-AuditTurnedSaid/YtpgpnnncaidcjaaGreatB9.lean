/- Texts of ours, one behind the other: a walk that the kernel reckons, and contracts of functions. No condition. -/
import Derived.Test.YtpgpnnncaidcjaaGreatB8
namespace Sx
set_option linter.unusedVariables false
set_option linter.unusedSimpArgs false
set_option maxRecDepth 100000
open Go Cv Go.Proofs
structure QOk (T:List Top) (q:Quote):Prop where
 a:0≤q.a.inst∧q.a.inst<T.length
 b:0≤q.b.inst∧q.b.inst<T.length
 sa:q.a.side=1∨q.a.side=2
 sb:q.b.side=1∨q.b.side=2
 ne:q.a.inst≠q.b.inst
 ha:(T.getD q.a.inst.toNat top0).has q.a.side=true
 hb:(T.getD q.b.inst.toNat top0).has q.b.side=true
 qty:q.qty=min ((T.getD q.a.inst.toNat top0).qty q.a.side) ((T.getD q.b.inst.toNat top0).qty q.b.side)
theorem zMu {T:List Top} {a b:Leg} {less:Bool} {q:Quote} (h:q∈mkq T a b less) (h1:0≤a.inst∧a.inst<T.length) (h2:0≤b.inst∧b.inst<T.length) (h3:a.side=1∨a.side=2) (h4:b.side=1∨b.side=2) (hne:a.inst≠b.inst):QOk T q∧q.a=a∧q.b=b:=by
 cases less
 all_goals
  simp only[mkq,ySu,↓reduceIte]at h
  split at h
  ·rename_i hc
   simp only[ySs]at hc
   rw[yUd]at h
   subst h
   exact⟨⟨h1,h2,h3,h4,hne,hc.1.1,hc.1.2,rfl⟩,rfl,rfl⟩
  ·cases h
theorem yLr:∀n≤6,∀k<n+n*(n-1) / 2,n≤k→(kA n k n 0).1≠(kA n k n 0).2.1:=by decide
theorem zSq {p:Prd} (hc:p.check=0) {k:Nat} (hk:k<p.count) (hs:(p.legs k).2.2=true):(p.legs k).1≠(p.legs k).2.1:=by
 have m6:=(qG hc).m6
 have hk':=hk
 rw[Prd.count,ySf hc]at hk'
 by_cases h:k<p.months.length
 ·rw[Prd.legs,ySe (by omega),ySf (by omega)]at hs
  cases hs
 ·rw[Prd.legs,ySe (by omega),ySe (by omega)]
  exact yLr p.months.length m6 k hk' (by omega)
theorem z4o:∀n≤6,∀a<n,∀b<n,a<b→(yG n a:Int)+b-a-1≥n:=by decide
theorem tG {p:Prd} (hc:p.check=0) {a b:Nat} (hab:a<b) (hb:b<p.months.length):(p.months.length:Int)≤(p.spread a b).1:=by
 have m6:=(qG hc).m6
 have:=z4o p.months.length m6 a (by omega) b hb hab
 rw[Prd.spread,ySe (by omega)]
 simpa using this
theorem yGi {p:Prd} (hc:p.check=0) {T:List Top} (hT:T.length=p.count) {inst:Int} {s:Int} (hs:s=1∨s=2) {q:Quote} (h:q∈qC ⟨p,T,inst⟩ s):QOk T q∧0≤inst∧inst<p.count∧
 (((p.legs inst).2.2=true∧q.a=⟨(p.legs inst).1,s⟩∧q.b=⟨(p.legs inst).2.1,3-s⟩)∨(inst<p.months.length∧q.a.inst≠inst∧(p.months.length:Int)≤q.a.inst)):=by
 rw[qC]at h
 dsimp only at h
 split at h
 ·cases h
 ·rename_i hn
  have h0:0≤inst∧inst<p.count:=by omega
  obtain⟨k,rfl⟩:∃k:Nat,inst=k:=⟨inst.toNat,by omega⟩
  have hk:k<p.count:=by omega
  have hge:=dX hc
  split at h
  ·rename_i hl
   obtain⟨q',hq',rfl⟩:=yTh.1 h
   have hle:=vQ hc hk
   rcases hle with⟨_,l1,l2,l3,l4⟩|⟨e,_⟩
   ·obtain⟨ok,e1,e2⟩:=zMu hq' (by dsimp only;omega) (by dsimp only;omega) (by dsimp only;omega) hs (fun e=>zSq hc hk hl e.symm)
    refine⟨⟨by dsimp only[fS];omega,by dsimp only[fS];omega,hs,by dsimp only[fS];omega,zSq hc hk hl,?_,?_,?_⟩,h0.1,h0.2,.inl ⟨hl,rfl,rfl⟩⟩
    ·have:=ok.hb;rw[e2]at this;exact this
    ·have:=ok.ha;rw[e1]at this;exact this
    ·have:=ok.qty;rw[e1,e2]at this;dsimp only[fS];rw[this];exact Int.min_comm _ _
   ·rw[e]at hl;cases hl
  ·rename_i hl
   have hm:k<p.months.length:=by
    rcases vQ hc hk with⟨e,_⟩|⟨_,e⟩
    ·exact absurd e hl
    ·exact e
   rcases yTi.1 h with h|h
   ·obtain⟨j,hj,h⟩:=yUg.1 h
    have hj:=yUv.1 hj
    rw[ySt]at hj
    have s1:=gV hc (a:=k) (b:=k+1+j) (by omega) (by omega)
    have s2:=tG hc (a:=k) (b:=k+1+j) (by omega) (by omega)
    have ec:((k:Int)+1+j)=((k+1+j:Nat):Int):=by omega
    rw[ec]at h
    obtain⟨ok,e1,e2⟩:=zMu h (by dsimp only;omega) (by dsimp only;omega) hs hs (by dsimp only;omega)
    exact⟨ok,h0.1,h0.2,.inr ⟨by omega,by rw[e1];dsimp only;omega,by rw[e1];exact s2⟩⟩
   ·obtain⟨j,hj,h⟩:=yUg.1 h
    have hj:=yUv.1 hj
    rw[ySt]at hj
    have s1:=gV hc (a:=j) (b:=k) (by omega) (by omega)
    have s2:=tG hc (a:=j) (b:=k) (by omega) (by omega)
    obtain⟨ok,e1,e2⟩:=zMu h (by dsimp only;omega) (by dsimp only;omega) (by dsimp only;omega) hs (by dsimp only;omega)
    exact⟨ok,h0.1,h0.2,.inr ⟨by omega,by rw[e1];dsimp only;omega,by rw[e1];exact s2⟩⟩
theorem zNw {s:Int}:∀(r:List Quote) (q:Quote),r.foldl (fun b q=>if btr s q.price b.price then q else b) q∈q::r
 |[],q=>ySk
 |x::r,q=>by
  rw[yWl]
  have:=zNw (s:=s) r (if btr s x.price q.price then x else q)
  rcases ySy.1 this with e|h
  ·rw[e];split
   ·exact ySl _ ySk
   ·exact ySk
  ·exact ySl _ (ySl _ h)
theorem zOx {l:List Quote} {s:Int} (h:(yD l s).2=true):(yD l s).1∈l:=by
 cases l with
 |nil=>cases h
 |cons q r=>exact zNw r q
def yEc (B:List (List zD)):Prop:=∀(k:Nat) (L:List zD),B[k]?=some L→(∀o∈L,zIh o)∧(L.map (·.id)).Nodup∧L.length≤250
theorem MSt.Rep.ords {s:MSt} {p:Prd} {B:List (List zD)} (h:s.Rep p B):yEc B:=by
 intro k L hL
 obtain⟨b,hb⟩:=z6 (l:=s.books) (i:=k) (by rw[h.bl];exact(ySg.1 hL).1)
 exact(h.bk k b L hb hL).ords
theorem yIr:∀{l:List zD} {v:Lv},(∀o∈l,zIh o)→v∈grp l→1≤v.qty∧v.qty≤1000000*l.length
 |[],v,_,h=>by cases h
 |o::l,v,ho,h=>by
  have h0:=(ho o ySk).q
  have ih:∀v∈grp l,1≤v.qty∧v.qty≤1000000*l.length:=fun v hv=>yIr (fun x hx=>ho x (ySl _ hx)) hv
  rw[grp]at h
  rw[ySx]
  split at h
  ·rw[yUd]at h
   subst h;dsimp only;omega
  ·rename_i w ws e
   rw[e]at ih
   have hw:=ih w ySk
   split at h
   ·rcases ySy.1 h with rfl|h
    ·dsimp only;omega
    ·have:=ih v (ySl _ h);omega
   ·rcases ySy.1 h with rfl|h
    ·dsimp only;omega
    ·have:=ih v h;omega
theorem zXu {L:List zD} {s:Int} (h:∀o∈L,zIh o) (hl:L.length≤250) (hb:(bestL L s).2=true):1≤(bestL L s).1.qty∧(bestL L s).1.qty≤250000000:=by
 rw[bestL]at hb ⊢
 cases hl2:wB L s with
 |nil=>rw[hl2]at hb;cases hb
 |cons v vs=>
  dsimp only
  have hm:v∈grp (L.filter fun o=>decide (o.side=s)):=by rw[← wB,hl2];exact ySk
  have:=yIr (fun o ho=>h o (yTp.1 ho).1) hm
  have:=yVk (fun o:zD=>decide (o.side=s)) L
  omega
theorem lW {B:List (List zD)} {k:Nat} {L:List zD} (hL:B[k]? =some L):(B.map xI).getD k top0=xI L:=zI (by rw[yTy,hL];rfl)
theorem v8 (L:List zD) {s:Int} (hs:s=1∨s=2):(xI L).has s=(bestL L s).2∧(xI L).qty s=(bestL L s).1.qty∧(xI L).price s=(bestL L s).1.price:=by
 obtain⟨e1,e2,e3,e4,e5,e6⟩:=zRe L
 rcases hs with rfl|rfl
 ·exact⟨e3,e2,e1⟩
 ·exact⟨e6,e5,e4⟩
theorem nI {p:Prd} {B:List (List zD)} (h:BOk p B) (ho:yEc B) {inst:Int} (hi:0≤inst∧inst<B.length) {s:Int} (hs:s=1∨s=2) (hn:(zV p B inst s).2.2=true):
 (1≤(zV p B inst s).1.qty∧(zV p B inst s).1.qty≤250000000)∧((zV p B inst s).2.1=true→(zV p B inst s).1∈qC ⟨p,B.map xI,inst⟩ s∧QOk (B.map xI) (zV p B inst s).1)∧
 ((zV p B inst s).2.1=false→(bestL (B.getD inst.toNat []) s).2=true∧(zV p B inst s).1.price=(bestL (B.getD inst.toNat []) s).1.price∧(zV p B inst s).1.qty=(bestL (B.getD inst.toNat []) s).1.qty):=by
 obtain⟨k,rfl⟩:∃k:Nat,inst=k:=⟨inst.toNat,by omega⟩
 obtain⟨L,hL⟩:=z6 (l:=B) (i:=k) (by omega)
 have hLo:=ho k L hL
 rw[zV]at hn ⊢
 rw[ySt,zI hL]at hn ⊢
 split
 ·rename_i c
  simp only[ySs]at c
  exact⟨zXu hLo.1 hLo.2.2 c.1,⟨fun e=>(by cases e),fun _=>⟨c.1,rfl,rfl⟩⟩⟩
 ·rename_i c
  rw[ySe c]at hn
  dsimp only at hn ⊢
  have hm:=zOx hn
  have ha:(yD (yL ⟨p,B.map xI,k⟩ s) s).1∈qC ⟨p,B.map xI,k⟩ s:=(yTp.1 hm).1
  obtain⟨ok,_⟩:=yGi h.pc (by rw[ySh];exact h.bl) hs ha
  refine⟨?_,fun _=>⟨ha,ok⟩,fun e=>by rw[hn]at e;cases e⟩
  generalize (yD (yL ⟨p,B.map xI,k⟩ s) s).1=q at ok
  have a:=ok.a
  have b:=ok.b
  rw[ySh]at a b
  obtain⟨La,hLa⟩:=z6 (l:=B) (i:=q.a.inst.toNat) (by omega)
  obtain⟨Lb,hLb⟩:=z6 (l:=B) (i:=q.b.inst.toNat) (by omega)
  have e1:=ok.ha
  have e2:=ok.hb
  have e3:=ok.qty
  rw[lW hLa]at e1 e3
  rw[lW hLb]at e2 e3
  rw[(v8 La ok.sa).1]at e1
  rw[(v8 Lb ok.sb).1]at e2
  rw[(v8 La ok.sa).2.1,(v8 Lb ok.sb).2.1]at e3
  have:=zXu (ho _ _ hLa).1 (ho _ _ hLa).2.2 e1
  have:=zXu (ho _ _ hLb).1 (ho _ _ hLb).2.2 e2
  omega
theorem zBi {L:List zD} {id q:Int} {o:zD} (h:o∈(xR L id q).1):∃o'∈L,o.price=o'.price∧o.side=o'.side∧o.id=o'.id:=by
 rw[xR]at h
 split at h
 ·exact⟨o,h,rfl,rfl,rfl⟩
 split at h
 ·exact⟨o,h,rfl,rfl,rfl⟩
 obtain⟨o',ho',e⟩:=yVv.1 h
 refine⟨o',ho',?_⟩
 split at e
 ·split at e
  ·cases e
  ·cases e;exact⟨rfl,rfl,rfl⟩
 ·cases e;exact⟨rfl,rfl,rfl⟩
theorem BOk.take {p:Prd} {B:List (List zD)} (h:BOk p B) (id q:Int):BOk p (yU B id q).1:=by
 refine⟨h.pc,h.ps,by rw[mC];exact h.bl,fun k L hL o ho=> ?_⟩
 rw[yU]at hL
 split at hL
 ·exact h.pr k L hL o ho
 ·rename_i j hj
  dsimp only at hL
  rcases vE hL with⟨rfl,rfl⟩|⟨_,hL⟩
  ·obtain⟨o',ho',e,_⟩:=zBi ho
   obtain⟨L',hL',_⟩:=xL hj
   rw[zI hL']at ho'
   rw[e];exact h.pr k L' hL' o' ho'
  ·exact h.pr k L hL o ho
theorem BOk.takes {p:Prd}:∀{fs:List vA} {B:List (List zD)},BOk p B→BOk p (yZ B fs)
 |[],B,h=>h
 |f::fs,B,h=>BOk.takes (fs:=fs) (h.take f.id f.qty)
theorem zXn (inst s:Int):∀(os:List zD) (sh:List Int),(yK inst s os sh).length≤os.length
 |[],sh=>yTd 0
 |o::os,[]=>yUq _
 |o::os,k::sh=>by
  have:=zXn inst s os sh
  rw[yK]
  split
  ·simp only[ySx];omega
  ·simp only[ySx];omega
theorem mT {p:Prd} {B:List (List zD)} (ho:yEc B) (inst s q:Int):(y4 p B inst s q).length≤250:=by
 refine yVa (zXn _ _ _ _) (yVa (yVk _ _) ?_)
 by_cases h:inst.toNat<B.length
 ·obtain⟨L,hL⟩:=z6 h
  rw[zI hL];exact(ho _ _ hL).2.2
 ·rw[ySi,yTf (by omega)];exact yUq _
theorem aS {p:Prd} {B:List (List zD)} {inst:Int} {sd:Bool} {price q:Int} {t:kM} {B':List (List zD)} (hq:1≤q) (h:jF p B inst sd price q=some (t,B')):1≤t.qty∧t.qty≤q:=by
 rw[jF]at h
 dsimp only at h
 split at h
 ·rename_i c
  simp only[ySs,yTj]at c
  split at h
  ·cases h;dsimp only;omega
  ·cases h;dsimp only;omega
 ·cases h
theorem zXc {p:Prd} {inst:Int} {sd:Bool} {price:Int}:∀(m n:Nat) (B:List (List zD)) (q:Int),q.toNat≤m→q.toNat≤n→zHf p inst sd price m B q=zHf p inst sd price n B q
 |0,0,B,q,_,_=>rfl
 |0,n+1,B,q,h,_=>by rw[zHf,zHf,ySf (by omega)]
 |m+1,0,B,q,_,h=>by rw[zHf,zHf,ySf (by omega)]
 |m+1,n+1,B,q,h1,h2=>by
  rw[zHf,zHf]
  split
  ·rfl
  ·rename_i hq
   cases hs:jF p B inst sd price q with
   |none=>rfl
   |some x=>
    obtain⟨t,B'⟩:=x
    have:=aS (by omega) hs
    dsimp only
    rw[zXc m n B' (q-t.qty) (by omega) (by omega)]
theorem kO {p:Prd} {B:List (List zD)} {inst:Int} {sd:Bool} {price q:Int} (h:q≤0∨jF p B inst sd price q=none):x0 p B inst sd price q=⟨[],q,B⟩:=by
 rw[x0]
 cases hn:q.toNat with
 |zero=>rfl
 |succ n=>
  rw[zHf]
  rcases h with h|h
  ·rw[ySf h]
  ·rw[ySe (by omega),h]
theorem cC {p:Prd} {B:List (List zD)} {inst:Int} {sd:Bool} {price q:Int} {t:kM} {B':List (List zD)} (hq:1≤q) (h:jF p B inst sd price q=some (t,B')):
 x0 p B inst sd price q=⟨t::(x0 p B' inst sd price (q-t.qty)).steps,(x0 p B' inst sd price (q-t.qty)).left,(x0 p B' inst sd price (q-t.qty)).B⟩:=by
 have ht:=aS hq h
 rw[x0]
 cases hn:q.toNat with
 |zero=>omega
 |succ n=>
  rw[zHf,ySe (by omega),h]
  dsimp only
  rw[zXc n (q-t.qty).toNat B' (q-t.qty) (by omega) (yTd _)]
  rfl
open Go Cv Go.Proofs
theorem uC {s:Int} (h:s=1∨s=2):zB (decide (s=2))=s:=by
 rcases h with rfl|rfl<;>rfl
theorem yRz (i:RunI) (h:runC.cnd i):yQe i:=by
 obtain⟨hR,hB,⟨h0,h1⟩,hq1,hq2⟩:i.s.Rep i.p i.B∧BOk i.p i.B∧(0≤i.inst∧i.inst<i.B.length)∧1≤i.q∧i.q≤1000000:=h
 have hbl:=hR.bl
 have hcl:=xV i.p
 have hbB:=hB.bl
 unfold yQe aJ zYt fZ sU hZ zJy zCf zMc zZ dI
 refine(fun hT=>zK (fun c=>zK (fun c2=>Cv.cnd.mk (fun _=>zK (fun _=>Cv.cnd.mk (fun e=>absurd hq2 (by simpa using e)) (fun _=>hT)) (fun e=>absurd hq1 e)) (fun e1=>Cv.cnd.mk (fun _=>zK (fun _=>Cv.cnd.mk (fun e=>absurd hq2 (by simpa using e)) (fun _=>hT)) (fun e=>absurd hq1 e)) (fun e2=>by
  rcases dP i.sd with e|e
  ·rw[e]at e1;cases e1
  ·rw[e]at e2;cases e2))) (fun c2=>absurd (by omega) c2)) (fun c=>absurd h0 c)) ?_
 refine⟨⟨i.s,i.B,[],i.q⟩,rfl,rfl,rfl,rfl,rfl,rfl,rfl,rfl,rfl,rfl,rfl,rfl,rfl,rfl,rfl,fun j=>j.s.Rep i.p j.B∧BOk i.p j.B∧j.B.length=i.B.length∧(0≤j.q∧j.q≤i.q)∧(j.steps.length:Int)≤i.q-j.q∧i.r=⟨j.steps++(x0 i.p j.B i.inst i.sd i.price j.q).steps,(x0 i.p j.B i.inst i.sd i.price j.q).left,(x0 i.p j.B i.inst i.sd i.price j.q).B⟩,fun j=>j.q.toNat,⟨hR,hB,rfl,⟨by dsimp only;omega,yWb _⟩,by dsimp only;simp,rfl⟩,?_⟩
 rintro⟨s,B,st,q⟩ ⟨r1,r2,r3,⟨r4,r4'⟩,r5,r6⟩
 dsimp only at r1 r2 r3 r4 r4' r5 r6 ⊢
 have hno (hn:q≤0∨jF i.p B i.inst i.sd i.price q=none):∃(o:MSt),i.r.left=q∧AObj.adt MSt (5:Nat) xS o=AObj.adt MSt (5:Nat) xS s∧List.map jX i.r.steps=List.map jX st∧o.Rep i.p i.r.B:=by
  rw[kO hn,yTg]at r6
  rw[r6];exact⟨s,rfl,rfl,rfl,r1⟩
 refine zK (fun c=> ?_) (fun c=>hno (.inl (by omega)))
 have c:0<q:=c
 refine⟨i.sd,rfl,trivial,fun _ _=>⟨⟨s,i.p,B,i.inst,!i.sd⟩,rfl,rfl,rfl,⟨r1,r2,h0,by dsimp only;omega⟩,fun _ _=> ?_⟩⟩
 dsimp only
 have hni:=nI r2 r1.ords (inst:=i.inst) ⟨h0,by omega⟩ (dP (!i.sd))
 have hsb:jF i.p B i.inst i.sd i.price q=(if((zV i.p B i.inst (zB (!i.sd))).2.2 && (jA i.sd i.price (zV i.p B i.inst (zB (!i.sd))).1.price && decide (1≤(zV i.p B i.inst (zB (!i.sd))).1.qty)))=true then
  if(zV i.p B i.inst (zB (!i.sd))).2.1=true then
   some (⟨(zV i.p B i.inst (zB (!i.sd))).1.price,min q (zV i.p B i.inst (zB (!i.sd))).1.qty,true,y4 i.p B (zV i.p B i.inst (zB (!i.sd))).1.a.inst (zV i.p B i.inst (zB (!i.sd))).1.a.side (min q (zV i.p B i.inst (zB (!i.sd))).1.qty)++y4 i.p (yZ B (y4 i.p B (zV i.p B i.inst (zB (!i.sd))).1.a.inst (zV i.p B i.inst (zB (!i.sd))).1.a.side (min q (zV i.p B i.inst (zB (!i.sd))).1.qty))) (zV i.p B i.inst (zB (!i.sd))).1.b.inst (zV i.p B i.inst (zB (!i.sd))).1.b.side (min q (zV i.p B i.inst (zB (!i.sd))).1.qty)⟩,yZ (yZ B (y4 i.p B (zV i.p B i.inst (zB (!i.sd))).1.a.inst (zV i.p B i.inst (zB (!i.sd))).1.a.side (min q (zV i.p B i.inst (zB (!i.sd))).1.qty))) (y4 i.p (yZ B (y4 i.p B (zV i.p B i.inst (zB (!i.sd))).1.a.inst (zV i.p B i.inst (zB (!i.sd))).1.a.side (min q (zV i.p B i.inst (zB (!i.sd))).1.qty))) (zV i.p B i.inst (zB (!i.sd))).1.b.inst (zV i.p B i.inst (zB (!i.sd))).1.b.side (min q (zV i.p B i.inst (zB (!i.sd))).1.qty)))
  else some (⟨(zV i.p B i.inst (zB (!i.sd))).1.price,min q (zV i.p B i.inst (zB (!i.sd))).1.qty,false,y4 i.p B i.inst (zB (!i.sd)) (min q (zV i.p B i.inst (zB (!i.sd))).1.qty)⟩,yZ B (y4 i.p B i.inst (zB (!i.sd)) (min q (zV i.p B i.inst (zB (!i.sd))).1.qty)))else none):=rfl
 generalize zV i.p B i.inst (zB (!i.sd))=nb at hni hsb ⊢
 refine Cv.cnd.mk (fun n1=> ?_) (fun n1=>⟨⟨i.sd,i.price,nb.1.price⟩,rfl,rfl,rfl,trivial,fun _ _=>Cv.cnd.mk (fun n2=> ?_) (fun n2=> ?_)⟩)
 ·have n1:nb.2.2=false:=by simpa using n1
  rw[n1,ySe (by simp)]at hsb
  exact hno (.inr hsb)
 ·have n2:jA i.sd i.price nb.1.price=false:=by simpa using n2
  rw[n2,ySe (by simp)]at hsb
  exact hno (.inr hsb)
 have n1:nb.2.2=true:=by simpa using n1
 have n2:jA i.sd i.price nb.1.price=true:=by simpa using n2
 obtain⟨⟨b1,b2⟩,hi,hr⟩:=hni n1
 rw[n1,n2,ySw b1,ySf (by rfl)]at hsb
 have hk:yY (min q nb.1.qty):=by constructor<;>omega
 have hsl:(st.length+1)*48≤70368744177664:=by omega
 have beh:∀(t:kM) (B':List (List zD)) (s':MSt),jF i.p B i.inst i.sd i.price q=some (t,B')→s'.Rep i.p B'→BOk i.p B'→B'.length=B.length→
  (s'.Rep i.p B'∧BOk i.p B'∧B'.length=i.B.length∧(0≤q-t.qty∧q-t.qty≤i.q)∧((st++[t]).length:Int)≤i.q-(q-t.qty)∧i.r=⟨(st++[t])++(x0 i.p B' i.inst i.sd i.price (q-t.qty)).steps,(x0 i.p B' i.inst i.sd i.price (q-t.qty)).left,(x0 i.p B' i.inst i.sd i.price (q-t.qty)).B⟩)∧(q-t.qty).toNat<q.toNat:=by
  intro t B' s' h1 h2 h3 h4
  have ht:=aS (by omega) h1
  refine⟨⟨h2,h3,by omega,⟨by omega,by omega⟩,by rw[ySm,yWx];omega,?_⟩,by omega⟩
  rw[cC (by omega) h1]at r6
  rw[r6,ySq];rfl
 refine Cv.cnd.mk (fun n3=> ?_) (fun n3=> ?_)
 ·obtain⟨_,ok⟩:=hi n3
  rw[n3,ySf rfl]at hsb
  have oka:=ok.a
  have okb:=ok.b
  rw[ySh]at oka okb
  have ea:=uC ok.sa
  have eb:=uC ok.sb
  refine⟨⟨s,i.p,B,nb.1.a.inst,decide (nb.1.a.side=2),min q nb.1.qty⟩,rfl,ea,rfl,rfl,⟨r1,r2,oka.1,oka.2,hk⟩,fun s1 hs1=> ?_⟩
  dsimp only at hs1 ⊢
  rw[ea]at hs1 ⊢
  have l1:=mT (p:=i.p) r1.ords nb.1.a.inst nb.1.a.side (min q nb.1.qty)
  have hB1:=r2.takes (fs:=y4 i.p B nb.1.a.inst nb.1.a.side (min q nb.1.qty))
  have l2:=mT (p:=i.p) hs1.ords nb.1.b.inst nb.1.b.side (min q nb.1.qty)
  refine⟨trivial,by rw[ySh];omega,⟨s1,i.p,yZ B (y4 i.p B nb.1.a.inst nb.1.a.side (min q nb.1.qty)),nb.1.b.inst,decide (nb.1.b.side=2),min q nb.1.qty⟩,rfl,eb,rfl,rfl,⟨hs1,hB1,okb.1,by dsimp only;rw[qH];exact okb.2,hk⟩,fun s2 hs2=> ?_⟩
  dsimp only at hs2 ⊢
  rw[eb]at hs2 ⊢
  obtain⟨g1,g2⟩:=beh _ _ s2 hsb hs2 hB1.takes (by rw[qH,qH])
  refine⟨trivial,by rw[ySh,ySh];omega,by rw[ySh];exact hsl,⟨s2,_,st++[_],_⟩,?_,rfl,?_,g1,g2,by(repeat'(first|exact trivial|exact rfl|apply And.intro))⟩
  ·dsimp only;rw[w64 (by omega)]
  ·dsimp only
   rw[ySr,n3]
   simp[jX]
 ·rw[n3,ySe (by decide)]at hsb
  refine⟨i.sd,rfl,trivial,fun _ _=>⟨rfl,⟨s,i.p,B,i.inst,!i.sd,min q nb.1.qty⟩,rfl,rfl,rfl,rfl,⟨r1,r2,h0,by dsimp only;omega,hk⟩,fun s1 hs1=> ?_⟩⟩
  dsimp only at hs1 ⊢
  obtain⟨g1,g2⟩:=beh _ _ s1 hsb hs1 r2.takes (by rw[qH])
  refine⟨by rw[ySh];exact hsl,⟨s1,_,st++[_],_⟩,?_,rfl,?_,g1,g2,by(repeat'(first|exact trivial|exact rfl|apply And.intro))⟩
  ·dsimp only;rw[w64 (by omega)]
  ·dsimp only
   rw[ySr,n3]
   simp[jX]
theorem zZo:runC.ok Tryz.prog 56:=okw mixed (gokc yFg (gokc zPo (gokc zUw (gokc z7e gok0)))) 2 (fun _=>[]) (fun _=>yRh) [0] Tryz.func56 yRz
open Go Cv Go.Proofs
open Go Cv Go.Proofs
open Go Cv Go.Proofs
theorem yAz {L:List zD} {s id p q:Int} {o:zD} (h:o∈zAk L s id p q):o.price=p∨∃o'∈L,o.price=o'.price:=by
 have key:∀X:List zD,(o∈X.takeWhile (before s p)++⟨id,s,p,q,uT L s p⟩::X.dropWhile (before s p))→o.price=p∨o∈X:=by
  intro X hX
  rcases yTi.1 hX with hX|hX
  ·exact .inr (List.takeWhile_sublist _|>.subset hX)
  ·rcases ySy.1 hX with rfl|hX
   ·exact .inl rfl
   ·exact .inr (List.dropWhile_sublist _|>.subset hX)
 rw[zAk]at h
 split at h
 ·rcases key _ h with h|h
  ·exact .inl h
  ·obtain⟨o',ho',_,_,e,_⟩:=z1t h
   exact .inr ⟨o',ho',e⟩
 ·rcases key _ h with h|h
  ·exact .inl h
  ·exact .inr ⟨o,h,rfl⟩
theorem BOk.add {p:Prd} {B:List (List zD)} (h:BOk p B) (inst id s price q:Int):BOk p (rF p B inst id s price q).1:=by
 rw[rF]
 split
 ·exact h
 split
 ·exact h
 split
 ·exact h
 split
 ·exact h
 rename_i c1 _ _ c4
 have c4:p.price inst price=0:=by simpa using c4
 refine⟨h.pc,h.ps,by simpa using h.bl,fun k L hL o ho=> ?_⟩
 dsimp only at hL
 rcases vE hL with⟨rfl,rfl⟩|⟨_,hL⟩
 ·obtain⟨L',hL'⟩:=z6 (l:=B) (i:=inst.toNat) (by omega)
  rw[zI hL',rC]at ho
  have e:((inst.toNat:Nat):Int)=inst:=by omega
  repeat' split at ho
  ·exact h.pr _ L' hL' o ho
  ·exact h.pr _ L' hL' o ho
  ·exact h.pr _ L' hL' o ho
  ·rcases yAz ho with h1|⟨o',ho',h1⟩
   ·rw[h1,e];exact c4
   ·rw[h1];exact h.pr _ L' hL' o' ho'
 ·exact h.pr k L hL o ho
theorem BOk.new {p:Prd} (hc:p.check=0) (hp:p.small):BOk p (List.replicate p.count []):=by
 refine⟨hc,hp,by simp,fun k L hL o ho=> ?_⟩
 rw[yVt (ySo hL)]at ho
 cases ho
theorem MSt.Rep.fit {s:MSt} {p:Prd} {B:List (List zD)} (h:s.Rep p B) (hb:BOk p B):s.fit:=by
 have:=xV p
 refine⟨by rw[h.ep];exact hb.ps,by rw[h.bl,hb.bl];omega,fun b hm=> ?_⟩
 obtain⟨k,hk⟩:=yUi.1 hm
 have hlt:=(ySg.1 hk).1
 rw[h.bl]at hlt
 obtain⟨L,hL⟩:=z6 hlt
 exact(h.bk k b L hk hL).fit
open Go Cv Go.Proofs
def zMz (r:Nat):Bool:=decide (32≤r) && decide (r≠127) && decide (r≠65533)
def cI (s:List UInt8):Bool:=(kW s).all zMz && decide (1≤(kW s).length) && decide ((kW s).length≤12)
def labC:Con:=con1 (List UInt8) (fun s=>[sV s]) (fun _=>[]) (fun s=>s.length≤140737488355328) (fun s=>yR (cI s)) (fun _=>[])
def yRp (s:List UInt8):List SAnn:=[{ι:=Nat×Nat,slots:=fun x=>[(3,zA x.2),(7,.nm 0 0)],rows:=fun x=>[.iter (sb s) x.1]}]
def dM (n:Int):Bool:=decide (-2000000≤n) && decide (n≤2000000)
def wV (n:Int):Bool:=decide (1≤n) && decide (n≤1000000)
def Cmd.orderE (c:Cmd):Int:=
 if c.side≠1∧c.side≠2 then 21 else if c.time<1∨3<c.time then 27 else if wV c.qty=false then 24 else if c.least<0∨c.qty<c.least then 28
 else if c.label≠[]∧cI c.label=false then 29 else if dM c.price=false then 23 else if c.inst<0∨255<c.inst then 20 else 0
def Cmd.right (c:Cmd):Int:=
 if c.kind<1∨4<c.kind then 31 else if c.id<1∨1099511627776<c.id then 1 else if c.kind=1 then c.orderE
 else if c.kind≠2∧wV c.qty=false then 24 else if c.kind=4∧dM c.price=false then 23 else 0
def cmdOrdC:Con:=con1 Cmd (fun c=>[zNi c]) (fun _=>[]) (fun c=>c.label.length≤140737488355328) (fun c=>zA c.orderE) (fun _=>[])
def cmdRtC:Con:=con1 Cmd (fun c=>[zNi c]) (fun _=>[]) (fun c=>c.label.length≤140737488355328) (fun c=>zA c.right) (fun _=>[])
open Go Cv Go.Proofs
def yOz (s:List UInt8):Prop:=
 ∃(a:Nat×Nat),(↑a.snd:Int)=0∧sb s=sb s∧a.fst=0∧∃(b:Nat×Nat→Prop),∃(c:Nat×Nat→Nat),b a∧∀(d:Nat×Nat),b d→cnd (d.fst.blt (sb s).size) (cnd (decide ((qA s d)<32)) (∃(e:Unit),cI s=false∧True) (cnd ((qA s d)==127) (∃(e:Unit),cI s=false∧True) (cnd ((qA s d)==65533) (∃(e:Unit),cI s=false∧True) (fW d s b c)))) (cnd (decide ((↑d.snd:Int)≥1)) (∃(e:Unit),cI s=decide ((↑d.snd:Int)≤12)∧True) (∃(e:Unit),cI s=false∧True))
def zFh (a:Cmd):Prop:=∃(b:List UInt8),sb b=sb a.label∧b.length≤140737488355328∧∀(c:Unit),True→cnd (!cI b) (∃(d:Unit),a.orderE=29∧True) (cnd (decide (a.price≥(-2000000))) (cnd (!decide (a.price≤2000000)) (∃(d:Unit),a.orderE=23∧True) (cnd (decide (a.inst<0)) (∃(d:Unit),a.orderE=20∧True) (cnd (decide (a.inst>255)) (∃(d:Unit),a.orderE=20∧True) (∃(d:Unit),a.orderE=0∧True)))) (∃(d:Unit),a.orderE=23∧True))
def yHs (c:Cmd):Prop:=
 cnd (c.side !=1) (cnd (c.side !=2) (∃(a:Unit),c.orderE=21∧True) (cnd (decide (c.time<1)) (∃(a:Unit),c.orderE=27∧True) (cnd (decide (c.time>3)) (∃(a:Unit),c.orderE=27∧True) (cnd (decide (c.qty≥1)) (cnd (!decide (c.qty≤1000000)) (∃(a:Unit),c.orderE=24∧True) (cnd (decide (c.least<0)) (∃(a:Unit),c.orderE=28∧True) (cnd (decide (c.least>c.qty)) (∃(a:Unit),c.orderE=28∧True) (cnd (!(sb c.label).toList==(ByteArray.mk #[]).toList) (zFh c) (cnd (decide (c.price≥(-2000000))) (cnd (!decide (c.price≤2000000)) (∃(a:Unit),c.orderE=23∧True) (cnd (decide (c.inst<0)) (∃(a:Unit),c.orderE=20∧True) (cnd (decide (c.inst>255)) (∃(a:Unit),c.orderE=20∧True) (∃(a:Unit),c.orderE=0∧True)))) (∃(a:Unit),c.orderE=23∧True)))))) (∃(a:Unit),c.orderE=24∧True))))) (cnd (decide (c.time<1)) (∃(a:Unit),c.orderE=27∧True) (cnd (decide (c.time>3)) (∃(a:Unit),c.orderE=27∧True) (cnd (decide (c.qty≥1)) (cnd (!decide (c.qty≤1000000)) (∃(a:Unit),c.orderE=24∧True) (cnd (decide (c.least<0)) (∃(a:Unit),c.orderE=28∧True) (cnd (decide (c.least>c.qty)) (∃(a:Unit),c.orderE=28∧True) (cnd (!(sb c.label).toList==(ByteArray.mk #[]).toList) (zFh c) (cnd (decide (c.price≥(-2000000))) (cnd (!decide (c.price≤2000000)) (∃(a:Unit),c.orderE=23∧True) (cnd (decide (c.inst<0)) (∃(a:Unit),c.orderE=20∧True) (cnd (decide (c.inst>255)) (∃(a:Unit),c.orderE=20∧True) (∃(a:Unit),c.orderE=0∧True)))) (∃(a:Unit),c.orderE=23∧True)))))) (∃(a:Unit),c.orderE=24∧True))))
def yAs (c:Cmd):Prop:=
 cnd (decide (c.kind<1)) (∃(a:Unit),c.right=31∧True) (cnd (decide (c.kind>4)) (∃(a:Unit),c.right=31∧True) (cnd (decide (c.id<1)) (∃(a:Unit),c.right=1∧True) (cnd (decide (c.id>1099511627776)) (∃(a:Unit),c.right=1∧True) (cnd (c.kind==1) (∃(a:Cmd),a.kind=c.kind∧a.id=c.id∧a.inst=c.inst∧a.side=c.side∧a.price=c.price∧a.qty=c.qty∧a.least=c.least∧a.time=c.time∧sb a.label=sb c.label∧a.label.length≤140737488355328∧∀(b:Unit),True→∃(d:Unit),c.right=a.orderE∧True) (cnd (c.kind !=2) (cnd (decide (c.qty≥1)) (cnd (!decide (c.qty≤1000000)) (∃(a:Unit),c.right=24∧True) (cnd (c.kind==4) (cnd (decide (c.price≥(-2000000))) (cnd (!decide (c.price≤2000000)) (∃(a:Unit),c.right=23∧True) (∃(a:Unit),c.right=0∧True)) (∃(a:Unit),c.right=23∧True)) (∃(a:Unit),c.right=0∧True))) (∃(a:Unit),c.right=24∧True)) (cnd (c.kind==4) (cnd (decide (c.price≥(-2000000))) (cnd (!decide (c.price≤2000000)) (∃(a:Unit),c.right=23∧True) (∃(a:Unit),c.right=0∧True)) (∃(a:Unit),c.right=23∧True)) (∃(a:Unit),c.right=0∧True)))))))
open Go Cv Go.Proofs
theorem yRq (s:List UInt8) (h:labC.cnd s):yOz s:=by
 have h:s.length≤140737488355328:=h
 have hr:=zFr s
 unfold yOz qA fW
 refine⟨(0,0),rfl,rfl,rfl,fun x=>x.1≤s.length∧x.2+(gF s x.1).length=(kW s).length∧(kW s).all zMz=(gF s x.1).all fun x=>zMz x.2,fun x=>s.length-x.1,⟨by omega,by rw[kW,ySh];simp,by rw[kW,List.all_map];rfl⟩,?_⟩
 rintro⟨p,n⟩ ⟨h1,h2,h3⟩
 dsimp only at h1 h2 h3 ⊢
 refine Cv.cnd.mk (fun hp=> ?_) (fun hp=> ?_)
 ·have hp:p<s.length:=by simpa[yVi]using hp
  have hw:=bV s hp
  rw[j8 hp,ySx]at h2
  rw[j8 hp,List.all_cons]at h3
  generalize hc:(Utf8.decode (sb s) p).1=c at h2 h3 ⊢
  generalize hww:(Utf8.decode (sb s) p).2=w at h2 h3 hw ⊢
  dsimp only at h3
  have bad:zMz c=false→∃(o:Unit),cI s=false∧True:=fun e=>⟨(),by rw[cI,h3,e];rfl,trivial⟩
  refine zK (fun c1=>bad ?_) (fun c1=>Cv.cnd.mk (fun c2=>bad ?_) (fun c2=>Cv.cnd.mk (fun c3=>bad ?_) (fun c3=> ?_)))
  ·simp[zMz];omega
  ·have c2:(c:Int)=127:=by simpa using c2
   simp[zMz];omega
  ·have c3:(c:Int)=65533:=by simpa using c3
   simp[zMz];omega
  ·have c2:¬(c:Int)=127:=by simpa using c2
   have c3:¬(c:Int)=65533:=by simpa using c3
   have e:zMz c=true:=by simp[zMz];omega
   refine⟨(p+w,n+1),?_,rfl,rfl,⟨hw.2,by(first|omega|(dsimp only;omega)),by rw[h3,e];rfl⟩,by(first|omega|(dsimp only;omega)),trivial⟩
   rw[w64 (by omega)];rfl
 ·have hp:s.length≤p:=by have:=z1q hp;simpa using this
  rw[fU hp]at h2 h3
  have h2:n=(kW s).length:=h2
  have h3:(kW s).all zMz=true:=h3
  refine zK (fun c=>⟨(),?_,trivial⟩) (fun c=>⟨(),?_,trivial⟩)
  ·rw[cI,h3,← h2,ySw (show 1≤n by omega)]
   simp only[yTm]
   congr 1
   simp only[eq_iff_iff];omega
  ·rw[cI,← h2,ySp (show ¬1≤n by omega)];simp
theorem yLz:labC.ok Tryz.prog 96:=okw mixed gok0 0 (fun _=>[]) (fun s=>yRp s) [] Tryz.func96 yRq
theorem yRe (a b:Int):(a==b)=decide (a=b):=by
 by_cases h:a=b
 ·subst h;simp
 ·simp[h]
theorem yOf (a b:Int):(a !=b)=decide (a≠b):=by
 by_cases h:a=b
 ·subst h;simp
 ·simp[h]
theorem eqB (a b:List UInt8):((sb a).toList==(sb b).toList)=decide (a=b):=by
 rw[aY,aY]
 by_cases h:a=b
 ·subst h;simp
 ·simp[h]
theorem yMo:ByteArray.mk #[]=sb []:=rfl
theorem yQh (c:Cmd) (h:cmdOrdC.cnd c):yHs c:=by
 have h:c.label.length≤140737488355328:=h
 unfold yHs zFh
 simp only[yMo,eqB,yOf]
 have tail:¬(c.side≠1∧c.side≠2)→cnd (decide (c.time<1)) (∃(o:Unit),c.orderE=27∧True) (cnd (decide (c.time>3)) (∃(o:Unit),c.orderE=27∧True) (cnd (decide (c.qty≥1)) (cnd (!decide (c.qty≤1000000)) (∃(o:Unit),c.orderE=24∧True) (cnd (decide (c.least<0)) (∃(o:Unit),c.orderE=28∧True) (cnd (decide (c.least>c.qty)) (∃(o:Unit),c.orderE=28∧True) (cnd (!decide (c.label=[])) (∃(i:List UInt8),sb i=sb c.label∧i.length≤140737488355328∧∀(o:Unit),True→cnd (!cI i) (∃(o:Unit),c.orderE=29∧True) (cnd (decide (c.price≥-2000000)) (cnd (!decide (c.price≤2000000)) (∃(o:Unit),c.orderE=23∧True) (cnd (decide (c.inst<0)) (∃(o:Unit),c.orderE=20∧True) (cnd (decide (c.inst>255)) (∃(o:Unit),c.orderE=20∧True) (∃(o:Unit),c.orderE=0∧True)))) (∃(o:Unit),c.orderE=23∧True))) (cnd (decide (c.price≥-2000000)) (cnd (!decide (c.price≤2000000)) (∃(o:Unit),c.orderE=23∧True) (cnd (decide (c.inst<0)) (∃(o:Unit),c.orderE=20∧True) (cnd (decide (c.inst>255)) (∃(o:Unit),c.orderE=20∧True) (∃(o:Unit),c.orderE=0∧True)))) (∃(o:Unit),c.orderE=23∧True)))))) (∃(o:Unit),c.orderE=24∧True))):=by
  intro hs
  have e1:c.orderE=if c.time<1∨3<c.time then 27 else if wV c.qty=false then 24 else if c.least<0∨c.qty<c.least then 28
   else if c.label≠[]∧cI c.label=false then 29 else if dM c.price=false then 23 else if c.inst<0∨255<c.inst then 20 else 0:=by rw[Cmd.orderE,ySe hs]
  refine zK (fun d1=>⟨(),by rw[e1,ySf (.inl d1)],trivial⟩) fun d1=>zK (fun d2=>⟨(),by rw[e1,ySf (.inr d2)],trivial⟩) fun d2=> ?_
  rw[ySe (by omega)]at e1
  have q (hq:wV c.qty=false):∃(o:Unit),c.orderE=24∧True:=⟨(),by rw[e1,ySf hq],trivial⟩
  refine zK (fun d3=>Cv.cnd.mk (fun d4=>q ?_) fun d4=> ?_) fun d3=>q ?_
  ·have d4:¬c.qty≤1000000:=by simpa using d4
   simp[wV,d4]
  ·have d4:c.qty≤1000000:=by simpa using d4
   have hq:¬wV c.qty=false:=by simp[wV,d4];omega
   rw[ySe hq]at e1
   refine zK (fun d5=>⟨(),by rw[e1,ySf (.inl d5)],trivial⟩) fun d5=>zK (fun d6=>⟨(),by rw[e1,ySf (.inr d6)],trivial⟩) fun d6=> ?_
   rw[ySe (by omega)]at e1
   have last:¬(c.label≠[]∧cI c.label=false)→cnd (decide (c.price≥-2000000)) (cnd (!decide (c.price≤2000000)) (∃(o:Unit),c.orderE=23∧True) (cnd (decide (c.inst<0)) (∃(o:Unit),c.orderE=20∧True) (cnd (decide (c.inst>255)) (∃(o:Unit),c.orderE=20∧True) (∃(o:Unit),c.orderE=0∧True)))) (∃(o:Unit),c.orderE=23∧True):=by
    intro hl
    rw[ySe hl]at e1
    have pr (hq:dM c.price=false):∃(o:Unit),c.orderE=23∧True:=⟨(),by rw[e1,ySf hq],trivial⟩
    refine zK (fun g1=>Cv.cnd.mk (fun g2=>pr ?_) fun g2=> ?_) fun g1=>pr ?_
    ·have g2:¬c.price≤2000000:=by simpa using g2
     simp[dM,g2]
    ·have g2:c.price≤2000000:=by simpa using g2
     have hp:¬dM c.price=false:=by simp[dM,g2];omega
     rw[ySe hp]at e1
     refine zK (fun g3=>⟨(),by rw[e1,ySf (.inl g3)],trivial⟩) fun g3=>zK (fun g4=>⟨(),by rw[e1,ySf (.inr g4)],trivial⟩) fun g4=>⟨(),by rw[e1,ySe (by omega)],trivial⟩
    ·simp[dM];omega
   refine Cv.cnd.mk (fun d7=>⟨c.label,rfl,h,fun _ _=>Cv.cnd.mk (fun d8=> ?_) fun d8=>last ?_⟩) fun d7=>last ?_
   ·have d7:¬c.label=[]:=by simpa using d7
    have d8:cI c.label=false:=by simpa using d8
    exact⟨(),by rw[e1,ySf ⟨d7,d8⟩],trivial⟩
   ·have d8:cI c.label=true:=by simpa using d8
    simp[d8]
   ·have d7:c.label=[]:=by simpa using d7
    simp[d7]
  ·simp[wV];omega
 refine zK (fun c1=>zK (fun c2=>⟨(),by rw[Cmd.orderE,ySf ⟨c1,c2⟩],trivial⟩) fun c2=>tail ?_) fun c1=>tail ?_
 ·omega
 ·omega
theorem yHn:cmdOrdC.ok Tryz.prog 69:=okw mixed (gokc yLz gok0) 1 (fun _=>[]) (fun _=>[]) [] Tryz.func69 yQh
theorem yLn (c:Cmd) (h:cmdRtC.cnd c):yAs c:=by
 have h:c.label.length≤140737488355328:=h
 unfold yAs
 simp only[yRe,yOf]
 refine zK (fun c1=>⟨(),by rw[Cmd.right,ySf (.inl c1)],trivial⟩) fun c1=>zK (fun c2=>⟨(),by rw[Cmd.right,ySf (.inr c2)],trivial⟩) fun c2=> ?_
 refine zK (fun c3=>⟨(),by rw[Cmd.right,ySe (by omega),ySf (.inl c3)],trivial⟩) fun c3=>zK (fun c4=>⟨(),by rw[Cmd.right,ySe (by omega),ySf (.inr c4)],trivial⟩) fun c4=> ?_
 have e0:c.right=if c.kind=1 then c.orderE else if c.kind≠2∧wV c.qty=false then 24 else if c.kind=4∧dM c.price=false then 23 else 0:=by rw[Cmd.right,ySe (by omega),ySe (by omega)]
 refine zK (fun c5=>⟨c,?_⟩) fun c5=> ?_
 ·rw[ySf c5]at e0
  exact kp
 rw[ySe c5]at e0
 have last (hn:¬(c.kind≠2∧wV c.qty=false)):cnd (decide (c.kind=4)) (cnd (decide (c.price≥-2000000)) (cnd (!decide (c.price≤2000000)) (∃(o:Unit),c.right=23∧True) (∃(o:Unit),c.right=0∧True)) (∃(o:Unit),c.right=23∧True)) (∃(o:Unit),c.right=0∧True):=by
  rw[ySe hn]at e0
  refine zK (fun d1=>zK (fun d2=>Cv.cnd.mk (fun d3=> ?_) fun d3=> ?_) fun d2=> ?_) fun d1=> ?_
  ·have d3:¬c.price≤2000000:=by simpa using d3
   exact⟨(),by rw[e0,ySf ⟨d1,by simp[dM,d3]⟩],trivial⟩
  ·have d3:c.price≤2000000:=by simpa using d3
   exact⟨(),by rw[e0,ySe (by simp[dM,d3];omega)],trivial⟩
  ·exact⟨(),by rw[e0,ySf ⟨d1,by simp[dM];omega⟩],trivial⟩
  ·exact⟨(),by rw[e0,ySe (by simp[d1])],trivial⟩
 refine zK (fun d1=>zK (fun d2=>Cv.cnd.mk (fun d3=> ?_) fun d3=>last ?_) fun d2=> ?_) fun d1=>last ?_
 ·have d3:¬c.qty≤1000000:=by simpa using d3
  exact⟨(),by rw[e0,ySf ⟨d1,by simp[wV,d3]⟩],trivial⟩
 ·have d3:c.qty≤1000000:=by simpa using d3
  simp[wV,d3];omega
 ·exact⟨(),by rw[e0,ySf ⟨d1,by simp[wV];omega⟩],trivial⟩
 ·omega
theorem yBw:cmdRtC.ok Tryz.prog 38:=okw mixed (gokc yHn gok0) 1 (fun _=>[]) (fun _=>[]) [] Tryz.func38 yLn
open Go Cv Go.Proofs
structure SoI where
 s:MSt
 p:Prd
 B:List (List zD)
 inst:Int
 sd:Bool
@[reducible] def SoI.ok (i:SoI):Prop:=i.s.Rep i.p i.B∧i.B.length≤1000
open Go Cv Go.Proofs
open Go Cv Go.Proofs
open Go Cv Go.Proofs
def zCm (s:Int) (F:List zD):Prop:=F.Pairwise fun o o'=>btr s o'.price o.price=false
def kX (L:List zD) (s:Int):List zD:=L.filter fun o=>decide (o.side=s)
structure BWf (p:Prd) (B:List (List zD)):Prop where
 ok:BOk p B
 od:yEc B
 ub:((whL 0 B).map (·.1)).Nodup
 srt:∀(k:Nat) (L:List zD),B[k]? =some L→∀s,s=1∨s=2→zCm s (kX L s)
theorem yBr {s x y:Int} (h:btr s y x=false) (h2:btr s x y=false):x=y:=by
 rw[btr]at h h2
 split at h
 ·rename_i e;rw[ySf e]at h2;have:=yVx h;have:=yVx h2;omega
 ·rename_i e;rw[ySe e]at h2;have:=yVx h;have:=yVx h2;omega
theorem zUh {s:Int} {b:Book} {Q:List (List Nat)}:∀{R:List xN},(R.Pairwise fun r r'=>btr s r.price r'.price=true)→zCm s (R.flatMap (b.rOrds Q s))
 |[],_=>List.Pairwise.nil
 |r::R,h=>by
  rw[yWh]at h
  rw[yTv,zCm,List.pairwise_append]
  refine⟨List.pairwise_of_forall_mem_list fun o ho o' ho'=> ?_,zUh h.2,fun o ho o' ho'=> ?_⟩
  ·rw[(qF ho).2,(qF ho').2];exact nY _ _
  ·obtain⟨r',hr',ho'⟩:=yUg.1 ho'
   rw[(qF ho).2,(qF ho').2];exact zWx (h.1 r' hr')
theorem Book.Rep.srt {b:Book} {L:List zD} (h:b.Rep L) {s:Int} (hs:s=1∨s=2):zCm s (kX L s):=by
 obtain⟨Q,c,ht,rfl⟩:=h
 rw[kX,zPl hs]
 exact zUh (c.srt s hs)
theorem MSt.Rep.wf {s:MSt} {p:Prd} {B:List (List zD)} (h:s.Rep p B) (hb:BOk p B):BWf p B:=by
 refine⟨hb,h.ords,h.ids,fun k L hL=> ?_⟩
 obtain⟨b,hb⟩:=z6 (l:=s.books) (i:=k) (by rw[h.bl];exact(ySg.1 hL).1)
 exact fun s hs=>(h.bk k b L hb hL).srt hs
theorem z8x {L:List zD} (h:∀o∈L,zIh o) (hn:(L.map (·.id)).Nodup) (id q:Int):∀o∈(xR L id q).1,zIh o:=by
 intro o ho
 rw[xR]at ho
 split at ho
 ·exact h o ho
 split at ho
 ·exact h o ho
 rename_i hb
 obtain⟨o',ho',e⟩:=yVv.1 ho
 have h0:=h o' ho'
 split at e
 ·rename_i e1
  have hg:=vY hn ho'
  rw[e1]at hg
  rw[hg]at hb
  split at e
  ·cases e
  ·rename_i e2
   cases e
   have:=h0.q
   exact⟨h0.s,by dsimp only;omega⟩
 ·cases e;exact h0
theorem yDd (L:List zD) (id q:Int):(xR L id q).1.length≤L.length:=by
 rw[xR]
 split
 ·exact yTd _
 split
 ·exact yTd _
 exact List.length_filterMap_le _ _
theorem z9v {L:List zD} {s:Int} (h:zCm s (kX L s)) (id q:Int):zCm s (kX (xR L id q).1 s):=by
 rw[xR]
 split
 ·exact h
 split
 ·exact h
 have e:kX (yQ L id q) s=yQ (kX L s) id q:=by
  rw[kX,kX,yQ,yQ,List.filter_filterMap,List.filterMap_filter]
  refine vK fun o _=> ?_
  by_cases e1:o.id=id
  ·rw[ySf e1]
   by_cases e2:o.qty=q
   ·rw[ySf e2];simp
   ·rw[ySe e2];by_cases e3:o.side=s<;>simp[Option.filter,e3]
  ·rw[ySe e1];by_cases e3:o.side=s<;>simp[Option.filter,e3]
 rw[e,yQ]
 refine List.Pairwise.filterMap _ (fun a a' haa b hb b' hb'=> ?_) h
 have g:∀{a b:zD},(if a.id=id then(if a.qty=q then none else some {a with qty:=a.qty-q})else some a)=some b→b.price=a.price:=by
  intro a b e
  split at e
  ·split at e
   ·cases e
   ·cases e;rfl
  ·cases e;rfl
 rw[g hb,g hb'];exact haa
theorem yGf {B:List (List zD)} (h:((whL 0 B).map (·.1)).Nodup) {k:Nat} {L L':List zD} (hL:B[k]? =some L) (hs:(L'.map (·.id)).Sublist (L.map (·.id))):((whL 0 (B.set k L')).map (·.1)).Nodup:=by
 have hk:=(ySg.1 hL).1
 obtain⟨rest,hr⟩:=zHr (B:=B) 0 k hk
 have h0:=hr L
 rw[kK hL]at h0
 have h1:=(h0.map (·.1)).nodup_iff.1 h
 refine((hr L').map (·.1)).nodup_iff.2 ?_
 rw[ySr,yUx]at h1 ⊢
 exact h1.sublist (List.Sublist.append hs (List.Sublist.refl _))
theorem BWf.take {p:Prd} {B:List (List zD)} (h:BWf p B) (id q:Int):BWf p (yU B id q).1:=by
 refine⟨h.ok.take id q,?_,?_,?_⟩
 all_goals
  rw[yU]
  cases hi:fJ B id with
  |none=>first|exact h.od|exact h.ub|exact h.srt
  |some k=>
   obtain⟨L,hL,hh⟩:=xL hi
   have ho:=h.od k L hL
   dsimp only
   rw[zI hL]
   first
   |(intro j M hM
     rcases vE hM with⟨rfl,rfl⟩|⟨_,hM⟩
     ·refine⟨z8x ho.1 ho.2.1 id q,?_,yVa (yDd L id q) ho.2.2⟩
      rcases zKi ho.2.1 id q with⟨e,_⟩|⟨e,_⟩
      ·rw[e];exact ho.2.1
      ·rw[e];exact ho.2.1.sublist (List.Sublist.map _ yVq)
     ·exact h.od j M hM)
   |(refine yGf h.ub hL ?_
     rcases zKi ho.2.1 id q with⟨e,_⟩|⟨e,_⟩
     ·rw[e];exact List.Sublist.refl _
     ·rw[e];exact List.Sublist.map _ yVq)
   |(intro j M hM s hs
     rcases vE hM with⟨rfl,rfl⟩|⟨_,hM⟩
     ·exact z9v (h.srt _ L hL s hs) id q
     ·exact h.srt j M hM s hs)
theorem BWf.takes {p:Prd}:∀{fs:List vA} {B:List (List zD)},BWf p B→BWf p (yZ B fs)
 |[],B,h=>h
 |f::fs,B,h=>BWf.takes (fs:=fs) (h.take f.id f.qty)
theorem BWf.inst {p:Prd} {B:List (List zD)} (h:BWf p B) {k:Nat} {L:List zD} (hL:B[k]? =some L) {id:Int} (hid:id∈L.map (·.id)):fJ B id=some k:=by
 cases hi:fJ B id with
 |none=>
  have:=zJu hi L (ySo hL)
  rw[hasId_iff.2 hid]at this;cases this
 |some j=>
  obtain⟨M,hM,hh⟩:=xL hi
  rw[zLy h.ub hM hL (hasId_iff.1 hh) hid]
theorem zFw {s:Int} {F:List zD} (hs:zCm s F) {v:Lv} {vs:List Lv} (h:grp F=v::vs):
 v=zNd v.price (F.filter fun o=>decide (o.price=v.price))∧vs=grp (F.filter fun o=> !decide (o.price=v.price))∧∀o∈F,btr s o.price v.price=false:=by
 obtain⟨o,r,rfl,he⟩:=sI h
 rw[zCm,yWh]at hs
 have key:∀(r:List zD),(∀x∈r,btr s x.price o.price=false)→zCm s r→r=r.filter (fun x=>decide (x.price=o.price))++r.filter fun x=> !decide (x.price=o.price):=by
  intro r
  induction r with
  |nil=>intro _ _;rfl
  |cons x r ih=>
   intro h1 h2
   rw[zCm,yWh]at h2
   by_cases e:x.price=o.price
   ·rw[yVl (by simpa using e),yVm (by simpa using e),yTt,← ih (fun y hy=>h1 y (ySl _ hy)) h2.2]
   ·have h3:∀y∈r,¬y.price=o.price:=by
     intro y hy e2
     have a:=h2.1 y hy
     have b:=h1 x ySk
     rw[e2]at a
     exact e (yBr a b)
    rw[yVm (by simpa using e),yVl (by simpa using e)]
    have e1:r.filter (fun x=>decide (x.price=o.price))=[]:=by
     rw[yXu];intro y hy;simpa using h3 y hy
    have e2:r.filter (fun x=> !decide (x.price=o.price))=r:=by
     rw[yWn];intro y hy;simpa using h3 y hy
    rw[e1,e2,yUu]
 have hk:=key r hs.1 hs.2
 rw[← he]
 have hf1:(o::r).filter (fun x=>decide (x.price=o.price))=o::r.filter fun x=>decide (x.price=o.price):=yVl (by simp)
 have hf2:(o::r).filter (fun x=> !decide (x.price=o.price))=r.filter fun x=> !decide (x.price=o.price):=yVm (by simp)
 rw[hf1,hf2]
 have hg:grp (o::r)=zNd o.price (o::r.filter fun x=>decide (x.price=o.price))::grp (r.filter fun x=> !decide (x.price=o.price)):=by
  conv=>lhs;rw[hk]
  refine zSz (l:=o::r.filter fun x=>decide (x.price=o.price)) (by simp) (fun x hx=> ?_) (fun x y e=> ?_)
  ·rcases ySy.1 hx with rfl|hx
   ·rfl
   ·simpa using(yTp.1 hx).2
  ·have:x∈r.filter fun x=> !decide (x.price=o.price):=by rw[e];exact ySk
   simpa using(yTp.1 this).2
 rw[h]at hg
 cases hg
 refine⟨rfl,rfl,fun x hx=> ?_⟩
 rcases ySy.1 hx with rfl|hx
 ·exact nY _ _
 ·exact hs.1 x hx
theorem yDu (L:List zD) (s p:Int):atL L s p=(kX L s).filter fun o=>decide (o.price=p):=by
 rw[atL,kX,List.filter_filter]
 refine List.filter_congr fun o _=> ?_
 exact Bool.and_comm _ _
open Go Cv Go.Proofs
theorem tQ {p:Prd} {B:List (List zD)} (h:BWf p B) {inst:Int} {sd:Bool} {price q:Int} {t:kM} {B':List (List zD)} (e:jF p B inst sd price q=some (t,B')):BWf p B'∧B'.length=B.length:=by
 rw[jF]at e
 dsimp only at e
 split at e
 ·split at e
  ·cases e;exact⟨h.takes.takes,by rw[qH,qH]⟩
  ·cases e;exact⟨h.takes,by rw[qH]⟩
 ·cases e
theorem cF {p:Prd} {inst:Int} {sd:Bool} {price:Int}:∀(m:Nat) (q:Int) (B:List (List zD)),q.toNat≤m→BWf p B→BWf p (x0 p B inst sd price q).B∧(x0 p B inst sd price q).B.length=B.length∧(0≤q→0≤(x0 p B inst sd price q).left∧(x0 p B inst sd price q).left≤q)
 |m,q,B,hm,h=>by
  by_cases hq:q≤0
  ·rw[kO (.inl hq)]
   exact⟨h,rfl,fun x=>⟨x,yWb _⟩⟩
  cases hs:jF p B inst sd price q with
  |none=>
   rw[kO (.inr hs)]
   exact⟨h,rfl,fun x=>⟨x,yWb _⟩⟩
  |some x=>
   obtain⟨t,C⟩:=x
   obtain⟨k1,k2⟩:=tQ h hs
   have hq2:=aS (by omega) hs
   cases m with
   |zero=>omega
   |succ m=>
   obtain⟨i1,i2,i3⟩:=cF (p:=p) (inst:=inst) (sd:=sd) (price:=price) m (q-t.qty) C (by omega) k1
   rw[cC (by omega) hs]
   exact⟨i1,i2.trans k2,fun _=>⟨(i3 (by omega)).1,by dsimp only;have:=(i3 (by omega)).2;omega⟩⟩
open Go Cv Go.Proofs
@[reducible] def RunI.ok (i:RunI):Prop:=i.s.Rep i.p i.B∧BOk i.p i.B∧(0≤i.inst∧i.inst<i.B.length)∧1≤i.q∧i.q≤1000000
def scouldC:Con:=con1 RunI (fun i=>[.nm 0 0,zA i.inst,zA (zB i.sd),zA i.price,zA i.q]) (fun i=>[zE i.s]) (fun i=>i.ok) (fun i=>zA (i.q-i.r.left)) (fun i=>[zE i.s])
def dG (p:Prd) (B:List (List zD)) (inst:Int) (sd:Bool) (price q:Int):Bool:=
 decide ((x0 p B inst sd price q).left≠0) && (qC ⟨p,(x0 p B inst sd price q).B.map xI,inst⟩ (zB (!sd))).any fun x=>jA sd price x.price
def stuckC:Con:=con1 RunI (fun i=>[.nm 0 0,zA i.inst,zA (zB i.sd),zA i.price,zA i.q]) (fun i=>[zE i.s]) (fun i=>i.ok) (fun i=>yR (dG i.p i.B i.inst i.sd i.price i.q)) (fun i=>[zE i.s])
def zNk (B:List (List zD)):Nat:=(whL 0 B).length
def countC16:Con:=con1 SoI (fun i=>[.nm 0 0]) (fun i=>[zE i.s]) (fun i=>i.ok) (fun i=>zA (zNk i.B)) (fun i=>[zE i.s])
def fA (p:Prd) (inst price:Int):Int×Int×Int:=
 if(p.legs inst).2.2=false then(0,0,20)else if p.price inst price≠0 then(0,0,p.price inst price)else
 let far:=p.settle.getD (p.legs inst).2.1.toNat 0
 let a:=if p.high<far+price then(p.high,p.high-price)else(far+price,far)
 if a.1<p.low then(p.low,p.low-price,0)else(a.1,a.2,0)
structure LpI where
 p:Prd
 inst:Int
 price:Int
def lpricesC:Con:=con1 LpI (fun i=>[prdV i.p,zA i.inst,zA i.price]) (fun _=>[]) (fun i=>i.p.check=0∧i.p.small∧yY i.price) (fun i=> .tup [zA (fA i.p i.inst i.price).1,zA (fA i.p i.inst i.price).2.1,zA (fA i.p i.inst i.price).2.2]) (fun _=>[])
def ijj (t u:Nat):SAnn:={ι:=Int×Int,slots:=fun n=>[(t,zA n.1),(u,zA n.2)],rows:=fun _=>[]}
def lpJ:List (Nat×SAnn):=[(50,ijj 15 14),(58,ijj 15 14)]
def yKb:List SAnn:=[{ι:=Nat,slots:=fun j=>[(40,zA j)],rows:=fun _=>[]}]
def yJo:List (Nat×SAnn):=[(8,{ι:=Unit,slots:=fun _=>[],rows:=fun _=>[],opn:=[11]})]
open Go Cv Go.Proofs
def g7 (a:MSt):Prop:=a.books.length≤1000000∧∀(b:Book),b∈a.books→uH b
def qP (a:RunI):Prop:=a.s.Rep a.p a.B∧BOk a.p a.B∧(0≤a.inst∧a.inst<(↑a.B.length:Int))∧1≤a.q∧a.q≤1000000
def zAw (a:RunI):Prop:=∃(b:MSt),sb b.p.code=sb a.s.p.code∧b.p.tick=a.s.p.tick∧b.p.low=a.s.p.low∧b.p.high=a.s.p.high∧b.p.wide=a.s.p.wide∧b.p.rule=a.s.p.rule∧b.p.top=a.s.p.top∧b.p.least=a.s.p.least∧b.p.part=a.s.p.part∧AObj.objs 102 Book 6 zR b.books none=AObj.objs 102 Book 6 zR a.s.books none∧zY b.wh=zY a.s.wh∧AObj.fro 1 (iE b.p.months)=AObj.fro 1 (iE a.s.p.months)∧AObj.fro 1 (iE b.p.settle)=AObj.fro 1 (iE a.s.p.settle)∧(g7 b)∧∀(c:Unit),True→∃(d:RunI),d.inst=a.inst∧zB d.sd=zB a.sd∧d.price=a.price∧d.q=a.q∧zE d.s=zE b∧(qP d)∧∀(e:MSt),e.Rep d.p d.r.B→∃(f:Unit),a.q-a.r.left=IntKind.i64.wrap (a.q-d.r.left)∧zE a.s=zE b∧True
def vJ (a:RunI):Prop:=∃(b:Unit),a.q-a.r.left=0∧sb a.s.p.code=sb a.s.p.code∧a.s.p.tick=a.s.p.tick∧a.s.p.low=a.s.p.low∧a.s.p.high=a.s.p.high∧a.s.p.wide=a.s.p.wide∧a.s.p.rule=a.s.p.rule∧a.s.p.top=a.s.p.top∧a.s.p.least=a.s.p.least∧a.s.p.part=a.s.p.part∧AObj.objs 102 Book 6 zR a.s.books none=AObj.objs 102 Book 6 zR a.s.books none∧zY a.s.wh=zY a.s.wh∧AObj.fro 1 (iE a.s.p.months)=AObj.fro 1 (iE a.s.p.months)∧AObj.fro 1 (iE a.s.p.settle)=AObj.fro 1 (iE a.s.p.settle)∧True
def z2w (i:RunI):Prop:=
 cnd (decide (i.inst≥0)) (cnd (decide (i.inst<(↑i.s.books.length:Int))) (cnd (zB i.sd==1) (cnd (decide (i.q≥1)) (cnd (!decide (i.q≤1000000)) (vJ i) (zAw i)) (vJ i)) (cnd (zB i.sd==2) (cnd (decide (i.q≥1)) (cnd (!decide (i.q≤1000000)) (vJ i) (zAw i)) (vJ i)) (vJ i))) (vJ i)) (vJ i)
def zTy (i:SoI):Prop:=
 ∃(a:Unit),(↑(zNk i.B):Int)=(↑(zY i.s.wh).length:Int)∧sb i.s.p.code=sb i.s.p.code∧i.s.p.tick=i.s.p.tick∧i.s.p.low=i.s.p.low∧i.s.p.high=i.s.p.high∧i.s.p.wide=i.s.p.wide∧i.s.p.rule=i.s.p.rule∧i.s.p.top=i.s.p.top∧i.s.p.least=i.s.p.least∧i.s.p.part=i.s.p.part∧AObj.objs 102 Book 6 zR i.s.books none=AObj.objs 102 Book 6 zR i.s.books none∧zY i.s.wh=zY i.s.wh∧AObj.fro 1 (iE i.s.p.months)=AObj.fro 1 (iE i.s.p.months)∧AObj.fro 1 (iE i.s.p.settle)=AObj.fro 1 (iE i.s.p.settle)∧True
def cE (a:Int×Int→Prop) (b:Int×Int) (c:LpI):Prop:=a b∧Sx.AObj.cells [V.d (D.v (Value.string (sb c.p.code))),V.own 0,V.d (dI c.p.tick),V.d (dI c.p.low),V.d (dI c.p.high),V.d (dI c.p.wide),V.d (dI c.p.rule),V.d (dI c.p.top),V.d (dI c.p.least),V.d (dI c.p.part),V.own ((0:Nat)+(1:Nat))] 29=Sx.AObj.cells [V.d (D.v (Value.string (sb c.p.code))),V.own 0,V.d (dI c.p.tick),V.d (dI c.p.low),V.d (dI c.p.high),V.d (dI c.p.wide),V.d (dI c.p.rule),V.d (dI c.p.top),V.d (dI c.p.least),V.d (dI c.p.part),V.own ((0:Nat)+(1:Nat))] 29∧AObj.fro 1 (iE c.p.settle)=AObj.fro 1 (iE c.p.settle)∧AObj.fro 1 (iE c.p.months)=AObj.fro 1 (iE c.p.months)
def y3 (a:LpI):=(fA a.p a.inst a.price)
def zXr (i:LpI):Prop:=
 ∃(a:Prd),sb a.code=sb i.p.code∧iE a.months=iE i.p.months∧a.tick=i.p.tick∧a.low=i.p.low∧a.high=i.p.high∧a.wide=i.p.wide∧a.rule=i.p.rule∧a.top=i.p.top∧a.least=i.p.least∧a.part=i.p.part∧iE a.settle=iE i.p.settle∧(zS a)∧∀(b:Unit),True→cnd (a.check !=0) (∃(c:Unit),(y3 i).fst=0∧(y3 i).snd.fst=0∧(y3 i).snd.snd=1∧True) (∃(c:f9),sb c.p.code=sb i.p.code∧iE c.p.months=iE i.p.months∧c.p.tick=i.p.tick∧c.p.low=i.p.low∧c.p.high=i.p.high∧c.p.wide=i.p.wide∧c.p.rule=i.p.rule∧c.p.top=i.p.top∧c.p.least=i.p.least∧c.p.part=i.p.part∧iE c.p.settle=iE i.p.settle∧c.n=i.inst∧(qR c)∧∀(d:Unit),True→cnd (!(c.p.legs c.n).snd.snd) (∃(e:Unit),(y3 i).fst=0∧(y3 i).snd.fst=0∧(y3 i).snd.snd=20∧True) (∃(e:rB),sb e.p.code=sb i.p.code∧iE e.p.months=iE i.p.months∧e.p.tick=i.p.tick∧e.p.low=i.p.low∧e.p.high=i.p.high∧e.p.wide=i.p.wide∧e.p.rule=i.p.rule∧e.p.top=i.p.top∧e.p.least=i.p.least∧e.p.part=i.p.part∧iE e.p.settle=iE i.p.settle∧e.a=i.inst∧e.b=i.price∧(x7 e)∧∀(f:Unit),True→cnd (e.p.price e.a e.b !=0) (∃(g:Unit),(y3 i).fst=0∧(y3 i).snd.fst=0∧(y3 i).snd.snd=e.p.price e.a e.b∧True) ((0≤(c.p.legs c.n).snd.fst∧(c.p.legs c.n).snd.fst<(↑(iE i.p.settle).length:Int))∧∃(g:Int),zF (iE i.p.settle) (c.p.legs c.n).snd.fst.toNat 0 1=some [dI g]∧∃(h:Int×Int),∃(j:Int×Int→Prop),cnd (decide (IntKind.i64.wrap (g+i.price)>i.p.high)) (∃(k:Int×Int),k.fst=i.p.high∧k.snd=IntKind.i64.wrap (i.p.high-i.price)∧cE j k i) (∃(k:Int×Int),k.fst=IntKind.i64.wrap (g+i.price)∧k.snd=g∧cE j k i)∧∀(k:Int×Int),j k→∃(l:Int×Int),∃(m:Int×Int→Prop),cnd (decide (k.fst<i.p.low)) (∃(n:Int×Int),n.fst=i.p.low∧n.snd=IntKind.i64.wrap (i.p.low-i.price)∧cE m n i) (∃(n:Int×Int),n.fst=k.fst∧n.snd=k.snd∧cE m n i)∧∀(n:Int×Int),m n→∃(p:Unit),(y3 i).fst=n.fst∧(y3 i).snd.fst=n.snd∧(y3 i).snd.snd=0∧True)))
def zAb (a:MSt) (b:MSt):Prop:=sb a.p.code=sb b.p.code∧True∧a.p.tick=b.p.tick∧a.p.low=b.p.low∧a.p.high=b.p.high∧a.p.wide=b.p.wide∧a.p.rule=b.p.rule∧a.p.top=b.p.top∧a.p.least=b.p.least∧a.p.part=b.p.part∧True∧True
def z8s (i:RunI):Prop:=
 ∃(a:MSt),zE a=zE i.s∧(g7 a)∧∀(b:Unit),True→∃(c:RunI),c.inst=i.inst∧zB c.sd=zB i.sd∧c.price=i.price∧c.q=i.q∧zE c.s=zE a∧(qP c)∧∀(d:MSt),d.Rep c.p c.r.B→cnd (c.r.left==0) (∃(e:Unit),dG i.p i.B i.inst i.sd i.price i.q=false∧zE i.s=zE a∧True) (∃(e:MSt),sb e.p.code=sb d.p.code∧e.p.tick=d.p.tick∧e.p.low=d.p.low∧e.p.high=d.p.high∧e.p.wide=d.p.wide∧e.p.rule=d.p.rule∧e.p.top=d.p.top∧e.p.least=d.p.least∧e.p.part=d.p.part∧AObj.objs 102 Book 6 zR e.books none=AObj.objs 102 Book 6 zR d.books none∧zY e.wh=zY d.wh∧AObj.fro 1 (iE e.p.months)=AObj.fro 1 (iE d.p.months)∧AObj.fro 1 (iE e.p.settle)=AObj.fro 1 (iE d.p.settle)∧(gG e)∧∀(f:Unit),True→(zAb e d)∧∃(g:Bool),zB g=zB i.sd∧True∧∀(h:Unit),True→(zAb e d)∧∃(j:rM),sb j.i.p.code=sb d.p.code∧iE j.i.p.months=iE e.p.months∧j.i.p.tick=d.p.tick∧j.i.p.low=d.p.low∧j.i.p.high=d.p.high∧j.i.p.wide=d.p.wide∧j.i.p.rule=d.p.rule∧j.i.p.top=d.p.top∧j.i.p.least=d.p.least∧j.i.p.part=d.p.part∧iE j.i.p.settle=iE e.p.settle∧List.map zU j.i.tops=List.map zU e.tops∧j.i.inst=i.inst∧zB j.s=zB !g∧(kH j)∧∀(k:Unit),True→∃(l:Nat),(↑l:Int)=0∧∃(m:Nat→Prop),∃(n:Nat→Nat),m l∧∀(p:Nat),m p→cnd (decide ((↑p:Int)<(gJ j))) ((0≤(↑p:Int)∧(↑p:Int)<(gJ j))∧∃(q:Int),∃(r:Int),∃(s:Int),∃(t:Int),∃(u:Int),∃(v:Int),zF (jK j) (↑p:Int).toNat 0 6=some [dI q,dI r,dI s,dI t,dI u,dI v]∧∃(w:GoI),zB w.s=zB i.sd∧w.p=i.price∧w.x=q∧True∧∀(x:Unit),True→cnd (jA w.s w.p w.x) (∃(y:Unit),dG i.p i.B i.inst i.sd i.price i.q=true∧zE i.s=zE a∧True) (∃(y:Nat),(↑y:Int)=IntKind.i64.wrap ((↑p:Int)+1)∧m y∧n y<n p∧AObj.own 62 6 (jK j)=AObj.own 62 6 (jK j)∧Sx.AObj.cells (gD (bL 5 (1+((2:Nat)-(1:Nat))+((2:Nat)-(1:Nat))+((5:Nat)-(1:Nat))) ((6:Nat)-(5:Nat)) [((2:Nat),1+((2:Nat)-(1:Nat))+((2:Nat)-(1:Nat))+nat_lit 1),((1:Nat),1+((2:Nat)-(1:Nat))+((2:Nat)-(1:Nat))+nat_lit 0),((4:Nat),1+((2:Nat)-(1:Nat))+((2:Nat)-(1:Nat))+nat_lit 3),((3:Nat),1+((2:Nat)-(1:Nat))+((2:Nat)-(1:Nat))+nat_lit 2),((0:Nat),1+nat_lit 0)]) [sV e.p.code,V.own 3,zA e.p.tick,zA e.p.low,zA e.p.high,zA e.p.wide,zA e.p.rule,zA e.p.top,zA e.p.least,zA e.p.part,V.own 4,V.own 1,V.mp 2]) (101:TypeId)=Sx.AObj.cells (gD (bL 5 (1+((2:Nat)-(1:Nat))+((2:Nat)-(1:Nat))+((5:Nat)-(1:Nat))) ((6:Nat)-(5:Nat)) [((2:Nat),1+((2:Nat)-(1:Nat))+((2:Nat)-(1:Nat))+nat_lit 1),((1:Nat),1+((2:Nat)-(1:Nat))+((2:Nat)-(1:Nat))+nat_lit 0),((4:Nat),1+((2:Nat)-(1:Nat))+((2:Nat)-(1:Nat))+nat_lit 3),((3:Nat),1+((2:Nat)-(1:Nat))+((2:Nat)-(1:Nat))+nat_lit 2),((0:Nat),1+nat_lit 0)]) [sV e.p.code,V.own 3,zA e.p.tick,zA e.p.low,zA e.p.high,zA e.p.wide,zA e.p.rule,zA e.p.top,zA e.p.least,zA e.p.part,V.own 4,V.own 1,V.mp 2]) (101:TypeId)∧AObj.objs 102 Book 6 zR e.books none=AObj.objs 102 Book 6 zR e.books none∧Sx.AObj.map (zY e.wh)=Sx.AObj.map (zY e.wh)∧AObj.fro 1 (iE e.p.months)=AObj.fro 1 (iE e.p.months)∧AObj.fro 1 (iE e.p.settle)=AObj.fro 1 (iE e.p.settle)∧AObj.fro 6 (List.map zU e.tops)=AObj.fro 6 (List.map zU e.tops)∧AObj.fro 1 (iE d.p.months)=AObj.fro 1 (iE d.p.months)∧AObj.fro 1 (iE d.p.settle)=AObj.fro 1 (iE d.p.settle)∧AObj.own 158 4 (List.map jX c.r.steps)=AObj.own 158 4 (List.map jX c.r.steps)∧zE a=zE a)) (∃(q:Unit),dG i.p i.B i.inst i.sd i.price i.q=false∧zE i.s=zE a∧True))
open Go Cv Go.Proofs
theorem MSt.Rep.small {s:MSt} {p:Prd} {B:List (List zD)} (h:s.Rep p B) (hb:BOk p B):s.small:=by
 have:=xV p
 refine⟨by rw[h.bl,hb.bl];omega,fun b hm=> ?_⟩
 obtain⟨k,hk⟩:=yUi.1 hm
 have hlt:=(ySg.1 hk).1
 rw[h.bl]at hlt
 obtain⟨L,hL⟩:=z6 hlt
 obtain⟨Q,c,_⟩:=h.bk k b L hk hL
 exact c.small
theorem yHb (i:RunI) (h:scouldC.cnd i):z2w i:=by
 have h':i.ok:=h
 obtain⟨hR,hB,⟨h0,h1⟩,hq1,hq2⟩:=h'
 have hbl:=hR.bl
 have hl:=(cF (inst:=i.inst) (sd:=i.sd) (price:=i.price) _ i.q i.B (yTd _) (hR.wf hB)).2.2 (by omega)
 have er:i.r=x0 i.p i.B i.inst i.sd i.price i.q:=rfl
 unfold z2w vJ zAw qP g7 uH
 refine(fun hT=>zK (fun c=>zK (fun c2=>Cv.cnd.mk (fun _=>zK (fun _=>Cv.cnd.mk (fun e=>absurd hq2 (by simpa using e)) (fun _=>hT)) (fun e=>absurd hq1 e)) (fun e1=>Cv.cnd.mk (fun _=>zK (fun _=>Cv.cnd.mk (fun e=>absurd hq2 (by simpa using e)) (fun _=>hT)) (fun e=>absurd hq1 e)) (fun e2=>by
  rcases dP i.sd with e|e
  ·rw[e]at e1;cases e1
  ·rw[e]at e2;cases e2))) (fun c2=>absurd (by omega) c2)) (fun c=>absurd h0 c)) ?_
 refine⟨i.s,rfl,rfl,rfl,rfl,rfl,rfl,rfl,rfl,rfl,rfl,rfl,rfl,rfl,hR.small hB,fun _ _=>⟨i,rfl,rfl,rfl,rfl,rfl,h,fun o ho=>⟨(),?_,rfl,trivial⟩⟩⟩
 rw[w64 (by rw[er];omega)]
theorem z6q:scouldC.ok Tryz.prog 29:=okw mixed (gokc zBs (gokc zZo gok0)) 2 (fun _=>[]) (fun _=>[]) [0] Tryz.func29 yHb
theorem yAl (i:SoI) (h:countC16.cnd i):zTy i:=by
 obtain⟨hR,hB⟩:i.s.Rep i.p i.B∧i.B.length≤1000:=h
 unfold zTy
 have e:(zY i.s.wh).length=zNk i.B:=by rw[zY,ySh,hR.wh.length_eq,zNk]
 exact⟨(),by rw[e],by(repeat'(first|exact trivial|exact rfl|apply And.intro))⟩
theorem zKd:countC16.ok Tryz.prog 45:=okw mixed gok0 0 (fun _=>[]) (fun _=>[]) [0] Tryz.func45 yAl
theorem zLb {p:Prd} {i n:Int} (h:p.price i n=0):0≤i∧i<p.count:=by
 rw[Prd.price]at h
 split at h
 ·cases h
 split at h
 ·cases h
 omega
theorem yAa (i:LpI) (h:lpricesC.cnd i):zXr i:=by
 obtain⟨hc,hp,hpr⟩:i.p.check=0∧i.p.small∧yY i.price:=h
 unfold zXr cE y3 zS qR x7 dI
 refine⟨i.p,rfl,rfl,rfl,rfl,rfl,rfl,rfl,rfl,rfl,rfl,rfl,hp,fun _ _=>Cv.cnd.mk (fun e=>by rw[hc]at e;cases e) (fun _=> ?_)⟩
 refine⟨⟨i.p,i.inst⟩,rfl,rfl,rfl,rfl,rfl,rfl,rfl,rfl,rfl,rfl,rfl,rfl,hp,fun _ _=>Cv.cnd.mk (fun e=> ?_) (fun e=> ?_)⟩
 ·have e:(i.p.legs i.inst).2.2=false:=by simpa using e
  have h0:fA i.p i.inst i.price=(0,0,20):=by rw[fA,ySf e]
  rw[h0];exact⟨(),rfl,rfl,rfl,trivial⟩
 have e:(i.p.legs i.inst).2.2=true:=by simpa using e
 refine⟨⟨i.p,i.inst,i.price⟩,rfl,rfl,rfl,rfl,rfl,rfl,rfl,rfl,rfl,rfl,rfl,rfl,rfl,hp,fun _ _=>Cv.cnd.mk (fun e2=> ?_) (fun e2=> ?_)⟩
 ·have e2:¬i.p.price i.inst i.price=0:=by simpa using e2
  have h0:fA i.p i.inst i.price=(0,0,i.p.price i.inst i.price):=by rw[fA,ySe (by rw[e];decide),ySf e2]
  rw[h0];exact⟨(),rfl,rfl,rfl,trivial⟩
 have e2:i.p.price i.inst i.price=0:=by simpa using e2
 have hin:=zLb e2
 have hbd:=zBb hc e2
 have ok:=qG hc
 have b1:=ok.b1
 have b2:=ok.b2
 have b3:=ok.b3
 have s1:=ok.s1
 have s2:=ok.s2
 have s3:=ok.s3
 obtain⟨k,hk⟩:∃k:Nat,i.inst=k:=⟨i.inst.toNat,by omega⟩
 have hl:=vQ hc (k:=k) (by omega)
 rw[← hk]at hl
 rcases hl with⟨_,_,_,l3,l4⟩|⟨x,_⟩
 rotate_left
 ·rw[e]at x;cases x
 have hsl:(iE i.p.settle).length=i.p.settle.length:=yW _
 obtain⟨n,hn⟩:=z6 (l:=i.p.settle) (i:=(i.p.legs i.inst).2.1.toNat) (by omega)
 have hm:=ySo hn
 have m1:=z2f hm
 have m2:=z3n hm
 have hg:i.p.settle.getD (i.p.legs i.inst).2.1.toNat 0=n:=zI hn
 have h0:fA i.p i.inst i.price=(if(if i.p.high<n+i.price then(i.p.high,i.p.high-i.price)else(n+i.price,n)).1<i.p.low then(i.p.low,i.p.low-i.price,0)else((if i.p.high<n+i.price then(i.p.high,i.p.high-i.price)else(n+i.price,n)).1,(if i.p.high<n+i.price then(i.p.high,i.p.high-i.price)else(n+i.price,n)).2,0)):=by
  rw[fA,ySe (by rw[e];decide),ySe (by rw[e2];decide)]
  dsimp only
  rw[hg]
 dsimp only
 refine⟨⟨l3,by omega⟩,n,elI hn,(0,0),fun a=>a=if i.p.high<n+i.price then(i.p.high,i.p.high-i.price)else(n+i.price,n),zK (fun c=>⟨(i.p.high,i.p.high-i.price),rfl,(w64 (by omega)).symm,?_,by(repeat'(first|exact trivial|exact rfl|apply And.intro))⟩) (fun c=>⟨(n+i.price,n),(w64 (by omega)).symm,rfl,?_,by(repeat'(first|exact trivial|exact rfl|apply And.intro))⟩),?_⟩
 ·rw[w64 (by omega)]at c;rw[ySf c]
 ·rw[w64 (by omega)]at c;rw[ySe c]
 rintro _ rfl
 generalize (if i.p.high<n+i.price then(i.p.high,i.p.high-i.price)else(n+i.price,n))=a at h0 ⊢
 refine⟨(0,0),fun b=>b=if a.1<i.p.low then(i.p.low,i.p.low-i.price)else a,zK (fun c=>⟨(i.p.low,i.p.low-i.price),rfl,(w64 (by omega)).symm,by rw[ySf c],by(repeat'(first|exact trivial|exact rfl|apply And.intro))⟩) (fun c=>⟨a,rfl,rfl,by rw[ySe c],by(repeat'(first|exact trivial|exact rfl|apply And.intro))⟩),?_⟩
 rintro _ rfl
 rw[h0]
 by_cases c:a.1<i.p.low
 ·rw[ySf c,ySf c];exact⟨(),rfl,rfl,rfl,trivial⟩
 ·rw[ySe c,ySe c];exact⟨(),rfl,rfl,rfl,trivial⟩
theorem zXz:lpricesC.ok Tryz.prog 133:=okw mixed (gokc bQ (gokc pW (gokc rY gok0))) 0 (fun _=>lpJ) (fun _=>[]) [] Tryz.func133 yAa
theorem yFj {l:List Quote} {k:Nat} {q:Quote} (h:l[k]? =some q):zF (l.map zJ) k 0 6=some [D.v (.int .i64 q.price),D.v (.int .i64 q.qty),D.v (.int .i64 q.a.inst),D.v (.int .i64 q.a.side),D.v (.int .i64 q.b.inst),D.v (.int .i64 q.b.side)]:=elA h (by simp[zJ]) rfl
theorem yJx (i:RunI) (h:stuckC.cnd i):z8s i:=by
 have h':i.ok:=h
 obtain⟨hR,hB,⟨h0,h1⟩,hq1,hq2⟩:=h'
 have hwf:=hR.wf hB
 obtain⟨k1,k2,k3⟩:=cF (inst:=i.inst) (sd:=i.sd) (price:=i.price) _ i.q i.B (yTd _) hwf
 have hcl:=xV i.p
 unfold z8s zAb qP g7 uH gJ jK kH wO gG qO dI
 refine⟨i.s,rfl,hR.small hB,fun _ _=>⟨i,rfl,rfl,rfl,rfl,rfl,h,fun o ho=> ?_⟩⟩
 have er:i.r=x0 i.p i.B i.inst i.sd i.price i.q:=rfl
 have es:dG i.p i.B i.inst i.sd i.price i.q=(decide ((x0 i.p i.B i.inst i.sd i.price i.q).left≠0) && (qC ⟨i.p,(x0 i.p i.B i.inst i.sd i.price i.q).B.map xI,i.inst⟩ (zB (!i.sd))).any fun x=>jA i.sd i.price x.price):=rfl
 rw[er]at ho ⊢
 rw[es]
 generalize x0 i.p i.B i.inst i.sd i.price i.q=R at*
 obtain⟨ts,lf,RB⟩:=R
 dsimp only at*
 refine Cv.cnd.mk (fun e=>⟨(),?_,rfl,trivial⟩) (fun e=> ?_)
 ·have e:lf=0:=by simpa using e
  rw[e];rfl
 have e:lf≠0:=by simpa using e
 rw[ySw e,yTm]
 have ep:=ho.ep
 have hB':=k1.ok
 have hbl:=hB'.bl
 have hcnt:o.cntOk:=ho.cnt (by omega)
 have hps:o.p.small:=by rw[ep];exact hB'.ps
 have hto:j0 (RB.map xI):=hB'.tops
 have hle:=zCc ⟨o.p,RB.map xI,i.inst⟩ (zB (!i.sd))
 refine⟨o,rfl,rfl,rfl,rfl,rfl,rfl,rfl,rfl,rfl,rfl,rfl,rfl,rfl,hcnt,fun _ _=>⟨⟨rfl,trivial,rfl,rfl,rfl,rfl,rfl,rfl,rfl,rfl,trivial,trivial⟩,i.sd,rfl,trivial,fun _ _=>⟨⟨rfl,trivial,rfl,rfl,rfl,rfl,rfl,rfl,rfl,rfl,trivial,trivial⟩,⟨⟨o.p,RB.map xI,i.inst⟩,!i.sd⟩,rfl,rfl,rfl,rfl,rfl,rfl,rfl,rfl,rfl,rfl,rfl,by rw[ho.tops],rfl,rfl,⟨hps,hto⟩,fun _ _=> ?_⟩⟩⟩
 dsimp only
 rw[← ep]
 generalize qC ⟨o.p,RB.map xI,i.inst⟩ (zB (!i.sd))=Q at*
 have e4:(Q.map zJ).length=Q.length:=ySh ..
 refine⟨0,rfl,fun j=>j≤Q.length∧(Q.take j).any (fun x=>jA i.sd i.price x.price)=false,fun j=>Q.length-j,⟨yUq _,rfl⟩,?_⟩
 rintro j ⟨j1,j2⟩
 refine zK (fun c=> ?_) (fun c=>⟨(),?_,rfl,trivial⟩)
 ·obtain⟨q,hq⟩:=z6 (l:=Q) (i:=j) (by omega)
  refine⟨⟨by omega,by omega⟩,_,_,_,_,_,_,yFj hq,⟨i.sd,i.price,q.price⟩,rfl,rfl,rfl,trivial,fun _ _=>Cv.cnd.mk (fun g=>⟨(),?_,rfl,trivial⟩) (fun g=>⟨j+1,wjn (by omega),⟨by omega,?_⟩,by dsimp only;omega,by(repeat'(first|exact trivial|exact rfl|apply And.intro))⟩)⟩
  ·rw[yYe];exact⟨q,ySo hq,g⟩
  ·rw[yUf,hq,List.any_append,j2]
   show(false||([q].any fun x=>jA i.sd i.price x.price))=false
   simp only[List.any_cons,List.any_nil,Bool.or_false,yVn]
   exact g
 ·have:j=Q.length:=by omega
  rw[this,ySz (yTd _)]at j2
  exact j2
theorem zWr:stuckC.ok Tryz.prog 73:=okw mixed (gokc zBs (gokc zZo (gokc zUp (gokc yBx (gokc zPo (gokc zUw gok0)))))) 0 (fun _=>yJo) (fun _=>yKb) [] Tryz.func73 yJx
open Go Cv Go.Proofs
def cK (c:Cmd) (why:Int):List Rep:=[⟨2,c.id,0,0,0,0,0,why⟩]
def ofF (x:kM) (k:Int):Int:=match x.fills.find? fun f=>decide (f.inst=k)with
 |some f=>f.price
 |none=>x.price
def qJ (p:Prd) (inst:Int) (x:kM):Int×Int:=if x.implied=false then((fA p inst x.price).1,(fA p inst x.price).2.1)else(ofF x (p.legs inst).1,ofF x (p.legs inst).2.1)
def zCn (p:Prd) (r:Rep) (near far:Int):List Rep:=[{r with inst:=(p.legs r.inst).1,price:=near},{r with inst:=(p.legs r.inst).2.1,side:=3-r.side,price:=far}]
def jI (p:Prd) (x:kM) (r:Rep):List Rep:=r::if(p.legs r.inst).2.2=true then zCn p r (qJ p r.inst x).1 (qJ p r.inst x).2 else[]
def fL (f:vA):Rep:=⟨3,f.id,f.inst,f.side,f.price,f.qty,f.left,0⟩
def dZ (p:Prd) (c:Cmd) (x:kM) (left:Int):List Rep:=x.fills.flatMap (fun f=>jI p x (fL f))++jI p x ⟨3,c.id,c.inst,c.side,x.price,x.qty,left,0⟩
def wT (p:Prd) (c:Cmd):List kM→Int→List Rep
 |[],_=>[]
 |x::l,left=>dZ p c x (left-x.qty)++wT p c l (left-x.qty)
structure MkX where
 B:List (List zD)
 U:List Int
 R:List Rep
def zCu (U:List Int) (id:Int):List Int:=if id∈U then U else U++[id]
def wF (p:Prd) (B:List (List zD)) (U:List Int) (c:Cmd):MkX:=match x0 p B c.inst (decide (c.side=2)) c.price c.qty with
 |⟨ts,left,B'⟩=>⟨if left≠0∧c.time=1 then(rF p B' c.inst c.id c.side c.price left).1 else B',zCu U c.id,
  (⟨1,c.id,c.inst,c.side,c.price,c.qty,c.qty,0⟩::wT p c ts c.qty)++if left≠0∧c.time≠1 then[⟨4,c.id,c.inst,c.side,c.price,left,0,0⟩]else[]⟩
def Cmd.lst (c:Cmd):Int:=if c.time=3 then c.qty else c.least
def cM (p:Prd) (B:List (List zD)) (U:List Int) (c:Cmd):MkX:=
 if p.price c.inst c.price≠0 then⟨B,U,cK c (p.price c.inst c.price)⟩
 else if c.id∈U then⟨B,U,cK c 25⟩
 else if 250≤zNk B then⟨B,U,cK c 13⟩
 else if 0<c.lst∧c.qty-(x0 p B c.inst (decide (c.side=2)) c.price c.qty).left<c.lst then⟨B,U,cK c 28⟩
 else if c.time=1∧dG p B c.inst (decide (c.side=2)) c.price c.qty=true then⟨B,U,cK c 23⟩
 else wF p B U c
def jU (B:List (List zD)) (U:List Int) (id inst:Int) (o:zD):MkX:=⟨(yU B id o.qty).1,U,[⟨4,id,inst,o.side,o.price,o.qty,0,0⟩]⟩
def u9 (B:List (List zD)) (U:List Int) (id q inst:Int) (o:zD):MkX:=⟨(yU B id q).1,U,[⟨5,id,inst,o.side,o.price,q,o.qty-q,0⟩]⟩
def vF (p:Prd) (B:List (List zD)) (U:List Int) (c:Cmd) (inst:Int) (o:zD):MkX:=
 if p.price inst c.price≠0 then⟨B,U,cK c (p.price inst c.price)⟩
 else if c.price=o.price∧c.qty≤o.qty then u9 B U c.id (o.qty-c.qty) inst o
 else if dG p (yU B c.id o.qty).1 inst (decide (o.side=2)) c.price c.qty=true then⟨B,U,cK c 23⟩
 else
  let x:=jU B U c.id inst o
  let y:=wF p x.B U ⟨1,c.id,inst,o.side,c.price,c.qty,0,1,[]⟩
  ⟨y.B,y.U,x.R++y.R⟩
def doF (p:Prd) (B:List (List zD)) (U:List Int) (c:Cmd):MkX:=
 if c.right≠0 then⟨B,U,cK c c.right⟩
 else if c.kind=1 then cM p B U c
 else if(zT B c.id).2.2=false then⟨B,U,cK c 26⟩
 else if c.kind=4 then vF p B U c (zT B c.id).1 (zT B c.id).2.1
 else if c.kind=2∨(zT B c.id).2.1.qty≤c.qty then jU B U c.id (zT B c.id).1 (zT B c.id).2.1
 else u9 B U c.id c.qty (zT B c.id).1 (zT B c.id).2.1
structure Mkt.Rep (m:Mkt) (p:Prd) (B:List (List zD)) (U:List Int):Prop where
 ep:m.p=p
 s:m.s.Rep p B
 u:m.used=U
@[reducible] def zAz (m:Mkt):List AObj:=[y8 m 0,y8 m 1,y8 m 2,y8 m 3,y8 m 4]
@[reducible] def yIi (x:kM):V:= .agg [zA x.price,zA x.qty,yR x.implied,roV 6 (x.fills.map yV)]
@[reducible] def tRp:Nat:=41
@[reducible] def eW (l:List Rep):AObj:= .own tRp 8 (l.map yE)
structure RjI where
 c:Cmd
 why:Int
def rejC:Con:=con1 RjI (fun i=>[zNi i.c,zA i.why]) (fun _=>[]) (fun _=>True) (fun _=> .own 0) (fun i=>[eW (cK i.c i.why)])
structure MsI where
 m:Mkt
 r:Rep
 near:Int
 far:Int
@[reducible] def Mkt.fine (m:Mkt):Prop:=m.p.check=0∧m.p.small
def mspreadC:Con:=con1 MsI (fun i=>[.nm 0 0,yQj i.r,zA i.near,zA i.far]) (fun i=>zAz i.m) (fun i=>i.m.fine∧(i.r.side=1∨i.r.side=2)) (fun _=> .own 5) (fun i=>zAz i.m++[eW (zCn i.m.p i.r i.near i.far)])
structure MiN where
 m:Mkt
 inst:Int
def misC:Con:=con1 MiN (fun i=>[.nm 0 0,zA i.inst]) (fun i=>zAz i.m) (fun i=>i.m.fine) (fun i=>yR (i.m.p.legs i.inst).2.2) (fun i=>zAz i.m)
structure OfI where
 x:kM
 k:Int
@[reducible] def zVz (x:kM) (n:Nat):List AObj:=[.cells [zA x.price,zA x.qty,yR x.implied,.own n] 158,.fro 6 (x.fills.map yV)]
def ofC:Con:=con1 OfI (fun i=>[zA i.k,.nm 0 0]) (fun i=>zVz i.x 1) (fun i=>i.x.fills.length≤1000000) (fun i=>zA (ofF i.x i.k)) (fun i=>zVz i.x 1)
def ofA:List SAnn:=[{ι:=Nat,slots:=fun j=>[(9,zA j)],rows:=fun _=>[]}]
structure MpI where
 m:Mkt
 inst:Int
 x:kM
def mpricesC:Con:=con1 MpI (fun i=>[.nm 0 0,zA i.inst,yIi i.x]) (fun i=>zAz i.m) (fun i=>i.m.fine∧yY i.x.price∧i.x.fills.length≤1000000) (fun i=> .tup [zA (qJ i.m.p i.inst i.x).1,zA (qJ i.m.p i.inst i.x).2]) (fun i=>zAz i.m)
structure StI' where
 m:Mkt
 c:Cmd
 x:kM
 left:Int
def StI'.out (i:StI') (j:Nat):List Rep:=(i.x.fills.take j).flatMap fun f=>jI i.m.p i.x (fL f)
def mstepC:Con:=con1 StI' (fun i=>[.nm 0 0,zNi i.c,yIi i.x,zA i.left]) (fun i=>zAz i.m) (fun i=>i.m.fine∧yY i.x.price∧i.x.fills.length≤1000000∧(i.c.side=1∨i.c.side=2)∧∀f∈i.x.fills,f.side=1∨f.side=2) (fun _=> .own 5) (fun i=>zAz i.m++[eW (dZ i.m.p i.c i.x i.left)])
def yNn (i:StI'):List SAnn:=[{ι:=Nat,slots:=fun j=>[(9,.nm 0 0),(17,zA j)],rows:=fun j=>[.cells [.own 1] 32,eW (i.out j)]}]
open Go Cv Go.Proofs
def yQz (i:RjI):Prop:=
 ∃(o:Unit),[yE (Rep.mk 2 i.c.id 0 0 0 0 0 i.why)]=[[D.v (.int .i64 2),D.v (.int .i64 i.c.id),D.v (.int .i64 0),D.v (.int .i64 0),D.v (.int .i64 0),D.v (.int .i64 0),D.v (.int .i64 0),D.v (.int .i64 i.why)]]∧True
def vW (a:MsI):Prop:=a.r.kind=a.r.kind∧a.r.id=a.r.id∧a.r.inst=a.r.inst∧a.r.side=a.r.side∧a.r.price=a.r.price∧a.r.qty=a.r.qty∧a.r.left=a.r.left∧a.r.why=a.r.why∧True
def fE (a:MsI):=(Rep.mk a.r.kind a.r.id (a.m.p.legs a.r.inst).snd.fst (3-a.r.side) a.far a.r.qty a.r.left a.r.why)
def fD (a:MsI):=(Rep.mk a.r.kind a.r.id (a.m.p.legs a.r.inst).fst a.r.side a.near a.r.qty a.r.left a.r.why)
def rS (a:MsI) (b:f9):Prop:=(vW a)∧(vW a)∧(vW a)∧(vW a)∧(vW a)∧a.r.side=a.r.side∧∃(c:Unit),sb a.m.p.code=sb a.m.p.code∧a.m.p.tick=a.m.p.tick∧a.m.p.low=a.m.p.low∧a.m.p.high=a.m.p.high∧a.m.p.wide=a.m.p.wide∧a.m.p.rule=a.m.p.rule∧a.m.p.top=a.m.p.top∧a.m.p.least=a.m.p.least∧a.m.p.part=a.m.p.part∧zE a.m.s=y8 a.m 1∧z7 a.m.used=z7 a.m.used∧AObj.fro 1 (iE a.m.p.months)=y8 a.m 3∧AObj.fro 1 (iE a.m.p.settle)=y8 a.m 4∧[yE (fD a),yE (fE a)]=[[dI a.r.kind,dI a.r.id,dI ((b.p.legs b.n).fst),dI a.r.side,dI a.near,dI a.r.qty,dI a.r.left,dI a.r.why],[dI a.r.kind,dI a.r.id,dI (wQ b),dI (IntKind.i64.wrap (3-a.r.side)),dI a.far,dI a.r.qty,dI a.r.left,dI a.r.why]]∧True
def zVl (i:MsI):Prop:=
 ∃(a:f9),sb a.p.code=sb i.m.p.code∧iE a.p.months=iE i.m.p.months∧a.p.tick=i.m.p.tick∧a.p.low=i.m.p.low∧a.p.high=i.m.p.high∧a.p.wide=i.m.p.wide∧a.p.rule=i.m.p.rule∧a.p.top=i.m.p.top∧a.p.least=i.m.p.least∧a.p.part=i.m.p.part∧iE a.p.settle=iE i.m.p.settle∧a.n=i.r.inst∧(qR a)∧∀(b:Unit),True→(rS i a)∧rS i a
def yQw (i:MiN):Prop:=
 ∃(i_1:f9),sb i_1.p.code=sb i.m.p.code∧iE i_1.p.months=iE i.m.p.months∧i_1.p.tick=i.m.p.tick∧i_1.p.low=i.m.p.low∧i_1.p.high=i.m.p.high∧i_1.p.wide=i.m.p.wide∧i_1.p.rule=i.m.p.rule∧i_1.p.top=i.m.p.top∧i_1.p.least=i.m.p.least∧i_1.p.part=i.m.p.part∧iE i_1.p.settle=iE i.m.p.settle∧i_1.n=i.inst∧(i_1.p.code.length≤1099511627776∧i_1.p.months.length≤1099511627776∧i_1.p.settle.length≤1099511627776)∧∀(o:Unit),True→∃(o:Unit),(i.m.p.legs i.inst).snd.snd=(i_1.p.legs i_1.n).snd.snd∧sb i.m.p.code=sb i.m.p.code∧i.m.p.tick=i.m.p.tick∧i.m.p.low=i.m.p.low∧i.m.p.high=i.m.p.high∧i.m.p.wide=i.m.p.wide∧i.m.p.rule=i.m.p.rule∧i.m.p.top=i.m.p.top∧i.m.p.least=i.m.p.least∧i.m.p.part=i.m.p.part∧zE i.m.s=y8 i.m 1∧z7 i.m.used=z7 i.m.used∧AObj.fro 1 (iE i.m.p.months)=y8 i.m 3∧AObj.fro 1 (iE i.m.p.settle)=y8 i.m 4∧True
def zRg (a:OfI):Prop:=a.x.price=a.x.price∧a.x.qty=a.x.qty∧a.x.implied=a.x.implied∧AObj.fro 6 (List.map yV a.x.fills)=AObj.fro 6 (List.map yV a.x.fills)∧True
def Vof (i:OfI):Prop:=
 ∃(a:Nat),(↑a:Int)=0∧∃(b:Nat→Prop),∃(c:Nat→Nat),b a∧∀(d:Nat),b d→cnd (decide ((↑d:Int)<(↑(List.map yV i.x.fills).length:Int))) ((0≤(↑d:Int)∧(↑d:Int)<(↑(List.map yV i.x.fills).length:Int))∧∃(e:Int),∃(f:Int),∃(g:Int),∃(h:Int),∃(j:Int),∃(k:Int),zF (List.map yV i.x.fills) (↑d:Int).toNat 0 6=some [dI e,dI f,dI g,dI h,dI j,dI k]∧cnd (f==i.k) (∃(l:Unit),ofF i.x i.k=h∧zRg i) (∃(l:Nat),(↑l:Int)=IntKind.i64.wrap ((↑d:Int)+1)∧b l∧c l<c d∧Sx.AObj.cells [zA i.x.price,zA i.x.qty,yR i.x.implied,V.own 1] (158:TypeId)=Sx.AObj.cells [zA i.x.price,zA i.x.qty,yR i.x.implied,V.own 1] (158:TypeId)∧AObj.fro 6 (List.map yV i.x.fills)=AObj.fro 6 (List.map yV i.x.fills))) (∃(e:Unit),ofF i.x i.k=i.x.price∧zRg i)
def nU (a:MpI):Prop:=sb a.m.p.code=sb a.m.p.code∧a.m.p.tick=a.m.p.tick∧a.m.p.low=a.m.p.low∧a.m.p.high=a.m.p.high∧a.m.p.wide=a.m.p.wide∧a.m.p.rule=a.m.p.rule∧a.m.p.top=a.m.p.top∧a.m.p.least=a.m.p.least∧a.m.p.part=a.m.p.part∧zE a.m.s=y8 a.m 1∧z7 a.m.used=z7 a.m.used∧AObj.fro 1 (iE a.m.p.months)=y8 a.m 3∧AObj.fro 1 (iE a.m.p.settle)=y8 a.m 4∧True
def qK (a:MpI):=(qJ a.m.p a.inst a.x)
def zVb (i:MpI):Prop:=
 cnd (!i.x.implied) (∃(a:LpI),sb a.p.code=sb i.m.p.code∧iE a.p.months=iE i.m.p.months∧a.p.tick=i.m.p.tick∧a.p.low=i.m.p.low∧a.p.high=i.m.p.high∧a.p.wide=i.m.p.wide∧a.p.rule=i.m.p.rule∧a.p.top=i.m.p.top∧a.p.least=i.m.p.least∧a.p.part=i.m.p.part∧iE a.p.settle=iE i.m.p.settle∧a.inst=i.inst∧a.price=i.x.price∧(a.p.check=0∧(a.p.code.length≤1099511627776∧a.p.months.length≤1099511627776∧a.p.settle.length≤1099511627776)∧(-9223372036854775808)≤a.price∧a.price≤9223372036854775807)∧∀(b:Unit),True→∃(c:Unit),(qK i).fst=(y3 a).fst∧(qK i).snd=(y3 a).snd.fst∧nU i) (∃(a:f9),sb a.p.code=sb i.m.p.code∧iE a.p.months=iE i.m.p.months∧a.p.tick=i.m.p.tick∧a.p.low=i.m.p.low∧a.p.high=i.m.p.high∧a.p.wide=i.m.p.wide∧a.p.rule=i.m.p.rule∧a.p.top=i.m.p.top∧a.p.least=i.m.p.least∧a.p.part=i.m.p.part∧iE a.p.settle=iE i.m.p.settle∧a.n=i.inst∧(qR a)∧∀(b:Unit),True→∃(c:OfI),c.k=(a.p.legs a.n).fst∧c.x.price=i.x.price∧c.x.qty=i.x.qty∧c.x.implied=i.x.implied∧AObj.fro 6 (List.map yV c.x.fills)=AObj.fro 6 (List.map yV i.x.fills)∧c.x.fills.length≤1000000∧∀(d:Unit),True→∃(e:OfI),e.k=(a.p.legs a.n).snd.fst∧e.x.price=c.x.price∧e.x.qty=c.x.qty∧e.x.implied=c.x.implied∧AObj.fro 6 (List.map yV e.x.fills)=AObj.fro 6 (List.map yV c.x.fills)∧e.x.fills.length≤1000000∧∀(f:Unit),True→∃(g:Unit),(qK i).fst=ofF c.x c.k∧(qK i).snd=ofF e.x e.k∧nU i)
def zAs (a:MpI):Prop:=(a.m.p.check=0∧a.m.p.code.length≤1099511627776∧a.m.p.months.length≤1099511627776∧a.m.p.settle.length≤1099511627776)∧((-9223372036854775808)≤a.x.price∧a.x.price≤9223372036854775807)∧a.x.fills.length≤1000000
def zAh (a:MsI):Prop:=(a.m.p.check=0∧a.m.p.code.length≤1099511627776∧a.m.p.months.length≤1099511627776∧a.m.p.settle.length≤1099511627776)∧(a.r.side=1∨a.r.side=2)
def zAo (a:MiN):Prop:=a.m.p.check=0∧a.m.p.code.length≤1099511627776∧a.m.p.months.length≤1099511627776∧a.m.p.settle.length≤1099511627776
def bG (a:StI'):=(D.v (Value.string (sb a.c.label)))
def z8r (i:StI'):Prop:=
 ∃(a:Nat),(↑a:Int)=0∧List.map yE (i.out a)=[]∧∃(b:Nat→Prop),∃(c:Nat→Nat),b a∧∀(d:Nat),b d→cnd (decide ((↑d:Int)<(↑(List.map yV i.x.fills).length:Int))) ((0≤(↑d:Int)∧(↑d:Int)<(↑(List.map yV i.x.fills).length:Int))∧∃(e:Int),∃(f:Int),∃(g:Int),∃(h:Int),∃(j:Int),∃(k:Int),zF (List.map yV i.x.fills) (↑d:Int).toNat 0 6=some [dI e,dI f,dI g,dI h,dI j,dI k]∧((List.map yE (i.out d)).length+1)*(64:Nat)≤(70368744177664:Nat)∧∃(l:MiN),l.inst=f∧sb l.m.p.code=sb i.m.p.code∧l.m.p.tick=i.m.p.tick∧l.m.p.low=i.m.p.low∧l.m.p.high=i.m.p.high∧l.m.p.wide=i.m.p.wide∧l.m.p.rule=i.m.p.rule∧l.m.p.top=i.m.p.top∧l.m.p.least=i.m.p.least∧l.m.p.part=i.m.p.part∧zE l.m.s=y8 i.m 1∧z7 l.m.used=z7 i.m.used∧AObj.fro 1 (iE l.m.p.months)=y8 i.m 3∧AObj.fro 1 (iE l.m.p.settle)=y8 i.m 4∧(zAo l)∧∀(m:Unit),True→cnd (l.m.p.legs l.inst).snd.snd (∃(n:MpI),n.inst=f∧n.x.price=i.x.price∧n.x.qty=i.x.qty∧n.x.implied=i.x.implied∧List.map yV n.x.fills=List.map yV i.x.fills∧sb n.m.p.code=sb l.m.p.code∧n.m.p.tick=l.m.p.tick∧n.m.p.low=l.m.p.low∧n.m.p.high=l.m.p.high∧n.m.p.wide=l.m.p.wide∧n.m.p.rule=l.m.p.rule∧n.m.p.top=l.m.p.top∧n.m.p.least=l.m.p.least∧n.m.p.part=l.m.p.part∧zE n.m.s=zE l.m.s∧z7 n.m.used=z7 l.m.used∧AObj.fro 1 (iE n.m.p.months)=AObj.fro 1 (iE l.m.p.months)∧AObj.fro 1 (iE n.m.p.settle)=AObj.fro 1 (iE l.m.p.settle)∧(zAs n)∧∀(p:Unit),True→∃(q:MsI),q.r.kind=3∧q.r.id=e∧q.r.inst=f∧q.r.side=g∧q.r.price=h∧q.r.qty=j∧q.r.left=k∧q.r.why=0∧q.near=(qK n).fst∧q.far=(qK n).snd∧sb q.m.p.code=sb n.m.p.code∧q.m.p.tick=n.m.p.tick∧q.m.p.low=n.m.p.low∧q.m.p.high=n.m.p.high∧q.m.p.wide=n.m.p.wide∧q.m.p.rule=n.m.p.rule∧q.m.p.top=n.m.p.top∧q.m.p.least=n.m.p.least∧q.m.p.part=n.m.p.part∧zE q.m.s=zE n.m.s∧z7 q.m.used=z7 n.m.used∧AObj.fro 1 (iE q.m.p.months)=AObj.fro 1 (iE n.m.p.months)∧AObj.fro 1 (iE q.m.p.settle)=AObj.fro 1 (iE n.m.p.settle)∧(zAh q)∧∀(r:Unit),True→True∧((List.map yE (i.out d)++[[dI 3,dI e,dI f,dI g,dI h,dI j,dI k,dI 0]]).length+2)*(64:Nat)≤(70368744177664:Nat)∧∃(s:Nat),(↑s:Int)=IntKind.i64.wrap ((↑d:Int)+1)∧List.map yE (i.out s)=List.map yE (i.out d)++[[dI 3,dI e,dI f,dI g,dI h,dI j,dI k,dI 0]]++[yE (fD q),yE (fE q)]∧b s∧c s<c d∧Sx.AObj.cells [V.d (dI i.x.price),V.d (dI i.x.qty),V.d (D.v (.bool i.x.implied)),V.own ((5:Nat)+(1:Nat)+1)] 158=Sx.AObj.cells [V.d (dI i.x.price),V.d (dI i.x.qty),V.d (D.v (.bool i.x.implied)),V.own ((5:Nat)+(1:Nat)+1)] 158∧AObj.fro 6 (List.map yV i.x.fills)=AObj.fro 6 (List.map yV i.x.fills)∧Sx.AObj.cells [V.d (dI i.c.kind),V.d (dI i.c.id),V.d (dI i.c.inst),V.d (dI i.c.side),V.d (dI i.c.price),V.d (dI i.c.qty),V.d (dI i.c.least),V.d (dI i.c.time),V.d (bG i)] 35=Sx.AObj.cells [V.d (dI i.c.kind),V.d (dI i.c.id),V.d (dI i.c.inst),V.d (dI i.c.side),V.d (dI i.c.price),V.d (dI i.c.qty),V.d (dI i.c.least),V.d (dI i.c.time),V.d (bG i)] 35∧Sx.AObj.cells [V.nm 0 0] 23=Sx.AObj.cells [V.nm 0 0] 23∧Sx.AObj.cells (gD (bL 5 ((5:Nat)+(1:Nat)+(1:Nat)+(1:Nat)+(1:Nat)+(1:Nat)+(1:Nat)+(2:Nat)+(1:Nat)+(1:Nat)+(1:Nat)+(1:Nat)+((5:Nat)-(5:Nat))+((5:Nat)-(5:Nat))) ((6:Nat)-(5:Nat)) [((2:Nat),(2:Nat)),((1:Nat),(1:Nat)),((4:Nat),(4:Nat)),((3:Nat),(3:Nat)),((0:Nat),(0:Nat))]) [sV q.m.p.code,V.own 3,zA q.m.p.tick,zA q.m.p.low,zA q.m.p.high,zA q.m.p.wide,zA q.m.p.rule,zA q.m.p.top,zA q.m.p.least,zA q.m.p.part,V.own 4,V.nm 1 0,V.mp 2]) (90:TypeId)=y8 i.m 0∧zE q.m.s=y8 i.m 1∧Sx.AObj.map (z7 q.m.used)=y8 i.m 2∧AObj.fro 1 (iE q.m.p.months)=y8 i.m 3∧AObj.fro 1 (iE q.m.p.settle)=y8 i.m 4) (∃(n:Nat),(↑n:Int)=IntKind.i64.wrap ((↑d:Int)+1)∧List.map yE (i.out n)=List.map yE (i.out d)++[[dI 3,dI e,dI f,dI g,dI h,dI j,dI k,dI 0]]∧b n∧c n<c d∧Sx.AObj.cells [V.d (dI i.x.price),V.d (dI i.x.qty),V.d (D.v (.bool i.x.implied)),V.own ((5:Nat)+(1:Nat)+1)] 158=Sx.AObj.cells [V.d (dI i.x.price),V.d (dI i.x.qty),V.d (D.v (.bool i.x.implied)),V.own ((5:Nat)+(1:Nat)+1)] 158∧AObj.fro 6 (List.map yV i.x.fills)=AObj.fro 6 (List.map yV i.x.fills)∧Sx.AObj.cells [V.d (dI i.c.kind),V.d (dI i.c.id),V.d (dI i.c.inst),V.d (dI i.c.side),V.d (dI i.c.price),V.d (dI i.c.qty),V.d (dI i.c.least),V.d (dI i.c.time),V.d (bG i)] 35=Sx.AObj.cells [V.d (dI i.c.kind),V.d (dI i.c.id),V.d (dI i.c.inst),V.d (dI i.c.side),V.d (dI i.c.price),V.d (dI i.c.qty),V.d (dI i.c.least),V.d (dI i.c.time),V.d (bG i)] 35∧Sx.AObj.cells [V.nm 0 0] 23=Sx.AObj.cells [V.nm 0 0] 23∧Sx.AObj.cells (gD (bL 5 ((5:Nat)+(1:Nat)+(1:Nat)+(1:Nat)+(1:Nat)+(1:Nat)+(1:Nat)+(2:Nat)+(1:Nat)+(1:Nat)+(1:Nat)+(1:Nat)) ((5:Nat)-(5:Nat)) [((2:Nat),(2:Nat)),((1:Nat),(1:Nat)),((4:Nat),(4:Nat)),((3:Nat),(3:Nat)),((0:Nat),(0:Nat))]) [sV l.m.p.code,V.own 3,zA l.m.p.tick,zA l.m.p.low,zA l.m.p.high,zA l.m.p.wide,zA l.m.p.rule,zA l.m.p.top,zA l.m.p.least,zA l.m.p.part,V.own 4,V.nm 1 0,V.mp 2]) (90:TypeId)=y8 i.m 0∧zE l.m.s=y8 i.m 1∧Sx.AObj.map (z7 l.m.used)=y8 i.m 2∧AObj.fro 1 (iE l.m.p.months)=y8 i.m 3∧AObj.fro 1 (iE l.m.p.settle)=y8 i.m 4)) (((List.map yE (i.out d)).length+1)*(64:Nat)≤(70368744177664:Nat)∧∃(e:MiN),e.inst=i.c.inst∧sb e.m.p.code=sb i.m.p.code∧e.m.p.tick=i.m.p.tick∧e.m.p.low=i.m.p.low∧e.m.p.high=i.m.p.high∧e.m.p.wide=i.m.p.wide∧e.m.p.rule=i.m.p.rule∧e.m.p.top=i.m.p.top∧e.m.p.least=i.m.p.least∧e.m.p.part=i.m.p.part∧zE e.m.s=y8 i.m 1∧z7 e.m.used=z7 i.m.used∧AObj.fro 1 (iE e.m.p.months)=y8 i.m 3∧AObj.fro 1 (iE e.m.p.settle)=y8 i.m 4∧(zAo e)∧∀(f:Unit),True→cnd (e.m.p.legs e.inst).snd.snd (∃(g:MpI),g.inst=i.c.inst∧g.x.price=i.x.price∧g.x.qty=i.x.qty∧g.x.implied=i.x.implied∧List.map yV g.x.fills=List.map yV i.x.fills∧sb g.m.p.code=sb e.m.p.code∧g.m.p.tick=e.m.p.tick∧g.m.p.low=e.m.p.low∧g.m.p.high=e.m.p.high∧g.m.p.wide=e.m.p.wide∧g.m.p.rule=e.m.p.rule∧g.m.p.top=e.m.p.top∧g.m.p.least=e.m.p.least∧g.m.p.part=e.m.p.part∧zE g.m.s=zE e.m.s∧z7 g.m.used=z7 e.m.used∧AObj.fro 1 (iE g.m.p.months)=AObj.fro 1 (iE e.m.p.months)∧AObj.fro 1 (iE g.m.p.settle)=AObj.fro 1 (iE e.m.p.settle)∧(zAs g)∧∀(h:Unit),True→∃(j:MsI),j.r.kind=3∧j.r.id=i.c.id∧j.r.inst=i.c.inst∧j.r.side=i.c.side∧j.r.price=i.x.price∧j.r.qty=i.x.qty∧j.r.left=i.left∧j.r.why=0∧j.near=(qK g).fst∧j.far=(qK g).snd∧sb j.m.p.code=sb g.m.p.code∧j.m.p.tick=g.m.p.tick∧j.m.p.low=g.m.p.low∧j.m.p.high=g.m.p.high∧j.m.p.wide=g.m.p.wide∧j.m.p.rule=g.m.p.rule∧j.m.p.top=g.m.p.top∧j.m.p.least=g.m.p.least∧j.m.p.part=g.m.p.part∧zE j.m.s=zE g.m.s∧z7 j.m.used=z7 g.m.used∧AObj.fro 1 (iE j.m.p.months)=AObj.fro 1 (iE g.m.p.months)∧AObj.fro 1 (iE j.m.p.settle)=AObj.fro 1 (iE g.m.p.settle)∧(zAh j)∧∀(k:Unit),True→True∧((List.map yE (i.out d)++[[dI 3,dI i.c.id,dI i.c.inst,dI i.c.side,dI i.x.price,dI i.x.qty,dI i.left,dI 0]]).length+2)*(64:Nat)≤(70368744177664:Nat)∧∃(l:Unit),sb i.m.p.code=sb j.m.p.code∧i.m.p.tick=j.m.p.tick∧i.m.p.low=j.m.p.low∧i.m.p.high=j.m.p.high∧i.m.p.wide=j.m.p.wide∧i.m.p.rule=j.m.p.rule∧i.m.p.top=j.m.p.top∧i.m.p.least=j.m.p.least∧i.m.p.part=j.m.p.part∧zE i.m.s=zE j.m.s∧z7 i.m.used=z7 j.m.used∧AObj.fro 1 (iE i.m.p.months)=AObj.fro 1 (iE j.m.p.months)∧AObj.fro 1 (iE i.m.p.settle)=AObj.fro 1 (iE j.m.p.settle)∧List.map yE (dZ i.m.p i.c i.x i.left)=List.map yE (i.out d)++[[dI 3,dI i.c.id,dI i.c.inst,dI i.c.side,dI i.x.price,dI i.x.qty,dI i.left,dI 0]]++[yE (fD j),yE (fE j)]∧True) (∃(g:Unit),sb i.m.p.code=sb e.m.p.code∧i.m.p.tick=e.m.p.tick∧i.m.p.low=e.m.p.low∧i.m.p.high=e.m.p.high∧i.m.p.wide=e.m.p.wide∧i.m.p.rule=e.m.p.rule∧i.m.p.top=e.m.p.top∧i.m.p.least=e.m.p.least∧i.m.p.part=e.m.p.part∧zE i.m.s=zE e.m.s∧z7 i.m.used=z7 e.m.used∧AObj.fro 1 (iE i.m.p.months)=AObj.fro 1 (iE e.m.p.months)∧AObj.fro 1 (iE i.m.p.settle)=AObj.fro 1 (iE e.m.p.settle)∧List.map yE (dZ i.m.p i.c i.x i.left)=List.map yE (i.out d)++[[dI 3,dI i.c.id,dI i.c.inst,dI i.c.side,dI i.x.price,dI i.x.qty,dI i.left,dI 0]]∧True))
open Go Cv Go.Proofs
theorem zYc:rejC.ok Tryz.prog 39:=okw (V:=yQz) mixed gok0 0 (fun _=>[]) (fun _=>[]) [] Tryz.func39 fun(i:RjI) _=>⟨(),rfl,trivial⟩
theorem yAj (i:MsI) (h:mspreadC.cnd i):zVl i:=by
 obtain⟨⟨hc,hp⟩,hs⟩:i.m.fine∧(i.r.side=1∨i.r.side=2):=h
 have hw:IntKind.i64.wrap (3-i.r.side)=3-i.r.side:=w64 (by omega)
 unfold zVl rS fD fE vW wQ qR dI
 rw[hw]
 refine⟨⟨i.m.p,i.r.inst⟩,rfl,rfl,rfl,rfl,rfl,rfl,rfl,rfl,rfl,rfl,rfl,rfl,hp,fun _ _=> ?_⟩
 exact kp
theorem zYb:mspreadC.ok Tryz.prog 117:=okw mixed (gokc pW gok0) 0 (fun _=>[]) (fun _=>[]) [] Tryz.func117 yAj
theorem yKu:misC.ok Tryz.prog 115:=okw (V:=yQw) mixed (gokc pW gok0) 0 (fun _=>[]) (fun _=>[]) [] Tryz.func115 fun(i:MiN) h=>by
 obtain⟨hc,hp⟩:i.m.fine:=h
 exact⟨⟨i.m.p,i.inst⟩,rfl,rfl,rfl,rfl,rfl,rfl,rfl,rfl,rfl,rfl,rfl,rfl,hp,fun _ _=>kp⟩
theorem yQk {l:List vA} {k:Nat} {f:vA} (h:l[k]? =some f):zF (l.map yV) k 0 6=some [D.v (.int .i64 f.id),D.v (.int .i64 f.inst),D.v (.int .i64 f.side),D.v (.int .i64 f.price),D.v (.int .i64 f.qty),D.v (.int .i64 f.left)]:=elA h (by simp[yV]) rfl
theorem vof (i:OfI) (h:ofC.cnd i):Vof i:=by
 have hl:i.x.fills.length≤1000000:=h
 have e4:(i.x.fills.map yV).length=i.x.fills.length:=ySh ..
 unfold Vof zRg dI
 refine⟨0,rfl,fun j=>j≤i.x.fills.length∧(i.x.fills.take j).find? (fun f=>decide (f.inst=i.k))=none,fun j=>i.x.fills.length-j,⟨yUq _,rfl⟩,?_⟩
 rintro j ⟨j1,j2⟩
 refine zK (fun c=> ?_) (fun c=> ?_)
 ·obtain⟨f,hf⟩:=z6 (l:=i.x.fills) (i:=j) (by omega)
  refine⟨⟨by omega,by omega⟩,_,_,_,_,_,_,yQk hf,Cv.cnd.mk (fun g=>⟨(),?_,by(repeat'(first|exact trivial|exact rfl|apply And.intro))⟩) (fun g=>⟨j+1,wjn (by omega),⟨by omega,?_⟩,by dsimp only;omega,by(repeat'(first|exact trivial|exact rfl|apply And.intro))⟩)⟩
  ·have g:f.inst=i.k:=by simpa using g
   have e:i.x.fills.find? (fun f=>decide (f.inst=i.k))=some f:=by
    rw[← yUm j i.x.fills,List.find?_append,j2,yUy (by omega),(ySg.1 hf).2,List.find?_cons_of_pos (by simpa using g)]
    rfl
   rw[ofF,e]
  ·have g:¬f.inst=i.k:=by simpa using g
   rw[yUf,hf,List.find?_append,j2]
   simp[g]
 ·have:j=i.x.fills.length:=by omega
  rw[this,ySz (yTd _)]at j2
  exact⟨(),by rw[ofF,j2],by(repeat'(first|exact trivial|exact rfl|apply And.intro))⟩
theorem yQd:ofC.ok Tryz.prog 134:=okw mixed gok0 0 (fun _=>[]) (fun _=>ofA) [] Tryz.func134 vof
theorem z8a (i:MpI) (h:mpricesC.cnd i):zVb i:=by
 obtain⟨⟨hc,hp⟩,hpr,hl⟩:i.m.fine∧yY i.x.price∧i.x.fills.length≤1000000:=h
 unfold zVb qK nU y3 qR
 refine Cv.cnd.mk (fun e=> ?_) (fun e=> ?_)
 ·have e:i.x.implied=false:=by simpa using e
  have h0:qJ i.m.p i.inst i.x=((fA i.m.p i.inst i.x.price).1,(fA i.m.p i.inst i.x.price).2.1):=by rw[qJ,ySf e]
  rw[h0]
  exact⟨⟨i.m.p,i.inst,i.x.price⟩,rfl,rfl,rfl,rfl,rfl,rfl,rfl,rfl,rfl,rfl,rfl,rfl,rfl,⟨hc,hp,hpr⟩,fun _ _=>kp⟩
 ·have e:¬i.x.implied=false:=by simpa using e
  have h0:qJ i.m.p i.inst i.x=(ofF i.x (i.m.p.legs i.inst).1,ofF i.x (i.m.p.legs i.inst).2.1):=by rw[qJ,ySe e]
  rw[h0]
  exact⟨⟨i.m.p,i.inst⟩,rfl,rfl,rfl,rfl,rfl,rfl,rfl,rfl,rfl,rfl,rfl,rfl,hp,fun _ _=>⟨⟨i.x,(i.m.p.legs i.inst).1⟩,rfl,rfl,rfl,rfl,rfl,hl,fun _ _=>⟨⟨i.x,(i.m.p.legs i.inst).2.1⟩,rfl,rfl,rfl,rfl,rfl,hl,fun _ _=>kp⟩⟩⟩
theorem zYe:mpricesC.ok Tryz.prog 116:=okw mixed (gokc pW (gokc zXz (gokc yQd gok0))) 0 (fun _=>[]) (fun _=>[]) [] Tryz.func116 z8a
theorem zKh (p:Prd) (x:kM) (r:Rep):(jI p x r).length≤3:=by
 rw[jI,ySx]
 split
 ·rw[zCn];simp
 ·simp
theorem z1w {p:Prd} {x:kM} {r:Rep} (h:(p.legs r.inst).2.2=false):jI p x r=[r]:=by
 rw[jI,ySe (by rw[h];decide)]
theorem zTn {p:Prd} {x:kM} {r:Rep} (h:(p.legs r.inst).2.2=true):jI p x r=r::zCn p r (qJ p r.inst x).1 (qJ p r.inst x).2:=by
 rw[jI,ySf h]
theorem StI'.out_len (i:StI'):∀j,(i.out j).length≤3*j
 |0=>yTd _
 |j+1=>by
  have ih:=StI'.out_len i j
  rw[StI'.out]at ih ⊢
  rw[yUf,yUc,ySm]
  cases e:i.x.fills[j]? with
  |none=>simp only[Option.toList_none,yXt,yUz];omega
  |some f=>
   have:=zKh i.m.p i.x (fL f)
   simp only[yWv,yTv,yXt,yTg]
   omega
theorem StI'.out_succ (i:StI') {j:Nat} {f:vA} (h:i.x.fills[j]? =some f):i.out (j+1)=i.out j++jI i.m.p i.x (fL f):=by
 rw[StI'.out,StI'.out,yUf,yUc,h]
 simp
theorem yJh (i:StI') (h:mstepC.cnd i):z8r i:=by
 obtain⟨hf,hpr,hl,hcs,hfs⟩:i.m.fine∧yY i.x.price∧i.x.fills.length≤1000000∧(i.c.side=1∨i.c.side=2)∧∀f∈i.x.fills,f.side=1∨f.side=2:=h
 have e4:(i.x.fills.map yV).length=i.x.fills.length:=ySh ..
 unfold z8r bG zAo zAh zAs fD fE qK dI
 refine⟨0,rfl,rfl,fun j=>j≤i.x.fills.length,fun j=>i.x.fills.length-j,yUq _,?_⟩
 intro j hj
 have ho:=i.out_len j
 have e5:((i.out j).map yE).length=(i.out j).length:=ySh ..
 refine zK (fun c=> ?_) (fun c=> ?_)
 ·obtain⟨f,hfj⟩:=z6 (l:=i.x.fills) (i:=j) (by omega)
  have hos:=i.out_succ hfj
  have hfj2:=hfs f (ySo hfj)
  refine⟨⟨by omega,by omega⟩,_,_,_,_,_,_,yQk hfj,by omega,⟨i.m,f.inst⟩,rfl,rfl,rfl,rfl,rfl,rfl,rfl,rfl,rfl,rfl,rfl,rfl,rfl,rfl,hf,fun _ _=>Cv.cnd.mk (fun e=> ?_) (fun e=> ?_)⟩
  ·have e:(i.m.p.legs (fL f).inst).2.2=true:=e
   rw[zTn e]at hos
   refine⟨⟨i.m,f.inst,i.x⟩,rfl,rfl,rfl,rfl,rfl,rfl,rfl,rfl,rfl,rfl,rfl,rfl,rfl,rfl,rfl,rfl,rfl,rfl,⟨hf,hpr,hl⟩,fun _ _=>⟨⟨i.m,fL f,(qJ i.m.p f.inst i.x).1,(qJ i.m.p f.inst i.x).2⟩,rfl,rfl,rfl,rfl,rfl,rfl,rfl,rfl,rfl,rfl,rfl,rfl,rfl,rfl,rfl,rfl,rfl,rfl,rfl,rfl,rfl,rfl,rfl,⟨hf,hfj2⟩,fun _ _=>⟨trivial,by rw[ySm,e5];simp only[ySx,yUz];omega,j+1,wjn (by omega),?_,by omega,by dsimp only;omega,by(repeat'(first|exact trivial|exact rfl|apply And.intro))⟩⟩⟩
   rw[hos,ySr,ySq]
   rfl
  ·have e:(i.m.p.legs (fL f).inst).2.2=false:=e
   rw[z1w e]at hos
   refine⟨j+1,wjn (by omega),?_,by omega,by dsimp only;omega,by(repeat'(first|exact trivial|exact rfl|apply And.intro))⟩
   rw[hos,ySr];rfl
 ·have hj:j=i.x.fills.length:=by omega
  have ho2:i.x.fills.flatMap (fun f=>jI i.m.p i.x (fL f))=i.out j:=by rw[StI'.out,hj,ySz (yTd _)]
  have hR:dZ i.m.p i.c i.x i.left=i.out j++jI i.m.p i.x ⟨3,i.c.id,i.c.inst,i.c.side,i.x.price,i.x.qty,i.left,0⟩:=by rw[dZ,ho2]
  refine⟨by omega,⟨i.m,i.c.inst⟩,rfl,rfl,rfl,rfl,rfl,rfl,rfl,rfl,rfl,rfl,rfl,rfl,rfl,rfl,hf,fun _ _=>Cv.cnd.mk (fun e=> ?_) (fun e=> ?_)⟩
  ·have e:(i.m.p.legs (⟨3,i.c.id,i.c.inst,i.c.side,i.x.price,i.x.qty,i.left,0⟩:Rep).inst).2.2=true:=e
   rw[zTn e]at hR
   refine⟨⟨i.m,i.c.inst,i.x⟩,rfl,rfl,rfl,rfl,rfl,rfl,rfl,rfl,rfl,rfl,rfl,rfl,rfl,rfl,rfl,rfl,rfl,rfl,⟨hf,hpr,hl⟩,fun _ _=>⟨⟨i.m,⟨3,i.c.id,i.c.inst,i.c.side,i.x.price,i.x.qty,i.left,0⟩,(qJ i.m.p i.c.inst i.x).1,(qJ i.m.p i.c.inst i.x).2⟩,rfl,rfl,rfl,rfl,rfl,rfl,rfl,rfl,rfl,rfl,rfl,rfl,rfl,rfl,rfl,rfl,rfl,rfl,rfl,rfl,rfl,rfl,rfl,⟨hf,hcs⟩,fun _ _=>⟨trivial,by rw[ySm,e5];simp only[ySx,yUz];omega,?_⟩⟩⟩
   rw[hR,ySr,ySq]
   exact kp
  ·have e:(i.m.p.legs (⟨3,i.c.id,i.c.inst,i.c.side,i.x.price,i.x.qty,i.left,0⟩:Rep).inst).2.2=false:=e
   rw[z1w e]at hR
   rw[hR,ySr]
   exact kp
theorem z7f:mstepC.ok Tryz.prog 97:=okw mixed (gokc yKu (gokc zYe (gokc zYb gok0))) 1 (fun _=>[]) (fun i=>yNn i) [] Tryz.func97 yJh
open Go Cv Go.Proofs
structure EnI where
 m:Mkt
 p:Prd
 B:List (List zD)
 U:List Int
 c:Cmd
 X:MkX
@[reducible] def EnI.std (i:EnI):Prop:=i.m.Rep i.p i.B i.U∧BOk i.p i.B
@[reducible] def EnI.good (i:EnI):Prop:=(0≤i.c.inst∧i.c.inst<i.B.length)∧(1≤i.c.qty∧i.c.qty≤1000000)∧(i.c.side=1∨i.c.side=2)
@[reducible] def zTm (X:MkX) (p:Prd):Alt:={o:=Mkt,res:=fun _=> .own 5,post:=fun o=>zAz o++[eW X.R],rel:=fun o=>o.Rep p X.B X.U}
def enterC:Con where
 ι:=EnI
 pat:=fun i=>[.nm 0 0,zNi i.c]
 pre:=fun i=>zAz i.m
 cnd:=fun i=>i.std∧i.good∧i.p.price i.c.inst i.c.price=0∧i.X=wF i.p i.B i.U i.c
 alts:=fun i=>[zTm i.X i.p]
structure EnJ where
 left:Int
 k:Nat
 out:List Rep
def yMk (i:EnI):List SAnn:=[{ι:=EnJ,slots:=fun j=>[(5,.own 0),(8,zA j.left),(51,zA j.k)],rows:=fun j=>[eW j.out]}]
def orderC:Con where
 ι:=EnI
 pat:=fun i=>[.nm 0 0,zNi i.c]
 pre:=fun i=>zAz i.m
 cnd:=fun i=>i.std∧i.c.right=0∧i.c.kind=1∧i.X=cM i.p i.B i.U i.c
 alts:=fun i=>[zTm i.X i.p]
def yNc:List (Nat×SAnn):=[(22,ij 6),(44,bj 47),(52,bj 69)]
structure CaI where
 m:Mkt
 p:Prd
 B:List (List zD)
 U:List Int
 id:Int
 q:Int
 inst:Int
 o:zD
 X:MkX
@[reducible] def CaI.std (i:CaI):Prop:=i.m.Rep i.p i.B i.U∧BOk i.p i.B
def cancelC:Con where
 ι:=CaI
 pat:=fun i=>[.nm 0 0,zA i.id,zA i.inst,z6w i.o]
 pre:=fun i=>zAz i.m
 cnd:=fun i=>i.std∧i.X=jU i.B i.U i.id i.inst i.o
 alts:=fun i=>[zTm i.X i.p]
def reduceC:Con where
 ι:=CaI
 pat:=fun i=>[.nm 0 0,zA i.id,zA i.q,zA i.inst,z6w i.o]
 pre:=fun i=>zAz i.m
 cnd:=fun i=>i.std∧yY (i.o.qty-i.q)∧i.X=u9 i.B i.U i.id i.q i.inst i.o
 alts:=fun i=>[zTm i.X i.p]
structure z6z where
 m:Mkt
 p:Prd
 B:List (List zD)
 U:List Int
 c:Cmd
 inst:Int
 o:zD
 X:MkX
def replaceC:Con where
 ι:=z6z
 pat:=fun i=>[.nm 0 0,zNi i.c,zA i.inst,z6w i.o]
 pre:=fun i=>zAz i.m
 cnd:=fun i=>i.m.Rep i.p i.B i.U∧BOk i.p i.B∧zT i.B i.c.id=(i.inst,i.o,true)∧(1≤i.c.qty∧i.c.qty≤1000000)∧i.X=vF i.p i.B i.U i.c i.inst i.o
 alts:=fun i=>[zTm i.X i.p]
def doC:Con where
 ι:=EnI
 pat:=fun i=>[.nm 0 0,zNi i.c]
 pre:=fun i=>[fQ i.m]
 cnd:=fun i=>i.std∧i.c.label.length≤140737488355328∧yY i.c.qty∧i.X=doF i.p i.B i.U i.c
 alts:=fun i=>[{o:=Mkt,res:=fun _=> .own 1,post:=fun o=>[fQ o,eW i.X.R],rel:=fun o=>o.Rep i.p i.X.B i.X.U}]
structure MfI where
 m:Mkt
 p:Prd
 B:List (List zD)
 U:List Int
 id:Int
def mcountC:Con:=con1 MfI (fun i=>[.nm 0 0]) (fun i=>[fQ i.m]) (fun i=>i.m.Rep i.p i.B i.U∧BOk i.p i.B) (fun i=>zA (zNk i.B)) (fun i=>[fQ i.m])
open Go Cv Go.Proofs
def zAg (a:Mkt) (b:EnI) (c:EnJ):Prop:=z7 a.used=jQ (Value.int IntKind.i64 b.c.id) [D.v (.bool true)] (z7 b.m.used)∧AObj.fro 1 (iE a.p.months)=y8 b.m 3∧AObj.fro 1 (iE a.p.settle)=y8 b.m 4∧List.map yE b.X.R=List.map yE c.out∧a.Rep b.p b.X.B b.X.U
def vT (a:EnI):=(D.v (Value.string (sb a.c.label)))
def z7x (i:EnI):Prop:=
 (∀(a:Value×List D),a∈z7 i.m.used→like (Value.int IntKind.i64 i.c.id) a.fst=true)∧∃(a:RunI),a.inst=i.c.inst∧zB a.sd=i.c.side∧a.price=i.c.price∧a.q=i.c.qty∧zE a.s=y8 i.m 1∧(qP a)∧∀(b:MSt),b.Rep a.p a.r.B→∃(c:EnJ),c.left=i.c.qty∧(↑c.k:Int)=0∧List.map yE c.out=[[dI 1,dI i.c.id,dI i.c.inst,dI i.c.side,dI i.c.price,dI i.c.qty,dI i.c.qty,dI 0]]∧∃(d:EnJ→Prop),∃(e:EnJ→Nat),d c∧∀(f:EnJ),d f→cnd (decide ((↑f.k:Int)<(↑(List.map jX a.r.steps).length:Int))) ((0≤(↑f.k:Int)∧(↑f.k:Int)<(↑(List.map jX a.r.steps).length:Int))∧∃(g:Int),∃(h:Int),∃(j:Bool),∃(k:List (List D)),zF (List.map jX a.r.steps) (↑f.k:Int).toNat 0 4=some [dI g,dI h,D.v (.bool j),D.ro 6 k]∧∃(l:StI'),l.c.kind=i.c.kind∧l.c.id=i.c.id∧l.c.inst=i.c.inst∧l.c.side=i.c.side∧l.c.price=i.c.price∧l.c.qty=i.c.qty∧l.c.least=i.c.least∧l.c.time=i.c.time∧sb l.c.label=sb i.c.label∧l.x.price=g∧l.x.qty=h∧l.x.implied=j∧List.map yV l.x.fills=k∧l.left=IntKind.i64.wrap (f.left-h)∧sb l.m.p.code=sb i.m.p.code∧l.m.p.tick=i.m.p.tick∧l.m.p.low=i.m.p.low∧l.m.p.high=i.m.p.high∧l.m.p.wide=i.m.p.wide∧l.m.p.rule=i.m.p.rule∧l.m.p.top=i.m.p.top∧l.m.p.least=i.m.p.least∧l.m.p.part=i.m.p.part∧zE l.m.s=zE b∧z7 l.m.used=jQ (Value.int IntKind.i64 i.c.id) [D.v (.bool true)] (z7 i.m.used)∧AObj.fro 1 (iE l.m.p.months)=y8 i.m 3∧AObj.fro 1 (iE l.m.p.settle)=y8 i.m 4∧((l.m.p.check=0∧l.m.p.code.length≤1099511627776∧l.m.p.months.length≤1099511627776∧l.m.p.settle.length≤1099511627776)∧((-9223372036854775808)≤l.x.price∧l.x.price≤9223372036854775807)∧l.x.fills.length≤1000000∧(l.c.side=1∨l.c.side=2)∧∀(m:vA),m∈l.x.fills→m.side=1∨m.side=2)∧∀(m:Unit),True→((List.map yE f.out).length+(List.map yE (dZ l.m.p l.c l.x l.left)).length)*(64:Nat)≤(70368744177664:Nat)∧∃(n:EnJ),n.left=IntKind.i64.wrap (f.left-h)∧(↑n.k:Int)=IntKind.i64.wrap ((↑f.k:Int)+1)∧List.map yE n.out=List.map yE f.out++List.map yE (dZ l.m.p l.c l.x l.left)∧d n∧e n<e f∧zE l.m.s=zE b∧AObj.own 158 4 (List.map jX a.r.steps)=AObj.own 158 4 (List.map jX a.r.steps)∧Sx.AObj.cells [V.d (dI i.c.kind),V.d (dI i.c.id),V.d (dI i.c.inst),V.d (dI i.c.side),V.d (dI i.c.price),V.d (dI i.c.qty),V.d (dI i.c.least),V.d (dI i.c.time),V.d (vT i)] 35=Sx.AObj.cells [V.d (dI i.c.kind),V.d (dI i.c.id),V.d (dI i.c.inst),V.d (dI i.c.side),V.d (dI i.c.price),V.d (dI i.c.qty),V.d (dI i.c.least),V.d (dI i.c.time),V.d (vT i)] 35∧Sx.AObj.cells (gD (bL 5 ((5:Nat)+(1:Nat)+1+((2:Nat)-(1:Nat))+(1:Nat)+(1:Nat)+1) ((6:Nat)-(5:Nat)) [((2:Nat),(2:Nat)),((1:Nat),(1:Nat)),((4:Nat),(4:Nat)),((3:Nat),(3:Nat)),((0:Nat),(0:Nat))]) [sV l.m.p.code,V.own 3,zA l.m.p.tick,zA l.m.p.low,zA l.m.p.high,zA l.m.p.wide,zA l.m.p.rule,zA l.m.p.top,zA l.m.p.least,zA l.m.p.part,V.own 4,V.nm 1 0,V.mp 2]) (90:TypeId)=y8 i.m 0∧Sx.AObj.map (z7 l.m.used)=Sx.AObj.map (jQ (Value.int IntKind.i64 i.c.id) [D.v (.bool true)] (z7 i.m.used))∧AObj.fro 1 (iE l.m.p.months)=y8 i.m 3∧AObj.fro 1 (iE l.m.p.settle)=y8 i.m 4) (cnd (a.r.left==0) (∃(g:Mkt),sb g.p.code=sb i.m.p.code∧g.p.tick=i.m.p.tick∧g.p.low=i.m.p.low∧g.p.high=i.m.p.high∧g.p.wide=i.m.p.wide∧g.p.rule=i.m.p.rule∧g.p.top=i.m.p.top∧g.p.least=i.m.p.least∧g.p.part=i.m.p.part∧zE g.s=zE b∧zAg g i f) (cnd (i.c.time==1) (∃(g:SaI),g.inst=i.c.inst∧g.id=i.c.id∧zB g.sd=i.c.side∧g.price=i.c.price∧g.qty=a.r.left∧zE g.s=zE b∧((g.s.p.code.length≤1099511627776∧g.s.p.months.length≤1099511627776∧g.s.p.settle.length≤1099511627776)∧g.s.books.length≤1000000∧∀(h:Book),h∈g.s.books→(h.a.slots.length≤1000000∧(h.a.free≠0→∃(j:Slot),j∈h.a.slots∧j.used=false)∧∀(j:fB),j∈h.a.queues→j.last=(-1)∨0≤j.last∧j.last<(↑h.a.slots.length:Int))∧h.a.queues.length≤100000∧h.buys.length≤100000∧h.sells.length≤100000∧h.spare.length≤100000)∧∀(h:Unit),True→∃(j:Mkt),sb j.p.code=sb i.m.p.code∧j.p.tick=i.m.p.tick∧j.p.low=i.m.p.low∧j.p.high=i.m.p.high∧j.p.wide=i.m.p.wide∧j.p.rule=i.m.p.rule∧j.p.top=i.m.p.top∧j.p.least=i.m.p.least∧j.p.part=i.m.p.part∧zE j.s=zE (MSt.addF g).fst∧zAg j i f) (((List.map yE f.out).length+1)*(64:Nat)≤(70368744177664:Nat)∧∃(g:Mkt),sb g.p.code=sb i.m.p.code∧g.p.tick=i.m.p.tick∧g.p.low=i.m.p.low∧g.p.high=i.m.p.high∧g.p.wide=i.m.p.wide∧g.p.rule=i.m.p.rule∧g.p.top=i.m.p.top∧g.p.least=i.m.p.least∧g.p.part=i.m.p.part∧zE g.s=zE b∧z7 g.used=jQ (Value.int IntKind.i64 i.c.id) [D.v (.bool true)] (z7 i.m.used)∧AObj.fro 1 (iE g.p.months)=y8 i.m 3∧AObj.fro 1 (iE g.p.settle)=y8 i.m 4∧List.map yE i.X.R=List.map yE f.out++[[dI 4,dI i.c.id,dI i.c.inst,dI i.c.side,dI i.c.price,dI a.r.left,dI 0,dI 0]]∧g.Rep i.p i.X.B i.X.U)))
def zGc (a:EnI):Prop:=Sx.AObj.cells [V.d (dI a.c.kind),V.d (dI a.c.id),V.d (dI a.c.inst),V.d (dI a.c.side),V.d (dI a.c.price),V.d (dI a.c.qty),V.d (dI a.c.least),V.d (dI a.c.time),V.d (vT a)] 35=Sx.AObj.cells [V.d (dI a.c.kind),V.d (dI a.c.id),V.d (dI a.c.inst),V.d (dI a.c.side),V.d (dI a.c.price),V.d (dI a.c.qty),V.d (dI a.c.least),V.d (dI a.c.time),V.d (vT a)] 35∧y8 a.m 0=y8 a.m 0∧y8 a.m 2=y8 a.m 2∧y8 a.m 3=y8 a.m 3∧y8 a.m 4=y8 a.m 4
def zEm (a:Bool→Prop) (b:SoI) (c:EnI):Prop:=∃(d:Bool),d=false∧a d∧zE b.s=zE b.s∧zGc c
def zFq (a:Int→Prop) (b:Int) (c:EnI):Prop:=a b∧Sx.AObj.cells [V.d (dI c.c.kind),V.d (dI c.c.id),V.d (dI c.c.inst),V.d (dI c.c.side),V.d (dI c.c.price),V.d (dI c.c.qty),V.d (dI c.c.least),V.d (dI c.c.time),V.d (vT c)] 35=Sx.AObj.cells [V.d (dI c.c.kind),V.d (dI c.c.id),V.d (dI c.c.inst),V.d (dI c.c.side),V.d (dI c.c.price),V.d (dI c.c.qty),V.d (dI c.c.least),V.d (dI c.c.time),V.d (vT c)] 35∧y8 c.m 0=y8 c.m 0∧y8 c.m 1=y8 c.m 1∧y8 c.m 2=y8 c.m 2∧y8 c.m 3=y8 c.m 3∧y8 c.m 4=y8 c.m 4
def zDj (a:Bool→Prop) (b:Bool) (c:RunI) (d:SoI) (e:EnI):Prop:=a b∧zE c.s=zE d.s∧zGc e
def zAx (a:Mkt) (b:EnI) (c:RjI):Prop:=z7 a.used=z7 b.m.used∧AObj.fro 1 (iE a.p.months)=y8 b.m 3∧AObj.fro 1 (iE a.p.settle)=y8 b.m 4∧List.map yE b.X.R=[yE (Rep.mk 2 c.c.id 0 0 0 0 0 c.why)]∧a.Rep b.p b.X.B b.X.U
def zDo (a:EnI) (b:RjI):Prop:=True∧∀(c:Unit),True→∃(d:Mkt),sb d.p.code=sb a.m.p.code∧d.p.tick=a.m.p.tick∧d.p.low=a.m.p.low∧d.p.high=a.m.p.high∧d.p.wide=a.m.p.wide∧d.p.rule=a.m.p.rule∧d.p.top=a.m.p.top∧d.p.least=a.m.p.least∧d.p.part=a.m.p.part∧zE d.s=y8 a.m 1∧zAx d a b
def tA (a:EnI) (b:SoI) (c:RjI):Prop:=True∧∀(d:Unit),True→∃(e:Mkt),sb e.p.code=sb a.m.p.code∧e.p.tick=a.m.p.tick∧e.p.low=a.m.p.low∧e.p.high=a.m.p.high∧e.p.wide=a.m.p.wide∧e.p.rule=a.m.p.rule∧e.p.top=a.m.p.top∧e.p.least=a.m.p.least∧e.p.part=a.m.p.part∧zE e.s=zE b.s∧zAx e a c
def m9 (a:EnI) (b:EnI):Prop:=∀(c:Mkt),c.Rep a.p a.X.B a.X.U→∃(d:Mkt),sb d.p.code=sb c.p.code∧d.p.tick=c.p.tick∧d.p.low=c.p.low∧d.p.high=c.p.high∧d.p.wide=c.p.wide∧d.p.rule=c.p.rule∧d.p.top=c.p.top∧d.p.least=c.p.least∧d.p.part=c.p.part∧zE d.s=zE c.s∧z7 d.used=z7 c.used∧AObj.fro 1 (iE d.p.months)=AObj.fro 1 (iE c.p.months)∧AObj.fro 1 (iE d.p.settle)=AObj.fro 1 (iE c.p.settle)∧List.map yE b.X.R=List.map yE a.X.R∧d.Rep b.p b.X.B b.X.U
def pD (a:EnI):Prop:=(a.m.Rep a.p a.B a.U∧BOk a.p a.B)∧((0≤a.c.inst∧a.c.inst<(↑a.B.length:Int))∧(1≤a.c.qty∧a.c.qty≤1000000)∧(a.c.side=1∨a.c.side=2))∧a.p.price a.c.inst a.c.price=0∧a.X=wF a.p a.B a.U a.c
def z9n (i:EnI):Prop:=
 ∃(a:rB),sb a.p.code=sb i.m.p.code∧iE a.p.months=iE i.m.p.months∧a.p.tick=i.m.p.tick∧a.p.low=i.m.p.low∧a.p.high=i.m.p.high∧a.p.wide=i.m.p.wide∧a.p.rule=i.m.p.rule∧a.p.top=i.m.p.top∧a.p.least=i.m.p.least∧a.p.part=i.m.p.part∧iE a.p.settle=iE i.m.p.settle∧a.a=i.c.inst∧a.b=i.c.price∧(x7 a)∧∀(b:Unit),True→cnd (a.p.price a.a a.b !=0) (∃(c:RjI),c.c.kind=i.c.kind∧c.c.id=i.c.id∧c.c.inst=i.c.inst∧c.c.side=i.c.side∧c.c.price=i.c.price∧c.c.qty=i.c.qty∧c.c.least=i.c.least∧c.c.time=i.c.time∧sb c.c.label=sb i.c.label∧c.why=a.p.price a.a a.b∧zDo i c) (∃(c:Int),∃(d:Int→Prop),cnd (i.c.time==3) (∃(e:Int),e=i.c.qty∧zFq d e i) (∃(e:Int),e=i.c.least∧zFq d e i)∧∀(e:Int),d e→(∀(f:Value×List D),f∈z7 i.m.used→like (Value.int IntKind.i64 i.c.id) f.fst=true)∧∃(f:Bool),∃(g:Bool),(wI (Value.int IntKind.i64 i.c.id) (z7 i.m.used)=some [D.v (.bool g)]∧f=true∨wI (Value.int IntKind.i64 i.c.id) (z7 i.m.used)=none∧[D.v (.bool g)]=[D.v (.bool false)]∧f=false)∧cnd g (∃(h:RjI),h.c.kind=i.c.kind∧h.c.id=i.c.id∧h.c.inst=i.c.inst∧h.c.side=i.c.side∧h.c.price=i.c.price∧h.c.qty=i.c.qty∧h.c.least=i.c.least∧h.c.time=i.c.time∧sb h.c.label=sb i.c.label∧h.why=25∧zDo i h) (∃(h:SoI),zE h.s=y8 i.m 1∧(h.s.Rep h.p h.B∧h.B.length≤1000)∧∀(j:Unit),True→cnd (decide ((↑(zNk h.B):Int)≥250)) (∃(k:RjI),k.c.kind=i.c.kind∧k.c.id=i.c.id∧k.c.inst=i.c.inst∧k.c.side=i.c.side∧k.c.price=i.c.price∧k.c.qty=i.c.qty∧k.c.least=i.c.least∧k.c.time=i.c.time∧sb k.c.label=sb i.c.label∧k.why=13∧tA i h k) (∃(k:Bool),∃(l:Bool→Prop),cnd (decide (e>0)) (∃(m:RunI),m.inst=i.c.inst∧zB m.sd=i.c.side∧m.price=i.c.price∧m.q=i.c.qty∧zE m.s=zE h.s∧(qP m)∧∀(n:Unit),True→∃(p:Bool),p=decide (m.q-m.r.left<e)∧zDj l p m h i) (zEm l h i)∧∀(m:Bool),l m→cnd m (∃(n:RjI),n.c.kind=i.c.kind∧n.c.id=i.c.id∧n.c.inst=i.c.inst∧n.c.side=i.c.side∧n.c.price=i.c.price∧n.c.qty=i.c.qty∧n.c.least=i.c.least∧n.c.time=i.c.time∧sb n.c.label=sb i.c.label∧n.why=28∧tA i h n) (∃(n:Bool),∃(p:Bool→Prop),cnd (i.c.time==1) (∃(q:RunI),q.inst=i.c.inst∧zB q.sd=i.c.side∧q.price=i.c.price∧q.q=i.c.qty∧zE q.s=zE h.s∧(qP q)∧∀(r:Unit),True→∃(s:Bool),s=dG q.p q.B q.inst q.sd q.price q.q∧zDj p s q h i) (zEm p h i)∧∀(q:Bool),p q→cnd q (∃(r:RjI),r.c.kind=i.c.kind∧r.c.id=i.c.id∧r.c.inst=i.c.inst∧r.c.side=i.c.side∧r.c.price=i.c.price∧r.c.qty=i.c.qty∧r.c.least=i.c.least∧r.c.time=i.c.time∧sb r.c.label=sb i.c.label∧r.why=23∧tA i h r) (∃(r:EnI),r.c.kind=i.c.kind∧r.c.id=i.c.id∧r.c.inst=i.c.inst∧r.c.side=i.c.side∧r.c.price=i.c.price∧r.c.qty=i.c.qty∧r.c.least=i.c.least∧r.c.time=i.c.time∧sb r.c.label=sb i.c.label∧sb r.m.p.code=sb i.m.p.code∧r.m.p.tick=i.m.p.tick∧r.m.p.low=i.m.p.low∧r.m.p.high=i.m.p.high∧r.m.p.wide=i.m.p.wide∧r.m.p.rule=i.m.p.rule∧r.m.p.top=i.m.p.top∧r.m.p.least=i.m.p.least∧r.m.p.part=i.m.p.part∧zE r.m.s=zE h.s∧z7 r.m.used=z7 i.m.used∧AObj.fro 1 (iE r.m.p.months)=y8 i.m 3∧AObj.fro 1 (iE r.m.p.settle)=y8 i.m 4∧(pD r)∧m9 r i)))))
def yHl (i:CaI):Prop:=
 ∃(i_1:StI),i_1.id=i.id∧i_1.q=i.o.qty∧zE i_1.s=y8 i.m 1∧(i_1.s.Rep i_1.p i_1.B∧i_1.B.length≤1000)∧∀(o:MSt),o.Rep i_1.p (yU i_1.B i_1.id i_1.q).fst→∃(o_1:Mkt),sb o_1.p.code=sb i.m.p.code∧o_1.p.tick=i.m.p.tick∧o_1.p.low=i.m.p.low∧o_1.p.high=i.m.p.high∧o_1.p.wide=i.m.p.wide∧o_1.p.rule=i.m.p.rule∧o_1.p.top=i.m.p.top∧o_1.p.least=i.m.p.least∧o_1.p.part=i.m.p.part∧zE o_1.s=zE o∧z7 o_1.used=z7 i.m.used∧AObj.fro 1 (iE o_1.p.months)=y8 i.m 3∧AObj.fro 1 (iE o_1.p.settle)=y8 i.m 4∧List.map yE i.X.R=[[D.v (.int .i64 4),D.v (.int .i64 i.id),D.v (.int .i64 i.inst),D.v (.int .i64 i.o.side),D.v (.int .i64 i.o.price),D.v (.int .i64 i.o.qty),D.v (.int .i64 0),D.v (.int .i64 0)]]∧o_1.Rep i.p i.X.B i.X.U
def z0u (i:CaI):Prop:=
 ∃(a:StI),a.id=i.id∧a.q=i.q∧zE a.s=y8 i.m 1∧(a.s.Rep a.p a.B∧a.B.length≤1000)∧∀(b:MSt),b.Rep a.p (yU a.B a.id a.q).fst→∃(c:Mkt),sb c.p.code=sb i.m.p.code∧c.p.tick=i.m.p.tick∧c.p.low=i.m.p.low∧c.p.high=i.m.p.high∧c.p.wide=i.m.p.wide∧c.p.rule=i.m.p.rule∧c.p.top=i.m.p.top∧c.p.least=i.m.p.least∧c.p.part=i.m.p.part∧zE c.s=zE b∧z7 c.used=z7 i.m.used∧AObj.fro 1 (iE c.p.months)=y8 i.m 3∧AObj.fro 1 (iE c.p.settle)=y8 i.m 4∧List.map yE i.X.R=[[dI 5,dI i.id,dI i.inst,dI i.o.side,dI i.o.price,dI i.q,dI (IntKind.i64.wrap (i.o.qty-i.q)),dI 0]]∧c.Rep i.p i.X.B i.X.U
def rA (a:Mkt) (b:z6z) (c:RjI):Prop:=z7 a.used=z7 b.m.used∧AObj.fro 1 (iE a.p.months)=y8 b.m 3∧AObj.fro 1 (iE a.p.settle)=y8 b.m 4∧List.map yE b.X.R=[yE (Rep.mk 2 c.c.id 0 0 0 0 0 c.why)]∧a.Rep b.p b.X.B b.X.U
def lD (a:z6z):Prop:=∃(b:MSt),zE b=y8 a.m 1∧(g7 b)∧∀(c:Unit),True→∃(d:StI),d.id=a.c.id∧d.q=a.o.qty∧zE d.s=zE b∧(d.s.Rep d.p d.B∧d.B.length≤1000)∧∀(e:MSt),e.Rep d.p (yU d.B d.id d.q).fst→∃(f:RunI),f.inst=a.inst∧zB f.sd=a.o.side∧f.price=a.c.price∧f.q=a.c.qty∧zE f.s=zE e∧(qP f)∧∀(g:Unit),True→cnd (dG f.p f.B f.inst f.sd f.price f.q) (∃(h:RjI),h.c.kind=a.c.kind∧h.c.id=a.c.id∧h.c.inst=a.c.inst∧h.c.side=a.c.side∧h.c.price=a.c.price∧h.c.qty=a.c.qty∧h.c.least=a.c.least∧h.c.time=a.c.time∧sb h.c.label=sb a.c.label∧h.why=23∧True∧∀(j:Unit),True→∃(k:Mkt),sb k.p.code=sb a.m.p.code∧k.p.tick=a.m.p.tick∧k.p.low=a.m.p.low∧k.p.high=a.m.p.high∧k.p.wide=a.m.p.wide∧k.p.rule=a.m.p.rule∧k.p.top=a.m.p.top∧k.p.least=a.m.p.least∧k.p.part=a.m.p.part∧zE k.s=zE b∧rA k a h) (∃(h:CaI),h.id=a.c.id∧h.inst=a.inst∧h.o.id=a.o.id∧h.o.side=a.o.side∧h.o.price=a.o.price∧h.o.qty=a.o.qty∧h.o.top=a.o.top∧sb h.m.p.code=sb a.m.p.code∧h.m.p.tick=a.m.p.tick∧h.m.p.low=a.m.p.low∧h.m.p.high=a.m.p.high∧h.m.p.wide=a.m.p.wide∧h.m.p.rule=a.m.p.rule∧h.m.p.top=a.m.p.top∧h.m.p.least=a.m.p.least∧h.m.p.part=a.m.p.part∧zE h.m.s=zE b∧z7 h.m.used=z7 a.m.used∧AObj.fro 1 (iE h.m.p.months)=y8 a.m 3∧AObj.fro 1 (iE h.m.p.settle)=y8 a.m 4∧((h.m.Rep h.p h.B h.U∧BOk h.p h.B)∧h.X=jU h.B h.U h.id h.inst h.o)∧∀(j:Mkt),j.Rep h.p h.X.B h.X.U→∃(k:EnI),k.c.kind=1∧k.c.id=a.c.id∧k.c.inst=a.inst∧k.c.side=a.o.side∧k.c.price=a.c.price∧k.c.qty=a.c.qty∧k.c.least=0∧k.c.time=1∧sb k.c.label=ByteArray.mk #[]∧sb k.m.p.code=sb j.p.code∧k.m.p.tick=j.p.tick∧k.m.p.low=j.p.low∧k.m.p.high=j.p.high∧k.m.p.wide=j.p.wide∧k.m.p.rule=j.p.rule∧k.m.p.top=j.p.top∧k.m.p.least=j.p.least∧k.m.p.part=j.p.part∧zE k.m.s=zE j.s∧z7 k.m.used=z7 j.used∧AObj.fro 1 (iE k.m.p.months)=AObj.fro 1 (iE j.p.months)∧AObj.fro 1 (iE k.m.p.settle)=AObj.fro 1 (iE j.p.settle)∧(pD k)∧∀(l:Mkt),l.Rep k.p k.X.B k.X.U→((List.map yE h.X.R).length+(List.map yE k.X.R).length)*(64:Nat)≤(70368744177664:Nat)∧∃(m:Mkt),sb m.p.code=sb l.p.code∧m.p.tick=l.p.tick∧m.p.low=l.p.low∧m.p.high=l.p.high∧m.p.wide=l.p.wide∧m.p.rule=l.p.rule∧m.p.top=l.p.top∧m.p.least=l.p.least∧m.p.part=l.p.part∧zE m.s=zE l.s∧z7 m.used=z7 l.used∧AObj.fro 1 (iE m.p.months)=AObj.fro 1 (iE l.p.months)∧AObj.fro 1 (iE m.p.settle)=AObj.fro 1 (iE l.p.settle)∧List.map yE a.X.R=List.map yE h.X.R++List.map yE k.X.R∧m.Rep a.p a.X.B a.X.U)
def cT (a:CaI):Prop:=(a.m.Rep a.p a.B a.U∧BOk a.p a.B)∧((-9223372036854775808)≤a.o.qty-a.q∧a.o.qty-a.q≤9223372036854775807)∧a.X=u9 a.B a.U a.id a.q a.inst a.o
def zXp (i:z6z):Prop:=
 ∃(a:rB),sb a.p.code=sb i.m.p.code∧iE a.p.months=iE i.m.p.months∧a.p.tick=i.m.p.tick∧a.p.low=i.m.p.low∧a.p.high=i.m.p.high∧a.p.wide=i.m.p.wide∧a.p.rule=i.m.p.rule∧a.p.top=i.m.p.top∧a.p.least=i.m.p.least∧a.p.part=i.m.p.part∧iE a.p.settle=iE i.m.p.settle∧a.a=i.inst∧a.b=i.c.price∧(x7 a)∧∀(b:Unit),True→cnd (a.p.price a.a a.b !=0) (∃(c:RjI),c.c.kind=i.c.kind∧c.c.id=i.c.id∧c.c.inst=i.c.inst∧c.c.side=i.c.side∧c.c.price=i.c.price∧c.c.qty=i.c.qty∧c.c.least=i.c.least∧c.c.time=i.c.time∧sb c.c.label=sb i.c.label∧c.why=a.p.price a.a a.b∧True∧∀(d:Unit),True→∃(e:Mkt),sb e.p.code=sb i.m.p.code∧e.p.tick=i.m.p.tick∧e.p.low=i.m.p.low∧e.p.high=i.m.p.high∧e.p.wide=i.m.p.wide∧e.p.rule=i.m.p.rule∧e.p.top=i.m.p.top∧e.p.least=i.m.p.least∧e.p.part=i.m.p.part∧zE e.s=y8 i.m 1∧rA e i c) (cnd (i.c.price==i.o.price) (cnd (decide (i.c.qty≤i.o.qty)) (∃(c:CaI),c.id=i.c.id∧c.q=IntKind.i64.wrap (i.o.qty-i.c.qty)∧c.inst=i.inst∧c.o.id=i.o.id∧c.o.side=i.o.side∧c.o.price=i.o.price∧c.o.qty=i.o.qty∧c.o.top=i.o.top∧sb c.m.p.code=sb i.m.p.code∧c.m.p.tick=i.m.p.tick∧c.m.p.low=i.m.p.low∧c.m.p.high=i.m.p.high∧c.m.p.wide=i.m.p.wide∧c.m.p.rule=i.m.p.rule∧c.m.p.top=i.m.p.top∧c.m.p.least=i.m.p.least∧c.m.p.part=i.m.p.part∧zE c.m.s=y8 i.m 1∧z7 c.m.used=z7 i.m.used∧AObj.fro 1 (iE c.m.p.months)=y8 i.m 3∧AObj.fro 1 (iE c.m.p.settle)=y8 i.m 4∧(cT c)∧∀(d:Mkt),d.Rep c.p c.X.B c.X.U→∃(e:Mkt),sb e.p.code=sb d.p.code∧e.p.tick=d.p.tick∧e.p.low=d.p.low∧e.p.high=d.p.high∧e.p.wide=d.p.wide∧e.p.rule=d.p.rule∧e.p.top=d.p.top∧e.p.least=d.p.least∧e.p.part=d.p.part∧zE e.s=zE d.s∧z7 e.used=z7 d.used∧AObj.fro 1 (iE e.p.months)=AObj.fro 1 (iE d.p.months)∧AObj.fro 1 (iE e.p.settle)=AObj.fro 1 (iE d.p.settle)∧List.map yE i.X.R=List.map yE c.X.R∧e.Rep i.p i.X.B i.X.U) (lD i)) (lD i))
def zSg (a:CaI) (b:EnI):Prop:=∀(c:Mkt),c.Rep a.p a.X.B a.X.U→∃(d:Mkt),sb d.p.code=sb c.p.code∧d.p.tick=c.p.tick∧d.p.low=c.p.low∧d.p.high=c.p.high∧d.p.wide=c.p.wide∧d.p.rule=c.p.rule∧d.p.top=c.p.top∧d.p.least=c.p.least∧d.p.part=c.p.part∧zE d.s=zE c.s∧z7 d.used=z7 c.used∧AObj.fro 1 (iE d.p.months)=AObj.fro 1 (iE c.p.months)∧AObj.fro 1 (iE d.p.settle)=AObj.fro 1 (iE c.p.settle)∧List.map yE b.X.R=List.map yE a.X.R∧d.Rep b.p b.X.B b.X.U
def zRa (a:Mkt) (b:EnI) (c:RjI):Prop:=z7 a.used=z7 b.m.used∧AObj.fro 1 (iE a.p.months)=AObj.fro 1 (iE b.m.p.months)∧AObj.fro 1 (iE a.p.settle)=AObj.fro 1 (iE b.m.p.settle)∧List.map yE b.X.R=[yE (Rep.mk 2 c.c.id 0 0 0 0 0 c.why)]∧a.Rep b.p b.X.B b.X.U
def zZe (a:EnI) (b:StI):Prop:=∃(c:CaI),c.id=a.c.id∧c.inst=(zT b.B b.id).fst∧c.o.id=(zT b.B b.id).snd.fst.id∧c.o.side=(zT b.B b.id).snd.fst.side∧c.o.price=(zT b.B b.id).snd.fst.price∧c.o.qty=(zT b.B b.id).snd.fst.qty∧c.o.top=(zT b.B b.id).snd.fst.top∧sb c.m.p.code=sb a.m.p.code∧c.m.p.tick=a.m.p.tick∧c.m.p.low=a.m.p.low∧c.m.p.high=a.m.p.high∧c.m.p.wide=a.m.p.wide∧c.m.p.rule=a.m.p.rule∧c.m.p.top=a.m.p.top∧c.m.p.least=a.m.p.least∧c.m.p.part=a.m.p.part∧zE c.m.s=zE b.s∧z7 c.m.used=z7 a.m.used∧AObj.fro 1 (iE c.m.p.months)=AObj.fro 1 (iE a.m.p.months)∧AObj.fro 1 (iE c.m.p.settle)=AObj.fro 1 (iE a.m.p.settle)∧((c.m.Rep c.p c.B c.U∧BOk c.p c.B)∧c.X=jU c.B c.U c.id c.inst c.o)∧zSg c a
def yDi (a:EnI):Prop:=∃(b:StI),b.id=a.c.id∧zE b.s=zE a.m.s∧(b.s.Rep b.p b.B∧b.B.length≤1000)∧∀(c:Unit),True→cnd (!(zT b.B b.id).snd.snd) (∃(d:RjI),d.c.kind=a.c.kind∧d.c.id=a.c.id∧d.c.inst=a.c.inst∧d.c.side=a.c.side∧d.c.price=a.c.price∧d.c.qty=a.c.qty∧d.c.least=a.c.least∧d.c.time=a.c.time∧sb d.c.label=sb a.c.label∧d.why=26∧True∧∀(e:Unit),True→∃(f:Mkt),sb f.p.code=sb a.m.p.code∧f.p.tick=a.m.p.tick∧f.p.low=a.m.p.low∧f.p.high=a.m.p.high∧f.p.wide=a.m.p.wide∧f.p.rule=a.m.p.rule∧f.p.top=a.m.p.top∧f.p.least=a.m.p.least∧f.p.part=a.m.p.part∧zE f.s=zE b.s∧zRa f a d) (cnd (a.c.kind==4) (∃(d:z6z),d.c.kind=a.c.kind∧d.c.id=a.c.id∧d.c.inst=a.c.inst∧d.c.side=a.c.side∧d.c.price=a.c.price∧d.c.qty=a.c.qty∧d.c.least=a.c.least∧d.c.time=a.c.time∧sb d.c.label=sb a.c.label∧d.inst=(zT b.B b.id).fst∧d.o.id=(zT b.B b.id).snd.fst.id∧d.o.side=(zT b.B b.id).snd.fst.side∧d.o.price=(zT b.B b.id).snd.fst.price∧d.o.qty=(zT b.B b.id).snd.fst.qty∧d.o.top=(zT b.B b.id).snd.fst.top∧sb d.m.p.code=sb a.m.p.code∧d.m.p.tick=a.m.p.tick∧d.m.p.low=a.m.p.low∧d.m.p.high=a.m.p.high∧d.m.p.wide=a.m.p.wide∧d.m.p.rule=a.m.p.rule∧d.m.p.top=a.m.p.top∧d.m.p.least=a.m.p.least∧d.m.p.part=a.m.p.part∧zE d.m.s=zE b.s∧z7 d.m.used=z7 a.m.used∧AObj.fro 1 (iE d.m.p.months)=AObj.fro 1 (iE a.m.p.months)∧AObj.fro 1 (iE d.m.p.settle)=AObj.fro 1 (iE a.m.p.settle)∧(d.m.Rep d.p d.B d.U∧BOk d.p d.B∧zT d.B d.c.id=(d.inst,d.o,true)∧(1≤d.c.qty∧d.c.qty≤1000000)∧d.X=vF d.p d.B d.U d.c d.inst d.o)∧∀(e:Mkt),e.Rep d.p d.X.B d.X.U→∃(f:Mkt),sb f.p.code=sb e.p.code∧f.p.tick=e.p.tick∧f.p.low=e.p.low∧f.p.high=e.p.high∧f.p.wide=e.p.wide∧f.p.rule=e.p.rule∧f.p.top=e.p.top∧f.p.least=e.p.least∧f.p.part=e.p.part∧zE f.s=zE e.s∧z7 f.used=z7 e.used∧AObj.fro 1 (iE f.p.months)=AObj.fro 1 (iE e.p.months)∧AObj.fro 1 (iE f.p.settle)=AObj.fro 1 (iE e.p.settle)∧List.map yE a.X.R=List.map yE d.X.R∧f.Rep a.p a.X.B a.X.U) (cnd (a.c.kind==2) (zZe a b) (cnd (decide (a.c.qty≥(zT b.B b.id).snd.fst.qty)) (zZe a b) (∃(d:CaI),d.id=a.c.id∧d.q=a.c.qty∧d.inst=(zT b.B b.id).fst∧d.o.id=(zT b.B b.id).snd.fst.id∧d.o.side=(zT b.B b.id).snd.fst.side∧d.o.price=(zT b.B b.id).snd.fst.price∧d.o.qty=(zT b.B b.id).snd.fst.qty∧d.o.top=(zT b.B b.id).snd.fst.top∧sb d.m.p.code=sb a.m.p.code∧d.m.p.tick=a.m.p.tick∧d.m.p.low=a.m.p.low∧d.m.p.high=a.m.p.high∧d.m.p.wide=a.m.p.wide∧d.m.p.rule=a.m.p.rule∧d.m.p.top=a.m.p.top∧d.m.p.least=a.m.p.least∧d.m.p.part=a.m.p.part∧zE d.m.s=zE b.s∧z7 d.m.used=z7 a.m.used∧AObj.fro 1 (iE d.m.p.months)=AObj.fro 1 (iE a.m.p.months)∧AObj.fro 1 (iE d.m.p.settle)=AObj.fro 1 (iE a.m.p.settle)∧(cT d)∧zSg d a))))
def Vdo (i:EnI):Prop:=
 ∃(a:Cmd),a.kind=i.c.kind∧a.id=i.c.id∧a.inst=i.c.inst∧a.side=i.c.side∧a.price=i.c.price∧a.qty=i.c.qty∧a.least=i.c.least∧a.time=i.c.time∧sb a.label=sb i.c.label∧a.label.length≤140737488355328∧∀(b:Unit),True→cnd (a.right !=0) (∃(c:RjI),c.c.kind=i.c.kind∧c.c.id=i.c.id∧c.c.inst=i.c.inst∧c.c.side=i.c.side∧c.c.price=i.c.price∧c.c.qty=i.c.qty∧c.c.least=i.c.least∧c.c.time=i.c.time∧sb c.c.label=sb i.c.label∧c.why=a.right∧True∧∀(d:Unit),True→∃(e:Mkt),sb e.p.code=sb i.m.p.code∧e.p.tick=i.m.p.tick∧e.p.low=i.m.p.low∧e.p.high=i.m.p.high∧e.p.wide=i.m.p.wide∧e.p.rule=i.m.p.rule∧e.p.top=i.m.p.top∧e.p.least=i.m.p.least∧e.p.part=i.m.p.part∧zE e.s=zE i.m.s∧zRa e i c) (cnd (i.c.kind==1) (∃(c:EnI),c.c.kind=i.c.kind∧c.c.id=i.c.id∧c.c.inst=i.c.inst∧c.c.side=i.c.side∧c.c.price=i.c.price∧c.c.qty=i.c.qty∧c.c.least=i.c.least∧c.c.time=i.c.time∧sb c.c.label=sb i.c.label∧sb c.m.p.code=sb i.m.p.code∧c.m.p.tick=i.m.p.tick∧c.m.p.low=i.m.p.low∧c.m.p.high=i.m.p.high∧c.m.p.wide=i.m.p.wide∧c.m.p.rule=i.m.p.rule∧c.m.p.top=i.m.p.top∧c.m.p.least=i.m.p.least∧c.m.p.part=i.m.p.part∧zE c.m.s=zE i.m.s∧z7 c.m.used=z7 i.m.used∧AObj.fro 1 (iE c.m.p.months)=AObj.fro 1 (iE i.m.p.months)∧AObj.fro 1 (iE c.m.p.settle)=AObj.fro 1 (iE i.m.p.settle)∧((c.m.Rep c.p c.B c.U∧BOk c.p c.B)∧c.c.right=0∧c.c.kind=1∧c.X=cM c.p c.B c.U c.c)∧m9 c i) ((yDi i)∧i.c.id=i.c.id∧True∧yDi i))
def yFu (i:MfI):Prop:=
 ∃(i_1:SoI),zE i_1.s=zE i.m.s∧(i_1.s.Rep i_1.p i_1.B∧i_1.B.length≤1000)∧∀(o:Unit),True→∃(o:Unit),(↑(zNk i.B):Int)=(↑(zNk i_1.B):Int)∧sb i.m.p.code=sb i.m.p.code∧i.m.p.tick=i.m.p.tick∧i.m.p.low=i.m.p.low∧i.m.p.high=i.m.p.high∧i.m.p.wide=i.m.p.wide∧i.m.p.rule=i.m.p.rule∧i.m.p.top=i.m.p.top∧i.m.p.least=i.m.p.least∧i.m.p.part=i.m.p.part∧zE i.m.s=zE i_1.s∧z7 i.m.used=z7 i.m.used∧AObj.fro 1 (iE i.m.p.months)=AObj.fro 1 (iE i.m.p.months)∧AObj.fro 1 (iE i.m.p.settle)=AObj.fro 1 (iE i.m.p.settle)∧True
open Go Cv Go.Proofs
theorem wK (p:Prd) (B:List (List zD)) (U:List Int) (c:Cmd):wF p B U c=⟨if(x0 p B c.inst (decide (c.side=2)) c.price c.qty).left≠0∧c.time=1 then(rF p (x0 p B c.inst (decide (c.side=2)) c.price c.qty).B c.inst c.id c.side c.price (x0 p B c.inst (decide (c.side=2)) c.price c.qty).left).1 else(x0 p B c.inst (decide (c.side=2)) c.price c.qty).B,zCu U c.id,
 (⟨1,c.id,c.inst,c.side,c.price,c.qty,c.qty,0⟩::wT p c (x0 p B c.inst (decide (c.side=2)) c.price c.qty).steps c.qty)++if(x0 p B c.inst (decide (c.side=2)) c.price c.qty).left≠0∧c.time≠1 then[⟨4,c.id,c.inst,c.side,c.price,(x0 p B c.inst (decide (c.side=2)) c.price c.qty).left,0,0⟩]else[]⟩:=by
 rw[wF]
theorem zOi {p:Prd} {B:List (List zD)} (h:BWf p B) (U:List Int) (c:Cmd):BOk p (wF p B U c).B:=by
 have:=(cF (inst:=c.inst) (sd:=decide (c.side=2)) (price:=c.price) _ c.qty B (yTd _) h).1.ok
 rw[wK]
 dsimp only
 split
 ·exact this.add _ _ _ _ _
 ·exact this
theorem z5y {p:Prd} {B:List (List zD)} (h:BWf p B) (U:List Int) (c:Cmd):BOk p (cM p B U c).B:=by
 rw[cM]
 split
 ·exact h.ok
 split
 ·exact h.ok
 split
 ·exact h.ok
 split
 ·exact h.ok
 split
 ·exact h.ok
 exact zOi h U c
theorem yMj {p:Prd} {B:List (List zD)} (h:BWf p B) (U:List Int) (c:Cmd):BOk p (doF p B U c).B:=by
 rw[doF]
 split
 ·exact h.ok
 split
 ·exact z5y h U c
 split
 ·exact h.ok
 split
 ·rw[vF]
  split
  ·exact h.ok
  split
  ·exact h.ok.take _ _
  split
  ·exact h.ok
  exact zOi (h.take _ _) U _
 split
 ·exact h.ok.take _ _
 ·exact h.ok.take _ _
def Acc (B:List (List zD)) (U:List Int):Prop:=∀L∈B,∀o∈L,o.id∈U
theorem use_mem {U:List Int} {id k:Int}:k∈zCu U id↔k∈U∨k=id:=by
 rw[zCu]
 split
 ·rename_i h
  constructor
  ·exact .inl
  ·rintro(h2|rfl)
   ·exact h2
   ·exact h
 ·simp
theorem Acc.mono {B:List (List zD)} {U U':List Int} (h:Acc B U) (hu:∀k∈U,k∈U'):Acc B U':=fun L hL o ho=>hu _ (h L hL o ho)
theorem Acc.take {B:List (List zD)} {U:List Int} (h:Acc B U) (id q:Int):Acc (yU B id q).1 U:=by
 rw[yU]
 split
 ·exact h
 ·rename_i k hk
  dsimp only
  obtain⟨L0,hL0,_⟩:=xL hk
  intro L hL o ho
  rcases yWz hL with hL|rfl
  ·exact h L hL o ho
  ·rw[zI hL0]at ho
   obtain⟨o',ho',_,_,e⟩:=zBi ho
   rw[e]
   exact h L0 (ySo hL0) o' ho'
theorem Acc.takes {U:List Int}:∀{fs:List vA} {B:List (List zD)},Acc B U→Acc (yZ B fs) U
 |[],B,h=>h
 |f::fs,B,h=>Acc.takes (fs:=fs) (h.take f.id f.qty)
theorem Acc.run {p:Prd} {inst:Int} {sd:Bool} {price:Int} {U:List Int}:∀(m:Nat) (q:Int) (B:List (List zD)),q.toNat≤m→Acc B U→Acc (x0 p B inst sd price q).B U
 |m,q,B,hm,h=>by
  by_cases hq:q≤0
  ·rw[kO (.inl hq)];exact h
  cases hs:jF p B inst sd price q with
  |none=>rw[kO (.inr hs)];exact h
  |some x=>
   obtain⟨t,C⟩:=x
   have hC:Acc C U:=by
    rw[jF]at hs
    dsimp only at hs
    split at hs
    ·split at hs
     ·cases hs;exact h.takes.takes
     ·cases hs;exact h.takes
    ·cases hs
   have hq2:=aS (by omega) hs
   cases m with
   |zero=>omega
   |succ m=>
   rw[cC (by omega) hs]
   exact Acc.run m (q-t.qty) C (by omega) hC
theorem Acc.add {p:Prd} {B:List (List zD)} {U:List Int} (h:Acc B U) (inst id s price q:Int):Acc (rF p B inst id s price q).1 (zCu U id):=by
 have h':Acc B (zCu U id):=h.mono fun k hk=>use_mem.2 (.inl hk)
 rw[rF]
 split
 ·exact h'
 split
 ·exact h'
 split
 ·exact h'
 split
 ·exact h'
 rename_i c1 _ _ _
 obtain⟨L0,hL0⟩:=z6 (l:=B) (i:=inst.toNat) (by omega)
 have hm:=h L0 (ySo hL0)
 intro L hL o ho
 rcases yWz hL with hL|rfl
 ·exact h' L hL o ho
 ·rw[zI hL0,rC]at ho
  split at ho
  ·exact use_mem.2 (.inl (hm o ho))
  split at ho
  ·exact use_mem.2 (.inl (hm o ho))
  split at ho
  ·exact use_mem.2 (.inl (hm o ho))
  rcases ySy.1 ((zDe L0 s id price q).mem_iff.1 (yTb (f:=(·.id)) ho))with e|hm2
  ·exact use_mem.2 (.inr e)
  ·obtain⟨o',ho',e⟩:=yTh.1 hm2
   exact use_mem.2 (.inl (e▸hm o' ho'))
theorem Acc.enter {p:Prd} {B:List (List zD)} {U:List Int} (h:Acc B U) (c:Cmd):Acc (wF p B U c).B (wF p B U c).U:=by
 have hr:=Acc.run (p:=p) (inst:=c.inst) (sd:=decide (c.side=2)) (price:=c.price) _ c.qty B (yTd _) h
 rw[wK]
 dsimp only
 split
 ·exact hr.add _ _ _ _ _
 ·exact hr.mono fun k hk=>use_mem.2 (.inl hk)
structure DoU (p:Prd) (B:List (List zD)) (U:List Int) (c:Cmd) (X:MkX):Prop where
 acc:Acc X.B X.U
 fst:∃r l,X.R=r::l∧(c.right=0→c.kind=1→p.price c.inst c.price=0→(r.why=25↔c.id∈U))∧(∀k,k∈X.U↔k∈U∨(c.kind=1∧r.kind=1∧k=c.id))
theorem z8q {B:List (List zD)} {U:List Int} (h:Acc B U) {id:Int} (hf:(zT B id).2.2=true):id∈U:=by
 rw[zT]at hf
 split at hf
 ·cases hf
 ·rename_i k hk
  obtain⟨L,hL,hh⟩:=xL hk
  obtain⟨o,ho,e⟩:=yTh.1 (hasId_iff.1 hh)
  exact e▸h L (ySo hL) o ho
theorem yGu {p:Prd} {B:List (List zD)} {U:List Int} (h:Acc B U) (c:Cmd):DoU p B U c (doF p B U c):=by
 have hrej:∀why:Int,(c.right=0→c.kind=1→p.price c.inst c.price=0→(why=25↔c.id∈U))→DoU p B U c ⟨B,U,cK c why⟩:=fun why hw=>⟨h,_,_,rfl,hw,fun k=>⟨.inl,by rintro(x|x);exact x;cases x.2.1⟩⟩
 rw[doF]
 split
 ·rename_i c1
  exact hrej _ fun e=>absurd e c1
 split
 ·rename_i c1 c2
  rw[cM]
  split
  ·rename_i c3
   exact hrej _ fun _ _ e=>absurd e c3
  split
  ·rename_i c3 c4
   exact hrej _ fun _ _ _=>⟨fun _=>c4,fun _=>rfl⟩
  rename_i c4
  split
  ·exact hrej _ fun _ _ _=>⟨fun e=>(by cases e),fun e=>absurd e c4⟩
  split
  ·exact hrej _ fun _ _ _=>⟨fun e=>(by cases e),fun e=>absurd e c4⟩
  split
  ·exact hrej _ fun _ _ _=>⟨fun e=>(by cases e),fun e=>absurd e c4⟩
  refine⟨h.enter c,⟨1,c.id,c.inst,c.side,c.price,c.qty,c.qty,0⟩,_,by rw[wK];rfl,fun _ _ _=>⟨fun e=>(by cases e),fun e=>absurd e c4⟩,fun k=> ?_⟩
  rw[wK]
  dsimp only
  rw[use_mem]
  exact⟨fun x=>x.imp id fun e=>⟨c2,rfl,e⟩,fun x=>x.imp id fun e=>e.2.2⟩
 rename_i c1 c2
 have hk:∀(U':List Int) (r:Rep) (k:Int),(∀k,k∈U'↔k∈U)→(k∈U'↔k∈U∨(c.kind=1∧r.kind=1∧k=c.id)):=fun U' r k e=>by
  rw[e];exact⟨.inl,by rintro(x|x);exact x;exact absurd x.1 c2⟩
 split
 ·exact hrej _ fun _ e=>absurd e c2
 rename_i c3
 have hin:c.id∈U:=z8q h (by simpa using c3)
 split
 ·rw[vF]
  split
  ·exact hrej _ fun _ e=>absurd e c2
  split
  ·exact⟨h.take _ _,_,_,rfl,fun _ e=>absurd e c2,fun k=>hk _ _ k fun _=>Iff.rfl⟩
  split
  ·exact hrej _ fun _ e=>absurd e c2
  refine⟨(h.take _ _).enter _,_,_,rfl,fun _ e=>absurd e c2,fun k=>hk _ _ k fun k=> ?_⟩
  dsimp only
  rw[wK]
  dsimp only
  rw[use_mem]
  exact⟨by rintro(x|rfl);exact x;exact hin,.inl⟩
 split
 ·exact⟨h.take _ _,_,_,rfl,fun _ e=>absurd e c2,fun k=>hk _ _ k fun _=>Iff.rfl⟩
 ·exact⟨h.take _ _,_,_,rfl,fun _ e=>absurd e c2,fun k=>hk _ _ k fun _=>Iff.rfl⟩
open Go Cv Go.Proofs
def Two (L:List zD):Prop:=L=kX L 1++kX L 2
open Go Cv Go.Proofs
end Sx
