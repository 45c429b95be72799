/- Texts of ours, one behind the other: a walk that the kernel reckons, and contracts of functions. No condition. -/
import Derived.Test.YtpgpnnncaidcjaaGreatM8
namespace Sx
set_option linter.unusedVariables false
set_option linter.unusedSimpArgs false
set_option maxRecDepth 100000
open Go Cv Go.Proofs
structure QOk (T:List Top) (q:Quote):Prop where
 a:0≤q.a.inst∧q.a.inst<T.length
 b:0≤q.b.inst∧q.b.inst<T.length
 sa:q.a.side=1∨q.a.side=2
 sb:q.b.side=1∨q.b.side=2
 ne:q.a.inst≠q.b.inst
 ha:(T.getD q.a.inst.toNat top0).has q.a.side=true
 hb:(T.getD q.b.inst.toNat top0).has q.b.side=true
 qty:q.qty=min ((T.getD q.a.inst.toNat top0).qty q.a.side) ((T.getD q.b.inst.toNat top0).qty q.b.side)
theorem zJi {T:List Top} {a b:Leg} {less:Bool} {q:Quote} (h:q∈mkq T a b less) (h1:0≤a.inst∧a.inst<T.length) (h2:0≤b.inst∧b.inst<T.length) (h3:a.side=1∨a.side=2) (h4:b.side=1∨b.side=2) (hne:a.inst≠b.inst):QOk T q∧q.a=a∧q.b=b:=by
 cases less
 all_goals
  simp only[mkq,Bool.false_eq_true,↓reduceIte]at h
  split at h
  ·rename_i hc
   simp only[Bool.and_eq_true]at hc
   rw[List.mem_singleton]at h
   subst h
   exact⟨⟨h1,h2,h3,h4,hne,hc.1.1,hc.1.2,rfl⟩,rfl,rfl⟩
  ·cases h
theorem z8o:∀n≤6,∀k<n+n*(n-1) / 2,n≤k→(x6 n k n 0).1≠(x6 n k n 0).2.1:=by decide
theorem zOu {p:Prd} (hc:p.check=0) {k:Nat} (hk:k<p.count) (hs:(p.legs k).2.2=true):(p.legs k).1≠(p.legs k).2.1:=by
 have m6:=(jB hc).m6
 have hk':=hk
 rw[Prd.count,if_pos hc]at hk'
 by_cases h:k<p.months.length
 ·rw[Prd.legs,if_neg (by omega),if_pos (by omega)]at hs
  cases hs
 ·rw[Prd.legs,if_neg (by omega),if_neg (by omega)]
  exact z8o p.months.length m6 k hk' (by omega)
theorem zSd:∀n≤6,∀a<n,∀b<n,a<b→(yU n a:Int)+b-a-1≥n:=by decide
theorem zBf {p:Prd} (hc:p.check=0) {a b:Nat} (hab:a<b) (hb:b<p.months.length):(p.months.length:Int)≤(p.spread a b).1:=by
 have m6:=(jB hc).m6
 have:=zSd p.months.length m6 a (by omega) b hb hab
 rw[Prd.spread,if_neg (by omega)]
 simpa using this
theorem z2k {p:Prd} (hc:p.check=0) {T:List Top} (hT:T.length=p.count) {inst:Int} {s:Int} (hs:s=1∨s=2) {q:Quote} (h:q∈y6 ⟨p,T,inst⟩ s):QOk T q∧0≤inst∧inst<p.count∧
 (((p.legs inst).2.2=true∧q.a=⟨(p.legs inst).1,s⟩∧q.b=⟨(p.legs inst).2.1,3-s⟩)∨(inst<p.months.length∧q.a.inst≠inst∧(p.months.length:Int)≤q.a.inst)):=by
 rw[y6]at h
 dsimp only at h
 split at h
 ·cases h
 ·rename_i hn
  have h0:0≤inst∧inst<p.count:=by omega
  obtain⟨k,rfl⟩:∃k:Nat,inst=k:=⟨inst.toNat,by omega⟩
  have hk:k<p.count:=by omega
  have hge:=eJ hc
  split at h
  ·rename_i hl
   obtain⟨q',hq',rfl⟩:=List.mem_map.1 h
   have hle:=wX hc hk
   rcases hle with⟨_,l1,l2,l3,l4⟩|⟨e,_⟩
   ·obtain⟨ok,e1,e2⟩:=zJi hq' (by dsimp only;omega) (by dsimp only;omega) (by dsimp only;omega) hs (fun e=>zOu hc hk hl e.symm)
    refine⟨⟨by dsimp only[qO];omega,by dsimp only[qO];omega,hs,by dsimp only[qO];omega,zOu hc hk hl,?_,?_,?_⟩,h0.1,h0.2,.inl ⟨hl,rfl,rfl⟩⟩
    ·have:=ok.hb;rw[e2]at this;exact this
    ·have:=ok.ha;rw[e1]at this;exact this
    ·have:=ok.qty;rw[e1,e2]at this;dsimp only[qO];rw[this];exact Int.min_comm _ _
   ·rw[e]at hl;cases hl
  ·rename_i hl
   have hm:k<p.months.length:=by
    rcases wX hc hk with⟨e,_⟩|⟨_,e⟩
    ·exact absurd e hl
    ·exact e
   rcases List.mem_append.1 h with h|h
   ·obtain⟨j,hj,h⟩:=List.mem_flatMap.1 h
    have hj:=List.mem_range.1 hj
    rw[Int.toNat_natCast]at hj
    have s1:=vM hc (a:=k) (b:=k+1+j) (by omega) (by omega)
    have s2:=zBf hc (a:=k) (b:=k+1+j) (by omega) (by omega)
    have ec:((k:Int)+1+j)=((k+1+j:Nat):Int):=by omega
    rw[ec]at h
    obtain⟨ok,e1,e2⟩:=zJi h (by dsimp only;omega) (by dsimp only;omega) hs hs (by dsimp only;omega)
    exact⟨ok,h0.1,h0.2,.inr ⟨by omega,by rw[e1];dsimp only;omega,by rw[e1];exact s2⟩⟩
   ·obtain⟨j,hj,h⟩:=List.mem_flatMap.1 h
    have hj:=List.mem_range.1 hj
    rw[Int.toNat_natCast]at hj
    have s1:=vM hc (a:=j) (b:=k) (by omega) (by omega)
    have s2:=zBf hc (a:=j) (b:=k) (by omega) (by omega)
    obtain⟨ok,e1,e2⟩:=zJi h (by dsimp only;omega) (by dsimp only;omega) (by dsimp only;omega) hs (by dsimp only;omega)
    exact⟨ok,h0.1,h0.2,.inr ⟨by omega,by rw[e1];dsimp only;omega,by rw[e1];exact s2⟩⟩
theorem zAs {s:Int}:∀(r:List Quote) (q:Quote),r.foldl (fun b q=>if btr s q.price b.price then q else b) q∈q::r
 |[],q=>List.mem_cons_self
 |x::r,q=>by
  rw[List.foldl_cons]
  have:=zAs (s:=s) r (if btr s x.price q.price then x else q)
  rcases List.mem_cons.1 this with e|h
  ·rw[e];split
   ·exact List.mem_cons_of_mem _ List.mem_cons_self
   ·exact List.mem_cons_self
  ·exact List.mem_cons_of_mem _ (List.mem_cons_of_mem _ h)
theorem lL {l:List Quote} {s:Int} (h:(zV l s).2=true):(zV l s).1∈l:=by
 cases l with
 |nil=>cases h
 |cons q r=>exact zAs r q
def z2o (B:List (List zJ)):Prop:=∀(k:Nat) (L:List zJ),B[k]?=some L→(∀o∈L,sU o)∧(L.map (·.id)).Nodup∧L.length≤250
theorem MSt.Rep.ords {s:MSt} {p:Prd} {B:List (List zJ)} (h:s.Rep p B):z2o B:=by
 intro k L hL
 obtain⟨b,hb⟩:=yD (l:=s.books) (i:=k) (by rw[h.bl];exact(List.getElem?_eq_some_iff.1 hL).1)
 exact(h.bk k b L hb hL).ords
theorem z3z:∀{l:List zJ} {v:Lv},(∀o∈l,sU o)→v∈grp l→1≤v.qty∧v.qty≤1000000*l.length
 |[],v,_,h=>by cases h
 |o::l,v,ho,h=>by
  have h0:=(ho o List.mem_cons_self).q
  have ih:∀v∈grp l,1≤v.qty∧v.qty≤1000000*l.length:=fun v hv=>z3z (fun x hx=>ho x (List.mem_cons_of_mem _ hx)) hv
  rw[grp]at h
  rw[List.length_cons]
  split at h
  ·rw[List.mem_singleton]at h
   subst h;dsimp only;omega
  ·rename_i w ws e
   rw[e]at ih
   have hw:=ih w List.mem_cons_self
   split at h
   ·rcases List.mem_cons.1 h with rfl|h
    ·dsimp only;omega
    ·have:=ih v (List.mem_cons_of_mem _ h);omega
   ·rcases List.mem_cons.1 h with rfl|h
    ·dsimp only;omega
    ·have:=ih v h;omega
theorem zJc {L:List zJ} {s:Int} (h:∀o∈L,sU o) (hl:L.length≤250) (hb:(bestL L s).2=true):1≤(bestL L s).1.qty∧(bestL L s).1.qty≤250000000:=by
 rw[bestL]at hb ⊢
 cases hl2:eV L s with
 |nil=>rw[hl2]at hb;cases hb
 |cons v vs=>
  dsimp only
  have hm:v∈grp (L.filter fun o=>decide (o.side=s)):=by rw[← eV,hl2];exact List.mem_cons_self
  have:=z3z (fun o ho=>h o (List.mem_filter.1 ho).1) hm
  have:=List.length_filter_le (fun o:zJ=>decide (o.side=s)) L
  omega
theorem zUl {B:List (List zJ)} {k:Nat} {L:List zJ} (hL:B[k]? =some L):(B.map y9).getD k top0=y9 L:=zX (by rw[List.getElem?_map,hL];rfl)
theorem pW (L:List zJ) {s:Int} (hs:s=1∨s=2):(y9 L).has s=(bestL L s).2∧(y9 L).qty s=(bestL L s).1.qty∧(y9 L).price s=(bestL L s).1.price:=by
 obtain⟨e1,e2,e3,e4,e5,e6⟩:=zDu L
 rcases hs with rfl|rfl
 ·exact⟨e3,e2,e1⟩
 ·exact⟨e6,e5,e4⟩
theorem zOc {p:Prd} {B:List (List zJ)} (h:BOk p B) (ho:z2o B) {inst:Int} (hi:0≤inst∧inst<B.length) {s:Int} (hs:s=1∨s=2) (hn:(zN p B inst s).2.2=true):
 (1≤(zN p B inst s).1.qty∧(zN p B inst s).1.qty≤250000000)∧((zN p B inst s).2.1=true→(zN p B inst s).1∈y6 ⟨p,B.map y9,inst⟩ s∧QOk (B.map y9) (zN p B inst s).1)∧
 ((zN p B inst s).2.1=false→(bestL (B.getD inst.toNat []) s).2=true∧(zN p B inst s).1.price=(bestL (B.getD inst.toNat []) s).1.price∧(zN p B inst s).1.qty=(bestL (B.getD inst.toNat []) s).1.qty):=by
 obtain⟨k,rfl⟩:∃k:Nat,inst=k:=⟨inst.toNat,by omega⟩
 obtain⟨L,hL⟩:=yD (l:=B) (i:=k) (by omega)
 have hLo:=ho k L hL
 rw[zN]at hn ⊢
 rw[Int.toNat_natCast,zX hL]at hn ⊢
 split
 ·rename_i c
  simp only[Bool.and_eq_true]at c
  exact⟨zJc hLo.1 hLo.2.2 c.1,⟨fun e=>(by cases e),fun _=>⟨c.1,rfl,rfl⟩⟩⟩
 ·rename_i c
  rw[if_neg c]at hn
  dsimp only at hn ⊢
  have hm:=lL hn
  have ha:(zV (xS ⟨p,B.map y9,k⟩ s) s).1∈y6 ⟨p,B.map y9,k⟩ s:=(List.mem_filter.1 hm).1
  obtain⟨ok,_⟩:=z2k h.pc (by rw[List.length_map];exact h.bl) hs ha
  refine⟨?_,fun _=>⟨ha,ok⟩,fun e=>by rw[hn]at e;cases e⟩
  generalize (zV (xS ⟨p,B.map y9,k⟩ s) s).1=q at ok
  have a:=ok.a
  have b:=ok.b
  rw[List.length_map]at a b
  obtain⟨La,hLa⟩:=yD (l:=B) (i:=q.a.inst.toNat) (by omega)
  obtain⟨Lb,hLb⟩:=yD (l:=B) (i:=q.b.inst.toNat) (by omega)
  have e1:=ok.ha
  have e2:=ok.hb
  have e3:=ok.qty
  rw[zUl hLa]at e1 e3
  rw[zUl hLb]at e2 e3
  rw[(pW La ok.sa).1]at e1
  rw[(pW Lb ok.sb).1]at e2
  rw[(pW La ok.sa).2.1,(pW Lb ok.sb).2.1]at e3
  have:=zJc (ho _ _ hLa).1 (ho _ _ hLa).2.2 e1
  have:=zJc (ho _ _ hLb).1 (ho _ _ hLb).2.2 e2
  omega
theorem zFv {L:List zJ} {id q:Int} {o:zJ} (h:o∈(yW L id q).1):∃o'∈L,o.price=o'.price∧o.side=o'.side∧o.id=o'.id:=by
 rw[yW]at h
 split at h
 ·exact⟨o,h,rfl,rfl,rfl⟩
 split at h
 ·exact⟨o,h,rfl,rfl,rfl⟩
 obtain⟨o',ho',e⟩:=List.mem_filterMap.1 h
 refine⟨o',ho',?_⟩
 split at e
 ·split at e
  ·cases e
  ·cases e;exact⟨rfl,rfl,rfl⟩
 ·cases e;exact⟨rfl,rfl,rfl⟩
theorem BOk.take {p:Prd} {B:List (List zJ)} (h:BOk p B) (id q:Int):BOk p (yN B id q).1:=by
 refine⟨h.pc,h.ps,by rw[fZ];exact h.bl,fun k L hL o ho=> ?_⟩
 rw[yN]at hL
 split at hL
 ·exact h.pr k L hL o ho
 ·rename_i j hj
  dsimp only at hL
  rcases vI hL with⟨rfl,rfl⟩|⟨_,hL⟩
  ·obtain⟨o',ho',e,_⟩:=zFv ho
   obtain⟨L',hL',_⟩:=qS hj
   rw[zX hL']at ho'
   rw[e];exact h.pr k L' hL' o' ho'
  ·exact h.pr k L hL o ho
theorem BOk.takes {p:Prd}:∀{fs:List wB} {B:List (List zJ)},BOk p B→BOk p (y8 B fs)
 |[],B,h=>h
 |f::fs,B,h=>BOk.takes (fs:=fs) (h.take f.id f.qty)
theorem zFp (inst s:Int):∀(os:List zJ) (sh:List Int),(yL inst s os sh).length≤os.length
 |[],sh=>Nat.le_refl 0
 |o::os,[]=>Nat.zero_le _
 |o::os,k::sh=>by
  have:=zFp inst s os sh
  rw[yL]
  split
  ·simp only[List.length_cons];omega
  ·simp only[List.length_cons];omega
theorem u7 {p:Prd} {B:List (List zJ)} (ho:z2o B) (inst s q:Int):(yO p B inst s q).length≤250:=by
 refine Nat.le_trans (zFp _ _ _ _) (Nat.le_trans (List.length_filter_le _ _) ?_)
 by_cases h:inst.toNat<B.length
 ·obtain⟨L,hL⟩:=yD h
  rw[zX hL];exact(ho _ _ hL).2.2
 ·rw[List.getD_eq_getElem?_getD,List.getElem?_eq_none (by omega)];exact Nat.zero_le _
theorem mQ {p:Prd} {B:List (List zJ)} {inst:Int} {sd:Bool} {price q:Int} {t:qF} {B':List (List zJ)} (hq:1≤q) (h:jH p B inst sd price q=some (t,B')):1≤t.qty∧t.qty≤q:=by
 rw[jH]at h
 dsimp only at h
 split at h
 ·rename_i c
  simp only[Bool.and_eq_true,decide_eq_true_eq]at c
  split at h
  ·cases h;dsimp only;omega
  ·cases h;dsimp only;omega
 ·cases h
theorem zIb {p:Prd} {inst:Int} {sd:Bool} {price:Int}:∀(m n:Nat) (B:List (List zJ)) (q:Int),q.toNat≤m→q.toNat≤n→pC p inst sd price m B q=pC p inst sd price n B q
 |0,0,B,q,_,_=>rfl
 |0,n+1,B,q,h,_=>by rw[pC,pC,if_pos (by omega)]
 |m+1,0,B,q,_,h=>by rw[pC,pC,if_pos (by omega)]
 |m+1,n+1,B,q,h1,h2=>by
  rw[pC,pC]
  split
  ·rfl
  ·rename_i hq
   cases hs:jH p B inst sd price q with
   |none=>rfl
   |some x=>
    obtain⟨t,B'⟩:=x
    have:=mQ (by omega) hs
    dsimp only
    rw[zIb m n B' (q-t.qty) (by omega) (by omega)]
theorem wF {p:Prd} {B:List (List zJ)} {inst:Int} {sd:Bool} {price q:Int} (h:q≤0∨jH p B inst sd price q=none):xP p B inst sd price q=⟨[],q,B⟩:=by
 rw[xP]
 cases hn:q.toNat with
 |zero=>rfl
 |succ n=>
  rw[pC]
  rcases h with h|h
  ·rw[if_pos h]
  ·rw[if_neg (by omega),h]
theorem fP {p:Prd} {B:List (List zJ)} {inst:Int} {sd:Bool} {price q:Int} {t:qF} {B':List (List zJ)} (hq:1≤q) (h:jH p B inst sd price q=some (t,B')):
 xP p B inst sd price q=⟨t::(xP p B' inst sd price (q-t.qty)).steps,(xP p B' inst sd price (q-t.qty)).left,(xP p B' inst sd price (q-t.qty)).B⟩:=by
 have ht:=mQ hq h
 rw[xP]
 cases hn:q.toNat with
 |zero=>omega
 |succ n=>
  rw[pC,if_neg (by omega),h]
  dsimp only
  rw[zIb n (q-t.qty).toNat B' (q-t.qty) (by omega) (Nat.le_refl _)]
  rfl
open Go Cv Go.Proofs
theorem jV {s:Int} (h:s=1∨s=2):zB (decide (s=2))=s:=by
 rcases h with rfl|rfl<;>rfl
theorem yDl (i:RunI) (h:runC.cnd i):z7l i:=by
 obtain⟨hR,hB,⟨h0,h1⟩,hq1,hq2⟩:i.s.Rep i.p i.B∧BOk i.p i.B∧(0≤i.inst∧i.inst<i.B.length)∧1≤i.q∧i.q≤1000000:=h
 have hbl:=hR.bl
 have hcl:=xJ i.p
 have hbB:=hB.bl
 unfold z7l zIy fF
 refine(fun hT=>zU (fun c=>zU (fun c2=>Cv.cnd.mk (fun _=>zU (fun _=>Cv.cnd.mk (fun e=>absurd hq2 (by simpa using e)) (fun _=>hT)) (fun e=>absurd hq1 e)) (fun e1=>Cv.cnd.mk (fun _=>zU (fun _=>Cv.cnd.mk (fun e=>absurd hq2 (by simpa using e)) (fun _=>hT)) (fun e=>absurd hq1 e)) (fun e2=>by
  rcases gU i.sd with e|e
  ·rw[e]at e1;cases e1
  ·rw[e]at e2;cases e2))) (fun c2=>absurd (by omega) c2)) (fun c=>absurd h0 c)) ?_
 refine⟨⟨i.s,i.B,[],i.q⟩,rfl,rfl,rfl,rfl,rfl,rfl,rfl,rfl,rfl,rfl,rfl,rfl,rfl,rfl,rfl,fun j=>j.s.Rep i.p j.B∧BOk i.p j.B∧j.B.length=i.B.length∧(0≤j.q∧j.q≤i.q)∧(j.steps.length:Int)≤i.q-j.q∧i.r=⟨j.steps++(xP i.p j.B i.inst i.sd i.price j.q).steps,(xP i.p j.B i.inst i.sd i.price j.q).left,(xP i.p j.B i.inst i.sd i.price j.q).B⟩,fun j=>j.q.toNat,⟨hR,hB,rfl,⟨by dsimp only;omega,Int.le_refl _⟩,by dsimp only;simp,rfl⟩,?_⟩
 rintro⟨s,B,st,q⟩ ⟨r1,r2,r3,⟨r4,r4'⟩,r5,r6⟩
 dsimp only at r1 r2 r3 r4 r4' r5 r6 ⊢
 have hno (hn:q≤0∨jH i.p B i.inst i.sd i.price q=none):∃(o:MSt),i.r.left=q∧AObj.adt MSt (5:Nat) z8 o=AObj.adt MSt (5:Nat) z8 s∧List.map xZ i.r.steps=List.map xZ st∧o.Rep i.p i.r.B:=by
  rw[wF hn,List.append_nil]at r6
  rw[r6];exact⟨s,rfl,rfl,rfl,r1⟩
 refine zU (fun c=> ?_) (fun c=>hno (.inl (by omega)))
 have c:0<q:=c
 refine⟨i.sd,rfl,trivial,fun _ _=>⟨⟨s,i.p,B,i.inst,!i.sd⟩,rfl,rfl,rfl,⟨r1,r2,h0,by dsimp only;omega⟩,fun _ _=> ?_⟩⟩
 dsimp only
 have hni:=zOc r2 r1.ords (inst:=i.inst) ⟨h0,by omega⟩ (gU (!i.sd))
 have hsb:jH i.p B i.inst i.sd i.price q=(if((zN i.p B i.inst (zB (!i.sd))).2.2 && (wY i.sd i.price (zN i.p B i.inst (zB (!i.sd))).1.price && decide (1≤(zN i.p B i.inst (zB (!i.sd))).1.qty)))=true then
  if(zN i.p B i.inst (zB (!i.sd))).2.1=true then
   some (⟨(zN i.p B i.inst (zB (!i.sd))).1.price,min q (zN i.p B i.inst (zB (!i.sd))).1.qty,true,yO i.p B (zN i.p B i.inst (zB (!i.sd))).1.a.inst (zN i.p B i.inst (zB (!i.sd))).1.a.side (min q (zN i.p B i.inst (zB (!i.sd))).1.qty)++yO i.p (y8 B (yO i.p B (zN i.p B i.inst (zB (!i.sd))).1.a.inst (zN i.p B i.inst (zB (!i.sd))).1.a.side (min q (zN i.p B i.inst (zB (!i.sd))).1.qty))) (zN i.p B i.inst (zB (!i.sd))).1.b.inst (zN i.p B i.inst (zB (!i.sd))).1.b.side (min q (zN i.p B i.inst (zB (!i.sd))).1.qty)⟩,y8 (y8 B (yO i.p B (zN i.p B i.inst (zB (!i.sd))).1.a.inst (zN i.p B i.inst (zB (!i.sd))).1.a.side (min q (zN i.p B i.inst (zB (!i.sd))).1.qty))) (yO i.p (y8 B (yO i.p B (zN i.p B i.inst (zB (!i.sd))).1.a.inst (zN i.p B i.inst (zB (!i.sd))).1.a.side (min q (zN i.p B i.inst (zB (!i.sd))).1.qty))) (zN i.p B i.inst (zB (!i.sd))).1.b.inst (zN i.p B i.inst (zB (!i.sd))).1.b.side (min q (zN i.p B i.inst (zB (!i.sd))).1.qty)))
  else some (⟨(zN i.p B i.inst (zB (!i.sd))).1.price,min q (zN i.p B i.inst (zB (!i.sd))).1.qty,false,yO i.p B i.inst (zB (!i.sd)) (min q (zN i.p B i.inst (zB (!i.sd))).1.qty)⟩,y8 B (yO i.p B i.inst (zB (!i.sd)) (min q (zN i.p B i.inst (zB (!i.sd))).1.qty)))else none):=rfl
 generalize zN i.p B i.inst (zB (!i.sd))=nb at hni hsb ⊢
 refine Cv.cnd.mk (fun n1=> ?_) (fun n1=>⟨⟨i.sd,i.price,nb.1.price⟩,rfl,rfl,rfl,trivial,fun _ _=>Cv.cnd.mk (fun n2=> ?_) (fun n2=> ?_)⟩)
 ·have n1:nb.2.2=false:=by simpa using n1
  rw[n1,if_neg (by simp)]at hsb
  exact hno (.inr hsb)
 ·have n2:wY i.sd i.price nb.1.price=false:=by simpa using n2
  rw[n2,if_neg (by simp)]at hsb
  exact hno (.inr hsb)
 have n1:nb.2.2=true:=by simpa using n1
 have n2:wY i.sd i.price nb.1.price=true:=by simpa using n2
 obtain⟨⟨b1,b2⟩,hi,hr⟩:=hni n1
 rw[n1,n2,decide_eq_true b1,if_pos (by rfl)]at hsb
 have hk:yI (min q nb.1.qty):=by constructor<;>omega
 have hsl:(st.length+1)*48≤70368744177664:=by omega
 have beh:∀(t:qF) (B':List (List zJ)) (s':MSt),jH i.p B i.inst i.sd i.price q=some (t,B')→s'.Rep i.p B'→BOk i.p B'→B'.length=B.length→
  (s'.Rep i.p B'∧BOk i.p B'∧B'.length=i.B.length∧(0≤q-t.qty∧q-t.qty≤i.q)∧((st++[t]).length:Int)≤i.q-(q-t.qty)∧i.r=⟨(st++[t])++(xP i.p B' i.inst i.sd i.price (q-t.qty)).steps,(xP i.p B' i.inst i.sd i.price (q-t.qty)).left,(xP i.p B' i.inst i.sd i.price (q-t.qty)).B⟩)∧(q-t.qty).toNat<q.toNat:=by
  intro t B' s' h1 h2 h3 h4
  have ht:=mQ (by omega) h1
  refine⟨⟨h2,h3,by omega,⟨by omega,by omega⟩,by rw[List.length_append,List.length_singleton];omega,?_⟩,by omega⟩
  rw[fP (by omega) h1]at r6
  rw[r6,List.append_assoc];rfl
 refine Cv.cnd.mk (fun n3=> ?_) (fun n3=> ?_)
 ·obtain⟨_,ok⟩:=hi n3
  rw[n3,if_pos rfl]at hsb
  have oka:=ok.a
  have okb:=ok.b
  rw[List.length_map]at oka okb
  have ea:=jV ok.sa
  have eb:=jV ok.sb
  refine⟨⟨s,i.p,B,nb.1.a.inst,decide (nb.1.a.side=2),min q nb.1.qty⟩,rfl,ea,rfl,rfl,⟨r1,r2,oka.1,oka.2,hk⟩,fun s1 hs1=> ?_⟩
  dsimp only at hs1 ⊢
  rw[ea]at hs1 ⊢
  have l1:=u7 (p:=i.p) r1.ords nb.1.a.inst nb.1.a.side (min q nb.1.qty)
  have hB1:=r2.takes (fs:=yO i.p B nb.1.a.inst nb.1.a.side (min q nb.1.qty))
  have l2:=u7 (p:=i.p) hs1.ords nb.1.b.inst nb.1.b.side (min q nb.1.qty)
  refine⟨trivial,by rw[List.length_map];omega,⟨s1,i.p,y8 B (yO i.p B nb.1.a.inst nb.1.a.side (min q nb.1.qty)),nb.1.b.inst,decide (nb.1.b.side=2),min q nb.1.qty⟩,rfl,eb,rfl,rfl,⟨hs1,hB1,okb.1,by dsimp only;rw[kW];exact okb.2,hk⟩,fun s2 hs2=> ?_⟩
  dsimp only at hs2 ⊢
  rw[eb]at hs2 ⊢
  obtain⟨g1,g2⟩:=beh _ _ s2 hsb hs2 hB1.takes (by rw[kW,kW])
  refine⟨trivial,by rw[List.length_map,List.length_map];omega,by rw[List.length_map];exact hsl,⟨s2,_,st++[_],_⟩,?_,rfl,?_,g1,g2,by(repeat'(first|exact trivial|exact rfl|apply And.intro))⟩
  ·dsimp only;rw[w64 (by omega)]
  ·dsimp only
   rw[List.map_append,n3]
   simp[xZ]
 ·rw[n3,if_neg (by decide)]at hsb
  refine⟨i.sd,rfl,trivial,fun _ _=>⟨rfl,⟨s,i.p,B,i.inst,!i.sd,min q nb.1.qty⟩,rfl,rfl,rfl,rfl,⟨r1,r2,h0,by dsimp only;omega,hk⟩,fun s1 hs1=> ?_⟩⟩
  dsimp only at hs1 ⊢
  obtain⟨g1,g2⟩:=beh _ _ s1 hsb hs1 r2.takes (by rw[kW])
  refine⟨by rw[List.length_map];exact hsl,⟨s1,_,st++[_],_⟩,?_,rfl,?_,g1,g2,by(repeat'(first|exact trivial|exact rfl|apply And.intro))⟩
  ·dsimp only;rw[w64 (by omega)]
  ·dsimp only
   rw[List.map_append,n3]
   simp[xZ]
theorem zJo:runC.ok Tryz.prog 56:=yAy (gokc zZa (gokc l7 (gokc zHb (gokc zVe gok0)))) yDl
open Go Cv Go.Proofs
structure Ask where
 kind:Int
 inst:Int
 side:Int
 id:Int
 price:Int
 qty:Int
 deriving DecidableEq
@[reducible] def Ask.cells (c:Ask):List V:=[zC c.kind,zC c.inst,zC c.side,zC c.id,zC c.price,zC c.qty]
@[reducible] def Ask.raw (c:Ask):Prop:=yI c.kind∧yI c.inst∧yI c.side∧yI c.id∧yI c.price∧yI c.qty
structure SmI where
 p:Prd
 x:Ask
 i:Int
open Go Cv Go.Proofs
open Go Cv Go.Proofs
theorem zXo {L:List zJ} {s id p q:Int} {o:zJ} (h:o∈cY L s id p q):o.price=p∨∃o'∈L,o.price=o'.price:=by
 have key:∀X:List zJ,(o∈X.takeWhile (before s p)++⟨id,s,p,q,qD L s p⟩::X.dropWhile (before s p))→o.price=p∨o∈X:=by
  intro X hX
  rcases List.mem_append.1 hX with hX|hX
  ·exact .inr (List.takeWhile_sublist _|>.subset hX)
  ·rcases List.mem_cons.1 hX with rfl|hX
   ·exact .inl rfl
   ·exact .inr (List.dropWhile_sublist _|>.subset hX)
 rw[cY]at h
 split at h
 ·rcases key _ h with h|h
  ·exact .inl h
  ·obtain⟨o',ho',_,_,e,_⟩:=zOj h
   exact .inr ⟨o',ho',e⟩
 ·rcases key _ h with h|h
  ·exact .inl h
  ·exact .inr ⟨o,h,rfl⟩
theorem BOk.add {p:Prd} {B:List (List zJ)} (h:BOk p B) (inst id s price q:Int):BOk p (cK p B inst id s price q).1:=by
 rw[cK]
 split
 ·exact h
 split
 ·exact h
 split
 ·exact h
 split
 ·exact h
 rename_i c1 _ _ c4
 have c4:p.price inst price=0:=by simpa using c4
 refine⟨h.pc,h.ps,by simpa using h.bl,fun k L hL o ho=> ?_⟩
 dsimp only at hL
 rcases vI hL with⟨rfl,rfl⟩|⟨_,hL⟩
 ·obtain⟨L',hL'⟩:=yD (l:=B) (i:=inst.toNat) (by omega)
  rw[zX hL',cS]at ho
  have e:((inst.toNat:Nat):Int)=inst:=by omega
  repeat' split at ho
  ·exact h.pr _ L' hL' o ho
  ·exact h.pr _ L' hL' o ho
  ·exact h.pr _ L' hL' o ho
  ·rcases zXo ho with h1|⟨o',ho',h1⟩
   ·rw[h1,e];exact c4
   ·rw[h1];exact h.pr _ L' hL' o' ho'
 ·exact h.pr k L hL o ho
theorem BOk.new {p:Prd} (hc:p.check=0) (hp:p.small):BOk p (List.replicate p.count []):=by
 refine⟨hc,hp,by simp,fun k L hL o ho=> ?_⟩
 rw[List.eq_of_mem_replicate (List.mem_of_getElem? hL)]at ho
 cases ho
theorem MSt.Rep.fit {s:MSt} {p:Prd} {B:List (List zJ)} (h:s.Rep p B) (hb:BOk p B):s.fit:=by
 have:=xJ p
 refine⟨by rw[h.ep];exact hb.ps,by rw[h.bl,hb.bl];omega,fun b hm=> ?_⟩
 obtain⟨k,hk⟩:=List.mem_iff_getElem?.1 hm
 have hlt:=(List.getElem?_eq_some_iff.1 hk).1
 rw[h.bl]at hlt
 obtain⟨L,hL⟩:=yD hlt
 exact(h.bk k b L hk hL).fit
open Go Cv Go.Proofs
def e7 (r:Nat):Bool:=decide (32≤r) && decide (r≠127) && decide (r≠65533)
def wV (s:List UInt8):Bool:=(k8 s).all e7 && decide (1≤(k8 s).length) && decide ((k8 s).length≤12)
def labC:Con:=con1 (List UInt8) (fun s=>[sV s]) (fun _=>[]) (fun s=>s.length≤140737488355328) (fun s=>yJ (wV s)) (fun _=>[])
def yDe (s:List UInt8):List SAnn:=[{ι:=Nat×Nat,slots:=fun x=>[(3,zC x.2),(7,.nm 0 0)],rows:=fun x=>[.iter (sb s) x.1]}]
def wA (n:Int):Bool:=decide (-2000000≤n) && decide (n≤2000000)
def xW (n:Int):Bool:=decide (1≤n) && decide (n≤1000000)
def Cmd.orderE (c:Cmd):Int:=
 if c.side≠1∧c.side≠2 then 21 else if c.time<1∨3<c.time then 27 else if xW c.qty=false then 24 else if c.least<0∨c.qty<c.least then 28
 else if c.label≠[]∧wV c.label=false then 29 else if wA c.price=false then 23 else if c.inst<0∨255<c.inst then 20 else 0
def Cmd.right (c:Cmd):Int:=
 if c.kind<1∨4<c.kind then 31 else if c.id<1∨1099511627776<c.id then 1 else if c.kind=1 then c.orderE
 else if c.kind≠2∧xW c.qty=false then 24 else if c.kind=4∧wA c.price=false then 23 else 0
def cmdOrdC:Con:=con1 Cmd (fun c=>[m8 c]) (fun _=>[]) (fun c=>c.label.length≤140737488355328) (fun c=>zC c.orderE) (fun _=>[])
def cmdRtC:Con:=con1 Cmd (fun c=>[m8 c]) (fun _=>[]) (fun c=>c.label.length≤140737488355328) (fun c=>zC c.right) (fun _=>[])
open Go Cv Go.Proofs
def z5v (s:List UInt8):Prop:=
 ∃(i0:Nat×Nat),(↑i0.snd:Int)=0∧sb s=sb s∧i0.fst=0∧∃(I:Nat×Nat→Prop),∃(μ:Nat×Nat→Nat),I i0∧∀(i:Nat×Nat),I i→cnd (i.fst.blt (sb s).size) (cnd (decide ((↑(Utf8.decode (sb s) i.fst).fst:Int)<32)) (∃(o:Unit),wV s=false∧True) (cnd ((↑(Utf8.decode (sb s) i.fst).fst:Int)==127) (∃(o:Unit),wV s=false∧True) (cnd ((↑(Utf8.decode (sb s) i.fst).fst:Int)==65533) (∃(o:Unit),wV s=false∧True) (∃(i':Nat×Nat),(↑i'.snd:Int)=IntKind.i64.wrap ((↑i.snd:Int)+1)∧sb s=sb s∧i'.fst=i.fst+(Utf8.decode (sb s) i.fst).snd∧I i'∧μ i'<μ i∧True)))) (cnd (decide ((↑i.snd:Int)≥1)) (∃(o:Unit),wV s=decide ((↑i.snd:Int)≤12)∧True) (∃(o:Unit),wV s=false∧True))
theorem yAq (hG:GOk Tryz.prog ([])) (h:∀(s:List UInt8),labC.cnd s→z5v s):labC.ok Tryz.prog 96:=okw mixed hG 0 (fun _=>[]) (fun s=>yDe s) [] Tryz.func96 h
@[reducible] def zDt (c:Cmd):Prop:=∃(i:List UInt8),sb i=sb c.label∧i.length≤140737488355328∧∀(o:Unit),True→cnd (!wV i) (∃(o:Unit),c.orderE=29∧True) (cnd (decide (c.price≥(-2000000))) (cnd (!decide (c.price≤2000000)) (∃(o:Unit),c.orderE=23∧True) (cnd (decide (c.inst<0)) (∃(o:Unit),c.orderE=20∧True) (cnd (decide (c.inst>255)) (∃(o:Unit),c.orderE=20∧True) (∃(o:Unit),c.orderE=0∧True)))) (∃(o:Unit),c.orderE=23∧True))
def zSx (c:Cmd):Prop:=
 cnd (c.side !=1) (cnd (c.side !=2) (∃(o:Unit),c.orderE=21∧True) (cnd (decide (c.time<1)) (∃(o:Unit),c.orderE=27∧True) (cnd (decide (c.time>3)) (∃(o:Unit),c.orderE=27∧True) (cnd (decide (c.qty≥1)) (cnd (!decide (c.qty≤1000000)) (∃(o:Unit),c.orderE=24∧True) (cnd (decide (c.least<0)) (∃(o:Unit),c.orderE=28∧True) (cnd (decide (c.least>c.qty)) (∃(o:Unit),c.orderE=28∧True) (cnd (!(sb c.label).toList==(ByteArray.mk #[]).toList) (zDt c) (cnd (decide (c.price≥(-2000000))) (cnd (!decide (c.price≤2000000)) (∃(o:Unit),c.orderE=23∧True) (cnd (decide (c.inst<0)) (∃(o:Unit),c.orderE=20∧True) (cnd (decide (c.inst>255)) (∃(o:Unit),c.orderE=20∧True) (∃(o:Unit),c.orderE=0∧True)))) (∃(o:Unit),c.orderE=23∧True)))))) (∃(o:Unit),c.orderE=24∧True))))) (cnd (decide (c.time<1)) (∃(o:Unit),c.orderE=27∧True) (cnd (decide (c.time>3)) (∃(o:Unit),c.orderE=27∧True) (cnd (decide (c.qty≥1)) (cnd (!decide (c.qty≤1000000)) (∃(o:Unit),c.orderE=24∧True) (cnd (decide (c.least<0)) (∃(o:Unit),c.orderE=28∧True) (cnd (decide (c.least>c.qty)) (∃(o:Unit),c.orderE=28∧True) (cnd (!(sb c.label).toList==(ByteArray.mk #[]).toList) (zDt c) (cnd (decide (c.price≥(-2000000))) (cnd (!decide (c.price≤2000000)) (∃(o:Unit),c.orderE=23∧True) (cnd (decide (c.inst<0)) (∃(o:Unit),c.orderE=20∧True) (cnd (decide (c.inst>255)) (∃(o:Unit),c.orderE=20∧True) (∃(o:Unit),c.orderE=0∧True)))) (∃(o:Unit),c.orderE=23∧True)))))) (∃(o:Unit),c.orderE=24∧True))))
theorem z7x (hG:GOk Tryz.prog ([(96,labC)])) (h:∀(c:Cmd),cmdOrdC.cnd c→zSx c):cmdOrdC.ok Tryz.prog 69:=okw mixed hG 1 (fun _=>[]) (fun _=>[]) [] Tryz.func69 h
def zIm (c:Cmd):Prop:=
 cnd (decide (c.kind<1)) (∃(o:Unit),c.right=31∧True) (cnd (decide (c.kind>4)) (∃(o:Unit),c.right=31∧True) (cnd (decide (c.id<1)) (∃(o:Unit),c.right=1∧True) (cnd (decide (c.id>1099511627776)) (∃(o:Unit),c.right=1∧True) (cnd (c.kind==1) (∃(i:Cmd),i.kind=c.kind∧i.id=c.id∧i.inst=c.inst∧i.side=c.side∧i.price=c.price∧i.qty=c.qty∧i.least=c.least∧i.time=c.time∧sb i.label=sb c.label∧i.label.length≤140737488355328∧∀(o:Unit),True→∃(o:Unit),c.right=i.orderE∧True) (cnd (c.kind !=2) (cnd (decide (c.qty≥1)) (cnd (!decide (c.qty≤1000000)) (∃(o:Unit),c.right=24∧True) (cnd (c.kind==4) (cnd (decide (c.price≥(-2000000))) (cnd (!decide (c.price≤2000000)) (∃(o:Unit),c.right=23∧True) (∃(o:Unit),c.right=0∧True)) (∃(o:Unit),c.right=23∧True)) (∃(o:Unit),c.right=0∧True))) (∃(o:Unit),c.right=24∧True)) (cnd (c.kind==4) (cnd (decide (c.price≥(-2000000))) (cnd (!decide (c.price≤2000000)) (∃(o:Unit),c.right=23∧True) (∃(o:Unit),c.right=0∧True)) (∃(o:Unit),c.right=23∧True)) (∃(o:Unit),c.right=0∧True)))))))
theorem z2r (hG:GOk Tryz.prog ([(69,cmdOrdC)])) (h:∀(c:Cmd),cmdRtC.cnd c→zIm c):cmdRtC.ok Tryz.prog 38:=okw mixed hG 1 (fun _=>[]) (fun _=>[]) [] Tryz.func38 h
open Go Cv Go.Proofs
theorem yEc (s:List UInt8) (h:labC.cnd s):z5v s:=by
 have h:s.length≤140737488355328:=h
 have hr:=lX s
 unfold z5v
 refine⟨(0,0),rfl,rfl,rfl,fun x=>x.1≤s.length∧x.2+(wI s x.1).length=(k8 s).length∧(k8 s).all e7=(wI s x.1).all fun x=>e7 x.2,fun x=>s.length-x.1,⟨by omega,by rw[k8,List.length_map];simp,by rw[k8,List.all_map];rfl⟩,?_⟩
 rintro⟨p,n⟩ ⟨h1,h2,h3⟩
 dsimp only at h1 h2 h3 ⊢
 refine Cv.cnd.mk (fun hp=> ?_) (fun hp=> ?_)
 ·have hp:p<s.length:=by simpa[Nat.blt_eq]using hp
  have hw:=u0 s hp
  rw[vA hp,List.length_cons]at h2
  rw[vA hp,List.all_cons]at h3
  generalize hc:(Utf8.decode (sb s) p).1=c at h2 h3 ⊢
  generalize hww:(Utf8.decode (sb s) p).2=w at h2 h3 hw ⊢
  dsimp only at h3
  have bad:e7 c=false→∃(o:Unit),wV s=false∧True:=fun e=>⟨(),by rw[wV,h3,e];rfl,trivial⟩
  refine zU (fun c1=>bad ?_) (fun c1=>Cv.cnd.mk (fun c2=>bad ?_) (fun c2=>Cv.cnd.mk (fun c3=>bad ?_) (fun c3=> ?_)))
  ·simp[e7];omega
  ·have c2:(c:Int)=127:=by simpa using c2
   simp[e7];omega
  ·have c3:(c:Int)=65533:=by simpa using c3
   simp[e7];omega
  ·have c2:¬(c:Int)=127:=by simpa using c2
   have c3:¬(c:Int)=65533:=by simpa using c3
   have e:e7 c=true:=by simp[e7];omega
   refine⟨(p+w,n+1),?_,rfl,rfl,⟨hw.2,by(first|omega|(dsimp only;omega)),by rw[h3,e];rfl⟩,by(first|omega|(dsimp only;omega)),trivial⟩
   rw[w64 (by omega)];rfl
 ·have hp:s.length≤p:=by have:=zTr hp;simpa using this
  rw[v7 hp]at h2 h3
  have h2:n=(k8 s).length:=h2
  have h3:(k8 s).all e7=true:=h3
  refine zU (fun c=>⟨(),?_,trivial⟩) (fun c=>⟨(),?_,trivial⟩)
  ·rw[wV,h3,← h2,decide_eq_true (show 1≤n by omega)]
   simp only[Bool.true_and]
   congr 1
   simp only[eq_iff_iff];omega
  ·rw[wV,← h2,decide_eq_false (show ¬1≤n by omega)];simp
theorem z7e:labC.ok Tryz.prog 96:=yAq gok0 yEc
theorem yDn (a b:Int):(a==b)=decide (a=b):=by
 by_cases h:a=b
 ·subst h;simp
 ·simp[h]
theorem yBd (a b:Int):(a !=b)=decide (a≠b):=by
 by_cases h:a=b
 ·subst h;simp
 ·simp[h]
theorem eqB (a b:List UInt8):((sb a).toList==(sb b).toList)=decide (a=b):=by
 rw[uV,uV]
 by_cases h:a=b
 ·subst h;simp
 ·simp[h]
theorem z5b:ByteArray.mk #[]=sb []:=rfl
theorem yCn (c:Cmd) (h:cmdOrdC.cnd c):zSx c:=by
 have h:c.label.length≤140737488355328:=h
 unfold zSx zDt
 simp only[z5b,eqB,yBd]
 have tail:¬(c.side≠1∧c.side≠2)→cnd (decide (c.time<1)) (∃(o:Unit),c.orderE=27∧True) (cnd (decide (c.time>3)) (∃(o:Unit),c.orderE=27∧True) (cnd (decide (c.qty≥1)) (cnd (!decide (c.qty≤1000000)) (∃(o:Unit),c.orderE=24∧True) (cnd (decide (c.least<0)) (∃(o:Unit),c.orderE=28∧True) (cnd (decide (c.least>c.qty)) (∃(o:Unit),c.orderE=28∧True) (cnd (!decide (c.label=[])) (∃(i:List UInt8),sb i=sb c.label∧i.length≤140737488355328∧∀(o:Unit),True→cnd (!wV i) (∃(o:Unit),c.orderE=29∧True) (cnd (decide (c.price≥-2000000)) (cnd (!decide (c.price≤2000000)) (∃(o:Unit),c.orderE=23∧True) (cnd (decide (c.inst<0)) (∃(o:Unit),c.orderE=20∧True) (cnd (decide (c.inst>255)) (∃(o:Unit),c.orderE=20∧True) (∃(o:Unit),c.orderE=0∧True)))) (∃(o:Unit),c.orderE=23∧True))) (cnd (decide (c.price≥-2000000)) (cnd (!decide (c.price≤2000000)) (∃(o:Unit),c.orderE=23∧True) (cnd (decide (c.inst<0)) (∃(o:Unit),c.orderE=20∧True) (cnd (decide (c.inst>255)) (∃(o:Unit),c.orderE=20∧True) (∃(o:Unit),c.orderE=0∧True)))) (∃(o:Unit),c.orderE=23∧True)))))) (∃(o:Unit),c.orderE=24∧True))):=by
  intro hs
  have e1:c.orderE=if c.time<1∨3<c.time then 27 else if xW c.qty=false then 24 else if c.least<0∨c.qty<c.least then 28
   else if c.label≠[]∧wV c.label=false then 29 else if wA c.price=false then 23 else if c.inst<0∨255<c.inst then 20 else 0:=by rw[Cmd.orderE,if_neg hs]
  refine zU (fun d1=>⟨(),by rw[e1,if_pos (.inl d1)],trivial⟩) fun d1=>zU (fun d2=>⟨(),by rw[e1,if_pos (.inr d2)],trivial⟩) fun d2=> ?_
  rw[if_neg (by omega)]at e1
  have q (hq:xW c.qty=false):∃(o:Unit),c.orderE=24∧True:=⟨(),by rw[e1,if_pos hq],trivial⟩
  refine zU (fun d3=>Cv.cnd.mk (fun d4=>q ?_) fun d4=> ?_) fun d3=>q ?_
  ·have d4:¬c.qty≤1000000:=by simpa using d4
   simp[xW,d4]
  ·have d4:c.qty≤1000000:=by simpa using d4
   have hq:¬xW c.qty=false:=by simp[xW,d4];omega
   rw[if_neg hq]at e1
   refine zU (fun d5=>⟨(),by rw[e1,if_pos (.inl d5)],trivial⟩) fun d5=>zU (fun d6=>⟨(),by rw[e1,if_pos (.inr d6)],trivial⟩) fun d6=> ?_
   rw[if_neg (by omega)]at e1
   have last:¬(c.label≠[]∧wV c.label=false)→cnd (decide (c.price≥-2000000)) (cnd (!decide (c.price≤2000000)) (∃(o:Unit),c.orderE=23∧True) (cnd (decide (c.inst<0)) (∃(o:Unit),c.orderE=20∧True) (cnd (decide (c.inst>255)) (∃(o:Unit),c.orderE=20∧True) (∃(o:Unit),c.orderE=0∧True)))) (∃(o:Unit),c.orderE=23∧True):=by
    intro hl
    rw[if_neg hl]at e1
    have pr (hq:wA c.price=false):∃(o:Unit),c.orderE=23∧True:=⟨(),by rw[e1,if_pos hq],trivial⟩
    refine zU (fun g1=>Cv.cnd.mk (fun g2=>pr ?_) fun g2=> ?_) fun g1=>pr ?_
    ·have g2:¬c.price≤2000000:=by simpa using g2
     simp[wA,g2]
    ·have g2:c.price≤2000000:=by simpa using g2
     have hp:¬wA c.price=false:=by simp[wA,g2];omega
     rw[if_neg hp]at e1
     refine zU (fun g3=>⟨(),by rw[e1,if_pos (.inl g3)],trivial⟩) fun g3=>zU (fun g4=>⟨(),by rw[e1,if_pos (.inr g4)],trivial⟩) fun g4=>⟨(),by rw[e1,if_neg (by omega)],trivial⟩
    ·simp[wA];omega
   refine Cv.cnd.mk (fun d7=>⟨c.label,rfl,h,fun _ _=>Cv.cnd.mk (fun d8=> ?_) fun d8=>last ?_⟩) fun d7=>last ?_
   ·have d7:¬c.label=[]:=by simpa using d7
    have d8:wV c.label=false:=by simpa using d8
    exact⟨(),by rw[e1,if_pos ⟨d7,d8⟩],trivial⟩
   ·have d8:wV c.label=true:=by simpa using d8
    simp[d8]
   ·have d7:c.label=[]:=by simpa using d7
    simp[d7]
  ·simp[xW];omega
 refine zU (fun c1=>zU (fun c2=>⟨(),by rw[Cmd.orderE,if_pos ⟨c1,c2⟩],trivial⟩) fun c2=>tail ?_) fun c1=>tail ?_
 ·omega
 ·omega
theorem z0m:cmdOrdC.ok Tryz.prog 69:=z7x (gokc z7e gok0) yCn
theorem yAb (c:Cmd) (h:cmdRtC.cnd c):zIm c:=by
 have h:c.label.length≤140737488355328:=h
 unfold zIm
 simp only[yDn,yBd]
 refine zU (fun c1=>⟨(),by rw[Cmd.right,if_pos (.inl c1)],trivial⟩) fun c1=>zU (fun c2=>⟨(),by rw[Cmd.right,if_pos (.inr c2)],trivial⟩) fun c2=> ?_
 refine zU (fun c3=>⟨(),by rw[Cmd.right,if_neg (by omega),if_pos (.inl c3)],trivial⟩) fun c3=>zU (fun c4=>⟨(),by rw[Cmd.right,if_neg (by omega),if_pos (.inr c4)],trivial⟩) fun c4=> ?_
 have e0:c.right=if c.kind=1 then c.orderE else if c.kind≠2∧xW c.qty=false then 24 else if c.kind=4∧wA c.price=false then 23 else 0:=by rw[Cmd.right,if_neg (by omega),if_neg (by omega)]
 refine zU (fun c5=>⟨c,?_⟩) fun c5=> ?_
 ·rw[if_pos c5]at e0
  exact kp
 rw[if_neg c5]at e0
 have last (hn:¬(c.kind≠2∧xW c.qty=false)):cnd (decide (c.kind=4)) (cnd (decide (c.price≥-2000000)) (cnd (!decide (c.price≤2000000)) (∃(o:Unit),c.right=23∧True) (∃(o:Unit),c.right=0∧True)) (∃(o:Unit),c.right=23∧True)) (∃(o:Unit),c.right=0∧True):=by
  rw[if_neg hn]at e0
  refine zU (fun d1=>zU (fun d2=>Cv.cnd.mk (fun d3=> ?_) fun d3=> ?_) fun d2=> ?_) fun d1=> ?_
  ·have d3:¬c.price≤2000000:=by simpa using d3
   exact⟨(),by rw[e0,if_pos ⟨d1,by simp[wA,d3]⟩],trivial⟩
  ·have d3:c.price≤2000000:=by simpa using d3
   exact⟨(),by rw[e0,if_neg (by simp[wA,d3];omega)],trivial⟩
  ·exact⟨(),by rw[e0,if_pos ⟨d1,by simp[wA];omega⟩],trivial⟩
  ·exact⟨(),by rw[e0,if_neg (by simp[d1])],trivial⟩
 refine zU (fun d1=>zU (fun d2=>Cv.cnd.mk (fun d3=> ?_) fun d3=>last ?_) fun d2=> ?_) fun d1=>last ?_
 ·have d3:¬c.qty≤1000000:=by simpa using d3
  exact⟨(),by rw[e0,if_pos ⟨d1,by simp[xW,d3]⟩],trivial⟩
 ·have d3:c.qty≤1000000:=by simpa using d3
  simp[xW,d3];omega
 ·exact⟨(),by rw[e0,if_pos ⟨d1,by simp[xW];omega⟩],trivial⟩
 ·omega
theorem zTl:cmdRtC.ok Tryz.prog 38:=z2r (gokc z0m gok0) yAb
open Go Cv Go.Proofs
structure SoI where
 s:MSt
 p:Prd
 B:List (List zJ)
 inst:Int
 sd:Bool
@[reducible] def SoI.ok (i:SoI):Prop:=i.s.Rep i.p i.B∧i.B.length≤1000
open Go Cv Go.Proofs
open Go Cv Go.Proofs
open Go Cv Go.Proofs
def zQe (s:Int) (F:List zJ):Prop:=F.Pairwise fun o o'=>btr s o'.price o.price=false
def dC (L:List zJ) (s:Int):List zJ:=L.filter fun o=>decide (o.side=s)
structure BWf (p:Prd) (B:List (List zJ)):Prop where
 ok:BOk p B
 od:z2o B
 ub:((whL 0 B).map (·.1)).Nodup
 srt:∀(k:Nat) (L:List zJ),B[k]? =some L→∀s,s=1∨s=2→zQe s (dC L s)
theorem zGl {s:Int} {b:Book} {Q:List (List Nat)}:∀{R:List yX},(R.Pairwise fun r r'=>btr s r.price r'.price=true)→zQe s (R.flatMap (b.rOrds Q s))
 |[],_=>List.Pairwise.nil
 |r::R,h=>by
  rw[List.pairwise_cons]at h
  rw[List.flatMap_cons,zQe,List.pairwise_append]
  refine⟨List.pairwise_of_forall_mem_list fun o ho o' ho'=> ?_,zGl h.2,fun o ho o' ho'=> ?_⟩
  ·rw[(xD ho).2,(xD ho').2];exact dP _ _
  ·obtain⟨r',hr',ho'⟩:=List.mem_flatMap.1 ho'
   rw[(xD ho).2,(xD ho').2];exact zIa (h.1 r' hr')
theorem Book.Rep.srt {b:Book} {L:List zJ} (h:b.Rep L) {s:Int} (hs:s=1∨s=2):zQe s (dC L s):=by
 obtain⟨Q,c,ht,rfl⟩:=h
 rw[dC,lH hs]
 exact zGl (c.srt s hs)
theorem MSt.Rep.wf {s:MSt} {p:Prd} {B:List (List zJ)} (h:s.Rep p B) (hb:BOk p B):BWf p B:=by
 refine⟨hb,h.ords,h.ids,fun k L hL=> ?_⟩
 obtain⟨b,hb⟩:=yD (l:=s.books) (i:=k) (by rw[h.bl];exact(List.getElem?_eq_some_iff.1 hL).1)
 exact fun s hs=>(h.bk k b L hb hL).srt hs
theorem zVp {L:List zJ} (h:∀o∈L,sU o) (hn:(L.map (·.id)).Nodup) (id q:Int):∀o∈(yW L id q).1,sU o:=by
 intro o ho
 rw[yW]at ho
 split at ho
 ·exact h o ho
 split at ho
 ·exact h o ho
 rename_i hb
 obtain⟨o',ho',e⟩:=List.mem_filterMap.1 ho
 have h0:=h o' ho'
 split at e
 ·rename_i e1
  have hg:=vJ hn ho'
  rw[e1]at hg
  rw[hg]at hb
  split at e
  ·cases e
  ·rename_i e2
   cases e
   have:=h0.q
   exact⟨h0.s,by dsimp only;omega⟩
 ·cases e;exact h0
theorem zWg (L:List zJ) (id q:Int):(yW L id q).1.length≤L.length:=by
 rw[yW]
 split
 ·exact Nat.le_refl _
 split
 ·exact Nat.le_refl _
 exact List.length_filterMap_le _ _
theorem zTe {L:List zJ} {s:Int} (h:zQe s (dC L s)) (id q:Int):zQe s (dC (yW L id q).1 s):=by
 rw[yW]
 split
 ·exact h
 split
 ·exact h
 have e:dC (xM L id q) s=xM (dC L s) id q:=by
  rw[dC,dC,xM,xM,List.filter_filterMap,List.filterMap_filter]
  refine vO fun o _=> ?_
  by_cases e1:o.id=id
  ·rw[if_pos e1]
   by_cases e2:o.qty=q
   ·rw[if_pos e2];simp
   ·rw[if_neg e2];by_cases e3:o.side=s<;>simp[Option.filter,e3]
  ·rw[if_neg e1];by_cases e3:o.side=s<;>simp[Option.filter,e3]
 rw[e,xM]
 refine List.Pairwise.filterMap _ (fun a a' haa b hb b' hb'=> ?_) h
 have g:∀{a b:zJ},(if a.id=id then(if a.qty=q then none else some {a with qty:=a.qty-q})else some a)=some b→b.price=a.price:=by
  intro a b e
  split at e
  ·split at e
   ·cases e
   ·cases e;rfl
  ·cases e;rfl
 rw[g hb,g hb'];exact haa
theorem z3j {B:List (List zJ)} (h:((whL 0 B).map (·.1)).Nodup) {k:Nat} {L L':List zJ} (hL:B[k]? =some L) (hs:(L'.map (·.id)).Sublist (L.map (·.id))):((whL 0 (B.set k L')).map (·.1)).Nodup:=by
 have hk:=(List.getElem?_eq_some_iff.1 hL).1
 obtain⟨rest,hr⟩:=pL (B:=B) 0 k hk
 have h0:=hr L
 rw[kB hL]at h0
 have h1:=(h0.map (·.1)).nodup_iff.1 h
 refine((hr L').map (·.1)).nodup_iff.2 ?_
 rw[List.map_append,List.map_map]at h1 ⊢
 exact h1.sublist (List.Sublist.append hs (List.Sublist.refl _))
theorem BWf.take {p:Prd} {B:List (List zJ)} (h:BWf p B) (id q:Int):BWf p (yN B id q).1:=by
 refine⟨h.ok.take id q,?_,?_,?_⟩
 all_goals
  rw[yN]
  cases hi:jI B id with
  |none=>first|exact h.od|exact h.ub|exact h.srt
  |some k=>
   obtain⟨L,hL,hh⟩:=qS hi
   have ho:=h.od k L hL
   dsimp only
   rw[zX hL]
   first
   |(intro j M hM
     rcases vI hM with⟨rfl,rfl⟩|⟨_,hM⟩
     ·refine⟨zVp ho.1 ho.2.1 id q,?_,Nat.le_trans (zWg L id q) ho.2.2⟩
      rcases sL ho.2.1 id q with⟨e,_⟩|⟨e,_⟩
      ·rw[e];exact ho.2.1
      ·rw[e];exact ho.2.1.sublist (List.Sublist.map _ List.filter_sublist)
     ·exact h.od j M hM)
   |(refine z3j h.ub hL ?_
     rcases sL ho.2.1 id q with⟨e,_⟩|⟨e,_⟩
     ·rw[e];exact List.Sublist.refl _
     ·rw[e];exact List.Sublist.map _ List.filter_sublist)
   |(intro j M hM s hs
     rcases vI hM with⟨rfl,rfl⟩|⟨_,hM⟩
     ·exact zTe (h.srt _ L hL s hs) id q
     ·exact h.srt j M hM s hs)
theorem BWf.takes {p:Prd}:∀{fs:List wB} {B:List (List zJ)},BWf p B→BWf p (y8 B fs)
 |[],B,h=>h
 |f::fs,B,h=>BWf.takes (fs:=fs) (h.take f.id f.qty)
theorem BWf.inst {p:Prd} {B:List (List zJ)} (h:BWf p B) {k:Nat} {L:List zJ} (hL:B[k]? =some L) {id:Int} (hid:id∈L.map (·.id)):jI B id=some k:=by
 cases hi:jI B id with
 |none=>
  have:=pZ hi L (List.mem_of_getElem? hL)
  rw[hasId_iff.2 hid]at this;cases this
 |some j=>
  obtain⟨M,hM,hh⟩:=qS hi
  rw[zUb h.ub hM hL (hasId_iff.1 hh) hid]
theorem nP {p:Prd} {k:Nat} {i s:Int}:∀{os:List zJ} {B:List (List zJ)} {L:List zJ},BWf p B→B[k]? =some L→(∀o∈os,o∈L)→(os.map (·.id)).Nodup→
 y8 B (yL i s os (os.map (·.qty)))=B.set k (L.filter fun o=> !decide (o.id∈os.map (·.id)))
 |[],B,L,h,hL,_,_=>by
  show B=_
  have:(L.filter fun o=> !decide (o.id∈([]:List zJ).map (·.id)))=L:=by
   rw[List.filter_eq_self];intro o _;simp
  rw[this,kB hL]
 |o::os,B,L,h,hL,ho,hn=>by
  have ho0:=ho o List.mem_cons_self
  have hod:=h.od k L hL
  have hq:=(hod.1 o ho0).q
  have hk:=(List.getElem?_eq_some_iff.1 hL).1
  rw[List.map_cons,List.nodup_cons]at hn
  have hi:=h.inst hL (List.mem_map_of_mem (f:=(·.id)) ho0)
  have hg:=vJ hod.2.1 ho0
  have hh:yY L o.id=true:=hasId_iff.2 (List.mem_map_of_mem (f:=(·.id)) ho0)
  have ht:(yN B o.id o.qty).1=B.set k (L.filter fun x=> !decide (x.id=o.id)):=by
   simp only[yN,hi,zX hL]
   rw[yW,if_neg (by rw[hh];decide),if_neg (by rw[hg];omega)]
   dsimp only
   have:=mR hod.2.1 hh
   rw[hg]at this
   rw[this]
  rw[List.map_cons,yL,if_pos (show(0:Int)<o.qty by omega)]
  show y8 (yN B o.id o.qty).1 (yL i s os (os.map (·.qty)))=_
  have hW:=h.take o.id o.qty
  rw[ht]at hW ⊢
  rw[nP (L:=L.filter fun x=> !decide (x.id=o.id)) hW (jR hk) (fun x hx=> ?_) hn.2,List.set_set,List.filter_filter]
  ·congr 1
   refine List.filter_congr fun x _=> ?_
   by_cases e:x.id=o.id
   ·simp[e]
   ·simp[e]
  ·refine List.mem_filter.2 ⟨ho x (List.mem_cons_of_mem _ hx),?_⟩
   have:x.id≠o.id:=fun e=>hn.1 (e▸List.mem_map_of_mem (f:=(·.id)) hx)
   simp[this]
theorem lY:∀{sh qs:List Int},sh.length=qs.length→(∀n,sh.getD n 0≤qs.getD n 0)→sh.sum≤qs.sum
 |[],[],_,_=>Int.le_refl _
 |[],_::_,h,_=>by cases h
 |_::_,[],h,_=>by cases h
 |x::sh,y::qs,h,h2=>by
  have:=lY (sh:=sh) (qs:=qs) (by simpa using h) fun n=>h2 (n+1)
  have h0:x≤y:=h2 0
  rw[List.sum_cons,List.sum_cons];omega
theorem rE:∀{sh qs:List Int},sh.length=qs.length→(∀n,sh.getD n 0≤qs.getD n 0)→sh.sum=qs.sum→sh=qs
 |[],[],_,_,_=>rfl
 |[],_::_,h,_,_=>by cases h
 |_::_,[],h,_,_=>by cases h
 |x::sh,y::qs,h,h2,h3=>by
  have:=lY (sh:=sh) (qs:=qs) (by simpa using h) fun n=>h2 (n+1)
  have h0:x≤y:=h2 0
  rw[List.sum_cons,List.sum_cons]at h3
  rw[rE (sh:=sh) (qs:=qs) (by simpa using h) (fun n=>h2 (n+1)) (by omega),show x=y by omega]
theorem zIg {qs sh:List Int} {q:Int} (h:sP qs sh q) (hq:q=qs.sum):sh=qs:=rE h.len (fun n=>(h.bd n).2) (h.sum.trans hq)
open Go Cv Go.Proofs
theorem zBc {p:Prd} {B:List (List zJ)} (h:BWf p B) {inst:Int} {sd:Bool} {price q:Int} {t:qF} {B':List (List zJ)} (e:jH p B inst sd price q=some (t,B')):BWf p B'∧B'.length=B.length:=by
 rw[jH]at e
 dsimp only at e
 split at e
 ·split at e
  ·cases e;exact⟨h.takes.takes,by rw[kW,kW]⟩
  ·cases e;exact⟨h.takes,by rw[kW]⟩
 ·cases e
theorem hP {p:Prd} {inst:Int} {sd:Bool} {price:Int}:∀(m:Nat) (q:Int) (B:List (List zJ)),q.toNat≤m→BWf p B→BWf p (xP p B inst sd price q).B∧(xP p B inst sd price q).B.length=B.length∧(0≤q→0≤(xP p B inst sd price q).left∧(xP p B inst sd price q).left≤q)
 |m,q,B,hm,h=>by
  by_cases hq:q≤0
  ·rw[wF (.inl hq)]
   exact⟨h,rfl,fun x=>⟨x,Int.le_refl _⟩⟩
  cases hs:jH p B inst sd price q with
  |none=>
   rw[wF (.inr hs)]
   exact⟨h,rfl,fun x=>⟨x,Int.le_refl _⟩⟩
  |some x=>
   obtain⟨t,C⟩:=x
   obtain⟨k1,k2⟩:=zBc h hs
   have hq2:=mQ (by omega) hs
   cases m with
   |zero=>omega
   |succ m=>
   obtain⟨i1,i2,i3⟩:=hP (p:=p) (inst:=inst) (sd:=sd) (price:=price) m (q-t.qty) C (by omega) k1
   rw[fP (by omega) hs]
   exact⟨i1,i2.trans k2,fun _=>⟨(i3 (by omega)).1,by dsimp only;have:=(i3 (by omega)).2;omega⟩⟩
open Go Cv Go.Proofs
@[reducible] def RunI.ok (i:RunI):Prop:=i.s.Rep i.p i.B∧BOk i.p i.B∧(0≤i.inst∧i.inst<i.B.length)∧1≤i.q∧i.q≤1000000
def scouldC:Con:=con1 RunI (fun i=>[.nm 0 0,zC i.inst,zC (zB i.sd),zC i.price,zC i.q]) (fun i=>[zE i.s]) (fun i=>i.ok) (fun i=>zC (i.q-i.r.left)) (fun i=>[zE i.s])
def kI (p:Prd) (B:List (List zJ)) (inst:Int) (sd:Bool) (price q:Int):Bool:=
 decide ((xP p B inst sd price q).left≠0) && (y6 ⟨p,(xP p B inst sd price q).B.map y9,inst⟩ (zB (!sd))).any fun x=>wY sd price x.price
def stuckC:Con:=con1 RunI (fun i=>[.nm 0 0,zC i.inst,zC (zB i.sd),zC i.price,zC i.q]) (fun i=>[zE i.s]) (fun i=>i.ok) (fun i=>yJ (kI i.p i.B i.inst i.sd i.price i.q)) (fun i=>[zE i.s])
def cJ (B:List (List zJ)):Nat:=(whL 0 B).length
def countC16:Con:=con1 SoI (fun i=>[.nm 0 0]) (fun i=>[zE i.s]) (fun i=>i.ok) (fun i=>zC (cJ i.B)) (fun i=>[zE i.s])
def xF (p:Prd) (inst price:Int):Int×Int×Int:=
 if(p.legs inst).2.2=false then(0,0,20)else if p.price inst price≠0 then(0,0,p.price inst price)else
 let far:=p.settle.getD (p.legs inst).2.1.toNat 0
 let a:=if p.high<far+price then(p.high,p.high-price)else(far+price,far)
 if a.1<p.low then(p.low,p.low-price,0)else(a.1,a.2,0)
structure LpI where
 p:Prd
 inst:Int
 price:Int
def lpricesC:Con:=con1 LpI (fun i=>[aT i.p,zC i.inst,zC i.price]) (fun _=>[]) (fun i=>i.p.check=0∧i.p.small∧yI i.price) (fun i=> .tup [zC (xF i.p i.inst i.price).1,zC (xF i.p i.inst i.price).2.1,zC (xF i.p i.inst i.price).2.2]) (fun _=>[])
def ijj (t u:Nat):SAnn:={ι:=Int×Int,slots:=fun n=>[(t,zC n.1),(u,zC n.2)],rows:=fun _=>[]}
def lpJ:List (Nat×SAnn):=[(50,ijj 15 14),(58,ijj 15 14)]
def z8q:List SAnn:=[{ι:=Nat,slots:=fun j=>[(40,zC j)],rows:=fun _=>[]}]
def z5l:List (Nat×SAnn):=[(8,{ι:=Unit,slots:=fun _=>[],rows:=fun _=>[],opn:=[11]})]
open Go Cv Go.Proofs
@[reducible] def mU (i:RunI):Prop:=∃(i_1:MSt),sb i_1.p.code=sb i.s.p.code∧i_1.p.tick=i.s.p.tick∧i_1.p.low=i.s.p.low∧i_1.p.high=i.s.p.high∧i_1.p.wide=i.s.p.wide∧i_1.p.rule=i.s.p.rule∧i_1.p.top=i.s.p.top∧i_1.p.least=i.s.p.least∧i_1.p.part=i.s.p.part∧AObj.objs 102 Book 6 zM i_1.books none=AObj.objs 102 Book 6 zM i.s.books none∧yB i_1.wh=yB i.s.wh∧AObj.fro 1 (iE i_1.p.months)=AObj.fro 1 (iE i.s.p.months)∧AObj.fro 1 (iE i_1.p.settle)=AObj.fro 1 (iE i.s.p.settle)∧(i_1.books.length≤1000000∧∀(b:Book),b∈i_1.books→(b.a.slots.length≤1000000∧b.a.queues.length≤1000000)∧b.buys.length≤1000000∧b.sells.length≤1000000∧b.spare.length≤1000000)∧∀(o:Unit),True→∃(i_2:RunI),i_2.inst=i.inst∧zB i_2.sd=zB i.sd∧i_2.price=i.price∧i_2.q=i.q∧zE i_2.s=zE i_1∧(i_2.s.Rep i_2.p i_2.B∧BOk i_2.p i_2.B∧(0≤i_2.inst∧i_2.inst<(↑i_2.B.length:Int))∧1≤i_2.q∧i_2.q≤1000000)∧∀(o:MSt),o.Rep i_2.p i_2.r.B→∃(o:Unit),i.q-i.r.left=IntKind.i64.wrap (i.q-i_2.r.left)∧zE i.s=zE i_1∧True
@[reducible] def jY (i:RunI):Prop:=∃(o:Unit),i.q-i.r.left=0∧sb i.s.p.code=sb i.s.p.code∧i.s.p.tick=i.s.p.tick∧i.s.p.low=i.s.p.low∧i.s.p.high=i.s.p.high∧i.s.p.wide=i.s.p.wide∧i.s.p.rule=i.s.p.rule∧i.s.p.top=i.s.p.top∧i.s.p.least=i.s.p.least∧i.s.p.part=i.s.p.part∧AObj.objs 102 Book 6 zM i.s.books none=AObj.objs 102 Book 6 zM i.s.books none∧yB i.s.wh=yB i.s.wh∧AObj.fro 1 (iE i.s.p.months)=AObj.fro 1 (iE i.s.p.months)∧AObj.fro 1 (iE i.s.p.settle)=AObj.fro 1 (iE i.s.p.settle)∧True
def zBw (i:RunI):Prop:=
 cnd (decide (i.inst≥0)) (cnd (decide (i.inst<(↑i.s.books.length:Int))) (cnd (zB i.sd==1) (cnd (decide (i.q≥1)) (cnd (!decide (i.q≤1000000)) (jY i) (mU i)) (jY i)) (cnd (zB i.sd==2) (cnd (decide (i.q≥1)) (cnd (!decide (i.q≤1000000)) (jY i) (mU i)) (jY i)) (jY i))) (jY i)) (jY i)
theorem zXf (hG:GOk Tryz.prog ([(48,copySC),(56,runC)])) (h:∀(i:RunI),scouldC.cnd i→zBw i):scouldC.ok Tryz.prog 29:=okw mixed hG 2 (fun _=>[]) (fun _=>[]) [0] Tryz.func29 h
def eB (i:SoI):Prop:=
 ∃(o:Unit),(↑(cJ i.B):Int)=(↑(yB i.s.wh).length:Int)∧sb i.s.p.code=sb i.s.p.code∧i.s.p.tick=i.s.p.tick∧i.s.p.low=i.s.p.low∧i.s.p.high=i.s.p.high∧i.s.p.wide=i.s.p.wide∧i.s.p.rule=i.s.p.rule∧i.s.p.top=i.s.p.top∧i.s.p.least=i.s.p.least∧i.s.p.part=i.s.p.part∧AObj.objs 102 Book 6 zM i.s.books none=AObj.objs 102 Book 6 zM i.s.books none∧yB i.s.wh=yB i.s.wh∧AObj.fro 1 (iE i.s.p.months)=AObj.fro 1 (iE i.s.p.months)∧AObj.fro 1 (iE i.s.p.settle)=AObj.fro 1 (iE i.s.p.settle)∧True
theorem zQp (hG:GOk Tryz.prog ([])) (h:∀(i:SoI),countC16.cnd i→eB i):countC16.ok Tryz.prog 45:=okw mixed hG 0 (fun _=>[]) (fun _=>[]) [0] Tryz.func45 h
@[reducible] def kK (i:LpI):AObj:=Sx.AObj.cells [V.d (D.v (Value.string (sb i.p.code))),V.own (0:Nat),V.d (D.v (.int .i64 i.p.tick)),V.d (D.v (.int .i64 i.p.low)),V.d (D.v (.int .i64 i.p.high)),V.d (D.v (.int .i64 i.p.wide)),V.d (D.v (.int .i64 i.p.rule)),V.d (D.v (.int .i64 i.p.top)),V.d (D.v (.int .i64 i.p.least)),V.d (D.v (.int .i64 i.p.part)),V.own ((0:Nat)+(1:Nat))] (29:Nat)
def rM (i:LpI):Prop:=
 ∃(i_1:Prd),sb i_1.code=sb i.p.code∧iE i_1.months=iE i.p.months∧i_1.tick=i.p.tick∧i_1.low=i.p.low∧i_1.high=i.p.high∧i_1.wide=i.p.wide∧i_1.rule=i.p.rule∧i_1.top=i.p.top∧i_1.least=i.p.least∧i_1.part=i.p.part∧iE i_1.settle=iE i.p.settle∧(i_1.code.length≤1099511627776∧i_1.months.length≤1099511627776∧i_1.settle.length≤1099511627776)∧∀(o:Unit),True→cnd (i_1.check !=0) (∃(o:Unit),(xF i.p i.inst i.price).fst=0∧(xF i.p i.inst i.price).snd.fst=0∧(xF i.p i.inst i.price).snd.snd=1∧True) (∃(i_2:fG),sb i_2.p.code=sb i.p.code∧iE i_2.p.months=iE i.p.months∧i_2.p.tick=i.p.tick∧i_2.p.low=i.p.low∧i_2.p.high=i.p.high∧i_2.p.wide=i.p.wide∧i_2.p.rule=i.p.rule∧i_2.p.top=i.p.top∧i_2.p.least=i.p.least∧i_2.p.part=i.p.part∧iE i_2.p.settle=iE i.p.settle∧i_2.n=i.inst∧(i_2.p.code.length≤1099511627776∧i_2.p.months.length≤1099511627776∧i_2.p.settle.length≤1099511627776)∧∀(o:Unit),True→cnd (!(i_2.p.legs i_2.n).snd.snd) (∃(o:Unit),(xF i.p i.inst i.price).fst=0∧(xF i.p i.inst i.price).snd.fst=0∧(xF i.p i.inst i.price).snd.snd=20∧True) (∃(i_3:gK),sb i_3.p.code=sb i.p.code∧iE i_3.p.months=iE i.p.months∧i_3.p.tick=i.p.tick∧i_3.p.low=i.p.low∧i_3.p.high=i.p.high∧i_3.p.wide=i.p.wide∧i_3.p.rule=i.p.rule∧i_3.p.top=i.p.top∧i_3.p.least=i.p.least∧i_3.p.part=i.p.part∧iE i_3.p.settle=iE i.p.settle∧i_3.a=i.inst∧i_3.b=i.price∧(i_3.p.code.length≤1099511627776∧i_3.p.months.length≤1099511627776∧i_3.p.settle.length≤1099511627776)∧∀(o:Unit),True→cnd (i_3.p.price i_3.a i_3.b !=0) (∃(o:Unit),(xF i.p i.inst i.price).fst=0∧(xF i.p i.inst i.price).snd.fst=0∧(xF i.p i.inst i.price).snd.snd=i_3.p.price i_3.a i_3.b∧True) ((0≤(i_2.p.legs i_2.n).snd.fst∧(i_2.p.legs i_2.n).snd.fst<(↑(iE i.p.settle).length:Int))∧∃(n:Int),zI (iE i.p.settle) (i_2.p.legs i_2.n).snd.fst.toNat 0 1=some [D.v (.int .i64 n)]∧∃(i0:Int×Int),∃(I:Int×Int→Prop),cnd (decide (IntKind.i64.wrap (n+i.price)>i.p.high)) (∃(i':Int×Int),i'.fst=i.p.high∧i'.snd=IntKind.i64.wrap (i.p.high-i.price)∧I i'∧kK i=kK i∧AObj.fro 1 (iE i.p.settle)=AObj.fro 1 (iE i.p.settle)∧AObj.fro 1 (iE i.p.months)=AObj.fro 1 (iE i.p.months)) (∃(i':Int×Int),i'.fst=IntKind.i64.wrap (n+i.price)∧i'.snd=n∧I i'∧kK i=kK i∧AObj.fro 1 (iE i.p.settle)=AObj.fro 1 (iE i.p.settle)∧AObj.fro 1 (iE i.p.months)=AObj.fro 1 (iE i.p.months))∧∀(i_4:Int×Int),I i_4→∃(i0:Int×Int),∃(I:Int×Int→Prop),cnd (decide (i_4.fst<i.p.low)) (∃(i':Int×Int),i'.fst=i.p.low∧i'.snd=IntKind.i64.wrap (i.p.low-i.price)∧I i'∧kK i=kK i∧AObj.fro 1 (iE i.p.settle)=AObj.fro 1 (iE i.p.settle)∧AObj.fro 1 (iE i.p.months)=AObj.fro 1 (iE i.p.months)) (∃(i':Int×Int),i'.fst=i_4.fst∧i'.snd=i_4.snd∧I i'∧kK i=kK i∧AObj.fro 1 (iE i.p.settle)=AObj.fro 1 (iE i.p.settle)∧AObj.fro 1 (iE i.p.months)=AObj.fro 1 (iE i.p.months))∧∀(i_5:Int×Int),I i_5→∃(o:Unit),(xF i.p i.inst i.price).fst=i_5.fst∧(xF i.p i.inst i.price).snd.fst=i_5.snd∧(xF i.p i.inst i.price).snd.snd=0∧True)))
theorem zSg (hG:GOk Tryz.prog ([(50,checkC),(51,legsC),(72,priceC)])) (h:∀(i:LpI),lpricesC.cnd i→rM i):lpricesC.ok Tryz.prog 133:=okw mixed hG 0 (fun _=>lpJ) (fun _=>[]) [] Tryz.func133 h
@[reducible] def zGe (i:RunI) (i_5:aM):AObj:=AObj.own (62:Nat) (6:Nat) (List.map zG (y6 i_5.i (zB i_5.s)))
@[reducible] def zEp (i_3:MSt):AObj:=Sx.AObj.cells (uR (uI (5:Nat) ((1:Nat)+((2:Nat)-(1:Nat))+((2:Nat)-(1:Nat))+((5:Nat)-(1:Nat))) ((6:Nat)-(5:Nat)) [((2:Nat),(1:Nat)+((2:Nat)-(1:Nat))+((2:Nat)-(1:Nat))+nat_lit 1),((1:Nat),(1:Nat)+((2:Nat)-(1:Nat))+((2:Nat)-(1:Nat))+nat_lit 0),((4:Nat),(1:Nat)+((2:Nat)-(1:Nat))+((2:Nat)-(1:Nat))+nat_lit 3),((3:Nat),(1:Nat)+((2:Nat)-(1:Nat))+((2:Nat)-(1:Nat))+nat_lit 2),((0:Nat),(1:Nat)+nat_lit 0)]) [sV i_3.p.code,V.own (3:Nat),zC i_3.p.tick,zC i_3.p.low,zC i_3.p.high,zC i_3.p.wide,zC i_3.p.rule,zC i_3.p.top,zC i_3.p.least,zC i_3.p.part,V.own (4:Nat),V.own (1:Nat),V.mp (2:Nat)]) (101:TypeId)
def zJh (i:RunI):Prop:=
 ∃(i_1:MSt),zE i_1=zE i.s∧(i_1.books.length≤1000000∧∀(b:Book),b∈i_1.books→(b.a.slots.length≤1000000∧b.a.queues.length≤1000000)∧b.buys.length≤1000000∧b.sells.length≤1000000∧b.spare.length≤1000000)∧∀(o:Unit),True→∃(i_2:RunI),i_2.inst=i.inst∧zB i_2.sd=zB i.sd∧i_2.price=i.price∧i_2.q=i.q∧zE i_2.s=zE i_1∧(i_2.s.Rep i_2.p i_2.B∧BOk i_2.p i_2.B∧(0≤i_2.inst∧i_2.inst<(↑i_2.B.length:Int))∧1≤i_2.q∧i_2.q≤1000000)∧∀(o:MSt),o.Rep i_2.p i_2.r.B→cnd (i_2.r.left==0) (∃(o:Unit),kI i.p i.B i.inst i.sd i.price i.q=false∧zE i.s=zE i_1∧True) (∃(i_3:MSt),sb i_3.p.code=sb o.p.code∧i_3.p.tick=o.p.tick∧i_3.p.low=o.p.low∧i_3.p.high=o.p.high∧i_3.p.wide=o.p.wide∧i_3.p.rule=o.p.rule∧i_3.p.top=o.p.top∧i_3.p.least=o.p.least∧i_3.p.part=o.p.part∧AObj.objs 102 Book 6 zM i_3.books none=AObj.objs 102 Book 6 zM o.books none∧yB i_3.wh=yB o.wh∧AObj.fro 1 (iE i_3.p.months)=AObj.fro 1 (iE o.p.months)∧AObj.fro 1 (iE i_3.p.settle)=AObj.fro 1 (iE o.p.settle)∧(i_3.books.length≤1000000∧∀(b:Book),b∈i_3.books→∀(q:x3),q∈b.a.queues→(-9223372036854775808)≤q.count∧q.count≤9223372036854775807)∧∀(o_1:Unit),True→(sb i_3.p.code=sb o.p.code∧True∧i_3.p.tick=o.p.tick∧i_3.p.low=o.p.low∧i_3.p.high=o.p.high∧i_3.p.wide=o.p.wide∧i_3.p.rule=o.p.rule∧i_3.p.top=o.p.top∧i_3.p.least=o.p.least∧i_3.p.part=o.p.part∧True∧True)∧∃(i_4:Bool),zB i_4=zB i.sd∧True∧∀(o_2:Unit),True→(sb i_3.p.code=sb o.p.code∧True∧i_3.p.tick=o.p.tick∧i_3.p.low=o.p.low∧i_3.p.high=o.p.high∧i_3.p.wide=o.p.wide∧i_3.p.rule=o.p.rule∧i_3.p.top=o.p.top∧i_3.p.least=o.p.least∧i_3.p.part=o.p.part∧True∧True)∧∃(i_5:aM),sb i_5.i.p.code=sb o.p.code∧iE i_5.i.p.months=iE i_3.p.months∧i_5.i.p.tick=o.p.tick∧i_5.i.p.low=o.p.low∧i_5.i.p.high=o.p.high∧i_5.i.p.wide=o.p.wide∧i_5.i.p.rule=o.p.rule∧i_5.i.p.top=o.p.top∧i_5.i.p.least=o.p.least∧i_5.i.p.part=o.p.part∧iE i_5.i.p.settle=iE i_3.p.settle∧List.map zQ i_5.i.tops=List.map zQ i_3.tops∧i_5.i.inst=i.inst∧zB i_5.s=zB !i_4∧((i_5.i.p.code.length≤1099511627776∧i_5.i.p.months.length≤1099511627776∧i_5.i.p.settle.length≤1099511627776)∧i_5.i.tops.length≤1000000∧∀(t:Top),t∈i_5.i.tops→((-9223372036854775808)≤t.p1∧t.p1≤9223372036854775807)∧(-9223372036854775808)≤t.p2∧t.p2≤9223372036854775807)∧∀(o_3:Unit),True→∃(i0:Nat),(↑i0:Int)=0∧∃(I:Nat→Prop),∃(μ:Nat→Nat),I i0∧∀(i_6:Nat),I i_6→cnd (decide ((↑i_6:Int)<(↑(List.map zG (y6 i_5.i (zB i_5.s))).length:Int))) ((0≤(↑i_6:Int)∧(↑i_6:Int)<(↑(List.map zG (y6 i_5.i (zB i_5.s))).length:Int))∧∃(n:Int),∃(n_1:Int),∃(n_2:Int),∃(n_3:Int),∃(n_4:Int),∃(n_5:Int),zI (List.map zG (y6 i_5.i (zB i_5.s))) (↑i_6:Int).toNat 0 6=some [D.v (.int .i64 n),D.v (.int .i64 n_1),D.v (.int .i64 n_2),D.v (.int .i64 n_3),D.v (.int .i64 n_4),D.v (.int .i64 n_5)]∧∃(i_7:GoI),zB i_7.s=zB i.sd∧i_7.p=i.price∧i_7.x=n∧True∧∀(o_4:Unit),True→cnd (wY i_7.s i_7.p i_7.x) (∃(o:Unit),kI i.p i.B i.inst i.sd i.price i.q=true∧zE i.s=zE i_1∧True) (∃(i':Nat),(↑i':Int)=IntKind.i64.wrap ((↑i_6:Int)+1)∧I i'∧μ i'<μ i_6∧zGe i i_5=zGe i i_5∧zEp i_3=zEp i_3∧AObj.objs 102 Book 6 zM i_3.books none=AObj.objs 102 Book 6 zM i_3.books none∧Sx.AObj.map (yB i_3.wh)=Sx.AObj.map (yB i_3.wh)∧AObj.fro 1 (iE i_3.p.months)=AObj.fro 1 (iE i_3.p.months)∧AObj.fro 1 (iE i_3.p.settle)=AObj.fro 1 (iE i_3.p.settle)∧AObj.fro 6 (List.map zQ i_3.tops)=AObj.fro 6 (List.map zQ i_3.tops)∧AObj.fro 1 (iE o.p.months)=AObj.fro 1 (iE o.p.months)∧AObj.fro 1 (iE o.p.settle)=AObj.fro 1 (iE o.p.settle)∧AObj.own 158 4 (List.map xZ i_2.r.steps)=AObj.own 158 4 (List.map xZ i_2.r.steps)∧zE i_1=zE i_1)) (∃(o:Unit),kI i.p i.B i.inst i.sd i.price i.q=false∧zE i.s=zE i_1∧True))
theorem z3g (hG:GOk Tryz.prog ([(48,copySC),(56,runC),(23,topsOC),(25,allC),(91,motherC),(92,mgoodC)])) (h:∀(i:RunI),stuckC.cnd i→zJh i):stuckC.ok Tryz.prog 73:=okw mixed hG 0 (fun _=>z5l) (fun _=>z8q) [] Tryz.func73 h
open Go Cv Go.Proofs
theorem MSt.Rep.small {s:MSt} {p:Prd} {B:List (List zJ)} (h:s.Rep p B) (hb:BOk p B):s.small:=by
 have:=xJ p
 refine⟨by rw[h.bl,hb.bl];omega,fun b hm=> ?_⟩
 obtain⟨k,hk⟩:=List.mem_iff_getElem?.1 hm
 have hlt:=(List.getElem?_eq_some_iff.1 hk).1
 rw[h.bl]at hlt
 obtain⟨L,hL⟩:=yD hlt
 obtain⟨Q,c,_⟩:=h.bk k b L hk hL
 exact c.small
theorem z3n (i:RunI) (h:scouldC.cnd i):zBw i:=by
 have h':i.ok:=h
 obtain⟨hR,hB,⟨h0,h1⟩,hq1,hq2⟩:=h'
 have hbl:=hR.bl
 have hl:=(hP (inst:=i.inst) (sd:=i.sd) (price:=i.price) _ i.q i.B (Nat.le_refl _) (hR.wf hB)).2.2 (by omega)
 have er:i.r=xP i.p i.B i.inst i.sd i.price i.q:=rfl
 unfold zBw mU jY
 refine(fun hT=>zU (fun c=>zU (fun c2=>Cv.cnd.mk (fun _=>zU (fun _=>Cv.cnd.mk (fun e=>absurd hq2 (by simpa using e)) (fun _=>hT)) (fun e=>absurd hq1 e)) (fun e1=>Cv.cnd.mk (fun _=>zU (fun _=>Cv.cnd.mk (fun e=>absurd hq2 (by simpa using e)) (fun _=>hT)) (fun e=>absurd hq1 e)) (fun e2=>by
  rcases gU i.sd with e|e
  ·rw[e]at e1;cases e1
  ·rw[e]at e2;cases e2))) (fun c2=>absurd (by omega) c2)) (fun c=>absurd h0 c)) ?_
 refine⟨i.s,rfl,rfl,rfl,rfl,rfl,rfl,rfl,rfl,rfl,rfl,rfl,rfl,rfl,hR.small hB,fun _ _=>⟨i,rfl,rfl,rfl,rfl,rfl,h,fun o ho=>⟨(),?_,rfl,trivial⟩⟩⟩
 rw[w64 (by rw[er];omega)]
theorem zPu:scouldC.ok Tryz.prog 29:=zXf (gokc rL (gokc zJo gok0)) z3n
theorem zUc (i:SoI) (h:countC16.cnd i):eB i:=by
 obtain⟨hR,hB⟩:i.s.Rep i.p i.B∧i.B.length≤1000:=h
 unfold eB
 have e:(yB i.s.wh).length=cJ i.B:=by rw[yB,List.length_map,hR.wh.length_eq,cJ]
 exact⟨(),by rw[e],by(repeat'(first|exact trivial|exact rfl|apply And.intro))⟩
theorem tJ:countC16.ok Tryz.prog 45:=zQp gok0 zUc
theorem zEu {p:Prd} {i n:Int} (h:p.price i n=0):0≤i∧i<p.count:=by
 rw[Prd.price]at h
 split at h
 ·cases h
 split at h
 ·cases h
 omega
theorem zWs (i:LpI) (h:lpricesC.cnd i):rM i:=by
 obtain⟨hc,hp,hpr⟩:i.p.check=0∧i.p.small∧yI i.price:=h
 unfold rM
 refine⟨i.p,rfl,rfl,rfl,rfl,rfl,rfl,rfl,rfl,rfl,rfl,rfl,hp,fun _ _=>Cv.cnd.mk (fun e=>by rw[hc]at e;cases e) (fun _=> ?_)⟩
 refine⟨⟨i.p,i.inst⟩,rfl,rfl,rfl,rfl,rfl,rfl,rfl,rfl,rfl,rfl,rfl,rfl,hp,fun _ _=>Cv.cnd.mk (fun e=> ?_) (fun e=> ?_)⟩
 ·have e:(i.p.legs i.inst).2.2=false:=by simpa using e
  have h0:xF i.p i.inst i.price=(0,0,20):=by rw[xF,if_pos e]
  rw[h0];exact⟨(),rfl,rfl,rfl,trivial⟩
 have e:(i.p.legs i.inst).2.2=true:=by simpa using e
 refine⟨⟨i.p,i.inst,i.price⟩,rfl,rfl,rfl,rfl,rfl,rfl,rfl,rfl,rfl,rfl,rfl,rfl,rfl,hp,fun _ _=>Cv.cnd.mk (fun e2=> ?_) (fun e2=> ?_)⟩
 ·have e2:¬i.p.price i.inst i.price=0:=by simpa using e2
  have h0:xF i.p i.inst i.price=(0,0,i.p.price i.inst i.price):=by rw[xF,if_neg (by rw[e];decide),if_pos e2]
  rw[h0];exact⟨(),rfl,rfl,rfl,trivial⟩
 have e2:i.p.price i.inst i.price=0:=by simpa using e2
 have hin:=zEu e2
 have hbd:=aZ hc e2
 have ok:=jB hc
 have b1:=ok.b1
 have b2:=ok.b2
 have b3:=ok.b3
 have s1:=ok.s1
 have s2:=ok.s2
 have s3:=ok.s3
 obtain⟨k,hk⟩:∃k:Nat,i.inst=k:=⟨i.inst.toNat,by omega⟩
 have hl:=wX hc (k:=k) (by omega)
 rw[← hk]at hl
 rcases hl with⟨_,_,_,l3,l4⟩|⟨x,_⟩
 rotate_left
 ·rw[e]at x;cases x
 have hsl:(iE i.p.settle).length=i.p.settle.length:=yR _
 obtain⟨n,hn⟩:=yD (l:=i.p.settle) (i:=(i.p.legs i.inst).2.1.toNat) (by omega)
 have hm:=List.mem_of_getElem? hn
 have m1:=zZs hm
 have m2:=zZd hm
 have hg:i.p.settle.getD (i.p.legs i.inst).2.1.toNat 0=n:=zX hn
 have h0:xF i.p i.inst i.price=(if(if i.p.high<n+i.price then(i.p.high,i.p.high-i.price)else(n+i.price,n)).1<i.p.low then(i.p.low,i.p.low-i.price,0)else((if i.p.high<n+i.price then(i.p.high,i.p.high-i.price)else(n+i.price,n)).1,(if i.p.high<n+i.price then(i.p.high,i.p.high-i.price)else(n+i.price,n)).2,0)):=by
  rw[xF,if_neg (by rw[e];decide),if_neg (by rw[e2];decide)]
  dsimp only
  rw[hg]
 dsimp only
 refine⟨⟨l3,by omega⟩,n,elI hn,(0,0),fun a=>a=if i.p.high<n+i.price then(i.p.high,i.p.high-i.price)else(n+i.price,n),zU (fun c=>⟨(i.p.high,i.p.high-i.price),rfl,(w64 (by omega)).symm,?_,by(repeat'(first|exact trivial|exact rfl|apply And.intro))⟩) (fun c=>⟨(n+i.price,n),(w64 (by omega)).symm,rfl,?_,by(repeat'(first|exact trivial|exact rfl|apply And.intro))⟩),?_⟩
 ·rw[w64 (by omega)]at c;rw[if_pos c]
 ·rw[w64 (by omega)]at c;rw[if_neg c]
 rintro _ rfl
 generalize (if i.p.high<n+i.price then(i.p.high,i.p.high-i.price)else(n+i.price,n))=a at h0 ⊢
 refine⟨(0,0),fun b=>b=if a.1<i.p.low then(i.p.low,i.p.low-i.price)else a,zU (fun c=>⟨(i.p.low,i.p.low-i.price),rfl,(w64 (by omega)).symm,by rw[if_pos c],by(repeat'(first|exact trivial|exact rfl|apply And.intro))⟩) (fun c=>⟨a,rfl,rfl,by rw[if_neg c],by(repeat'(first|exact trivial|exact rfl|apply And.intro))⟩),?_⟩
 rintro _ rfl
 rw[h0]
 by_cases c:a.1<i.p.low
 ·rw[if_pos c,if_pos c];exact⟨(),rfl,rfl,rfl,trivial⟩
 ·rw[if_neg c,if_neg c];exact⟨(),rfl,rfl,rfl,trivial⟩
theorem zKd:lpricesC.ok Tryz.prog 133:=zSg (gokc mJ (gokc dS (gokc fY gok0))) zWs
theorem z1t {l:List Quote} {k:Nat} {q:Quote} (h:l[k]? =some q):zI (l.map zG) k 0 6=some [D.v (.int .i64 q.price),D.v (.int .i64 q.qty),D.v (.int .i64 q.a.inst),D.v (.int .i64 q.a.side),D.v (.int .i64 q.b.inst),D.v (.int .i64 q.b.side)]:=elA h (by simp[zG]) rfl
theorem z9o (i:RunI) (h:stuckC.cnd i):zJh i:=by
 have h':i.ok:=h
 obtain⟨hR,hB,⟨h0,h1⟩,hq1,hq2⟩:=h'
 have hwf:=hR.wf hB
 obtain⟨k1,k2,k3⟩:=hP (inst:=i.inst) (sd:=i.sd) (price:=i.price) _ i.q i.B (Nat.le_refl _) hwf
 have hcl:=xJ i.p
 unfold zJh
 refine⟨i.s,rfl,hR.small hB,fun _ _=>⟨i,rfl,rfl,rfl,rfl,rfl,h,fun o ho=> ?_⟩⟩
 have er:i.r=xP i.p i.B i.inst i.sd i.price i.q:=rfl
 have es:kI i.p i.B i.inst i.sd i.price i.q=(decide ((xP i.p i.B i.inst i.sd i.price i.q).left≠0) && (y6 ⟨i.p,(xP i.p i.B i.inst i.sd i.price i.q).B.map y9,i.inst⟩ (zB (!i.sd))).any fun x=>wY i.sd i.price x.price):=rfl
 rw[er]at ho ⊢
 rw[es]
 generalize xP i.p i.B i.inst i.sd i.price i.q=R at*
 obtain⟨ts,lf,RB⟩:=R
 dsimp only at*
 refine Cv.cnd.mk (fun e=>⟨(),?_,rfl,trivial⟩) (fun e=> ?_)
 ·have e:lf=0:=by simpa using e
  rw[e];rfl
 have e:lf≠0:=by simpa using e
 rw[decide_eq_true e,Bool.true_and]
 have ep:=ho.ep
 have hB':=k1.ok
 have hbl:=hB'.bl
 have hcnt:o.cntOk:=ho.cnt (by omega)
 have hps:o.p.small:=by rw[ep];exact hB'.ps
 have hto:kJ (RB.map y9):=hB'.tops
 have hle:=tY ⟨o.p,RB.map y9,i.inst⟩ (zB (!i.sd))
 refine⟨o,rfl,rfl,rfl,rfl,rfl,rfl,rfl,rfl,rfl,rfl,rfl,rfl,rfl,hcnt,fun _ _=>⟨⟨rfl,trivial,rfl,rfl,rfl,rfl,rfl,rfl,rfl,rfl,trivial,trivial⟩,i.sd,rfl,trivial,fun _ _=>⟨⟨rfl,trivial,rfl,rfl,rfl,rfl,rfl,rfl,rfl,rfl,trivial,trivial⟩,⟨⟨o.p,RB.map y9,i.inst⟩,!i.sd⟩,rfl,rfl,rfl,rfl,rfl,rfl,rfl,rfl,rfl,rfl,rfl,by rw[ho.tops],rfl,rfl,⟨hps,hto⟩,fun _ _=> ?_⟩⟩⟩
 dsimp only
 rw[← ep]
 generalize y6 ⟨o.p,RB.map y9,i.inst⟩ (zB (!i.sd))=Q at*
 have e4:(Q.map zG).length=Q.length:=List.length_map ..
 refine⟨0,rfl,fun j=>j≤Q.length∧(Q.take j).any (fun x=>wY i.sd i.price x.price)=false,fun j=>Q.length-j,⟨Nat.zero_le _,rfl⟩,?_⟩
 rintro j ⟨j1,j2⟩
 refine zU (fun c=> ?_) (fun c=>⟨(),?_,rfl,trivial⟩)
 ·obtain⟨q,hq⟩:=yD (l:=Q) (i:=j) (by omega)
  refine⟨⟨by omega,by omega⟩,_,_,_,_,_,_,z1t hq,⟨i.sd,i.price,q.price⟩,rfl,rfl,rfl,trivial,fun _ _=>Cv.cnd.mk (fun g=>⟨(),?_,rfl,trivial⟩) (fun g=>⟨j+1,wjn (by omega),⟨by omega,?_⟩,by dsimp only;omega,by(repeat'(first|exact trivial|exact rfl|apply And.intro))⟩)⟩
  ·rw[List.any_eq_true];exact⟨q,List.mem_of_getElem? hq,g⟩
  ·rw[List.take_add_one,hq,List.any_append,j2]
   show(false||([q].any fun x=>wY i.sd i.price x.price))=false
   simp only[List.any_cons,List.any_nil,Bool.or_false,Bool.false_or]
   exact g
 ·have:j=Q.length:=by omega
  rw[this,List.take_of_length_le (Nat.le_refl _)]at j2
  exact j2
theorem zEt:stuckC.ok Tryz.prog 73:=z3g (gokc rL (gokc zJo (gokc zHi (gokc zUm (gokc l7 (gokc zHb gok0)))))) z9o
open Go Cv Go.Proofs
def gF (c:Cmd) (why:Int):List Rep:=[⟨2,c.id,0,0,0,0,0,why⟩]
def ofF (x:qF) (k:Int):Int:=match x.fills.find? fun f=>decide (f.inst=k)with
 |some f=>f.price
 |none=>x.price
def xB (p:Prd) (inst:Int) (x:qF):Int×Int:=if x.implied=false then((xF p inst x.price).1,(xF p inst x.price).2.1)else(ofF x (p.legs inst).1,ofF x (p.legs inst).2.1)
def pF (p:Prd) (r:Rep) (near far:Int):List Rep:=[{r with inst:=(p.legs r.inst).1,price:=near},{r with inst:=(p.legs r.inst).2.1,side:=3-r.side,price:=far}]
def vV (p:Prd) (x:qF) (r:Rep):List Rep:=r::if(p.legs r.inst).2.2=true then pF p r (xB p r.inst x).1 (xB p r.inst x).2 else[]
def cR (f:wB):Rep:=⟨3,f.id,f.inst,f.side,f.price,f.qty,f.left,0⟩
def uL (p:Prd) (c:Cmd) (x:qF) (left:Int):List Rep:=x.fills.flatMap (fun f=>vV p x (cR f))++vV p x ⟨3,c.id,c.inst,c.side,x.price,x.qty,left,0⟩
def uC (p:Prd) (c:Cmd):List qF→Int→List Rep
 |[],_=>[]
 |x::l,left=>uL p c x (left-x.qty)++uC p c l (left-x.qty)
structure MkX where
 B:List (List zJ)
 U:List Int
 R:List Rep
def vB (U:List Int) (id:Int):List Int:=if id∈U then U else U++[id]
def y4 (p:Prd) (B:List (List zJ)) (U:List Int) (c:Cmd):MkX:=match xP p B c.inst (decide (c.side=2)) c.price c.qty with
 |⟨ts,left,B'⟩=>⟨if left≠0∧c.time=1 then(cK p B' c.inst c.id c.side c.price left).1 else B',vB U c.id,
  (⟨1,c.id,c.inst,c.side,c.price,c.qty,c.qty,0⟩::uC p c ts c.qty)++if left≠0∧c.time≠1 then[⟨4,c.id,c.inst,c.side,c.price,left,0,0⟩]else[]⟩
def Cmd.lst (c:Cmd):Int:=if c.time=3 then c.qty else c.least
def uQ (p:Prd) (B:List (List zJ)) (U:List Int) (c:Cmd):MkX:=
 if p.price c.inst c.price≠0 then⟨B,U,gF c (p.price c.inst c.price)⟩
 else if c.id∈U then⟨B,U,gF c 25⟩
 else if 250≤cJ B then⟨B,U,gF c 13⟩
 else if 0<c.lst∧c.qty-(xP p B c.inst (decide (c.side=2)) c.price c.qty).left<c.lst then⟨B,U,gF c 28⟩
 else if c.time=1∧kI p B c.inst (decide (c.side=2)) c.price c.qty=true then⟨B,U,gF c 23⟩
 else y4 p B U c
def jN (B:List (List zJ)) (U:List Int) (id inst:Int) (o:zJ):MkX:=⟨(yN B id o.qty).1,U,[⟨4,id,inst,o.side,o.price,o.qty,0,0⟩]⟩
def uH (B:List (List zJ)) (U:List Int) (id q inst:Int) (o:zJ):MkX:=⟨(yN B id q).1,U,[⟨5,id,inst,o.side,o.price,q,o.qty-q,0⟩]⟩
def kM (p:Prd) (B:List (List zJ)) (U:List Int) (c:Cmd) (inst:Int) (o:zJ):MkX:=
 if p.price inst c.price≠0 then⟨B,U,gF c (p.price inst c.price)⟩
 else if c.price=o.price∧c.qty≤o.qty then uH B U c.id (o.qty-c.qty) inst o
 else if kI p (yN B c.id o.qty).1 inst (decide (o.side=2)) c.price c.qty=true then⟨B,U,gF c 23⟩
 else
  let x:=jN B U c.id inst o
  let y:=y4 p x.B U ⟨1,c.id,inst,o.side,c.price,c.qty,0,1,[]⟩
  ⟨y.B,y.U,x.R++y.R⟩
def doF (p:Prd) (B:List (List zJ)) (U:List Int) (c:Cmd):MkX:=
 if c.right≠0 then⟨B,U,gF c c.right⟩
 else if c.kind=1 then uQ p B U c
 else if(zY B c.id).2.2=false then⟨B,U,gF c 26⟩
 else if c.kind=4 then kM p B U c (zY B c.id).1 (zY B c.id).2.1
 else if c.kind=2∨(zY B c.id).2.1.qty≤c.qty then jN B U c.id (zY B c.id).1 (zY B c.id).2.1
 else uH B U c.id c.qty (zY B c.id).1 (zY B c.id).2.1
structure Mkt.Rep (m:Mkt) (p:Prd) (B:List (List zJ)) (U:List Int):Prop where
 ep:m.p=p
 s:m.s.Rep p B
 u:m.used=U
@[reducible] def mK (m:Mkt):List AObj:=[zR m 0,zR m 1,zR m 2,zR m 3,zR m 4]
@[reducible] def z4p (x:qF):V:= .agg [zC x.price,zC x.qty,yJ x.implied,roV 6 (x.fills.map yF)]
@[reducible] def tRp:Nat:=41
@[reducible] def zKu (l:List Rep):AObj:= .own tRp 8 (l.map z9)
structure RjI where
 c:Cmd
 why:Int
def rejC:Con:=con1 RjI (fun i=>[m8 i.c,zC i.why]) (fun _=>[]) (fun _=>True) (fun _=> .own 0) (fun i=>[zKu (gF i.c i.why)])
structure MsI where
 m:Mkt
 r:Rep
 near:Int
 far:Int
@[reducible] def Mkt.fine (m:Mkt):Prop:=m.p.check=0∧m.p.small
def mspreadC:Con:=con1 MsI (fun i=>[.nm 0 0,yEb i.r,zC i.near,zC i.far]) (fun i=>mK i.m) (fun i=>i.m.fine∧(i.r.side=1∨i.r.side=2)) (fun _=> .own 5) (fun i=>mK i.m++[zKu (pF i.m.p i.r i.near i.far)])
structure MiN where
 m:Mkt
 inst:Int
def misC:Con:=con1 MiN (fun i=>[.nm 0 0,zC i.inst]) (fun i=>mK i.m) (fun i=>i.m.fine) (fun i=>yJ (i.m.p.legs i.inst).2.2) (fun i=>mK i.m)
structure OfI where
 x:qF
 k:Int
@[reducible] def zHe (x:qF) (n:Nat):List AObj:=[.cells [zC x.price,zC x.qty,yJ x.implied,.own n] 158,.fro 6 (x.fills.map yF)]
def ofC:Con:=con1 OfI (fun i=>[zC i.k,.nm 0 0]) (fun i=>zHe i.x 1) (fun i=>i.x.fills.length≤1000000) (fun i=>zC (ofF i.x i.k)) (fun i=>zHe i.x 1)
def ofA:List SAnn:=[{ι:=Nat,slots:=fun j=>[(9,zC j)],rows:=fun _=>[]}]
structure MpI where
 m:Mkt
 inst:Int
 x:qF
def mpricesC:Con:=con1 MpI (fun i=>[.nm 0 0,zC i.inst,z4p i.x]) (fun i=>mK i.m) (fun i=>i.m.fine∧yI i.x.price∧i.x.fills.length≤1000000) (fun i=> .tup [zC (xB i.m.p i.inst i.x).1,zC (xB i.m.p i.inst i.x).2]) (fun i=>mK i.m)
structure StI' where
 m:Mkt
 c:Cmd
 x:qF
 left:Int
def StI'.out (i:StI') (j:Nat):List Rep:=(i.x.fills.take j).flatMap fun f=>vV i.m.p i.x (cR f)
def mstepC:Con:=con1 StI' (fun i=>[.nm 0 0,m8 i.c,z4p i.x,zC i.left]) (fun i=>mK i.m) (fun i=>i.m.fine∧yI i.x.price∧i.x.fills.length≤1000000∧(i.c.side=1∨i.c.side=2)∧∀f∈i.x.fills,f.side=1∨f.side=2) (fun _=> .own 5) (fun i=>mK i.m++[zKu (uL i.m.p i.c i.x i.left)])
def z9l (i:StI'):List SAnn:=[{ι:=Nat,slots:=fun j=>[(9,.nm 0 0),(17,zC j)],rows:=fun j=>[.cells [.own 1] 32,zKu (i.out j)]}]
open Go Cv Go.Proofs
def yDs (i:RjI):Prop:=
 ∃(o:Unit),[z9 (Rep.mk 2 i.c.id 0 0 0 0 0 i.why)]=[[D.v (.int .i64 2),D.v (.int .i64 i.c.id),D.v (.int .i64 0),D.v (.int .i64 0),D.v (.int .i64 0),D.v (.int .i64 0),D.v (.int .i64 0),D.v (.int .i64 i.why)]]∧True
theorem yBn (hG:GOk Tryz.prog ([])) (h:∀(i:RjI),rejC.cnd i→yDs i):rejC.ok Tryz.prog 39:=okw mixed hG 0 (fun _=>[]) (fun _=>[]) [] Tryz.func39 h
@[reducible] def bM (i:MsI) (i_1:fG) (o:Unit):Prop:=∃(o:Unit),sb i.m.p.code=sb i.m.p.code∧i.m.p.tick=i.m.p.tick∧i.m.p.low=i.m.p.low∧i.m.p.high=i.m.p.high∧i.m.p.wide=i.m.p.wide∧i.m.p.rule=i.m.p.rule∧i.m.p.top=i.m.p.top∧i.m.p.least=i.m.p.least∧i.m.p.part=i.m.p.part∧zE i.m.s=zR i.m 1∧zW i.m.used=zW i.m.used∧AObj.fro 1 (iE i.m.p.months)=zR i.m 3∧AObj.fro 1 (iE i.m.p.settle)=zR i.m 4∧[z9 (Rep.mk i.r.kind i.r.id (i.m.p.legs i.r.inst).fst i.r.side i.near i.r.qty i.r.left i.r.why),z9 (Rep.mk i.r.kind i.r.id (i.m.p.legs i.r.inst).snd.fst (3-i.r.side) i.far i.r.qty i.r.left i.r.why)]=[[D.v (.int .i64 i.r.kind),D.v (.int .i64 i.r.id),D.v (.int .i64 (i_1.p.legs i_1.n).fst),D.v (.int .i64 i.r.side),D.v (.int .i64 i.near),D.v (.int .i64 i.r.qty),D.v (.int .i64 i.r.left),D.v (.int .i64 i.r.why)],[D.v (.int .i64 i.r.kind),D.v (.int .i64 i.r.id),D.v (.int .i64 (i_1.p.legs i_1.n).snd.fst),D.v (.int .i64 (IntKind.i64.wrap (3-i.r.side))),D.v (.int .i64 i.far),D.v (.int .i64 i.r.qty),D.v (.int .i64 i.r.left),D.v (.int .i64 i.r.why)]]∧True
def sZ (i:MsI):Prop:=
 ∃(i_1:fG),sb i_1.p.code=sb i.m.p.code∧iE i_1.p.months=iE i.m.p.months∧i_1.p.tick=i.m.p.tick∧i_1.p.low=i.m.p.low∧i_1.p.high=i.m.p.high∧i_1.p.wide=i.m.p.wide∧i_1.p.rule=i.m.p.rule∧i_1.p.top=i.m.p.top∧i_1.p.least=i.m.p.least∧i_1.p.part=i.m.p.part∧iE i_1.p.settle=iE i.m.p.settle∧i_1.n=i.r.inst∧(i_1.p.code.length≤1099511627776∧i_1.p.months.length≤1099511627776∧i_1.p.settle.length≤1099511627776)∧∀(o:Unit),True→((i.r.kind=i.r.kind∧i.r.id=i.r.id∧i.r.inst=i.r.inst∧i.r.side=i.r.side∧i.r.price=i.r.price∧i.r.qty=i.r.qty∧i.r.left=i.r.left∧i.r.why=i.r.why∧True)∧(i.r.kind=i.r.kind∧i.r.id=i.r.id∧i.r.inst=i.r.inst∧i.r.side=i.r.side∧i.r.price=i.r.price∧i.r.qty=i.r.qty∧i.r.left=i.r.left∧i.r.why=i.r.why∧True)∧(i.r.kind=i.r.kind∧i.r.id=i.r.id∧i.r.inst=i.r.inst∧i.r.side=i.r.side∧i.r.price=i.r.price∧i.r.qty=i.r.qty∧i.r.left=i.r.left∧i.r.why=i.r.why∧True)∧(i.r.kind=i.r.kind∧i.r.id=i.r.id∧i.r.inst=i.r.inst∧i.r.side=i.r.side∧i.r.price=i.r.price∧i.r.qty=i.r.qty∧i.r.left=i.r.left∧i.r.why=i.r.why∧True)∧(i.r.kind=i.r.kind∧i.r.id=i.r.id∧i.r.inst=i.r.inst∧i.r.side=i.r.side∧i.r.price=i.r.price∧i.r.qty=i.r.qty∧i.r.left=i.r.left∧i.r.why=i.r.why∧True)∧i.r.side=i.r.side∧bM i i_1 o)∧(i.r.kind=i.r.kind∧i.r.id=i.r.id∧i.r.inst=i.r.inst∧i.r.side=i.r.side∧i.r.price=i.r.price∧i.r.qty=i.r.qty∧i.r.left=i.r.left∧i.r.why=i.r.why∧True)∧(i.r.kind=i.r.kind∧i.r.id=i.r.id∧i.r.inst=i.r.inst∧i.r.side=i.r.side∧i.r.price=i.r.price∧i.r.qty=i.r.qty∧i.r.left=i.r.left∧i.r.why=i.r.why∧True)∧(i.r.kind=i.r.kind∧i.r.id=i.r.id∧i.r.inst=i.r.inst∧i.r.side=i.r.side∧i.r.price=i.r.price∧i.r.qty=i.r.qty∧i.r.left=i.r.left∧i.r.why=i.r.why∧True)∧(i.r.kind=i.r.kind∧i.r.id=i.r.id∧i.r.inst=i.r.inst∧i.r.side=i.r.side∧i.r.price=i.r.price∧i.r.qty=i.r.qty∧i.r.left=i.r.left∧i.r.why=i.r.why∧True)∧(i.r.kind=i.r.kind∧i.r.id=i.r.id∧i.r.inst=i.r.inst∧i.r.side=i.r.side∧i.r.price=i.r.price∧i.r.qty=i.r.qty∧i.r.left=i.r.left∧i.r.why=i.r.why∧True)∧i.r.side=i.r.side∧bM i i_1 o
theorem zQd (hG:GOk Tryz.prog ([(51,legsC)])) (h:∀(i:MsI),mspreadC.cnd i→sZ i):mspreadC.ok Tryz.prog 117:=okw mixed hG 0 (fun _=>[]) (fun _=>[]) [] Tryz.func117 h
def yDf (i:MiN):Prop:=
 ∃(i_1:fG),sb i_1.p.code=sb i.m.p.code∧iE i_1.p.months=iE i.m.p.months∧i_1.p.tick=i.m.p.tick∧i_1.p.low=i.m.p.low∧i_1.p.high=i.m.p.high∧i_1.p.wide=i.m.p.wide∧i_1.p.rule=i.m.p.rule∧i_1.p.top=i.m.p.top∧i_1.p.least=i.m.p.least∧i_1.p.part=i.m.p.part∧iE i_1.p.settle=iE i.m.p.settle∧i_1.n=i.inst∧(i_1.p.code.length≤1099511627776∧i_1.p.months.length≤1099511627776∧i_1.p.settle.length≤1099511627776)∧∀(o:Unit),True→∃(o:Unit),(i.m.p.legs i.inst).snd.snd=(i_1.p.legs i_1.n).snd.snd∧sb i.m.p.code=sb i.m.p.code∧i.m.p.tick=i.m.p.tick∧i.m.p.low=i.m.p.low∧i.m.p.high=i.m.p.high∧i.m.p.wide=i.m.p.wide∧i.m.p.rule=i.m.p.rule∧i.m.p.top=i.m.p.top∧i.m.p.least=i.m.p.least∧i.m.p.part=i.m.p.part∧zE i.m.s=zR i.m 1∧zW i.m.used=zW i.m.used∧AObj.fro 1 (iE i.m.p.months)=zR i.m 3∧AObj.fro 1 (iE i.m.p.settle)=zR i.m 4∧True
theorem yBj (hG:GOk Tryz.prog ([(51,legsC)])) (h:∀(i:MiN),misC.cnd i→yDf i):misC.ok Tryz.prog 115:=okw mixed hG 0 (fun _=>[]) (fun _=>[]) [] Tryz.func115 h
def Vof (i:OfI):Prop:=
 ∃(i0:Nat),(↑i0:Int)=0∧∃(I:Nat→Prop),∃(μ:Nat→Nat),I i0∧∀(i_1:Nat),I i_1→cnd (decide ((↑i_1:Int)<(↑(List.map yF i.x.fills).length:Int))) ((0≤(↑i_1:Int)∧(↑i_1:Int)<(↑(List.map yF i.x.fills).length:Int))∧∃(n:Int),∃(n_1:Int),∃(n_2:Int),∃(n_3:Int),∃(n_4:Int),∃(n_5:Int),zI (List.map yF i.x.fills) (↑i_1:Int).toNat 0 6=some [D.v (.int .i64 n),D.v (.int .i64 n_1),D.v (.int .i64 n_2),D.v (.int .i64 n_3),D.v (.int .i64 n_4),D.v (.int .i64 n_5)]∧cnd (n_1==i.k) (∃(o:Unit),ofF i.x i.k=n_3∧i.x.price=i.x.price∧i.x.qty=i.x.qty∧i.x.implied=i.x.implied∧AObj.fro 6 (List.map yF i.x.fills)=AObj.fro 6 (List.map yF i.x.fills)∧True) (∃(i':Nat),(↑i':Int)=IntKind.i64.wrap ((↑i_1:Int)+1)∧I i'∧μ i'<μ i_1∧Sx.AObj.cells [zC i.x.price,zC i.x.qty,yJ i.x.implied,V.own 1] (158:TypeId)=Sx.AObj.cells [zC i.x.price,zC i.x.qty,yJ i.x.implied,V.own 1] (158:TypeId)∧AObj.fro 6 (List.map yF i.x.fills)=AObj.fro 6 (List.map yF i.x.fills))) (∃(o:Unit),ofF i.x i.k=i.x.price∧i.x.price=i.x.price∧i.x.qty=i.x.qty∧i.x.implied=i.x.implied∧AObj.fro 6 (List.map yF i.x.fills)=AObj.fro 6 (List.map yF i.x.fills)∧True)
theorem yEg (hG:GOk Tryz.prog ([])) (h:∀(i:OfI),ofC.cnd i→Vof i):ofC.ok Tryz.prog 134:=okw mixed hG 0 (fun _=>[]) (fun _=>ofA) [] Tryz.func134 h
def rQ (i:MpI):Prop:=
 cnd (!i.x.implied) (∃(i_1:LpI),sb i_1.p.code=sb i.m.p.code∧iE i_1.p.months=iE i.m.p.months∧i_1.p.tick=i.m.p.tick∧i_1.p.low=i.m.p.low∧i_1.p.high=i.m.p.high∧i_1.p.wide=i.m.p.wide∧i_1.p.rule=i.m.p.rule∧i_1.p.top=i.m.p.top∧i_1.p.least=i.m.p.least∧i_1.p.part=i.m.p.part∧iE i_1.p.settle=iE i.m.p.settle∧i_1.inst=i.inst∧i_1.price=i.x.price∧(i_1.p.check=0∧(i_1.p.code.length≤1099511627776∧i_1.p.months.length≤1099511627776∧i_1.p.settle.length≤1099511627776)∧(-9223372036854775808)≤i_1.price∧i_1.price≤9223372036854775807)∧∀(o:Unit),True→∃(o:Unit),(xB i.m.p i.inst i.x).fst=(xF i_1.p i_1.inst i_1.price).fst∧(xB i.m.p i.inst i.x).snd=(xF i_1.p i_1.inst i_1.price).snd.fst∧sb i.m.p.code=sb i.m.p.code∧i.m.p.tick=i.m.p.tick∧i.m.p.low=i.m.p.low∧i.m.p.high=i.m.p.high∧i.m.p.wide=i.m.p.wide∧i.m.p.rule=i.m.p.rule∧i.m.p.top=i.m.p.top∧i.m.p.least=i.m.p.least∧i.m.p.part=i.m.p.part∧zE i.m.s=zR i.m 1∧zW i.m.used=zW i.m.used∧AObj.fro 1 (iE i.m.p.months)=zR i.m 3∧AObj.fro 1 (iE i.m.p.settle)=zR i.m 4∧True) (∃(i_1:fG),sb i_1.p.code=sb i.m.p.code∧iE i_1.p.months=iE i.m.p.months∧i_1.p.tick=i.m.p.tick∧i_1.p.low=i.m.p.low∧i_1.p.high=i.m.p.high∧i_1.p.wide=i.m.p.wide∧i_1.p.rule=i.m.p.rule∧i_1.p.top=i.m.p.top∧i_1.p.least=i.m.p.least∧i_1.p.part=i.m.p.part∧iE i_1.p.settle=iE i.m.p.settle∧i_1.n=i.inst∧(i_1.p.code.length≤1099511627776∧i_1.p.months.length≤1099511627776∧i_1.p.settle.length≤1099511627776)∧∀(o:Unit),True→∃(i_2:OfI),i_2.k=(i_1.p.legs i_1.n).fst∧i_2.x.price=i.x.price∧i_2.x.qty=i.x.qty∧i_2.x.implied=i.x.implied∧AObj.fro 6 (List.map yF i_2.x.fills)=AObj.fro 6 (List.map yF i.x.fills)∧i_2.x.fills.length≤1000000∧∀(o:Unit),True→∃(i_3:OfI),i_3.k=(i_1.p.legs i_1.n).snd.fst∧i_3.x.price=i_2.x.price∧i_3.x.qty=i_2.x.qty∧i_3.x.implied=i_2.x.implied∧AObj.fro 6 (List.map yF i_3.x.fills)=AObj.fro 6 (List.map yF i_2.x.fills)∧i_3.x.fills.length≤1000000∧∀(o:Unit),True→∃(o:Unit),(xB i.m.p i.inst i.x).fst=ofF i_2.x i_2.k∧(xB i.m.p i.inst i.x).snd=ofF i_3.x i_3.k∧sb i.m.p.code=sb i.m.p.code∧i.m.p.tick=i.m.p.tick∧i.m.p.low=i.m.p.low∧i.m.p.high=i.m.p.high∧i.m.p.wide=i.m.p.wide∧i.m.p.rule=i.m.p.rule∧i.m.p.top=i.m.p.top∧i.m.p.least=i.m.p.least∧i.m.p.part=i.m.p.part∧zE i.m.s=zR i.m 1∧zW i.m.used=zW i.m.used∧AObj.fro 1 (iE i.m.p.months)=zR i.m 3∧AObj.fro 1 (iE i.m.p.settle)=zR i.m 4∧True)
theorem zRr (hG:GOk Tryz.prog ([(51,legsC),(133,lpricesC),(134,ofC)])) (h:∀(i:MpI),mpricesC.cnd i→rQ i):mpricesC.ok Tryz.prog 116:=okw mixed hG 0 (fun _=>[]) (fun _=>[]) [] Tryz.func116 h
@[reducible] def aP (i:StI'):AObj:=Sx.AObj.cells [V.d (D.v (.int .i64 i.x.price)),V.d (D.v (.int .i64 i.x.qty)),V.d (D.v (.bool i.x.implied)),V.own ((5:Nat)+(1:Nat)+(1:Nat))] (158:Nat)
@[reducible] def aK (i:StI'):AObj:=Sx.AObj.cells [V.d (D.v (.int .i64 i.c.kind)),V.d (D.v (.int .i64 i.c.id)),V.d (D.v (.int .i64 i.c.inst)),V.d (D.v (.int .i64 i.c.side)),V.d (D.v (.int .i64 i.c.price)),V.d (D.v (.int .i64 i.c.qty)),V.d (D.v (.int .i64 i.c.least)),V.d (D.v (.int .i64 i.c.time)),V.d (D.v (Value.string (sb i.c.label)))] (35:Nat)
def zKk (i:StI'):Prop:=
 ∃(i0:Nat),(↑i0:Int)=0∧List.map z9 (i.out i0)=[]∧∃(I:Nat→Prop),∃(μ:Nat→Nat),I i0∧∀(i_1:Nat),I i_1→cnd (decide ((↑i_1:Int)<(↑(List.map yF i.x.fills).length:Int))) ((0≤(↑i_1:Int)∧(↑i_1:Int)<(↑(List.map yF i.x.fills).length:Int))∧∃(n:Int),∃(n_1:Int),∃(n_2:Int),∃(n_3:Int),∃(n_4:Int),∃(n_5:Int),zI (List.map yF i.x.fills) (↑i_1:Int).toNat 0 6=some [D.v (.int .i64 n),D.v (.int .i64 n_1),D.v (.int .i64 n_2),D.v (.int .i64 n_3),D.v (.int .i64 n_4),D.v (.int .i64 n_5)]∧((List.map z9 (i.out i_1)).length+1)*(64:Nat)≤(70368744177664:Nat)∧∃(i_2:MiN),i_2.inst=n_1∧sb i_2.m.p.code=sb i.m.p.code∧i_2.m.p.tick=i.m.p.tick∧i_2.m.p.low=i.m.p.low∧i_2.m.p.high=i.m.p.high∧i_2.m.p.wide=i.m.p.wide∧i_2.m.p.rule=i.m.p.rule∧i_2.m.p.top=i.m.p.top∧i_2.m.p.least=i.m.p.least∧i_2.m.p.part=i.m.p.part∧zE i_2.m.s=zR i.m 1∧zW i_2.m.used=zW i.m.used∧AObj.fro 1 (iE i_2.m.p.months)=zR i.m 3∧AObj.fro 1 (iE i_2.m.p.settle)=zR i.m 4∧(i_2.m.p.check=0∧i_2.m.p.code.length≤1099511627776∧i_2.m.p.months.length≤1099511627776∧i_2.m.p.settle.length≤1099511627776)∧∀(o:Unit),True→cnd (i_2.m.p.legs i_2.inst).snd.snd (∃(i_3:MpI),i_3.inst=n_1∧i_3.x.price=i.x.price∧i_3.x.qty=i.x.qty∧i_3.x.implied=i.x.implied∧List.map yF i_3.x.fills=List.map yF i.x.fills∧sb i_3.m.p.code=sb i_2.m.p.code∧i_3.m.p.tick=i_2.m.p.tick∧i_3.m.p.low=i_2.m.p.low∧i_3.m.p.high=i_2.m.p.high∧i_3.m.p.wide=i_2.m.p.wide∧i_3.m.p.rule=i_2.m.p.rule∧i_3.m.p.top=i_2.m.p.top∧i_3.m.p.least=i_2.m.p.least∧i_3.m.p.part=i_2.m.p.part∧zE i_3.m.s=zE i_2.m.s∧zW i_3.m.used=zW i_2.m.used∧AObj.fro 1 (iE i_3.m.p.months)=AObj.fro 1 (iE i_2.m.p.months)∧AObj.fro 1 (iE i_3.m.p.settle)=AObj.fro 1 (iE i_2.m.p.settle)∧((i_3.m.p.check=0∧i_3.m.p.code.length≤1099511627776∧i_3.m.p.months.length≤1099511627776∧i_3.m.p.settle.length≤1099511627776)∧((-9223372036854775808)≤i_3.x.price∧i_3.x.price≤9223372036854775807)∧i_3.x.fills.length≤1000000)∧∀(o:Unit),True→∃(i_4:MsI),i_4.r.kind=3∧i_4.r.id=n∧i_4.r.inst=n_1∧i_4.r.side=n_2∧i_4.r.price=n_3∧i_4.r.qty=n_4∧i_4.r.left=n_5∧i_4.r.why=0∧i_4.near=(xB i_3.m.p i_3.inst i_3.x).fst∧i_4.far=(xB i_3.m.p i_3.inst i_3.x).snd∧sb i_4.m.p.code=sb i_3.m.p.code∧i_4.m.p.tick=i_3.m.p.tick∧i_4.m.p.low=i_3.m.p.low∧i_4.m.p.high=i_3.m.p.high∧i_4.m.p.wide=i_3.m.p.wide∧i_4.m.p.rule=i_3.m.p.rule∧i_4.m.p.top=i_3.m.p.top∧i_4.m.p.least=i_3.m.p.least∧i_4.m.p.part=i_3.m.p.part∧zE i_4.m.s=zE i_3.m.s∧zW i_4.m.used=zW i_3.m.used∧AObj.fro 1 (iE i_4.m.p.months)=AObj.fro 1 (iE i_3.m.p.months)∧AObj.fro 1 (iE i_4.m.p.settle)=AObj.fro 1 (iE i_3.m.p.settle)∧((i_4.m.p.check=0∧i_4.m.p.code.length≤1099511627776∧i_4.m.p.months.length≤1099511627776∧i_4.m.p.settle.length≤1099511627776)∧(i_4.r.side=1∨i_4.r.side=2))∧∀(o:Unit),True→True∧((List.map z9 (i.out i_1)++[[D.v (.int .i64 3),D.v (.int .i64 n),D.v (.int .i64 n_1),D.v (.int .i64 n_2),D.v (.int .i64 n_3),D.v (.int .i64 n_4),D.v (.int .i64 n_5),D.v (.int .i64 0)]]).length+2)*(64:Nat)≤(70368744177664:Nat)∧∃(i':Nat),(↑i':Int)=IntKind.i64.wrap ((↑i_1:Int)+1)∧List.map z9 (i.out i')=List.map z9 (i.out i_1)++[[D.v (.int .i64 3),D.v (.int .i64 n),D.v (.int .i64 n_1),D.v (.int .i64 n_2),D.v (.int .i64 n_3),D.v (.int .i64 n_4),D.v (.int .i64 n_5),D.v (.int .i64 0)]]++[z9 (Rep.mk i_4.r.kind i_4.r.id (i_4.m.p.legs i_4.r.inst).fst i_4.r.side i_4.near i_4.r.qty i_4.r.left i_4.r.why),z9 (Rep.mk i_4.r.kind i_4.r.id (i_4.m.p.legs i_4.r.inst).snd.fst (3-i_4.r.side) i_4.far i_4.r.qty i_4.r.left i_4.r.why)]∧I i'∧μ i'<μ i_1∧aP i=aP i∧AObj.fro 6 (List.map yF i.x.fills)=AObj.fro 6 (List.map yF i.x.fills)∧aK i=aK i∧Sx.AObj.cells [V.nm 0 0] 23=Sx.AObj.cells [V.nm 0 0] 23∧Sx.AObj.cells (uR (uI 5 ((5:Nat)+(1:Nat)+(1:Nat)+(1:Nat)+(1:Nat)+(1:Nat)+(1:Nat)+(2:Nat)+(1:Nat)+(1:Nat)+(1:Nat)+(1:Nat)+((5:Nat)-(5:Nat))+((5:Nat)-(5:Nat))) ((6:Nat)-(5:Nat)) [((2:Nat),(2:Nat)),((1:Nat),(1:Nat)),((4:Nat),(4:Nat)),((3:Nat),(3:Nat)),((0:Nat),(0:Nat))]) [sV i_4.m.p.code,V.own 3,zC i_4.m.p.tick,zC i_4.m.p.low,zC i_4.m.p.high,zC i_4.m.p.wide,zC i_4.m.p.rule,zC i_4.m.p.top,zC i_4.m.p.least,zC i_4.m.p.part,V.own 4,V.nm 1 0,V.mp 2]) (90:TypeId)=zR i.m 0∧zE i_4.m.s=zR i.m 1∧Sx.AObj.map (zW i_4.m.used)=zR i.m 2∧AObj.fro 1 (iE i_4.m.p.months)=zR i.m 3∧AObj.fro 1 (iE i_4.m.p.settle)=zR i.m 4) (∃(i':Nat),(↑i':Int)=IntKind.i64.wrap ((↑i_1:Int)+1)∧List.map z9 (i.out i')=List.map z9 (i.out i_1)++[[D.v (.int .i64 3),D.v (.int .i64 n),D.v (.int .i64 n_1),D.v (.int .i64 n_2),D.v (.int .i64 n_3),D.v (.int .i64 n_4),D.v (.int .i64 n_5),D.v (.int .i64 0)]]∧I i'∧μ i'<μ i_1∧aP i=aP i∧AObj.fro 6 (List.map yF i.x.fills)=AObj.fro 6 (List.map yF i.x.fills)∧aK i=aK i∧Sx.AObj.cells [V.nm 0 0] 23=Sx.AObj.cells [V.nm 0 0] 23∧Sx.AObj.cells (uR (uI 5 ((5:Nat)+(1:Nat)+(1:Nat)+(1:Nat)+(1:Nat)+(1:Nat)+(1:Nat)+(2:Nat)+(1:Nat)+(1:Nat)+(1:Nat)+(1:Nat)) ((5:Nat)-(5:Nat)) [((2:Nat),(2:Nat)),((1:Nat),(1:Nat)),((4:Nat),(4:Nat)),((3:Nat),(3:Nat)),((0:Nat),(0:Nat))]) [sV i_2.m.p.code,V.own 3,zC i_2.m.p.tick,zC i_2.m.p.low,zC i_2.m.p.high,zC i_2.m.p.wide,zC i_2.m.p.rule,zC i_2.m.p.top,zC i_2.m.p.least,zC i_2.m.p.part,V.own 4,V.nm 1 0,V.mp 2]) (90:TypeId)=zR i.m 0∧zE i_2.m.s=zR i.m 1∧Sx.AObj.map (zW i_2.m.used)=zR i.m 2∧AObj.fro 1 (iE i_2.m.p.months)=zR i.m 3∧AObj.fro 1 (iE i_2.m.p.settle)=zR i.m 4)) (((List.map z9 (i.out i_1)).length+1)*(64:Nat)≤(70368744177664:Nat)∧∃(i_2:MiN),i_2.inst=i.c.inst∧sb i_2.m.p.code=sb i.m.p.code∧i_2.m.p.tick=i.m.p.tick∧i_2.m.p.low=i.m.p.low∧i_2.m.p.high=i.m.p.high∧i_2.m.p.wide=i.m.p.wide∧i_2.m.p.rule=i.m.p.rule∧i_2.m.p.top=i.m.p.top∧i_2.m.p.least=i.m.p.least∧i_2.m.p.part=i.m.p.part∧zE i_2.m.s=zR i.m 1∧zW i_2.m.used=zW i.m.used∧AObj.fro 1 (iE i_2.m.p.months)=zR i.m 3∧AObj.fro 1 (iE i_2.m.p.settle)=zR i.m 4∧(i_2.m.p.check=0∧i_2.m.p.code.length≤1099511627776∧i_2.m.p.months.length≤1099511627776∧i_2.m.p.settle.length≤1099511627776)∧∀(o:Unit),True→cnd (i_2.m.p.legs i_2.inst).snd.snd (∃(i_3:MpI),i_3.inst=i.c.inst∧i_3.x.price=i.x.price∧i_3.x.qty=i.x.qty∧i_3.x.implied=i.x.implied∧List.map yF i_3.x.fills=List.map yF i.x.fills∧sb i_3.m.p.code=sb i_2.m.p.code∧i_3.m.p.tick=i_2.m.p.tick∧i_3.m.p.low=i_2.m.p.low∧i_3.m.p.high=i_2.m.p.high∧i_3.m.p.wide=i_2.m.p.wide∧i_3.m.p.rule=i_2.m.p.rule∧i_3.m.p.top=i_2.m.p.top∧i_3.m.p.least=i_2.m.p.least∧i_3.m.p.part=i_2.m.p.part∧zE i_3.m.s=zE i_2.m.s∧zW i_3.m.used=zW i_2.m.used∧AObj.fro 1 (iE i_3.m.p.months)=AObj.fro 1 (iE i_2.m.p.months)∧AObj.fro 1 (iE i_3.m.p.settle)=AObj.fro 1 (iE i_2.m.p.settle)∧((i_3.m.p.check=0∧i_3.m.p.code.length≤1099511627776∧i_3.m.p.months.length≤1099511627776∧i_3.m.p.settle.length≤1099511627776)∧((-9223372036854775808)≤i_3.x.price∧i_3.x.price≤9223372036854775807)∧i_3.x.fills.length≤1000000)∧∀(o:Unit),True→∃(i_4:MsI),i_4.r.kind=3∧i_4.r.id=i.c.id∧i_4.r.inst=i.c.inst∧i_4.r.side=i.c.side∧i_4.r.price=i.x.price∧i_4.r.qty=i.x.qty∧i_4.r.left=i.left∧i_4.r.why=0∧i_4.near=(xB i_3.m.p i_3.inst i_3.x).fst∧i_4.far=(xB i_3.m.p i_3.inst i_3.x).snd∧sb i_4.m.p.code=sb i_3.m.p.code∧i_4.m.p.tick=i_3.m.p.tick∧i_4.m.p.low=i_3.m.p.low∧i_4.m.p.high=i_3.m.p.high∧i_4.m.p.wide=i_3.m.p.wide∧i_4.m.p.rule=i_3.m.p.rule∧i_4.m.p.top=i_3.m.p.top∧i_4.m.p.least=i_3.m.p.least∧i_4.m.p.part=i_3.m.p.part∧zE i_4.m.s=zE i_3.m.s∧zW i_4.m.used=zW i_3.m.used∧AObj.fro 1 (iE i_4.m.p.months)=AObj.fro 1 (iE i_3.m.p.months)∧AObj.fro 1 (iE i_4.m.p.settle)=AObj.fro 1 (iE i_3.m.p.settle)∧((i_4.m.p.check=0∧i_4.m.p.code.length≤1099511627776∧i_4.m.p.months.length≤1099511627776∧i_4.m.p.settle.length≤1099511627776)∧(i_4.r.side=1∨i_4.r.side=2))∧∀(o:Unit),True→True∧((List.map z9 (i.out i_1)++[[D.v (.int .i64 3),D.v (.int .i64 i.c.id),D.v (.int .i64 i.c.inst),D.v (.int .i64 i.c.side),D.v (.int .i64 i.x.price),D.v (.int .i64 i.x.qty),D.v (.int .i64 i.left),D.v (.int .i64 0)]]).length+2)*(64:Nat)≤(70368744177664:Nat)∧∃(o:Unit),sb i.m.p.code=sb i_4.m.p.code∧i.m.p.tick=i_4.m.p.tick∧i.m.p.low=i_4.m.p.low∧i.m.p.high=i_4.m.p.high∧i.m.p.wide=i_4.m.p.wide∧i.m.p.rule=i_4.m.p.rule∧i.m.p.top=i_4.m.p.top∧i.m.p.least=i_4.m.p.least∧i.m.p.part=i_4.m.p.part∧zE i.m.s=zE i_4.m.s∧zW i.m.used=zW i_4.m.used∧AObj.fro 1 (iE i.m.p.months)=AObj.fro 1 (iE i_4.m.p.months)∧AObj.fro 1 (iE i.m.p.settle)=AObj.fro 1 (iE i_4.m.p.settle)∧List.map z9 (uL i.m.p i.c i.x i.left)=List.map z9 (i.out i_1)++[[D.v (.int .i64 3),D.v (.int .i64 i.c.id),D.v (.int .i64 i.c.inst),D.v (.int .i64 i.c.side),D.v (.int .i64 i.x.price),D.v (.int .i64 i.x.qty),D.v (.int .i64 i.left),D.v (.int .i64 0)]]++[z9 (Rep.mk i_4.r.kind i_4.r.id (i_4.m.p.legs i_4.r.inst).fst i_4.r.side i_4.near i_4.r.qty i_4.r.left i_4.r.why),z9 (Rep.mk i_4.r.kind i_4.r.id (i_4.m.p.legs i_4.r.inst).snd.fst (3-i_4.r.side) i_4.far i_4.r.qty i_4.r.left i_4.r.why)]∧True) (∃(o:Unit),sb i.m.p.code=sb i_2.m.p.code∧i.m.p.tick=i_2.m.p.tick∧i.m.p.low=i_2.m.p.low∧i.m.p.high=i_2.m.p.high∧i.m.p.wide=i_2.m.p.wide∧i.m.p.rule=i_2.m.p.rule∧i.m.p.top=i_2.m.p.top∧i.m.p.least=i_2.m.p.least∧i.m.p.part=i_2.m.p.part∧zE i.m.s=zE i_2.m.s∧zW i.m.used=zW i_2.m.used∧AObj.fro 1 (iE i.m.p.months)=AObj.fro 1 (iE i_2.m.p.months)∧AObj.fro 1 (iE i.m.p.settle)=AObj.fro 1 (iE i_2.m.p.settle)∧List.map z9 (uL i.m.p i.c i.x i.left)=List.map z9 (i.out i_1)++[[D.v (.int .i64 3),D.v (.int .i64 i.c.id),D.v (.int .i64 i.c.inst),D.v (.int .i64 i.c.side),D.v (.int .i64 i.x.price),D.v (.int .i64 i.x.qty),D.v (.int .i64 i.left),D.v (.int .i64 0)]]∧True))
theorem zZr (hG:GOk Tryz.prog ([(115,misC),(116,mpricesC),(117,mspreadC)])) (h:∀(i:StI'),mstepC.cnd i→zKk i):mstepC.ok Tryz.prog 97:=okw mixed hG 1 (fun _=>[]) (fun i=>z9l i) [] Tryz.func97 h
open Go Cv Go.Proofs
theorem zIx:rejC.ok Tryz.prog 39:=yBn gok0 fun i _=>⟨(),rfl,trivial⟩
theorem zUe (i:MsI) (h:mspreadC.cnd i):sZ i:=by
 obtain⟨⟨hc,hp⟩,hs⟩:i.m.fine∧(i.r.side=1∨i.r.side=2):=h
 have hw:IntKind.i64.wrap (3-i.r.side)=3-i.r.side:=w64 (by omega)
 unfold sZ bM
 rw[hw]
 refine⟨⟨i.m.p,i.r.inst⟩,rfl,rfl,rfl,rfl,rfl,rfl,rfl,rfl,rfl,rfl,rfl,rfl,hp,fun _ _=> ?_⟩
 exact kp
theorem zIt:mspreadC.ok Tryz.prog 117:=zQd (gokc dS gok0) zUe
theorem z9c:misC.ok Tryz.prog 115:=yBj (gokc dS gok0) fun i h=>by
 obtain⟨hc,hp⟩:i.m.fine:=h
 exact⟨⟨i.m.p,i.inst⟩,rfl,rfl,rfl,rfl,rfl,rfl,rfl,rfl,rfl,rfl,rfl,rfl,hp,fun _ _=>kp⟩
theorem yBl {l:List wB} {k:Nat} {f:wB} (h:l[k]? =some f):zI (l.map yF) k 0 6=some [D.v (.int .i64 f.id),D.v (.int .i64 f.inst),D.v (.int .i64 f.side),D.v (.int .i64 f.price),D.v (.int .i64 f.qty),D.v (.int .i64 f.left)]:=elA h (by simp[yF]) rfl
theorem vof (i:OfI) (h:ofC.cnd i):Vof i:=by
 have hl:i.x.fills.length≤1000000:=h
 have e4:(i.x.fills.map yF).length=i.x.fills.length:=List.length_map ..
 unfold Vof
 refine⟨0,rfl,fun j=>j≤i.x.fills.length∧(i.x.fills.take j).find? (fun f=>decide (f.inst=i.k))=none,fun j=>i.x.fills.length-j,⟨Nat.zero_le _,rfl⟩,?_⟩
 rintro j ⟨j1,j2⟩
 refine zU (fun c=> ?_) (fun c=> ?_)
 ·obtain⟨f,hf⟩:=yD (l:=i.x.fills) (i:=j) (by omega)
  refine⟨⟨by omega,by omega⟩,_,_,_,_,_,_,yBl hf,Cv.cnd.mk (fun g=>⟨(),?_,by(repeat'(first|exact trivial|exact rfl|apply And.intro))⟩) (fun g=>⟨j+1,wjn (by omega),⟨by omega,?_⟩,by dsimp only;omega,by(repeat'(first|exact trivial|exact rfl|apply And.intro))⟩)⟩
  ·have g:f.inst=i.k:=by simpa using g
   have e:i.x.fills.find? (fun f=>decide (f.inst=i.k))=some f:=by
    rw[← List.take_append_drop j i.x.fills,List.find?_append,j2,List.drop_eq_getElem_cons (by omega),(List.getElem?_eq_some_iff.1 hf).2,List.find?_cons_of_pos (by simpa using g)]
    rfl
   rw[ofF,e]
  ·have g:¬f.inst=i.k:=by simpa using g
   rw[List.take_add_one,hf,List.find?_append,j2]
   simp[g]
 ·have:j=i.x.fills.length:=by omega
  rw[this,List.take_of_length_le (Nat.le_refl _)]at j2
  exact⟨(),by rw[ofF,j2],by(repeat'(first|exact trivial|exact rfl|apply And.intro))⟩
theorem yAp:ofC.ok Tryz.prog 134:=yEg gok0 vof
theorem zXz (i:MpI) (h:mpricesC.cnd i):rQ i:=by
 obtain⟨⟨hc,hp⟩,hpr,hl⟩:i.m.fine∧yI i.x.price∧i.x.fills.length≤1000000:=h
 unfold rQ
 refine Cv.cnd.mk (fun e=> ?_) (fun e=> ?_)
 ·have e:i.x.implied=false:=by simpa using e
  have h0:xB i.m.p i.inst i.x=((xF i.m.p i.inst i.x.price).1,(xF i.m.p i.inst i.x.price).2.1):=by rw[xB,if_pos e]
  rw[h0]
  exact⟨⟨i.m.p,i.inst,i.x.price⟩,rfl,rfl,rfl,rfl,rfl,rfl,rfl,rfl,rfl,rfl,rfl,rfl,rfl,⟨hc,hp,hpr⟩,fun _ _=>kp⟩
 ·have e:¬i.x.implied=false:=by simpa using e
  have h0:xB i.m.p i.inst i.x=(ofF i.x (i.m.p.legs i.inst).1,ofF i.x (i.m.p.legs i.inst).2.1):=by rw[xB,if_neg e]
  rw[h0]
  exact⟨⟨i.m.p,i.inst⟩,rfl,rfl,rfl,rfl,rfl,rfl,rfl,rfl,rfl,rfl,rfl,rfl,hp,fun _ _=>⟨⟨i.x,(i.m.p.legs i.inst).1⟩,rfl,rfl,rfl,rfl,rfl,hl,fun _ _=>⟨⟨i.x,(i.m.p.legs i.inst).2.1⟩,rfl,rfl,rfl,rfl,rfl,hl,fun _ _=>kp⟩⟩⟩
theorem zJs:mpricesC.ok Tryz.prog 116:=zRr (gokc dS (gokc zKd (gokc yAp gok0))) zXz
theorem p9 (p:Prd) (x:qF) (r:Rep):(vV p x r).length≤3:=by
 rw[vV,List.length_cons]
 split
 ·rw[pF];simp
 ·simp
theorem zNz {p:Prd} {x:qF} {r:Rep} (h:(p.legs r.inst).2.2=false):vV p x r=[r]:=by
 rw[vV,if_neg (by rw[h];decide)]
theorem zHx {p:Prd} {x:qF} {r:Rep} (h:(p.legs r.inst).2.2=true):vV p x r=r::pF p r (xB p r.inst x).1 (xB p r.inst x).2:=by
 rw[vV,if_pos h]
theorem StI'.out_len (i:StI'):∀j,(i.out j).length≤3*j
 |0=>Nat.le_refl _
 |j+1=>by
  have ih:=StI'.out_len i j
  rw[StI'.out]at ih ⊢
  rw[List.take_add_one,List.flatMap_append,List.length_append]
  cases e:i.x.fills[j]? with
  |none=>simp only[Option.toList_none,List.flatMap_nil,List.length_nil];omega
  |some f=>
   have:=p9 i.m.p i.x (cR f)
   simp only[Option.toList_some,List.flatMap_cons,List.flatMap_nil,List.append_nil]
   omega
theorem StI'.out_succ (i:StI') {j:Nat} {f:wB} (h:i.x.fills[j]? =some f):i.out (j+1)=i.out j++vV i.m.p i.x (cR f):=by
 rw[StI'.out,StI'.out,List.take_add_one,List.flatMap_append,h]
 simp
theorem z6t (i:StI') (h:mstepC.cnd i):zKk i:=by
 obtain⟨hf,hpr,hl,hcs,hfs⟩:i.m.fine∧yI i.x.price∧i.x.fills.length≤1000000∧(i.c.side=1∨i.c.side=2)∧∀f∈i.x.fills,f.side=1∨f.side=2:=h
 have e4:(i.x.fills.map yF).length=i.x.fills.length:=List.length_map ..
 unfold zKk
 refine⟨0,rfl,rfl,fun j=>j≤i.x.fills.length,fun j=>i.x.fills.length-j,Nat.zero_le _,?_⟩
 intro j hj
 have ho:=i.out_len j
 have e5:((i.out j).map z9).length=(i.out j).length:=List.length_map ..
 refine zU (fun c=> ?_) (fun c=> ?_)
 ·obtain⟨f,hfj⟩:=yD (l:=i.x.fills) (i:=j) (by omega)
  have hos:=i.out_succ hfj
  have hfj2:=hfs f (List.mem_of_getElem? hfj)
  refine⟨⟨by omega,by omega⟩,_,_,_,_,_,_,yBl hfj,by omega,⟨i.m,f.inst⟩,rfl,rfl,rfl,rfl,rfl,rfl,rfl,rfl,rfl,rfl,rfl,rfl,rfl,rfl,hf,fun _ _=>Cv.cnd.mk (fun e=> ?_) (fun e=> ?_)⟩
  ·have e:(i.m.p.legs (cR f).inst).2.2=true:=e
   rw[zHx e]at hos
   refine⟨⟨i.m,f.inst,i.x⟩,rfl,rfl,rfl,rfl,rfl,rfl,rfl,rfl,rfl,rfl,rfl,rfl,rfl,rfl,rfl,rfl,rfl,rfl,⟨hf,hpr,hl⟩,fun _ _=>⟨⟨i.m,cR f,(xB i.m.p f.inst i.x).1,(xB i.m.p f.inst i.x).2⟩,rfl,rfl,rfl,rfl,rfl,rfl,rfl,rfl,rfl,rfl,rfl,rfl,rfl,rfl,rfl,rfl,rfl,rfl,rfl,rfl,rfl,rfl,rfl,⟨hf,hfj2⟩,fun _ _=>⟨trivial,by rw[List.length_append,e5];simp only[List.length_cons,List.length_nil];omega,j+1,wjn (by omega),?_,by omega,by dsimp only;omega,by(repeat'(first|exact trivial|exact rfl|apply And.intro))⟩⟩⟩
   rw[hos,List.map_append,List.append_assoc]
   rfl
  ·have e:(i.m.p.legs (cR f).inst).2.2=false:=e
   rw[zNz e]at hos
   refine⟨j+1,wjn (by omega),?_,by omega,by dsimp only;omega,by(repeat'(first|exact trivial|exact rfl|apply And.intro))⟩
   rw[hos,List.map_append];rfl
 ·have hj:j=i.x.fills.length:=by omega
  have ho2:i.x.fills.flatMap (fun f=>vV i.m.p i.x (cR f))=i.out j:=by rw[StI'.out,hj,List.take_of_length_le (Nat.le_refl _)]
  have hR:uL i.m.p i.c i.x i.left=i.out j++vV i.m.p i.x ⟨3,i.c.id,i.c.inst,i.c.side,i.x.price,i.x.qty,i.left,0⟩:=by rw[uL,ho2]
  refine⟨by omega,⟨i.m,i.c.inst⟩,rfl,rfl,rfl,rfl,rfl,rfl,rfl,rfl,rfl,rfl,rfl,rfl,rfl,rfl,hf,fun _ _=>Cv.cnd.mk (fun e=> ?_) (fun e=> ?_)⟩
  ·have e:(i.m.p.legs (⟨3,i.c.id,i.c.inst,i.c.side,i.x.price,i.x.qty,i.left,0⟩:Rep).inst).2.2=true:=e
   rw[zHx e]at hR
   refine⟨⟨i.m,i.c.inst,i.x⟩,rfl,rfl,rfl,rfl,rfl,rfl,rfl,rfl,rfl,rfl,rfl,rfl,rfl,rfl,rfl,rfl,rfl,rfl,⟨hf,hpr,hl⟩,fun _ _=>⟨⟨i.m,⟨3,i.c.id,i.c.inst,i.c.side,i.x.price,i.x.qty,i.left,0⟩,(xB i.m.p i.c.inst i.x).1,(xB i.m.p i.c.inst i.x).2⟩,rfl,rfl,rfl,rfl,rfl,rfl,rfl,rfl,rfl,rfl,rfl,rfl,rfl,rfl,rfl,rfl,rfl,rfl,rfl,rfl,rfl,rfl,rfl,⟨hf,hcs⟩,fun _ _=>⟨trivial,by rw[List.length_append,e5];simp only[List.length_cons,List.length_nil];omega,?_⟩⟩⟩
   rw[hR,List.map_append,List.append_assoc]
   exact kp
  ·have e:(i.m.p.legs (⟨3,i.c.id,i.c.inst,i.c.side,i.x.price,i.x.qty,i.left,0⟩:Rep).inst).2.2=false:=e
   rw[zNz e]at hR
   rw[hR,List.map_append]
   exact kp
theorem zVs:mstepC.ok Tryz.prog 97:=zZr (gokc z9c (gokc zJs (gokc zIt gok0))) z6t
open Go Cv Go.Proofs
structure EnI where
 m:Mkt
 p:Prd
 B:List (List zJ)
 U:List Int
 c:Cmd
 X:MkX
@[reducible] def EnI.std (i:EnI):Prop:=i.m.Rep i.p i.B i.U∧BOk i.p i.B
@[reducible] def EnI.good (i:EnI):Prop:=(0≤i.c.inst∧i.c.inst<i.B.length)∧(1≤i.c.qty∧i.c.qty≤1000000)∧(i.c.side=1∨i.c.side=2)
@[reducible] def zGx (X:MkX) (p:Prd):Alt:={o:=Mkt,res:=fun _=> .own 5,post:=fun o=>mK o++[zKu X.R],rel:=fun o=>o.Rep p X.B X.U}
def enterC:Con where
 ι:=EnI
 pat:=fun i=>[.nm 0 0,m8 i.c]
 pre:=fun i=>mK i.m
 cnd:=fun i=>i.std∧i.good∧i.p.price i.c.inst i.c.price=0∧i.X=y4 i.p i.B i.U i.c
 alts:=fun i=>[zGx i.X i.p]
structure EnJ where
 left:Int
 k:Nat
 out:List Rep
def z6d (i:EnI):List SAnn:=[{ι:=EnJ,slots:=fun j=>[(5,.own 0),(8,zC j.left),(51,zC j.k)],rows:=fun j=>[zKu j.out]}]
def orderC:Con where
 ι:=EnI
 pat:=fun i=>[.nm 0 0,m8 i.c]
 pre:=fun i=>mK i.m
 cnd:=fun i=>i.std∧i.c.right=0∧i.c.kind=1∧i.X=uQ i.p i.B i.U i.c
 alts:=fun i=>[zGx i.X i.p]
def z6l:List (Nat×SAnn):=[(22,ij 6),(44,bj 47),(52,bj 69)]
structure CaI where
 m:Mkt
 p:Prd
 B:List (List zJ)
 U:List Int
 id:Int
 q:Int
 inst:Int
 o:zJ
 X:MkX
@[reducible] def CaI.std (i:CaI):Prop:=i.m.Rep i.p i.B i.U∧BOk i.p i.B
def cancelC:Con where
 ι:=CaI
 pat:=fun i=>[.nm 0 0,zC i.id,zC i.inst,zRx i.o]
 pre:=fun i=>mK i.m
 cnd:=fun i=>i.std∧i.X=jN i.B i.U i.id i.inst i.o
 alts:=fun i=>[zGx i.X i.p]
def reduceC:Con where
 ι:=CaI
 pat:=fun i=>[.nm 0 0,zC i.id,zC i.q,zC i.inst,zRx i.o]
 pre:=fun i=>mK i.m
 cnd:=fun i=>i.std∧yI (i.o.qty-i.q)∧i.X=uH i.B i.U i.id i.q i.inst i.o
 alts:=fun i=>[zGx i.X i.p]
structure zRi where
 m:Mkt
 p:Prd
 B:List (List zJ)
 U:List Int
 c:Cmd
 inst:Int
 o:zJ
 X:MkX
def replaceC:Con where
 ι:=zRi
 pat:=fun i=>[.nm 0 0,m8 i.c,zC i.inst,zRx i.o]
 pre:=fun i=>mK i.m
 cnd:=fun i=>i.m.Rep i.p i.B i.U∧BOk i.p i.B∧zY i.B i.c.id=(i.inst,i.o,true)∧(1≤i.c.qty∧i.c.qty≤1000000)∧i.X=kM i.p i.B i.U i.c i.inst i.o
 alts:=fun i=>[zGx i.X i.p]
def doC:Con where
 ι:=EnI
 pat:=fun i=>[.nm 0 0,m8 i.c]
 pre:=fun i=>[zHg i.m]
 cnd:=fun i=>i.std∧i.c.label.length≤140737488355328∧yI i.c.qty∧i.X=doF i.p i.B i.U i.c
 alts:=fun i=>[{o:=Mkt,res:=fun _=> .own 1,post:=fun o=>[zHg o,zKu i.X.R],rel:=fun o=>o.Rep i.p i.X.B i.X.U}]
structure MfI where
 m:Mkt
 p:Prd
 B:List (List zJ)
 U:List Int
 id:Int
def mcountC:Con:=con1 MfI (fun i=>[.nm 0 0]) (fun i=>[zHg i.m]) (fun i=>i.m.Rep i.p i.B i.U∧BOk i.p i.B) (fun i=>zC (cJ i.B)) (fun i=>[zHg i.m])
open Go Cv Go.Proofs
@[reducible] def zGh (i:EnI):AObj:=Sx.AObj.cells [V.d (D.v (.int .i64 i.c.kind)),V.d (D.v (.int .i64 i.c.id)),V.d (D.v (.int .i64 i.c.inst)),V.d (D.v (.int .i64 i.c.side)),V.d (D.v (.int .i64 i.c.price)),V.d (D.v (.int .i64 i.c.qty)),V.d (D.v (.int .i64 i.c.least)),V.d (D.v (.int .i64 i.c.time)),V.d (D.v (Value.string (sb i.c.label)))] (35:Nat)
def zLd (i:EnI):Prop:=
 (∀(p:Value×List D),p∈zW i.m.used→like (Value.int IntKind.i64 i.c.id) p.fst=true)∧∃(i_1:RunI),i_1.inst=i.c.inst∧zB i_1.sd=i.c.side∧i_1.price=i.c.price∧i_1.q=i.c.qty∧zE i_1.s=zR i.m 1∧(i_1.s.Rep i_1.p i_1.B∧BOk i_1.p i_1.B∧(0≤i_1.inst∧i_1.inst<(↑i_1.B.length:Int))∧1≤i_1.q∧i_1.q≤1000000)∧∀(o:MSt),o.Rep i_1.p i_1.r.B→∃(i0:EnJ),i0.left=i.c.qty∧(↑i0.k:Int)=0∧List.map z9 i0.out=[[D.v (.int .i64 1),D.v (.int .i64 i.c.id),D.v (.int .i64 i.c.inst),D.v (.int .i64 i.c.side),D.v (.int .i64 i.c.price),D.v (.int .i64 i.c.qty),D.v (.int .i64 i.c.qty),D.v (.int .i64 0)]]∧∃(I:EnJ→Prop),∃(μ:EnJ→Nat),I i0∧∀(i_2:EnJ),I i_2→cnd (decide ((↑i_2.k:Int)<(↑(List.map xZ i_1.r.steps).length:Int))) ((0≤(↑i_2.k:Int)∧(↑i_2.k:Int)<(↑(List.map xZ i_1.r.steps).length:Int))∧∃(n:Int),∃(n_1:Int),∃(b:Bool),∃(els:List (List D)),zI (List.map xZ i_1.r.steps) (↑i_2.k:Int).toNat 0 4=some [D.v (.int .i64 n),D.v (.int .i64 n_1),D.v (.bool b),D.ro 6 els]∧∃(i_3:StI'),i_3.c.kind=i.c.kind∧i_3.c.id=i.c.id∧i_3.c.inst=i.c.inst∧i_3.c.side=i.c.side∧i_3.c.price=i.c.price∧i_3.c.qty=i.c.qty∧i_3.c.least=i.c.least∧i_3.c.time=i.c.time∧sb i_3.c.label=sb i.c.label∧i_3.x.price=n∧i_3.x.qty=n_1∧i_3.x.implied=b∧List.map yF i_3.x.fills=els∧i_3.left=IntKind.i64.wrap (i_2.left-n_1)∧sb i_3.m.p.code=sb i.m.p.code∧i_3.m.p.tick=i.m.p.tick∧i_3.m.p.low=i.m.p.low∧i_3.m.p.high=i.m.p.high∧i_3.m.p.wide=i.m.p.wide∧i_3.m.p.rule=i.m.p.rule∧i_3.m.p.top=i.m.p.top∧i_3.m.p.least=i.m.p.least∧i_3.m.p.part=i.m.p.part∧zE i_3.m.s=zE o∧zW i_3.m.used=jE (Value.int IntKind.i64 i.c.id) [D.v (.bool true)] (zW i.m.used)∧AObj.fro 1 (iE i_3.m.p.months)=zR i.m 3∧AObj.fro 1 (iE i_3.m.p.settle)=zR i.m 4∧((i_3.m.p.check=0∧i_3.m.p.code.length≤1099511627776∧i_3.m.p.months.length≤1099511627776∧i_3.m.p.settle.length≤1099511627776)∧((-9223372036854775808)≤i_3.x.price∧i_3.x.price≤9223372036854775807)∧i_3.x.fills.length≤1000000∧(i_3.c.side=1∨i_3.c.side=2)∧∀(f:wB),f∈i_3.x.fills→f.side=1∨f.side=2)∧∀(o_1:Unit),True→((List.map z9 i_2.out).length+(List.map z9 (uL i_3.m.p i_3.c i_3.x i_3.left)).length)*(64:Nat)≤(70368744177664:Nat)∧∃(i':EnJ),i'.left=IntKind.i64.wrap (i_2.left-n_1)∧(↑i'.k:Int)=IntKind.i64.wrap ((↑i_2.k:Int)+1)∧List.map z9 i'.out=List.map z9 i_2.out++List.map z9 (uL i_3.m.p i_3.c i_3.x i_3.left)∧I i'∧μ i'<μ i_2∧zE i_3.m.s=zE o∧AObj.own 158 4 (List.map xZ i_1.r.steps)=AObj.own 158 4 (List.map xZ i_1.r.steps)∧zGh i=zGh i∧Sx.AObj.cells (uR (uI 5 ((5:Nat)+(1:Nat)+1+((2:Nat)-(1:Nat))+(1:Nat)+(1:Nat)+1) ((6:Nat)-(5:Nat)) [((2:Nat),(2:Nat)),((1:Nat),(1:Nat)),((4:Nat),(4:Nat)),((3:Nat),(3:Nat)),((0:Nat),(0:Nat))]) [sV i_3.m.p.code,V.own 3,zC i_3.m.p.tick,zC i_3.m.p.low,zC i_3.m.p.high,zC i_3.m.p.wide,zC i_3.m.p.rule,zC i_3.m.p.top,zC i_3.m.p.least,zC i_3.m.p.part,V.own 4,V.nm 1 0,V.mp 2]) (90:TypeId)=zR i.m 0∧Sx.AObj.map (zW i_3.m.used)=Sx.AObj.map (jE (Value.int IntKind.i64 i.c.id) [D.v (.bool true)] (zW i.m.used))∧AObj.fro 1 (iE i_3.m.p.months)=zR i.m 3∧AObj.fro 1 (iE i_3.m.p.settle)=zR i.m 4) (cnd (i_1.r.left==0) (∃(o_1:Mkt),sb o_1.p.code=sb i.m.p.code∧o_1.p.tick=i.m.p.tick∧o_1.p.low=i.m.p.low∧o_1.p.high=i.m.p.high∧o_1.p.wide=i.m.p.wide∧o_1.p.rule=i.m.p.rule∧o_1.p.top=i.m.p.top∧o_1.p.least=i.m.p.least∧o_1.p.part=i.m.p.part∧zE o_1.s=zE o∧zW o_1.used=jE (Value.int IntKind.i64 i.c.id) [D.v (.bool true)] (zW i.m.used)∧AObj.fro 1 (iE o_1.p.months)=zR i.m 3∧AObj.fro 1 (iE o_1.p.settle)=zR i.m 4∧List.map z9 i.X.R=List.map z9 i_2.out∧o_1.Rep i.p i.X.B i.X.U) (cnd (i.c.time==1) (∃(i_3:SaI),i_3.inst=i.c.inst∧i_3.id=i.c.id∧zB i_3.sd=i.c.side∧i_3.price=i.c.price∧i_3.qty=i_1.r.left∧zE i_3.s=zE o∧((i_3.s.p.code.length≤1099511627776∧i_3.s.p.months.length≤1099511627776∧i_3.s.p.settle.length≤1099511627776)∧i_3.s.books.length≤1000000∧∀(b:Book),b∈i_3.s.books→(b.a.slots.length≤1000000∧(b.a.free≠0→∃(s:Slot),s∈b.a.slots∧s.used=false)∧∀(q:x3),q∈b.a.queues→q.last=(-1)∨0≤q.last∧q.last<(↑b.a.slots.length:Int))∧b.a.queues.length≤100000∧b.buys.length≤100000∧b.sells.length≤100000∧b.spare.length≤100000)∧∀(o:Unit),True→∃(o:Mkt),sb o.p.code=sb i.m.p.code∧o.p.tick=i.m.p.tick∧o.p.low=i.m.p.low∧o.p.high=i.m.p.high∧o.p.wide=i.m.p.wide∧o.p.rule=i.m.p.rule∧o.p.top=i.m.p.top∧o.p.least=i.m.p.least∧o.p.part=i.m.p.part∧zE o.s=zE (MSt.addF i_3).fst∧zW o.used=jE (Value.int IntKind.i64 i.c.id) [D.v (.bool true)] (zW i.m.used)∧AObj.fro 1 (iE o.p.months)=zR i.m 3∧AObj.fro 1 (iE o.p.settle)=zR i.m 4∧List.map z9 i.X.R=List.map z9 i_2.out∧o.Rep i.p i.X.B i.X.U) (((List.map z9 i_2.out).length+1)*(64:Nat)≤(70368744177664:Nat)∧∃(o_1:Mkt),sb o_1.p.code=sb i.m.p.code∧o_1.p.tick=i.m.p.tick∧o_1.p.low=i.m.p.low∧o_1.p.high=i.m.p.high∧o_1.p.wide=i.m.p.wide∧o_1.p.rule=i.m.p.rule∧o_1.p.top=i.m.p.top∧o_1.p.least=i.m.p.least∧o_1.p.part=i.m.p.part∧zE o_1.s=zE o∧zW o_1.used=jE (Value.int IntKind.i64 i.c.id) [D.v (.bool true)] (zW i.m.used)∧AObj.fro 1 (iE o_1.p.months)=zR i.m 3∧AObj.fro 1 (iE o_1.p.settle)=zR i.m 4∧List.map z9 i.X.R=List.map z9 i_2.out++[[D.v (.int .i64 4),D.v (.int .i64 i.c.id),D.v (.int .i64 i.c.inst),D.v (.int .i64 i.c.side),D.v (.int .i64 i.c.price),D.v (.int .i64 i_1.r.left),D.v (.int .i64 0),D.v (.int .i64 0)]]∧o_1.Rep i.p i.X.B i.X.U)))
theorem z0a (hG:GOk Tryz.prog ([(56,runC),(97,mstepC),(98,saddC)])) (h:∀(i:EnI),enterC.cnd i→zLd i):enterC.ok Tryz.prog 74:=okw mixed hG 0 (fun _=>[]) (fun i=>z6d i) [] Tryz.func74 h
@[reducible] def qW (i:EnI):AObj:=Sx.AObj.cells [V.d (D.v (.int .i64 i.c.kind)),V.d (D.v (.int .i64 i.c.id)),V.d (D.v (.int .i64 i.c.inst)),V.d (D.v (.int .i64 i.c.side)),V.d (D.v (.int .i64 i.c.price)),V.d (D.v (.int .i64 i.c.qty)),V.d (D.v (.int .i64 i.c.least)),V.d (D.v (.int .i64 i.c.time)),V.d (D.v (Value.string (sb i.c.label)))] (35:Nat)
def zIw (i:EnI):Prop:=
 ∃(i_1:gK),sb i_1.p.code=sb i.m.p.code∧iE i_1.p.months=iE i.m.p.months∧i_1.p.tick=i.m.p.tick∧i_1.p.low=i.m.p.low∧i_1.p.high=i.m.p.high∧i_1.p.wide=i.m.p.wide∧i_1.p.rule=i.m.p.rule∧i_1.p.top=i.m.p.top∧i_1.p.least=i.m.p.least∧i_1.p.part=i.m.p.part∧iE i_1.p.settle=iE i.m.p.settle∧i_1.a=i.c.inst∧i_1.b=i.c.price∧(i_1.p.code.length≤1099511627776∧i_1.p.months.length≤1099511627776∧i_1.p.settle.length≤1099511627776)∧∀(o:Unit),True→cnd (i_1.p.price i_1.a i_1.b !=0) (∃(i_2:RjI),i_2.c.kind=i.c.kind∧i_2.c.id=i.c.id∧i_2.c.inst=i.c.inst∧i_2.c.side=i.c.side∧i_2.c.price=i.c.price∧i_2.c.qty=i.c.qty∧i_2.c.least=i.c.least∧i_2.c.time=i.c.time∧sb i_2.c.label=sb i.c.label∧i_2.why=i_1.p.price i_1.a i_1.b∧True∧∀(o:Unit),True→∃(o:Mkt),sb o.p.code=sb i.m.p.code∧o.p.tick=i.m.p.tick∧o.p.low=i.m.p.low∧o.p.high=i.m.p.high∧o.p.wide=i.m.p.wide∧o.p.rule=i.m.p.rule∧o.p.top=i.m.p.top∧o.p.least=i.m.p.least∧o.p.part=i.m.p.part∧zE o.s=zR i.m 1∧zW o.used=zW i.m.used∧AObj.fro 1 (iE o.p.months)=zR i.m 3∧AObj.fro 1 (iE o.p.settle)=zR i.m 4∧List.map z9 i.X.R=[z9 (Rep.mk 2 i_2.c.id 0 0 0 0 0 i_2.why)]∧o.Rep i.p i.X.B i.X.U) (∃(i0:Int),∃(I:Int→Prop),cnd (i.c.time==3) (∃(i':Int),i'=i.c.qty∧I i'∧qW i=qW i∧zR i.m 0=zR i.m 0∧zR i.m 1=zR i.m 1∧zR i.m 2=zR i.m 2∧zR i.m 3=zR i.m 3∧zR i.m 4=zR i.m 4) (∃(i':Int),i'=i.c.least∧I i'∧qW i=qW i∧zR i.m 0=zR i.m 0∧zR i.m 1=zR i.m 1∧zR i.m 2=zR i.m 2∧zR i.m 3=zR i.m 3∧zR i.m 4=zR i.m 4)∧∀(i_2:Int),I i_2→(∀(p:Value×List D),p∈zW i.m.used→like (Value.int IntKind.i64 i.c.id) p.fst=true)∧∃(b:Bool),∃(b_1:Bool),(x0 (Value.int IntKind.i64 i.c.id) (zW i.m.used)=some [D.v (.bool b_1)]∧b=true∨x0 (Value.int IntKind.i64 i.c.id) (zW i.m.used)=none∧[D.v (.bool b_1)]=[D.v (.bool false)]∧b=false)∧cnd b_1 (∃(i_3:RjI),i_3.c.kind=i.c.kind∧i_3.c.id=i.c.id∧i_3.c.inst=i.c.inst∧i_3.c.side=i.c.side∧i_3.c.price=i.c.price∧i_3.c.qty=i.c.qty∧i_3.c.least=i.c.least∧i_3.c.time=i.c.time∧sb i_3.c.label=sb i.c.label∧i_3.why=25∧True∧∀(o:Unit),True→∃(o:Mkt),sb o.p.code=sb i.m.p.code∧o.p.tick=i.m.p.tick∧o.p.low=i.m.p.low∧o.p.high=i.m.p.high∧o.p.wide=i.m.p.wide∧o.p.rule=i.m.p.rule∧o.p.top=i.m.p.top∧o.p.least=i.m.p.least∧o.p.part=i.m.p.part∧zE o.s=zR i.m 1∧zW o.used=zW i.m.used∧AObj.fro 1 (iE o.p.months)=zR i.m 3∧AObj.fro 1 (iE o.p.settle)=zR i.m 4∧List.map z9 i.X.R=[z9 (Rep.mk 2 i_3.c.id 0 0 0 0 0 i_3.why)]∧o.Rep i.p i.X.B i.X.U) (∃(i_3:SoI),zE i_3.s=zR i.m 1∧(i_3.s.Rep i_3.p i_3.B∧i_3.B.length≤1000)∧∀(o:Unit),True→cnd (decide ((↑(cJ i_3.B):Int)≥250)) (∃(i_4:RjI),i_4.c.kind=i.c.kind∧i_4.c.id=i.c.id∧i_4.c.inst=i.c.inst∧i_4.c.side=i.c.side∧i_4.c.price=i.c.price∧i_4.c.qty=i.c.qty∧i_4.c.least=i.c.least∧i_4.c.time=i.c.time∧sb i_4.c.label=sb i.c.label∧i_4.why=13∧True∧∀(o:Unit),True→∃(o:Mkt),sb o.p.code=sb i.m.p.code∧o.p.tick=i.m.p.tick∧o.p.low=i.m.p.low∧o.p.high=i.m.p.high∧o.p.wide=i.m.p.wide∧o.p.rule=i.m.p.rule∧o.p.top=i.m.p.top∧o.p.least=i.m.p.least∧o.p.part=i.m.p.part∧zE o.s=zE i_3.s∧zW o.used=zW i.m.used∧AObj.fro 1 (iE o.p.months)=zR i.m 3∧AObj.fro 1 (iE o.p.settle)=zR i.m 4∧List.map z9 i.X.R=[z9 (Rep.mk 2 i_4.c.id 0 0 0 0 0 i_4.why)]∧o.Rep i.p i.X.B i.X.U) (∃(i0:Bool),∃(I:Bool→Prop),cnd (decide (i_2>0)) (∃(i_4:RunI),i_4.inst=i.c.inst∧zB i_4.sd=i.c.side∧i_4.price=i.c.price∧i_4.q=i.c.qty∧zE i_4.s=zE i_3.s∧(i_4.s.Rep i_4.p i_4.B∧BOk i_4.p i_4.B∧(0≤i_4.inst∧i_4.inst<(↑i_4.B.length:Int))∧1≤i_4.q∧i_4.q≤1000000)∧∀(o:Unit),True→∃(i':Bool),i'=decide (i_4.q-i_4.r.left<i_2)∧I i'∧zE i_4.s=zE i_3.s∧qW i=qW i∧zR i.m 0=zR i.m 0∧zR i.m 2=zR i.m 2∧zR i.m 3=zR i.m 3∧zR i.m 4=zR i.m 4) (∃(i':Bool),i'=false∧I i'∧zE i_3.s=zE i_3.s∧qW i=qW i∧zR i.m 0=zR i.m 0∧zR i.m 2=zR i.m 2∧zR i.m 3=zR i.m 3∧zR i.m 4=zR i.m 4)∧∀(i_4:Bool),I i_4→cnd i_4 (∃(i_5:RjI),i_5.c.kind=i.c.kind∧i_5.c.id=i.c.id∧i_5.c.inst=i.c.inst∧i_5.c.side=i.c.side∧i_5.c.price=i.c.price∧i_5.c.qty=i.c.qty∧i_5.c.least=i.c.least∧i_5.c.time=i.c.time∧sb i_5.c.label=sb i.c.label∧i_5.why=28∧True∧∀(o:Unit),True→∃(o:Mkt),sb o.p.code=sb i.m.p.code∧o.p.tick=i.m.p.tick∧o.p.low=i.m.p.low∧o.p.high=i.m.p.high∧o.p.wide=i.m.p.wide∧o.p.rule=i.m.p.rule∧o.p.top=i.m.p.top∧o.p.least=i.m.p.least∧o.p.part=i.m.p.part∧zE o.s=zE i_3.s∧zW o.used=zW i.m.used∧AObj.fro 1 (iE o.p.months)=zR i.m 3∧AObj.fro 1 (iE o.p.settle)=zR i.m 4∧List.map z9 i.X.R=[z9 (Rep.mk 2 i_5.c.id 0 0 0 0 0 i_5.why)]∧o.Rep i.p i.X.B i.X.U) (∃(i0:Bool),∃(I:Bool→Prop),cnd (i.c.time==1) (∃(i_5:RunI),i_5.inst=i.c.inst∧zB i_5.sd=i.c.side∧i_5.price=i.c.price∧i_5.q=i.c.qty∧zE i_5.s=zE i_3.s∧(i_5.s.Rep i_5.p i_5.B∧BOk i_5.p i_5.B∧(0≤i_5.inst∧i_5.inst<(↑i_5.B.length:Int))∧1≤i_5.q∧i_5.q≤1000000)∧∀(o:Unit),True→∃(i':Bool),i'=kI i_5.p i_5.B i_5.inst i_5.sd i_5.price i_5.q∧I i'∧zE i_5.s=zE i_3.s∧qW i=qW i∧zR i.m 0=zR i.m 0∧zR i.m 2=zR i.m 2∧zR i.m 3=zR i.m 3∧zR i.m 4=zR i.m 4) (∃(i':Bool),i'=false∧I i'∧zE i_3.s=zE i_3.s∧qW i=qW i∧zR i.m 0=zR i.m 0∧zR i.m 2=zR i.m 2∧zR i.m 3=zR i.m 3∧zR i.m 4=zR i.m 4)∧∀(i_5:Bool),I i_5→cnd i_5 (∃(i_6:RjI),i_6.c.kind=i.c.kind∧i_6.c.id=i.c.id∧i_6.c.inst=i.c.inst∧i_6.c.side=i.c.side∧i_6.c.price=i.c.price∧i_6.c.qty=i.c.qty∧i_6.c.least=i.c.least∧i_6.c.time=i.c.time∧sb i_6.c.label=sb i.c.label∧i_6.why=23∧True∧∀(o:Unit),True→∃(o:Mkt),sb o.p.code=sb i.m.p.code∧o.p.tick=i.m.p.tick∧o.p.low=i.m.p.low∧o.p.high=i.m.p.high∧o.p.wide=i.m.p.wide∧o.p.rule=i.m.p.rule∧o.p.top=i.m.p.top∧o.p.least=i.m.p.least∧o.p.part=i.m.p.part∧zE o.s=zE i_3.s∧zW o.used=zW i.m.used∧AObj.fro 1 (iE o.p.months)=zR i.m 3∧AObj.fro 1 (iE o.p.settle)=zR i.m 4∧List.map z9 i.X.R=[z9 (Rep.mk 2 i_6.c.id 0 0 0 0 0 i_6.why)]∧o.Rep i.p i.X.B i.X.U) (∃(i_6:EnI),i_6.c.kind=i.c.kind∧i_6.c.id=i.c.id∧i_6.c.inst=i.c.inst∧i_6.c.side=i.c.side∧i_6.c.price=i.c.price∧i_6.c.qty=i.c.qty∧i_6.c.least=i.c.least∧i_6.c.time=i.c.time∧sb i_6.c.label=sb i.c.label∧sb i_6.m.p.code=sb i.m.p.code∧i_6.m.p.tick=i.m.p.tick∧i_6.m.p.low=i.m.p.low∧i_6.m.p.high=i.m.p.high∧i_6.m.p.wide=i.m.p.wide∧i_6.m.p.rule=i.m.p.rule∧i_6.m.p.top=i.m.p.top∧i_6.m.p.least=i.m.p.least∧i_6.m.p.part=i.m.p.part∧zE i_6.m.s=zE i_3.s∧zW i_6.m.used=zW i.m.used∧AObj.fro 1 (iE i_6.m.p.months)=zR i.m 3∧AObj.fro 1 (iE i_6.m.p.settle)=zR i.m 4∧((i_6.m.Rep i_6.p i_6.B i_6.U∧BOk i_6.p i_6.B)∧((0≤i_6.c.inst∧i_6.c.inst<(↑i_6.B.length:Int))∧(1≤i_6.c.qty∧i_6.c.qty≤1000000)∧(i_6.c.side=1∨i_6.c.side=2))∧i_6.p.price i_6.c.inst i_6.c.price=0∧i_6.X=y4 i_6.p i_6.B i_6.U i_6.c)∧∀(o:Mkt),o.Rep i_6.p i_6.X.B i_6.X.U→∃(o_1:Mkt),sb o_1.p.code=sb o.p.code∧o_1.p.tick=o.p.tick∧o_1.p.low=o.p.low∧o_1.p.high=o.p.high∧o_1.p.wide=o.p.wide∧o_1.p.rule=o.p.rule∧o_1.p.top=o.p.top∧o_1.p.least=o.p.least∧o_1.p.part=o.p.part∧zE o_1.s=zE o.s∧zW o_1.used=zW o.used∧AObj.fro 1 (iE o_1.p.months)=AObj.fro 1 (iE o.p.months)∧AObj.fro 1 (iE o_1.p.settle)=AObj.fro 1 (iE o.p.settle)∧List.map z9 i.X.R=List.map z9 i_6.X.R∧o_1.Rep i.p i.X.B i.X.U)))))
theorem z0g (hG:GOk Tryz.prog ([(72,priceC),(39,rejC),(45,countC16),(29,scouldC),(73,stuckC),(74,enterC)])) (h:∀(i:EnI),orderC.cnd i→zIw i):orderC.ok Tryz.prog 40:=okw mixed hG 0 (fun _=>z6l) (fun _=>[]) [] Tryz.func40 h
def zZe (i:CaI):Prop:=
 ∃(i_1:StI),i_1.id=i.id∧i_1.q=i.o.qty∧zE i_1.s=zR i.m 1∧(i_1.s.Rep i_1.p i_1.B∧i_1.B.length≤1000)∧∀(o:MSt),o.Rep i_1.p (yN i_1.B i_1.id i_1.q).fst→∃(o_1:Mkt),sb o_1.p.code=sb i.m.p.code∧o_1.p.tick=i.m.p.tick∧o_1.p.low=i.m.p.low∧o_1.p.high=i.m.p.high∧o_1.p.wide=i.m.p.wide∧o_1.p.rule=i.m.p.rule∧o_1.p.top=i.m.p.top∧o_1.p.least=i.m.p.least∧o_1.p.part=i.m.p.part∧zE o_1.s=zE o∧zW o_1.used=zW i.m.used∧AObj.fro 1 (iE o_1.p.months)=zR i.m 3∧AObj.fro 1 (iE o_1.p.settle)=zR i.m 4∧List.map z9 i.X.R=[[D.v (.int .i64 4),D.v (.int .i64 i.id),D.v (.int .i64 i.inst),D.v (.int .i64 i.o.side),D.v (.int .i64 i.o.price),D.v (.int .i64 i.o.qty),D.v (.int .i64 0),D.v (.int .i64 0)]]∧o_1.Rep i.p i.X.B i.X.U
theorem zUy (hG:GOk Tryz.prog ([(76,stakeC)])) (h:∀(i:CaI),cancelC.cnd i→zZe i):cancelC.ok Tryz.prog 43:=okw mixed hG 0 (fun _=>[]) (fun _=>[]) [] Tryz.func43 h
def zOg (i:CaI):Prop:=
 ∃(i_1:StI),i_1.id=i.id∧i_1.q=i.q∧zE i_1.s=zR i.m 1∧(i_1.s.Rep i_1.p i_1.B∧i_1.B.length≤1000)∧∀(o:MSt),o.Rep i_1.p (yN i_1.B i_1.id i_1.q).fst→∃(o_1:Mkt),sb o_1.p.code=sb i.m.p.code∧o_1.p.tick=i.m.p.tick∧o_1.p.low=i.m.p.low∧o_1.p.high=i.m.p.high∧o_1.p.wide=i.m.p.wide∧o_1.p.rule=i.m.p.rule∧o_1.p.top=i.m.p.top∧o_1.p.least=i.m.p.least∧o_1.p.part=i.m.p.part∧zE o_1.s=zE o∧zW o_1.used=zW i.m.used∧AObj.fro 1 (iE o_1.p.months)=zR i.m 3∧AObj.fro 1 (iE o_1.p.settle)=zR i.m 4∧List.map z9 i.X.R=[[D.v (.int .i64 5),D.v (.int .i64 i.id),D.v (.int .i64 i.inst),D.v (.int .i64 i.o.side),D.v (.int .i64 i.o.price),D.v (.int .i64 i.q),D.v (.int .i64 (IntKind.i64.wrap (i.o.qty-i.q))),D.v (.int .i64 0)]]∧o_1.Rep i.p i.X.B i.X.U
theorem zSz (hG:GOk Tryz.prog ([(76,stakeC)])) (h:∀(i:CaI),reduceC.cnd i→zOg i):reduceC.ok Tryz.prog 44:=okw mixed hG 0 (fun _=>[]) (fun _=>[]) [] Tryz.func44 h
@[reducible] def bI (i:zRi) (o:Unit):Prop:=∃(i_2:MSt),zE i_2=zR i.m 1∧(i_2.books.length≤1000000∧∀(b:Book),b∈i_2.books→(b.a.slots.length≤1000000∧b.a.queues.length≤1000000)∧b.buys.length≤1000000∧b.sells.length≤1000000∧b.spare.length≤1000000)∧∀(o:Unit),True→∃(i_3:StI),i_3.id=i.c.id∧i_3.q=i.o.qty∧zE i_3.s=zE i_2∧(i_3.s.Rep i_3.p i_3.B∧i_3.B.length≤1000)∧∀(o:MSt),o.Rep i_3.p (yN i_3.B i_3.id i_3.q).fst→∃(i_4:RunI),i_4.inst=i.inst∧zB i_4.sd=i.o.side∧i_4.price=i.c.price∧i_4.q=i.c.qty∧zE i_4.s=zE o∧(i_4.s.Rep i_4.p i_4.B∧BOk i_4.p i_4.B∧(0≤i_4.inst∧i_4.inst<(↑i_4.B.length:Int))∧1≤i_4.q∧i_4.q≤1000000)∧∀(o:Unit),True→cnd (kI i_4.p i_4.B i_4.inst i_4.sd i_4.price i_4.q) (∃(i_5:RjI),i_5.c.kind=i.c.kind∧i_5.c.id=i.c.id∧i_5.c.inst=i.c.inst∧i_5.c.side=i.c.side∧i_5.c.price=i.c.price∧i_5.c.qty=i.c.qty∧i_5.c.least=i.c.least∧i_5.c.time=i.c.time∧sb i_5.c.label=sb i.c.label∧i_5.why=23∧True∧∀(o:Unit),True→∃(o:Mkt),sb o.p.code=sb i.m.p.code∧o.p.tick=i.m.p.tick∧o.p.low=i.m.p.low∧o.p.high=i.m.p.high∧o.p.wide=i.m.p.wide∧o.p.rule=i.m.p.rule∧o.p.top=i.m.p.top∧o.p.least=i.m.p.least∧o.p.part=i.m.p.part∧zE o.s=zE i_2∧zW o.used=zW i.m.used∧AObj.fro 1 (iE o.p.months)=zR i.m 3∧AObj.fro 1 (iE o.p.settle)=zR i.m 4∧List.map z9 i.X.R=[z9 (Rep.mk 2 i_5.c.id 0 0 0 0 0 i_5.why)]∧o.Rep i.p i.X.B i.X.U) (∃(i_5:CaI),i_5.id=i.c.id∧i_5.inst=i.inst∧i_5.o.id=i.o.id∧i_5.o.side=i.o.side∧i_5.o.price=i.o.price∧i_5.o.qty=i.o.qty∧i_5.o.top=i.o.top∧sb i_5.m.p.code=sb i.m.p.code∧i_5.m.p.tick=i.m.p.tick∧i_5.m.p.low=i.m.p.low∧i_5.m.p.high=i.m.p.high∧i_5.m.p.wide=i.m.p.wide∧i_5.m.p.rule=i.m.p.rule∧i_5.m.p.top=i.m.p.top∧i_5.m.p.least=i.m.p.least∧i_5.m.p.part=i.m.p.part∧zE i_5.m.s=zE i_2∧zW i_5.m.used=zW i.m.used∧AObj.fro 1 (iE i_5.m.p.months)=zR i.m 3∧AObj.fro 1 (iE i_5.m.p.settle)=zR i.m 4∧((i_5.m.Rep i_5.p i_5.B i_5.U∧BOk i_5.p i_5.B)∧i_5.X=jN i_5.B i_5.U i_5.id i_5.inst i_5.o)∧∀(o:Mkt),o.Rep i_5.p i_5.X.B i_5.X.U→∃(i_6:EnI),i_6.c.kind=1∧i_6.c.id=i.c.id∧i_6.c.inst=i.inst∧i_6.c.side=i.o.side∧i_6.c.price=i.c.price∧i_6.c.qty=i.c.qty∧i_6.c.least=0∧i_6.c.time=1∧sb i_6.c.label=ByteArray.mk #[]∧sb i_6.m.p.code=sb o.p.code∧i_6.m.p.tick=o.p.tick∧i_6.m.p.low=o.p.low∧i_6.m.p.high=o.p.high∧i_6.m.p.wide=o.p.wide∧i_6.m.p.rule=o.p.rule∧i_6.m.p.top=o.p.top∧i_6.m.p.least=o.p.least∧i_6.m.p.part=o.p.part∧zE i_6.m.s=zE o.s∧zW i_6.m.used=zW o.used∧AObj.fro 1 (iE i_6.m.p.months)=AObj.fro 1 (iE o.p.months)∧AObj.fro 1 (iE i_6.m.p.settle)=AObj.fro 1 (iE o.p.settle)∧((i_6.m.Rep i_6.p i_6.B i_6.U∧BOk i_6.p i_6.B)∧((0≤i_6.c.inst∧i_6.c.inst<(↑i_6.B.length:Int))∧(1≤i_6.c.qty∧i_6.c.qty≤1000000)∧(i_6.c.side=1∨i_6.c.side=2))∧i_6.p.price i_6.c.inst i_6.c.price=0∧i_6.X=y4 i_6.p i_6.B i_6.U i_6.c)∧∀(o:Mkt),o.Rep i_6.p i_6.X.B i_6.X.U→((List.map z9 i_5.X.R).length+(List.map z9 i_6.X.R).length)*(64:Nat)≤(70368744177664:Nat)∧∃(o_1:Mkt),sb o_1.p.code=sb o.p.code∧o_1.p.tick=o.p.tick∧o_1.p.low=o.p.low∧o_1.p.high=o.p.high∧o_1.p.wide=o.p.wide∧o_1.p.rule=o.p.rule∧o_1.p.top=o.p.top∧o_1.p.least=o.p.least∧o_1.p.part=o.p.part∧zE o_1.s=zE o.s∧zW o_1.used=zW o.used∧AObj.fro 1 (iE o_1.p.months)=AObj.fro 1 (iE o.p.months)∧AObj.fro 1 (iE o_1.p.settle)=AObj.fro 1 (iE o.p.settle)∧List.map z9 i.X.R=List.map z9 i_5.X.R++List.map z9 i_6.X.R∧o_1.Rep i.p i.X.B i.X.U)
def eF (i:zRi):Prop:=
 ∃(i_1:gK),sb i_1.p.code=sb i.m.p.code∧iE i_1.p.months=iE i.m.p.months∧i_1.p.tick=i.m.p.tick∧i_1.p.low=i.m.p.low∧i_1.p.high=i.m.p.high∧i_1.p.wide=i.m.p.wide∧i_1.p.rule=i.m.p.rule∧i_1.p.top=i.m.p.top∧i_1.p.least=i.m.p.least∧i_1.p.part=i.m.p.part∧iE i_1.p.settle=iE i.m.p.settle∧i_1.a=i.inst∧i_1.b=i.c.price∧(i_1.p.code.length≤1099511627776∧i_1.p.months.length≤1099511627776∧i_1.p.settle.length≤1099511627776)∧∀(o:Unit),True→cnd (i_1.p.price i_1.a i_1.b !=0) (∃(i_2:RjI),i_2.c.kind=i.c.kind∧i_2.c.id=i.c.id∧i_2.c.inst=i.c.inst∧i_2.c.side=i.c.side∧i_2.c.price=i.c.price∧i_2.c.qty=i.c.qty∧i_2.c.least=i.c.least∧i_2.c.time=i.c.time∧sb i_2.c.label=sb i.c.label∧i_2.why=i_1.p.price i_1.a i_1.b∧True∧∀(o:Unit),True→∃(o:Mkt),sb o.p.code=sb i.m.p.code∧o.p.tick=i.m.p.tick∧o.p.low=i.m.p.low∧o.p.high=i.m.p.high∧o.p.wide=i.m.p.wide∧o.p.rule=i.m.p.rule∧o.p.top=i.m.p.top∧o.p.least=i.m.p.least∧o.p.part=i.m.p.part∧zE o.s=zR i.m 1∧zW o.used=zW i.m.used∧AObj.fro 1 (iE o.p.months)=zR i.m 3∧AObj.fro 1 (iE o.p.settle)=zR i.m 4∧List.map z9 i.X.R=[z9 (Rep.mk 2 i_2.c.id 0 0 0 0 0 i_2.why)]∧o.Rep i.p i.X.B i.X.U) (cnd (i.c.price==i.o.price) (cnd (decide (i.c.qty≤i.o.qty)) (∃(i_2:CaI),i_2.id=i.c.id∧i_2.q=IntKind.i64.wrap (i.o.qty-i.c.qty)∧i_2.inst=i.inst∧i_2.o.id=i.o.id∧i_2.o.side=i.o.side∧i_2.o.price=i.o.price∧i_2.o.qty=i.o.qty∧i_2.o.top=i.o.top∧sb i_2.m.p.code=sb i.m.p.code∧i_2.m.p.tick=i.m.p.tick∧i_2.m.p.low=i.m.p.low∧i_2.m.p.high=i.m.p.high∧i_2.m.p.wide=i.m.p.wide∧i_2.m.p.rule=i.m.p.rule∧i_2.m.p.top=i.m.p.top∧i_2.m.p.least=i.m.p.least∧i_2.m.p.part=i.m.p.part∧zE i_2.m.s=zR i.m 1∧zW i_2.m.used=zW i.m.used∧AObj.fro 1 (iE i_2.m.p.months)=zR i.m 3∧AObj.fro 1 (iE i_2.m.p.settle)=zR i.m 4∧((i_2.m.Rep i_2.p i_2.B i_2.U∧BOk i_2.p i_2.B)∧((-9223372036854775808)≤i_2.o.qty-i_2.q∧i_2.o.qty-i_2.q≤9223372036854775807)∧i_2.X=uH i_2.B i_2.U i_2.id i_2.q i_2.inst i_2.o)∧∀(o:Mkt),o.Rep i_2.p i_2.X.B i_2.X.U→∃(o_1:Mkt),sb o_1.p.code=sb o.p.code∧o_1.p.tick=o.p.tick∧o_1.p.low=o.p.low∧o_1.p.high=o.p.high∧o_1.p.wide=o.p.wide∧o_1.p.rule=o.p.rule∧o_1.p.top=o.p.top∧o_1.p.least=o.p.least∧o_1.p.part=o.p.part∧zE o_1.s=zE o.s∧zW o_1.used=zW o.used∧AObj.fro 1 (iE o_1.p.months)=AObj.fro 1 (iE o.p.months)∧AObj.fro 1 (iE o_1.p.settle)=AObj.fro 1 (iE o.p.settle)∧List.map z9 i.X.R=List.map z9 i_2.X.R∧o_1.Rep i.p i.X.B i.X.U) (bI i o)) (bI i o))
theorem zQo (hG:GOk Tryz.prog ([(72,priceC),(39,rejC),(48,copySC),(76,stakeC),(73,stuckC),(43,cancelC),(44,reduceC),(74,enterC)])) (h:∀(i:zRi),replaceC.cnd i→eF i):replaceC.ok Tryz.prog 42:=okw mixed hG 0 (fun _=>[]) (fun _=>[]) [] Tryz.func42 h
@[reducible] def zVh (i:EnI) (o:Unit):Prop:=∃(i_2:StI),i_2.id=i.c.id∧zE i_2.s=zE i.m.s∧(i_2.s.Rep i_2.p i_2.B∧i_2.B.length≤1000)∧∀(o:Unit),True→cnd (!(zY i_2.B i_2.id).snd.snd) (∃(i_3:RjI),i_3.c.kind=i.c.kind∧i_3.c.id=i.c.id∧i_3.c.inst=i.c.inst∧i_3.c.side=i.c.side∧i_3.c.price=i.c.price∧i_3.c.qty=i.c.qty∧i_3.c.least=i.c.least∧i_3.c.time=i.c.time∧sb i_3.c.label=sb i.c.label∧i_3.why=26∧True∧∀(o:Unit),True→∃(o:Mkt),sb o.p.code=sb i.m.p.code∧o.p.tick=i.m.p.tick∧o.p.low=i.m.p.low∧o.p.high=i.m.p.high∧o.p.wide=i.m.p.wide∧o.p.rule=i.m.p.rule∧o.p.top=i.m.p.top∧o.p.least=i.m.p.least∧o.p.part=i.m.p.part∧zE o.s=zE i_2.s∧zW o.used=zW i.m.used∧AObj.fro 1 (iE o.p.months)=AObj.fro 1 (iE i.m.p.months)∧AObj.fro 1 (iE o.p.settle)=AObj.fro 1 (iE i.m.p.settle)∧List.map z9 i.X.R=[z9 (Rep.mk 2 i_3.c.id 0 0 0 0 0 i_3.why)]∧o.Rep i.p i.X.B i.X.U) (cnd (i.c.kind==4) (∃(i_3:zRi),i_3.c.kind=i.c.kind∧i_3.c.id=i.c.id∧i_3.c.inst=i.c.inst∧i_3.c.side=i.c.side∧i_3.c.price=i.c.price∧i_3.c.qty=i.c.qty∧i_3.c.least=i.c.least∧i_3.c.time=i.c.time∧sb i_3.c.label=sb i.c.label∧i_3.inst=(zY i_2.B i_2.id).fst∧i_3.o.id=(zY i_2.B i_2.id).snd.fst.id∧i_3.o.side=(zY i_2.B i_2.id).snd.fst.side∧i_3.o.price=(zY i_2.B i_2.id).snd.fst.price∧i_3.o.qty=(zY i_2.B i_2.id).snd.fst.qty∧i_3.o.top=(zY i_2.B i_2.id).snd.fst.top∧sb i_3.m.p.code=sb i.m.p.code∧i_3.m.p.tick=i.m.p.tick∧i_3.m.p.low=i.m.p.low∧i_3.m.p.high=i.m.p.high∧i_3.m.p.wide=i.m.p.wide∧i_3.m.p.rule=i.m.p.rule∧i_3.m.p.top=i.m.p.top∧i_3.m.p.least=i.m.p.least∧i_3.m.p.part=i.m.p.part∧zE i_3.m.s=zE i_2.s∧zW i_3.m.used=zW i.m.used∧AObj.fro 1 (iE i_3.m.p.months)=AObj.fro 1 (iE i.m.p.months)∧AObj.fro 1 (iE i_3.m.p.settle)=AObj.fro 1 (iE i.m.p.settle)∧(i_3.m.Rep i_3.p i_3.B i_3.U∧BOk i_3.p i_3.B∧zY i_3.B i_3.c.id=(i_3.inst,i_3.o,true)∧(1≤i_3.c.qty∧i_3.c.qty≤1000000)∧i_3.X=kM i_3.p i_3.B i_3.U i_3.c i_3.inst i_3.o)∧∀(o:Mkt),o.Rep i_3.p i_3.X.B i_3.X.U→∃(o_1:Mkt),sb o_1.p.code=sb o.p.code∧o_1.p.tick=o.p.tick∧o_1.p.low=o.p.low∧o_1.p.high=o.p.high∧o_1.p.wide=o.p.wide∧o_1.p.rule=o.p.rule∧o_1.p.top=o.p.top∧o_1.p.least=o.p.least∧o_1.p.part=o.p.part∧zE o_1.s=zE o.s∧zW o_1.used=zW o.used∧AObj.fro 1 (iE o_1.p.months)=AObj.fro 1 (iE o.p.months)∧AObj.fro 1 (iE o_1.p.settle)=AObj.fro 1 (iE o.p.settle)∧List.map z9 i.X.R=List.map z9 i_3.X.R∧o_1.Rep i.p i.X.B i.X.U) (cnd (i.c.kind==2) (∃(i_3:CaI),i_3.id=i.c.id∧i_3.inst=(zY i_2.B i_2.id).fst∧i_3.o.id=(zY i_2.B i_2.id).snd.fst.id∧i_3.o.side=(zY i_2.B i_2.id).snd.fst.side∧i_3.o.price=(zY i_2.B i_2.id).snd.fst.price∧i_3.o.qty=(zY i_2.B i_2.id).snd.fst.qty∧i_3.o.top=(zY i_2.B i_2.id).snd.fst.top∧sb i_3.m.p.code=sb i.m.p.code∧i_3.m.p.tick=i.m.p.tick∧i_3.m.p.low=i.m.p.low∧i_3.m.p.high=i.m.p.high∧i_3.m.p.wide=i.m.p.wide∧i_3.m.p.rule=i.m.p.rule∧i_3.m.p.top=i.m.p.top∧i_3.m.p.least=i.m.p.least∧i_3.m.p.part=i.m.p.part∧zE i_3.m.s=zE i_2.s∧zW i_3.m.used=zW i.m.used∧AObj.fro 1 (iE i_3.m.p.months)=AObj.fro 1 (iE i.m.p.months)∧AObj.fro 1 (iE i_3.m.p.settle)=AObj.fro 1 (iE i.m.p.settle)∧((i_3.m.Rep i_3.p i_3.B i_3.U∧BOk i_3.p i_3.B)∧i_3.X=jN i_3.B i_3.U i_3.id i_3.inst i_3.o)∧∀(o:Mkt),o.Rep i_3.p i_3.X.B i_3.X.U→∃(o_1:Mkt),sb o_1.p.code=sb o.p.code∧o_1.p.tick=o.p.tick∧o_1.p.low=o.p.low∧o_1.p.high=o.p.high∧o_1.p.wide=o.p.wide∧o_1.p.rule=o.p.rule∧o_1.p.top=o.p.top∧o_1.p.least=o.p.least∧o_1.p.part=o.p.part∧zE o_1.s=zE o.s∧zW o_1.used=zW o.used∧AObj.fro 1 (iE o_1.p.months)=AObj.fro 1 (iE o.p.months)∧AObj.fro 1 (iE o_1.p.settle)=AObj.fro 1 (iE o.p.settle)∧List.map z9 i.X.R=List.map z9 i_3.X.R∧o_1.Rep i.p i.X.B i.X.U) (cnd (decide (i.c.qty≥(zY i_2.B i_2.id).snd.fst.qty)) (∃(i_3:CaI),i_3.id=i.c.id∧i_3.inst=(zY i_2.B i_2.id).fst∧i_3.o.id=(zY i_2.B i_2.id).snd.fst.id∧i_3.o.side=(zY i_2.B i_2.id).snd.fst.side∧i_3.o.price=(zY i_2.B i_2.id).snd.fst.price∧i_3.o.qty=(zY i_2.B i_2.id).snd.fst.qty∧i_3.o.top=(zY i_2.B i_2.id).snd.fst.top∧sb i_3.m.p.code=sb i.m.p.code∧i_3.m.p.tick=i.m.p.tick∧i_3.m.p.low=i.m.p.low∧i_3.m.p.high=i.m.p.high∧i_3.m.p.wide=i.m.p.wide∧i_3.m.p.rule=i.m.p.rule∧i_3.m.p.top=i.m.p.top∧i_3.m.p.least=i.m.p.least∧i_3.m.p.part=i.m.p.part∧zE i_3.m.s=zE i_2.s∧zW i_3.m.used=zW i.m.used∧AObj.fro 1 (iE i_3.m.p.months)=AObj.fro 1 (iE i.m.p.months)∧AObj.fro 1 (iE i_3.m.p.settle)=AObj.fro 1 (iE i.m.p.settle)∧((i_3.m.Rep i_3.p i_3.B i_3.U∧BOk i_3.p i_3.B)∧i_3.X=jN i_3.B i_3.U i_3.id i_3.inst i_3.o)∧∀(o:Mkt),o.Rep i_3.p i_3.X.B i_3.X.U→∃(o_1:Mkt),sb o_1.p.code=sb o.p.code∧o_1.p.tick=o.p.tick∧o_1.p.low=o.p.low∧o_1.p.high=o.p.high∧o_1.p.wide=o.p.wide∧o_1.p.rule=o.p.rule∧o_1.p.top=o.p.top∧o_1.p.least=o.p.least∧o_1.p.part=o.p.part∧zE o_1.s=zE o.s∧zW o_1.used=zW o.used∧AObj.fro 1 (iE o_1.p.months)=AObj.fro 1 (iE o.p.months)∧AObj.fro 1 (iE o_1.p.settle)=AObj.fro 1 (iE o.p.settle)∧List.map z9 i.X.R=List.map z9 i_3.X.R∧o_1.Rep i.p i.X.B i.X.U) (∃(i_3:CaI),i_3.id=i.c.id∧i_3.q=i.c.qty∧i_3.inst=(zY i_2.B i_2.id).fst∧i_3.o.id=(zY i_2.B i_2.id).snd.fst.id∧i_3.o.side=(zY i_2.B i_2.id).snd.fst.side∧i_3.o.price=(zY i_2.B i_2.id).snd.fst.price∧i_3.o.qty=(zY i_2.B i_2.id).snd.fst.qty∧i_3.o.top=(zY i_2.B i_2.id).snd.fst.top∧sb i_3.m.p.code=sb i.m.p.code∧i_3.m.p.tick=i.m.p.tick∧i_3.m.p.low=i.m.p.low∧i_3.m.p.high=i.m.p.high∧i_3.m.p.wide=i.m.p.wide∧i_3.m.p.rule=i.m.p.rule∧i_3.m.p.top=i.m.p.top∧i_3.m.p.least=i.m.p.least∧i_3.m.p.part=i.m.p.part∧zE i_3.m.s=zE i_2.s∧zW i_3.m.used=zW i.m.used∧AObj.fro 1 (iE i_3.m.p.months)=AObj.fro 1 (iE i.m.p.months)∧AObj.fro 1 (iE i_3.m.p.settle)=AObj.fro 1 (iE i.m.p.settle)∧((i_3.m.Rep i_3.p i_3.B i_3.U∧BOk i_3.p i_3.B)∧((-9223372036854775808)≤i_3.o.qty-i_3.q∧i_3.o.qty-i_3.q≤9223372036854775807)∧i_3.X=uH i_3.B i_3.U i_3.id i_3.q i_3.inst i_3.o)∧∀(o:Mkt),o.Rep i_3.p i_3.X.B i_3.X.U→∃(o_1:Mkt),sb o_1.p.code=sb o.p.code∧o_1.p.tick=o.p.tick∧o_1.p.low=o.p.low∧o_1.p.high=o.p.high∧o_1.p.wide=o.p.wide∧o_1.p.rule=o.p.rule∧o_1.p.top=o.p.top∧o_1.p.least=o.p.least∧o_1.p.part=o.p.part∧zE o_1.s=zE o.s∧zW o_1.used=zW o.used∧AObj.fro 1 (iE o_1.p.months)=AObj.fro 1 (iE o.p.months)∧AObj.fro 1 (iE o_1.p.settle)=AObj.fro 1 (iE o.p.settle)∧List.map z9 i.X.R=List.map z9 i_3.X.R∧o_1.Rep i.p i.X.B i.X.U))))
def Vdo (i:EnI):Prop:=
 ∃(i_1:Cmd),i_1.kind=i.c.kind∧i_1.id=i.c.id∧i_1.inst=i.c.inst∧i_1.side=i.c.side∧i_1.price=i.c.price∧i_1.qty=i.c.qty∧i_1.least=i.c.least∧i_1.time=i.c.time∧sb i_1.label=sb i.c.label∧i_1.label.length≤140737488355328∧∀(o:Unit),True→cnd (i_1.right !=0) (∃(i_2:RjI),i_2.c.kind=i.c.kind∧i_2.c.id=i.c.id∧i_2.c.inst=i.c.inst∧i_2.c.side=i.c.side∧i_2.c.price=i.c.price∧i_2.c.qty=i.c.qty∧i_2.c.least=i.c.least∧i_2.c.time=i.c.time∧sb i_2.c.label=sb i.c.label∧i_2.why=i_1.right∧True∧∀(o:Unit),True→∃(o:Mkt),sb o.p.code=sb i.m.p.code∧o.p.tick=i.m.p.tick∧o.p.low=i.m.p.low∧o.p.high=i.m.p.high∧o.p.wide=i.m.p.wide∧o.p.rule=i.m.p.rule∧o.p.top=i.m.p.top∧o.p.least=i.m.p.least∧o.p.part=i.m.p.part∧zE o.s=zE i.m.s∧zW o.used=zW i.m.used∧AObj.fro 1 (iE o.p.months)=AObj.fro 1 (iE i.m.p.months)∧AObj.fro 1 (iE o.p.settle)=AObj.fro 1 (iE i.m.p.settle)∧List.map z9 i.X.R=[z9 (Rep.mk 2 i_2.c.id 0 0 0 0 0 i_2.why)]∧o.Rep i.p i.X.B i.X.U) (cnd (i.c.kind==1) (∃(i_2:EnI),i_2.c.kind=i.c.kind∧i_2.c.id=i.c.id∧i_2.c.inst=i.c.inst∧i_2.c.side=i.c.side∧i_2.c.price=i.c.price∧i_2.c.qty=i.c.qty∧i_2.c.least=i.c.least∧i_2.c.time=i.c.time∧sb i_2.c.label=sb i.c.label∧sb i_2.m.p.code=sb i.m.p.code∧i_2.m.p.tick=i.m.p.tick∧i_2.m.p.low=i.m.p.low∧i_2.m.p.high=i.m.p.high∧i_2.m.p.wide=i.m.p.wide∧i_2.m.p.rule=i.m.p.rule∧i_2.m.p.top=i.m.p.top∧i_2.m.p.least=i.m.p.least∧i_2.m.p.part=i.m.p.part∧zE i_2.m.s=zE i.m.s∧zW i_2.m.used=zW i.m.used∧AObj.fro 1 (iE i_2.m.p.months)=AObj.fro 1 (iE i.m.p.months)∧AObj.fro 1 (iE i_2.m.p.settle)=AObj.fro 1 (iE i.m.p.settle)∧((i_2.m.Rep i_2.p i_2.B i_2.U∧BOk i_2.p i_2.B)∧i_2.c.right=0∧i_2.c.kind=1∧i_2.X=uQ i_2.p i_2.B i_2.U i_2.c)∧∀(o:Mkt),o.Rep i_2.p i_2.X.B i_2.X.U→∃(o_1:Mkt),sb o_1.p.code=sb o.p.code∧o_1.p.tick=o.p.tick∧o_1.p.low=o.p.low∧o_1.p.high=o.p.high∧o_1.p.wide=o.p.wide∧o_1.p.rule=o.p.rule∧o_1.p.top=o.p.top∧o_1.p.least=o.p.least∧o_1.p.part=o.p.part∧zE o_1.s=zE o.s∧zW o_1.used=zW o.used∧AObj.fro 1 (iE o_1.p.months)=AObj.fro 1 (iE o.p.months)∧AObj.fro 1 (iE o_1.p.settle)=AObj.fro 1 (iE o.p.settle)∧List.map z9 i.X.R=List.map z9 i_2.X.R∧o_1.Rep i.p i.X.B i.X.U) ((zVh i o)∧i.c.id=i.c.id∧True∧zVh i o))
theorem yDk (hG:GOk Tryz.prog ([(38,cmdRtC),(39,rejC),(41,sfindC),(40,orderC),(42,replaceC),(43,cancelC),(44,reduceC)])) (h:∀(i:EnI),doC.cnd i→Vdo i):doC.ok Tryz.prog 13:=okw mixed hG 0 (fun _=>[]) (fun _=>[]) [0] Tryz.func13 h
def zZq (i:MfI):Prop:=
 ∃(i_1:SoI),zE i_1.s=zE i.m.s∧(i_1.s.Rep i_1.p i_1.B∧i_1.B.length≤1000)∧∀(o:Unit),True→∃(o:Unit),(↑(cJ i.B):Int)=(↑(cJ i_1.B):Int)∧sb i.m.p.code=sb i.m.p.code∧i.m.p.tick=i.m.p.tick∧i.m.p.low=i.m.p.low∧i.m.p.high=i.m.p.high∧i.m.p.wide=i.m.p.wide∧i.m.p.rule=i.m.p.rule∧i.m.p.top=i.m.p.top∧i.m.p.least=i.m.p.least∧i.m.p.part=i.m.p.part∧zE i.m.s=zE i_1.s∧zW i.m.used=zW i.m.used∧AObj.fro 1 (iE i.m.p.months)=AObj.fro 1 (iE i.m.p.months)∧AObj.fro 1 (iE i.m.p.settle)=AObj.fro 1 (iE i.m.p.settle)∧True
theorem zXl (hG:GOk Tryz.prog ([(45,countC16)])) (h:∀(i:MfI),mcountC.cnd i→zZq i):mcountC.ok Tryz.prog 19:=okw mixed hG 0 (fun _=>[]) (fun _=>[]) [0] Tryz.func19 h
open Go Cv Go.Proofs
theorem qL (p:Prd) (B:List (List zJ)) (U:List Int) (c:Cmd):y4 p B U c=⟨if(xP p B c.inst (decide (c.side=2)) c.price c.qty).left≠0∧c.time=1 then(cK p (xP p B c.inst (decide (c.side=2)) c.price c.qty).B c.inst c.id c.side c.price (xP p B c.inst (decide (c.side=2)) c.price c.qty).left).1 else(xP p B c.inst (decide (c.side=2)) c.price c.qty).B,vB U c.id,
 (⟨1,c.id,c.inst,c.side,c.price,c.qty,c.qty,0⟩::uC p c (xP p B c.inst (decide (c.side=2)) c.price c.qty).steps c.qty)++if(xP p B c.inst (decide (c.side=2)) c.price c.qty).left≠0∧c.time≠1 then[⟨4,c.id,c.inst,c.side,c.price,(xP p B c.inst (decide (c.side=2)) c.price c.qty).left,0,0⟩]else[]⟩:=by
 rw[y4]
theorem lW {p:Prd} {B:List (List zJ)} (h:BWf p B) (U:List Int) (c:Cmd):BOk p (y4 p B U c).B:=by
 have:=(hP (inst:=c.inst) (sd:=decide (c.side=2)) (price:=c.price) _ c.qty B (Nat.le_refl _) h).1.ok
 rw[qL]
 dsimp only
 split
 ·exact this.add _ _ _ _ _
 ·exact this
theorem zPy {p:Prd} {B:List (List zJ)} (h:BWf p B) (U:List Int) (c:Cmd):BOk p (uQ p B U c).B:=by
 rw[uQ]
 split
 ·exact h.ok
 split
 ·exact h.ok
 split
 ·exact h.ok
 split
 ·exact h.ok
 split
 ·exact h.ok
 exact lW h U c
theorem z7z {p:Prd} {B:List (List zJ)} (h:BWf p B) (U:List Int) (c:Cmd):BOk p (doF p B U c).B:=by
 rw[doF]
 split
 ·exact h.ok
 split
 ·exact zPy h U c
 split
 ·exact h.ok
 split
 ·rw[kM]
  split
  ·exact h.ok
  split
  ·exact h.ok.take _ _
  split
  ·exact h.ok
  exact lW (h.take _ _) U _
 split
 ·exact h.ok.take _ _
 ·exact h.ok.take _ _
def Acc (B:List (List zJ)) (U:List Int):Prop:=∀L∈B,∀o∈L,o.id∈U
theorem use_mem {U:List Int} {id k:Int}:k∈vB U id↔k∈U∨k=id:=by
 rw[vB]
 split
 ·rename_i h
  constructor
  ·exact .inl
  ·rintro(h2|rfl)
   ·exact h2
   ·exact h
 ·simp
theorem Acc.mono {B:List (List zJ)} {U U':List Int} (h:Acc B U) (hu:∀k∈U,k∈U'):Acc B U':=fun L hL o ho=>hu _ (h L hL o ho)
theorem Acc.take {B:List (List zJ)} {U:List Int} (h:Acc B U) (id q:Int):Acc (yN B id q).1 U:=by
 rw[yN]
 split
 ·exact h
 ·rename_i k hk
  dsimp only
  obtain⟨L0,hL0,_⟩:=qS hk
  intro L hL o ho
  rcases List.mem_or_eq_of_mem_set hL with hL|rfl
  ·exact h L hL o ho
  ·rw[zX hL0]at ho
   obtain⟨o',ho',_,_,e⟩:=zFv ho
   rw[e]
   exact h L0 (List.mem_of_getElem? hL0) o' ho'
theorem Acc.takes {U:List Int}:∀{fs:List wB} {B:List (List zJ)},Acc B U→Acc (y8 B fs) U
 |[],B,h=>h
 |f::fs,B,h=>Acc.takes (fs:=fs) (h.take f.id f.qty)
theorem Acc.run {p:Prd} {inst:Int} {sd:Bool} {price:Int} {U:List Int}:∀(m:Nat) (q:Int) (B:List (List zJ)),q.toNat≤m→Acc B U→Acc (xP p B inst sd price q).B U
 |m,q,B,hm,h=>by
  by_cases hq:q≤0
  ·rw[wF (.inl hq)];exact h
  cases hs:jH p B inst sd price q with
  |none=>rw[wF (.inr hs)];exact h
  |some x=>
   obtain⟨t,C⟩:=x
   have hC:Acc C U:=by
    rw[jH]at hs
    dsimp only at hs
    split at hs
    ·split at hs
     ·cases hs;exact h.takes.takes
     ·cases hs;exact h.takes
    ·cases hs
   have hq2:=mQ (by omega) hs
   cases m with
   |zero=>omega
   |succ m=>
   rw[fP (by omega) hs]
   exact Acc.run m (q-t.qty) C (by omega) hC
theorem Acc.add {p:Prd} {B:List (List zJ)} {U:List Int} (h:Acc B U) (inst id s price q:Int):Acc (cK p B inst id s price q).1 (vB U id):=by
 have h':Acc B (vB U id):=h.mono fun k hk=>use_mem.2 (.inl hk)
 rw[cK]
 split
 ·exact h'
 split
 ·exact h'
 split
 ·exact h'
 split
 ·exact h'
 rename_i c1 _ _ _
 obtain⟨L0,hL0⟩:=yD (l:=B) (i:=inst.toNat) (by omega)
 have hm:=h L0 (List.mem_of_getElem? hL0)
 intro L hL o ho
 rcases List.mem_or_eq_of_mem_set hL with hL|rfl
 ·exact h' L hL o ho
 ·rw[zX hL0,cS]at ho
  split at ho
  ·exact use_mem.2 (.inl (hm o ho))
  split at ho
  ·exact use_mem.2 (.inl (hm o ho))
  split at ho
  ·exact use_mem.2 (.inl (hm o ho))
  rcases List.mem_cons.1 ((zFs L0 s id price q).mem_iff.1 (List.mem_map_of_mem (f:=(·.id)) ho))with e|hm2
  ·exact use_mem.2 (.inr e)
  ·obtain⟨o',ho',e⟩:=List.mem_map.1 hm2
   exact use_mem.2 (.inl (e▸hm o' ho'))
theorem Acc.enter {p:Prd} {B:List (List zJ)} {U:List Int} (h:Acc B U) (c:Cmd):Acc (y4 p B U c).B (y4 p B U c).U:=by
 have hr:=Acc.run (p:=p) (inst:=c.inst) (sd:=decide (c.side=2)) (price:=c.price) _ c.qty B (Nat.le_refl _) h
 rw[qL]
 dsimp only
 split
 ·exact hr.add _ _ _ _ _
 ·exact hr.mono fun k hk=>use_mem.2 (.inl hk)
structure DoU (p:Prd) (B:List (List zJ)) (U:List Int) (c:Cmd) (X:MkX):Prop where
 acc:Acc X.B X.U
 fst:∃r l,X.R=r::l∧(c.right=0→c.kind=1→p.price c.inst c.price=0→(r.why=25↔c.id∈U))∧(∀k,k∈X.U↔k∈U∨(c.kind=1∧r.kind=1∧k=c.id))
open Go Cv Go.Proofs
def Two (L:List zJ):Prop:=L=dC L 1++dC L 2
open Go Cv Go.Proofs
end Sx
