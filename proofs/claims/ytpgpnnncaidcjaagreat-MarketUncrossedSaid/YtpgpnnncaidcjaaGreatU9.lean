/- Texts of ours, one behind the other: a walk that the kernel reckons, and contracts of functions. No condition. -/
import Derived.Test.YtpgpnnncaidcjaaGreatU8
namespace Sx
set_option linter.unusedVariables false
set_option linter.unusedSimpArgs false
set_option maxRecDepth 100000
open Go Cv Go.Proofs
structure QOk (T:List Top) (q:Quote):Prop where
 a:0≤q.a.inst∧q.a.inst<T.length
 b:0≤q.b.inst∧q.b.inst<T.length
 sa:q.a.side=1∨q.a.side=2
 sb:q.b.side=1∨q.b.side=2
 ne:q.a.inst≠q.b.inst
 ha:(T.getD q.a.inst.toNat top0).has q.a.side=true
 hb:(T.getD q.b.inst.toNat top0).has q.b.side=true
 qty:q.qty=min ((T.getD q.a.inst.toNat top0).qty q.a.side) ((T.getD q.b.inst.toNat top0).qty q.b.side)
theorem zVa {T:List Top} {a b:Leg} {less:Bool} {q:Quote} (h:q∈mkq T a b less) (h1:0≤a.inst∧a.inst<T.length) (h2:0≤b.inst∧b.inst<T.length) (h3:a.side=1∨a.side=2) (h4:b.side=1∨b.side=2) (hne:a.inst≠b.inst):QOk T q∧q.a=a∧q.b=b:=by
 cases less
 all_goals
  simp only[mkq,Bool.false_eq_true,↓reduceIte]at h
  split at h
  ·rename_i hc
   simp only[Bool.and_eq_true]at hc
   rw[List.mem_singleton]at h
   subst h
   exact⟨⟨h1,h2,h3,h4,hne,hc.1.1,hc.1.2,rfl⟩,rfl,rfl⟩
  ·cases h
theorem yJe:∀n≤6,∀k<n+n*(n-1) / 2,n≤k→(kA n k n 0).1≠(kA n k n 0).2.1:=by decide
theorem zYw {p:Prd} (hc:p.check=0) {k:Nat} (hk:k<p.count) (hs:(p.legs k).2.2=true):(p.legs k).1≠(p.legs k).2.1:=by
 have m6:=(qY hc).m6
 have hk':=hk
 rw[Prd.count,if_pos hc]at hk'
 by_cases h:k<p.months.length
 ·rw[Prd.legs,if_neg (by omega),if_pos (by omega)]at hs
  cases hs
 ·rw[Prd.legs,if_neg (by omega),if_neg (by omega)]
  exact yJe p.months.length m6 k hk' (by omega)
theorem z0o:∀n≤6,∀a<n,∀b<n,a<b→(z8 n a:Int)+b-a-1≥n:=by decide
theorem zJx {p:Prd} (hc:p.check=0) {a b:Nat} (hab:a<b) (hb:b<p.months.length):(p.months.length:Int)≤(p.spread a b).1:=by
 have m6:=(qY hc).m6
 have:=z0o p.months.length m6 a (by omega) b hb hab
 rw[Prd.spread,if_neg (by omega)]
 simpa using this
theorem yEf {p:Prd} (hc:p.check=0) {T:List Top} (hT:T.length=p.count) {inst:Int} {s:Int} (hs:s=1∨s=2) {q:Quote} (h:q∈xG ⟨p,T,inst⟩ s):QOk T q∧0≤inst∧inst<p.count∧
 (((p.legs inst).2.2=true∧q.a=⟨(p.legs inst).1,s⟩∧q.b=⟨(p.legs inst).2.1,3-s⟩)∨(inst<p.months.length∧q.a.inst≠inst∧(p.months.length:Int)≤q.a.inst)):=by
 rw[xG]at h
 dsimp only at h
 split at h
 ·cases h
 ·rename_i hn
  have h0:0≤inst∧inst<p.count:=by omega
  obtain⟨k,rfl⟩:∃k:Nat,inst=k:=⟨inst.toNat,by omega⟩
  have hk:k<p.count:=by omega
  have hge:=m9 hc
  split at h
  ·rename_i hl
   obtain⟨q',hq',rfl⟩:=List.mem_map.1 h
   have hle:=fH hc hk
   rcases hle with⟨_,l1,l2,l3,l4⟩|⟨e,_⟩
   ·obtain⟨ok,e1,e2⟩:=zVa hq' (by dsimp only;omega) (by dsimp only;omega) (by dsimp only;omega) hs (fun e=>zYw hc hk hl e.symm)
    refine⟨⟨by dsimp only[jO];omega,by dsimp only[jO];omega,hs,by dsimp only[jO];omega,zYw hc hk hl,?_,?_,?_⟩,h0.1,h0.2,.inl ⟨hl,rfl,rfl⟩⟩
    ·have:=ok.hb;rw[e2]at this;exact this
    ·have:=ok.ha;rw[e1]at this;exact this
    ·have:=ok.qty;rw[e1,e2]at this;dsimp only[jO];rw[this];exact Int.min_comm _ _
   ·rw[e]at hl;cases hl
  ·rename_i hl
   have hm:k<p.months.length:=by
    rcases fH hc hk with⟨e,_⟩|⟨_,e⟩
    ·exact absurd e hl
    ·exact e
   rcases List.mem_append.1 h with h|h
   ·obtain⟨j,hj,h⟩:=List.mem_flatMap.1 h
    have hj:=List.mem_range.1 hj
    rw[Int.toNat_natCast]at hj
    have s1:=dB hc (a:=k) (b:=k+1+j) (by omega) (by omega)
    have s2:=zJx hc (a:=k) (b:=k+1+j) (by omega) (by omega)
    have ec:((k:Int)+1+j)=((k+1+j:Nat):Int):=by omega
    rw[ec]at h
    obtain⟨ok,e1,e2⟩:=zVa h (by dsimp only;omega) (by dsimp only;omega) hs hs (by dsimp only;omega)
    exact⟨ok,h0.1,h0.2,.inr ⟨by omega,by rw[e1];dsimp only;omega,by rw[e1];exact s2⟩⟩
   ·obtain⟨j,hj,h⟩:=List.mem_flatMap.1 h
    have hj:=List.mem_range.1 hj
    rw[Int.toNat_natCast]at hj
    have s1:=dB hc (a:=j) (b:=k) (by omega) (by omega)
    have s2:=zJx hc (a:=j) (b:=k) (by omega) (by omega)
    obtain⟨ok,e1,e2⟩:=zVa h (by dsimp only;omega) (by dsimp only;omega) (by dsimp only;omega) hs (by dsimp only;omega)
    exact⟨ok,h0.1,h0.2,.inr ⟨by omega,by rw[e1];dsimp only;omega,by rw[e1];exact s2⟩⟩
theorem zJm {s:Int}:∀(r:List Quote) (q:Quote),r.foldl (fun b q=>if btr s q.price b.price then q else b) q∈q::r
 |[],q=>List.mem_cons_self
 |x::r,q=>by
  rw[List.foldl_cons]
  have:=zJm (s:=s) r (if btr s x.price q.price then x else q)
  rcases List.mem_cons.1 this with e|h
  ·rw[e];split
   ·exact List.mem_cons_of_mem _ List.mem_cons_self
   ·exact List.mem_cons_self
  ·exact List.mem_cons_of_mem _ (List.mem_cons_of_mem _ h)
theorem zJp {l:List Quote} {s:Int} (h:(yW l s).2=true):(yW l s).1∈l:=by
 cases l with
 |nil=>cases h
 |cons q r=>exact zJm r q
def yBc (B:List (List zD)):Prop:=∀(k:Nat) (L:List zD),B[k]?=some L→(∀o∈L,zFl o)∧(L.map (·.id)).Nodup∧L.length≤250
theorem MSt.Rep.ords {s:MSt} {p:Prd} {B:List (List zD)} (h:s.Rep p B):yBc B:=by
 intro k L hL
 obtain⟨b,hb⟩:=yA (l:=s.books) (i:=k) (by rw[h.bl];exact(List.getElem?_eq_some_iff.1 hL).1)
 exact(h.bk k b L hb hL).ords
theorem yFh:∀{l:List zD} {v:Lv},(∀o∈l,zFl o)→v∈grp l→1≤v.qty∧v.qty≤1000000*l.length
 |[],v,_,h=>by cases h
 |o::l,v,ho,h=>by
  have h0:=(ho o List.mem_cons_self).q
  have ih:∀v∈grp l,1≤v.qty∧v.qty≤1000000*l.length:=fun v hv=>yFh (fun x hx=>ho x (List.mem_cons_of_mem _ hx)) hv
  rw[grp]at h
  rw[List.length_cons]
  split at h
  ·rw[List.mem_singleton]at h
   subst h;dsimp only;omega
  ·rename_i w ws e
   rw[e]at ih
   have hw:=ih w List.mem_cons_self
   split at h
   ·rcases List.mem_cons.1 h with rfl|h
    ·dsimp only;omega
    ·have:=ih v (List.mem_cons_of_mem _ h);omega
   ·rcases List.mem_cons.1 h with rfl|h
    ·dsimp only;omega
    ·have:=ih v h;omega
theorem zWs {L:List zD} {s:Int} (h:∀o∈L,zFl o) (hl:L.length≤250) (hb:(bestL L s).2=true):1≤(bestL L s).1.qty∧(bestL L s).1.qty≤250000000:=by
 rw[bestL]at hb ⊢
 cases hl2:jR L s with
 |nil=>rw[hl2]at hb;cases hb
 |cons v vs=>
  dsimp only
  have hm:v∈grp (L.filter fun o=>decide (o.side=s)):=by rw[← jR,hl2];exact List.mem_cons_self
  have:=yFh (fun o ho=>h o (List.mem_filter.1 ho).1) hm
  have:=List.length_filter_le (fun o:zD=>decide (o.side=s)) L
  omega
theorem zEi {B:List (List zD)} {k:Nat} {L:List zD} (hL:B[k]? =some L):(B.map yV).getD k top0=yV L:=zI (by rw[List.getElem?_map,hL];rfl)
theorem fY (L:List zD) {s:Int} (hs:s=1∨s=2):(yV L).has s=(bestL L s).2∧(yV L).qty s=(bestL L s).1.qty∧(yV L).price s=(bestL L s).1.price:=by
 obtain⟨e1,e2,e3,e4,e5,e6⟩:=tY L
 rcases hs with rfl|rfl
 ·exact⟨e3,e2,e1⟩
 ·exact⟨e6,e5,e4⟩
theorem pL {p:Prd} {B:List (List zD)} (h:BOk p B) (ho:yBc B) {inst:Int} (hi:0≤inst∧inst<B.length) {s:Int} (hs:s=1∨s=2) (hn:(zV p B inst s).2.2=true):
 (1≤(zV p B inst s).1.qty∧(zV p B inst s).1.qty≤250000000)∧((zV p B inst s).2.1=true→(zV p B inst s).1∈xG ⟨p,B.map yV,inst⟩ s∧QOk (B.map yV) (zV p B inst s).1)∧
 ((zV p B inst s).2.1=false→(bestL (B.getD inst.toNat []) s).2=true∧(zV p B inst s).1.price=(bestL (B.getD inst.toNat []) s).1.price∧(zV p B inst s).1.qty=(bestL (B.getD inst.toNat []) s).1.qty):=by
 obtain⟨k,rfl⟩:∃k:Nat,inst=k:=⟨inst.toNat,by omega⟩
 obtain⟨L,hL⟩:=yA (l:=B) (i:=k) (by omega)
 have hLo:=ho k L hL
 rw[zV]at hn ⊢
 rw[Int.toNat_natCast,zI hL]at hn ⊢
 split
 ·rename_i c
  simp only[Bool.and_eq_true]at c
  exact⟨zWs hLo.1 hLo.2.2 c.1,⟨fun e=>(by cases e),fun _=>⟨c.1,rfl,rfl⟩⟩⟩
 ·rename_i c
  rw[if_neg c]at hn
  dsimp only at hn ⊢
  have hm:=zJp hn
  have ha:(yW (j6 ⟨p,B.map yV,k⟩ s) s).1∈xG ⟨p,B.map yV,k⟩ s:=(List.mem_filter.1 hm).1
  obtain⟨ok,_⟩:=yEf h.pc (by rw[List.length_map];exact h.bl) hs ha
  refine⟨?_,fun _=>⟨ha,ok⟩,fun e=>by rw[hn]at e;cases e⟩
  generalize (yW (j6 ⟨p,B.map yV,k⟩ s) s).1=q at ok
  have a:=ok.a
  have b:=ok.b
  rw[List.length_map]at a b
  obtain⟨La,hLa⟩:=yA (l:=B) (i:=q.a.inst.toNat) (by omega)
  obtain⟨Lb,hLb⟩:=yA (l:=B) (i:=q.b.inst.toNat) (by omega)
  have e1:=ok.ha
  have e2:=ok.hb
  have e3:=ok.qty
  rw[zEi hLa]at e1 e3
  rw[zEi hLb]at e2 e3
  rw[(fY La ok.sa).1]at e1
  rw[(fY Lb ok.sb).1]at e2
  rw[(fY La ok.sa).2.1,(fY Lb ok.sb).2.1]at e3
  have:=zWs (ho _ _ hLa).1 (ho _ _ hLa).2.2 e1
  have:=zWs (ho _ _ hLb).1 (ho _ _ hLb).2.2 e2
  omega
theorem eF {L:List zD} {id q:Int} {o:zD} (h:o∈(xS L id q).1):∃o'∈L,o.price=o'.price∧o.side=o'.side∧o.id=o'.id:=by
 rw[xS]at h
 split at h
 ·exact⟨o,h,rfl,rfl,rfl⟩
 split at h
 ·exact⟨o,h,rfl,rfl,rfl⟩
 obtain⟨o',ho',e⟩:=List.mem_filterMap.1 h
 refine⟨o',ho',?_⟩
 split at e
 ·split at e
  ·cases e
  ·cases e;exact⟨rfl,rfl,rfl⟩
 ·cases e;exact⟨rfl,rfl,rfl⟩
theorem BOk.take {p:Prd} {B:List (List zD)} (h:BOk p B) (id q:Int):BOk p (yT B id q).1:=by
 refine⟨h.pc,h.ps,by rw[mY];exact h.bl,fun k L hL o ho=> ?_⟩
 rw[yT]at hL
 split at hL
 ·exact h.pr k L hL o ho
 ·rename_i j hj
  dsimp only at hL
  rcases uC hL with⟨rfl,rfl⟩|⟨_,hL⟩
  ·obtain⟨o',ho',e,_⟩:=eF ho
   obtain⟨L',hL',_⟩:=xW hj
   rw[zI hL']at ho'
   rw[e];exact h.pr k L' hL' o' ho'
  ·exact h.pr k L hL o ho
theorem BOk.takes {p:Prd}:∀{fs:List wO} {B:List (List zD)},BOk p B→BOk p (xF B fs)
 |[],B,h=>h
 |f::fs,B,h=>BOk.takes (fs:=fs) (h.take f.id f.qty)
theorem zQp (inst s:Int):∀(os:List zD) (sh:List Int),(yN inst s os sh).length≤os.length
 |[],sh=>Nat.le_refl 0
 |o::os,[]=>Nat.zero_le _
 |o::os,k::sh=>by
  have:=zQp inst s os sh
  rw[yN]
  split
  ·simp only[List.length_cons];omega
  ·simp only[List.length_cons];omega
theorem bV {p:Prd} {B:List (List zD)} (ho:yBc B) (inst s q:Int):(xN p B inst s q).length≤250:=by
 refine Nat.le_trans (zQp _ _ _ _) (Nat.le_trans (List.length_filter_le _ _) ?_)
 by_cases h:inst.toNat<B.length
 ·obtain⟨L,hL⟩:=yA h
  rw[zI hL];exact(ho _ _ hL).2.2
 ·rw[List.getD_eq_getElem?_getD,List.getElem?_eq_none (by omega)];exact Nat.zero_le _
theorem pF {p:Prd} {B:List (List zD)} {inst:Int} {sd:Bool} {price q:Int} {t:k6} {B':List (List zD)} (hq:1≤q) (h:jK p B inst sd price q=some (t,B')):1≤t.qty∧t.qty≤q:=by
 rw[jK]at h
 dsimp only at h
 split at h
 ·rename_i c
  simp only[Bool.and_eq_true,decide_eq_true_eq]at c
  split at h
  ·cases h;dsimp only;omega
  ·cases h;dsimp only;omega
 ·cases h
theorem zSf {p:Prd} {inst:Int} {sd:Bool} {price:Int}:∀(m n:Nat) (B:List (List zD)) (q:Int),q.toNat≤m→q.toNat≤n→zDj p inst sd price m B q=zDj p inst sd price n B q
 |0,0,B,q,_,_=>rfl
 |0,n+1,B,q,h,_=>by rw[zDj,zDj,if_pos (by omega)]
 |m+1,0,B,q,_,h=>by rw[zDj,zDj,if_pos (by omega)]
 |m+1,n+1,B,q,h1,h2=>by
  rw[zDj,zDj]
  split
  ·rfl
  ·rename_i hq
   cases hs:jK p B inst sd price q with
   |none=>rfl
   |some x=>
    obtain⟨t,B'⟩:=x
    have:=pF (by omega) hs
    dsimp only
    rw[zSf m n B' (q-t.qty) (by omega) (by omega)]
theorem jB {p:Prd} {B:List (List zD)} {inst:Int} {sd:Bool} {price q:Int} (h:q≤0∨jK p B inst sd price q=none):qE p B inst sd price q=⟨[],q,B⟩:=by
 rw[qE]
 cases hn:q.toNat with
 |zero=>rfl
 |succ n=>
  rw[zDj]
  rcases h with h|h
  ·rw[if_pos h]
  ·rw[if_neg (by omega),h]
theorem fL {p:Prd} {B:List (List zD)} {inst:Int} {sd:Bool} {price q:Int} {t:k6} {B':List (List zD)} (hq:1≤q) (h:jK p B inst sd price q=some (t,B')):
 qE p B inst sd price q=⟨t::(qE p B' inst sd price (q-t.qty)).steps,(qE p B' inst sd price (q-t.qty)).left,(qE p B' inst sd price (q-t.qty)).B⟩:=by
 have ht:=pF hq h
 rw[qE]
 cases hn:q.toNat with
 |zero=>omega
 |succ n=>
  rw[zDj,if_neg (by omega),h]
  dsimp only
  rw[zSf n (q-t.qty).toNat B' (q-t.qty) (by omega) (Nat.le_refl _)]
  rfl
open Go Cv Go.Proofs
theorem vG {s:Int} (h:s=1∨s=2):zA (decide (s=2))=s:=by
 rcases h with rfl|rfl<;>rfl
theorem yOr (i:RunI) (h:runC.cnd i):yIr i:=by
 obtain⟨hR,hB,⟨h0,h1⟩,hq1,hq2⟩:i.s.Rep i.p i.B∧BOk i.p i.B∧(0≤i.inst∧i.inst<i.B.length)∧1≤i.q∧i.q≤1000000:=h
 have hbl:=hR.bl
 have hcl:=qG i.p
 have hbB:=hB.bl
 unfold yIr zTa gT pY pC uF lC zFg zHu zX
 refine(fun hT=>zK (fun c=>zK (fun c2=>Cv.cnd.mk (fun _=>zK (fun _=>Cv.cnd.mk (fun e=>absurd hq2 (by simpa using e)) (fun _=>hT)) (fun e=>absurd hq1 e)) (fun e1=>Cv.cnd.mk (fun _=>zK (fun _=>Cv.cnd.mk (fun e=>absurd hq2 (by simpa using e)) (fun _=>hT)) (fun e=>absurd hq1 e)) (fun e2=>by
  rcases fW i.sd with e|e
  ·rw[e]at e1;cases e1
  ·rw[e]at e2;cases e2))) (fun c2=>absurd (by omega) c2)) (fun c=>absurd h0 c)) ?_
 refine⟨⟨i.s,i.B,[],i.q⟩,rfl,rfl,rfl,rfl,rfl,rfl,rfl,rfl,rfl,rfl,rfl,rfl,rfl,rfl,rfl,fun j=>j.s.Rep i.p j.B∧BOk i.p j.B∧j.B.length=i.B.length∧(0≤j.q∧j.q≤i.q)∧(j.steps.length:Int)≤i.q-j.q∧i.r=⟨j.steps++(qE i.p j.B i.inst i.sd i.price j.q).steps,(qE i.p j.B i.inst i.sd i.price j.q).left,(qE i.p j.B i.inst i.sd i.price j.q).B⟩,fun j=>j.q.toNat,⟨hR,hB,rfl,⟨by dsimp only;omega,Int.le_refl _⟩,by dsimp only;simp,rfl⟩,?_⟩
 rintro⟨s,B,st,q⟩ ⟨r1,r2,r3,⟨r4,r4'⟩,r5,r6⟩
 dsimp only at r1 r2 r3 r4 r4' r5 r6 ⊢
 have hno (hn:q≤0∨jK i.p B i.inst i.sd i.price q=none):∃(o:MSt),i.r.left=q∧AObj.adt MSt (5:Nat) xR o=AObj.adt MSt (5:Nat) xR s∧List.map jL i.r.steps=List.map jL st∧o.Rep i.p i.r.B:=by
  rw[jB hn,List.append_nil]at r6
  rw[r6];exact⟨s,rfl,rfl,rfl,r1⟩
 refine zK (fun c=> ?_) (fun c=>hno (.inl (by omega)))
 have c:0<q:=c
 refine⟨i.sd,rfl,trivial,fun _ _=>⟨⟨s,i.p,B,i.inst,!i.sd⟩,rfl,rfl,rfl,⟨r1,r2,h0,by dsimp only;omega⟩,fun _ _=> ?_⟩⟩
 dsimp only
 have hni:=pL r2 r1.ords (inst:=i.inst) ⟨h0,by omega⟩ (fW (!i.sd))
 have hsb:jK i.p B i.inst i.sd i.price q=(if((zV i.p B i.inst (zA (!i.sd))).2.2 && (jH i.sd i.price (zV i.p B i.inst (zA (!i.sd))).1.price && decide (1≤(zV i.p B i.inst (zA (!i.sd))).1.qty)))=true then
  if(zV i.p B i.inst (zA (!i.sd))).2.1=true then
   some (⟨(zV i.p B i.inst (zA (!i.sd))).1.price,min q (zV i.p B i.inst (zA (!i.sd))).1.qty,true,xN i.p B (zV i.p B i.inst (zA (!i.sd))).1.a.inst (zV i.p B i.inst (zA (!i.sd))).1.a.side (min q (zV i.p B i.inst (zA (!i.sd))).1.qty)++xN i.p (xF B (xN i.p B (zV i.p B i.inst (zA (!i.sd))).1.a.inst (zV i.p B i.inst (zA (!i.sd))).1.a.side (min q (zV i.p B i.inst (zA (!i.sd))).1.qty))) (zV i.p B i.inst (zA (!i.sd))).1.b.inst (zV i.p B i.inst (zA (!i.sd))).1.b.side (min q (zV i.p B i.inst (zA (!i.sd))).1.qty)⟩,xF (xF B (xN i.p B (zV i.p B i.inst (zA (!i.sd))).1.a.inst (zV i.p B i.inst (zA (!i.sd))).1.a.side (min q (zV i.p B i.inst (zA (!i.sd))).1.qty))) (xN i.p (xF B (xN i.p B (zV i.p B i.inst (zA (!i.sd))).1.a.inst (zV i.p B i.inst (zA (!i.sd))).1.a.side (min q (zV i.p B i.inst (zA (!i.sd))).1.qty))) (zV i.p B i.inst (zA (!i.sd))).1.b.inst (zV i.p B i.inst (zA (!i.sd))).1.b.side (min q (zV i.p B i.inst (zA (!i.sd))).1.qty)))
  else some (⟨(zV i.p B i.inst (zA (!i.sd))).1.price,min q (zV i.p B i.inst (zA (!i.sd))).1.qty,false,xN i.p B i.inst (zA (!i.sd)) (min q (zV i.p B i.inst (zA (!i.sd))).1.qty)⟩,xF B (xN i.p B i.inst (zA (!i.sd)) (min q (zV i.p B i.inst (zA (!i.sd))).1.qty)))else none):=rfl
 generalize zV i.p B i.inst (zA (!i.sd))=nb at hni hsb ⊢
 refine Cv.cnd.mk (fun n1=> ?_) (fun n1=>⟨⟨i.sd,i.price,nb.1.price⟩,rfl,rfl,rfl,trivial,fun _ _=>Cv.cnd.mk (fun n2=> ?_) (fun n2=> ?_)⟩)
 ·have n1:nb.2.2=false:=by simpa using n1
  rw[n1,if_neg (by simp)]at hsb
  exact hno (.inr hsb)
 ·have n2:jH i.sd i.price nb.1.price=false:=by simpa using n2
  rw[n2,if_neg (by simp)]at hsb
  exact hno (.inr hsb)
 have n1:nb.2.2=true:=by simpa using n1
 have n2:jH i.sd i.price nb.1.price=true:=by simpa using n2
 obtain⟨⟨b1,b2⟩,hi,hr⟩:=hni n1
 rw[n1,n2,decide_eq_true b1,if_pos (by rfl)]at hsb
 have hk:yQ (min q nb.1.qty):=by constructor<;>omega
 have hsl:(st.length+1)*48≤70368744177664:=by omega
 have beh:∀(t:k6) (B':List (List zD)) (s':MSt),jK i.p B i.inst i.sd i.price q=some (t,B')→s'.Rep i.p B'→BOk i.p B'→B'.length=B.length→
  (s'.Rep i.p B'∧BOk i.p B'∧B'.length=i.B.length∧(0≤q-t.qty∧q-t.qty≤i.q)∧((st++[t]).length:Int)≤i.q-(q-t.qty)∧i.r=⟨(st++[t])++(qE i.p B' i.inst i.sd i.price (q-t.qty)).steps,(qE i.p B' i.inst i.sd i.price (q-t.qty)).left,(qE i.p B' i.inst i.sd i.price (q-t.qty)).B⟩)∧(q-t.qty).toNat<q.toNat:=by
  intro t B' s' h1 h2 h3 h4
  have ht:=pF (by omega) h1
  refine⟨⟨h2,h3,by omega,⟨by omega,by omega⟩,by rw[List.length_append,List.length_singleton];omega,?_⟩,by omega⟩
  rw[fL (by omega) h1]at r6
  rw[r6,List.append_assoc];rfl
 refine Cv.cnd.mk (fun n3=> ?_) (fun n3=> ?_)
 ·obtain⟨_,ok⟩:=hi n3
  rw[n3,if_pos rfl]at hsb
  have oka:=ok.a
  have okb:=ok.b
  rw[List.length_map]at oka okb
  have ea:=vG ok.sa
  have eb:=vG ok.sb
  refine⟨⟨s,i.p,B,nb.1.a.inst,decide (nb.1.a.side=2),min q nb.1.qty⟩,rfl,ea,rfl,rfl,⟨r1,r2,oka.1,oka.2,hk⟩,fun s1 hs1=> ?_⟩
  dsimp only at hs1 ⊢
  rw[ea]at hs1 ⊢
  have l1:=bV (p:=i.p) r1.ords nb.1.a.inst nb.1.a.side (min q nb.1.qty)
  have hB1:=r2.takes (fs:=xN i.p B nb.1.a.inst nb.1.a.side (min q nb.1.qty))
  have l2:=bV (p:=i.p) hs1.ords nb.1.b.inst nb.1.b.side (min q nb.1.qty)
  refine⟨trivial,by rw[List.length_map];omega,⟨s1,i.p,xF B (xN i.p B nb.1.a.inst nb.1.a.side (min q nb.1.qty)),nb.1.b.inst,decide (nb.1.b.side=2),min q nb.1.qty⟩,rfl,eb,rfl,rfl,⟨hs1,hB1,okb.1,by dsimp only;rw[qK];exact okb.2,hk⟩,fun s2 hs2=> ?_⟩
  dsimp only at hs2 ⊢
  rw[eb]at hs2 ⊢
  obtain⟨g1,g2⟩:=beh _ _ s2 hsb hs2 hB1.takes (by rw[qK,qK])
  refine⟨trivial,by rw[List.length_map,List.length_map];omega,by rw[List.length_map];exact hsl,⟨s2,_,st++[_],_⟩,?_,rfl,?_,g1,g2,by(repeat'(first|exact trivial|exact rfl|apply And.intro))⟩
  ·dsimp only;rw[w64 (by omega)]
  ·dsimp only
   rw[List.map_append,n3]
   simp[jL]
 ·rw[n3,if_neg (by decide)]at hsb
  refine⟨i.sd,rfl,trivial,fun _ _=>⟨rfl,⟨s,i.p,B,i.inst,!i.sd,min q nb.1.qty⟩,rfl,rfl,rfl,rfl,⟨r1,r2,h0,by dsimp only;omega,hk⟩,fun s1 hs1=> ?_⟩⟩
  dsimp only at hs1 ⊢
  obtain⟨g1,g2⟩:=beh _ _ s1 hsb hs1 r2.takes (by rw[qK])
  refine⟨by rw[List.length_map];exact hsl,⟨s1,_,st++[_],_⟩,?_,rfl,?_,g1,g2,by(repeat'(first|exact trivial|exact rfl|apply And.intro))⟩
  ·dsimp only;rw[w64 (by omega)]
  ·dsimp only
   rw[List.map_append,n3]
   simp[jL]
theorem zTo:runC.ok Tryz.prog 56:=yMn (gokc yAr (gokc zLs (gokc zRo (gokc z6b gok0)))) yOr
open Go Cv Go.Proofs
structure Ask where
 kind:Int
 inst:Int
 side:Int
 id:Int
 price:Int
 qty:Int
 deriving DecidableEq
@[reducible] def Ask.cells (c:Ask):List V:=[zB c.kind,zB c.inst,zB c.side,zB c.id,zB c.price,zB c.qty]
@[reducible] def Ask.raw (c:Ask):Prop:=yQ c.kind∧yQ c.inst∧yQ c.side∧yQ c.id∧yQ c.price∧yQ c.qty
structure SmI where
 p:Prd
 x:Ask
 i:Int
open Go Cv Go.Proofs
open Go Cv Go.Proofs
theorem z6i {L:List zD} {s id p q:Int} {o:zD} (h:o∈zGh L s id p q):o.price=p∨∃o'∈L,o.price=o'.price:=by
 have key:∀X:List zD,(o∈X.takeWhile (before s p)++⟨id,s,p,q,uE L s p⟩::X.dropWhile (before s p))→o.price=p∨o∈X:=by
  intro X hX
  rcases List.mem_append.1 hX with hX|hX
  ·exact .inr (List.takeWhile_sublist _|>.subset hX)
  ·rcases List.mem_cons.1 hX with rfl|hX
   ·exact .inl rfl
   ·exact .inr (List.dropWhile_sublist _|>.subset hX)
 rw[zGh]at h
 split at h
 ·rcases key _ h with h|h
  ·exact .inl h
  ·obtain⟨o',ho',_,_,e,_⟩:=zYp h
   exact .inr ⟨o',ho',e⟩
 ·rcases key _ h with h|h
  ·exact .inl h
  ·exact .inr ⟨o,h,rfl⟩
theorem BOk.add {p:Prd} {B:List (List zD)} (h:BOk p B) (inst id s price q:Int):BOk p (zCd p B inst id s price q).1:=by
 rw[zCd]
 split
 ·exact h
 split
 ·exact h
 split
 ·exact h
 split
 ·exact h
 rename_i c1 _ _ c4
 have c4:p.price inst price=0:=by simpa using c4
 refine⟨h.pc,h.ps,by simpa using h.bl,fun k L hL o ho=> ?_⟩
 dsimp only at hL
 rcases uC hL with⟨rfl,rfl⟩|⟨_,hL⟩
 ·obtain⟨L',hL'⟩:=yA (l:=B) (i:=inst.toNat) (by omega)
  rw[zI hL',eL]at ho
  have e:((inst.toNat:Nat):Int)=inst:=by omega
  repeat' split at ho
  ·exact h.pr _ L' hL' o ho
  ·exact h.pr _ L' hL' o ho
  ·exact h.pr _ L' hL' o ho
  ·rcases z6i ho with h1|⟨o',ho',h1⟩
   ·rw[h1,e];exact c4
   ·rw[h1];exact h.pr _ L' hL' o' ho'
 ·exact h.pr k L hL o ho
theorem BOk.new {p:Prd} (hc:p.check=0) (hp:p.small):BOk p (List.replicate p.count []):=by
 refine⟨hc,hp,by simp,fun k L hL o ho=> ?_⟩
 rw[List.eq_of_mem_replicate (List.mem_of_getElem? hL)]at ho
 cases ho
theorem MSt.Rep.fit {s:MSt} {p:Prd} {B:List (List zD)} (h:s.Rep p B) (hb:BOk p B):s.fit:=by
 have:=qG p
 refine⟨by rw[h.ep];exact hb.ps,by rw[h.bl,hb.bl];omega,fun b hm=> ?_⟩
 obtain⟨k,hk⟩:=List.mem_iff_getElem?.1 hm
 have hlt:=(List.getElem?_eq_some_iff.1 hk).1
 rw[h.bl]at hlt
 obtain⟨L,hL⟩:=yA hlt
 exact(h.bk k b L hk hL).fit
open Go Cv Go.Proofs
def zIp (r:Nat):Bool:=decide (32≤r) && decide (r≠127) && decide (r≠65533)
def fF (s:List UInt8):Bool:=(kP s).all zIp && decide (1≤(kP s).length) && decide ((kP s).length≤12)
def labC:Con:=con1 (List UInt8) (fun s=>[sV s]) (fun _=>[]) (fun s=>s.length≤140737488355328) (fun s=>yO (fF s)) (fun _=>[])
def yPl (s:List UInt8):List SAnn:=[{ι:=Nat×Nat,slots:=fun x=>[(3,zB x.2),(7,.nm 0 0)],rows:=fun x=>[.iter (sb s) x.1]}]
def gU (n:Int):Bool:=decide (-2000000≤n) && decide (n≤2000000)
def wI (n:Int):Bool:=decide (1≤n) && decide (n≤1000000)
def Cmd.orderE (c:Cmd):Int:=
 if c.side≠1∧c.side≠2 then 21 else if c.time<1∨3<c.time then 27 else if wI c.qty=false then 24 else if c.least<0∨c.qty<c.least then 28
 else if c.label≠[]∧fF c.label=false then 29 else if gU c.price=false then 23 else if c.inst<0∨255<c.inst then 20 else 0
def Cmd.right (c:Cmd):Int:=
 if c.kind<1∨4<c.kind then 31 else if c.id<1∨1099511627776<c.id then 1 else if c.kind=1 then c.orderE
 else if c.kind≠2∧wI c.qty=false then 24 else if c.kind=4∧gU c.price=false then 23 else 0
def cmdOrdC:Con:=con1 Cmd (fun c=>[zIx c]) (fun _=>[]) (fun c=>c.label.length≤140737488355328) (fun c=>zB c.orderE) (fun _=>[])
def cmdRtC:Con:=con1 Cmd (fun c=>[zIx c]) (fun _=>[]) (fun c=>c.label.length≤140737488355328) (fun c=>zB c.right) (fun _=>[])
open Go Cv Go.Proofs
def yGm (s:List UInt8):Prop:=
 ∃(a:Nat×Nat),(↑a.snd:Int)=0∧sb s=sb s∧a.fst=0∧∃(b:Nat×Nat→Prop),∃(c:Nat×Nat→Nat),b a∧∀(d:Nat×Nat),b d→cnd (d.fst.blt (sb s).size) (cnd (decide ((kF s d)<32)) (∃(e:Unit),fF s=false∧True) (cnd ((kF s d)==127) (∃(e:Unit),fF s=false∧True) (cnd ((kF s d)==65533) (∃(e:Unit),fF s=false∧True) (gK d s b c)))) (cnd (decide ((↑d.snd:Int)≥1)) (∃(e:Unit),fF s=decide ((↑d.snd:Int)≤12)∧True) (∃(e:Unit),fF s=false∧True))
theorem yMe (hG:GOk Tryz.prog ([])) (h:∀(s:List UInt8),labC.cnd s→yGm s):labC.ok Tryz.prog 96:=okw mixed hG 0 (fun _=>[]) (fun s=>yPl s) [] Tryz.func96 h
def zGp (a:Cmd):Prop:=cnd (decide (a.price≥(-2000000))) (cnd (!decide (a.price≤2000000)) (∃(b:Unit),a.orderE=23∧True) (cnd (decide (a.inst<0)) (∃(b:Unit),a.orderE=20∧True) (cnd (decide (a.inst>255)) (∃(b:Unit),a.orderE=20∧True) (∃(b:Unit),a.orderE=0∧True)))) (∃(b:Unit),a.orderE=23∧True)
def zGl (a:Cmd):Prop:=cnd (decide (a.time<1)) (∃(b:Unit),a.orderE=27∧True) (cnd (decide (a.time>3)) (∃(b:Unit),a.orderE=27∧True) (cnd (decide (a.qty≥1)) (cnd (!decide (a.qty≤1000000)) (∃(b:Unit),a.orderE=24∧True) (cnd (decide (a.least<0)) (∃(b:Unit),a.orderE=28∧True) (cnd (decide (a.least>a.qty)) (∃(b:Unit),a.orderE=28∧True) (cnd (!(sb a.label).toList==(ByteArray.mk #[]).toList) (∃(b:List UInt8),sb b=sb a.label∧b.length≤140737488355328∧∀(c:Unit),True→cnd (!fF b) (∃(d:Unit),a.orderE=29∧True) (zGp a)) (zGp a))))) (∃(b:Unit),a.orderE=24∧True)))
def z3d (c:Cmd):Prop:=
 cnd (c.side !=1) (cnd (c.side !=2) (∃(a:Unit),c.orderE=21∧True) (zGl c)) (zGl c)
theorem yKd (hG:GOk Tryz.prog ([(96,labC)])) (h:∀(c:Cmd),cmdOrdC.cnd c→z3d c):cmdOrdC.ok Tryz.prog 69:=okw mixed hG 1 (fun _=>[]) (fun _=>[]) [] Tryz.func69 h
def tP (a:Cmd):Prop:=cnd (a.kind==4) (cnd (decide (a.price≥(-2000000))) (cnd (!decide (a.price≤2000000)) (∃(b:Unit),a.right=23∧True) (∃(b:Unit),a.right=0∧True)) (∃(b:Unit),a.right=23∧True)) (∃(b:Unit),a.right=0∧True)
def zVs (c:Cmd):Prop:=
 cnd (decide (c.kind<1)) (∃(a:Unit),c.right=31∧True) (cnd (decide (c.kind>4)) (∃(a:Unit),c.right=31∧True) (cnd (decide (c.id<1)) (∃(a:Unit),c.right=1∧True) (cnd (decide (c.id>1099511627776)) (∃(a:Unit),c.right=1∧True) (cnd (c.kind==1) (∃(a:Cmd),a.kind=c.kind∧a.id=c.id∧a.inst=c.inst∧a.side=c.side∧a.price=c.price∧a.qty=c.qty∧a.least=c.least∧a.time=c.time∧sb a.label=sb c.label∧a.label.length≤140737488355328∧∀(b:Unit),True→∃(d:Unit),c.right=a.orderE∧True) (cnd (c.kind !=2) (cnd (decide (c.qty≥1)) (cnd (!decide (c.qty≤1000000)) (∃(a:Unit),c.right=24∧True) (tP c)) (∃(a:Unit),c.right=24∧True)) (tP c))))))
theorem yEk (hG:GOk Tryz.prog ([(69,cmdOrdC)])) (h:∀(c:Cmd),cmdRtC.cnd c→zVs c):cmdRtC.ok Tryz.prog 38:=okw mixed hG 1 (fun _=>[]) (fun _=>[]) [] Tryz.func38 h
open Go Cv Go.Proofs
theorem yOt (s:List UInt8) (h:labC.cnd s):yGm s:=by
 have h:s.length≤140737488355328:=h
 have hr:=zBb s
 unfold yGm kF gK
 refine⟨(0,0),rfl,rfl,rfl,fun x=>x.1≤s.length∧x.2+(uM s x.1).length=(kP s).length∧(kP s).all zIp=(uM s x.1).all fun x=>zIp x.2,fun x=>s.length-x.1,⟨by omega,by rw[kP,List.length_map];simp,by rw[kP,List.all_map];rfl⟩,?_⟩
 rintro⟨p,n⟩ ⟨h1,h2,h3⟩
 dsimp only at h1 h2 h3 ⊢
 refine Cv.cnd.mk (fun hp=> ?_) (fun hp=> ?_)
 ·have hp:p<s.length:=by simpa[Nat.blt_eq]using hp
  have hw:=dI s hp
  rw[jV hp,List.length_cons]at h2
  rw[jV hp,List.all_cons]at h3
  generalize hc:(Utf8.decode (sb s) p).1=c at h2 h3 ⊢
  generalize hww:(Utf8.decode (sb s) p).2=w at h2 h3 hw ⊢
  dsimp only at h3
  have bad:zIp c=false→∃(o:Unit),fF s=false∧True:=fun e=>⟨(),by rw[fF,h3,e];rfl,trivial⟩
  refine zK (fun c1=>bad ?_) (fun c1=>Cv.cnd.mk (fun c2=>bad ?_) (fun c2=>Cv.cnd.mk (fun c3=>bad ?_) (fun c3=> ?_)))
  ·simp[zIp];omega
  ·have c2:(c:Int)=127:=by simpa using c2
   simp[zIp];omega
  ·have c3:(c:Int)=65533:=by simpa using c3
   simp[zIp];omega
  ·have c2:¬(c:Int)=127:=by simpa using c2
   have c3:¬(c:Int)=65533:=by simpa using c3
   have e:zIp c=true:=by simp[zIp];omega
   refine⟨(p+w,n+1),?_,rfl,rfl,⟨hw.2,by(first|omega|(dsimp only;omega)),by rw[h3,e];rfl⟩,by(first|omega|(dsimp only;omega)),trivial⟩
   rw[w64 (by omega)];rfl
 ·have hp:s.length≤p:=by have:=zYx hp;simpa using this
  rw[gN hp]at h2 h3
  have h2:n=(kP s).length:=h2
  have h3:(kP s).all zIp=true:=h3
  refine zK (fun c=>⟨(),?_,trivial⟩) (fun c=>⟨(),?_,trivial⟩)
  ·rw[fF,h3,← h2,decide_eq_true (show 1≤n by omega)]
   simp only[Bool.true_and]
   congr 1
   simp only[eq_iff_iff];omega
  ·rw[fF,← h2,decide_eq_false (show ¬1≤n by omega)];simp
theorem yFx:labC.ok Tryz.prog 96:=yMe gok0 yOt
theorem yOz (a b:Int):(a==b)=decide (a=b):=by
 by_cases h:a=b
 ·subst h;simp
 ·simp[h]
theorem yNn (a b:Int):(a !=b)=decide (a≠b):=by
 by_cases h:a=b
 ·subst h;simp
 ·simp[h]
theorem eqB (a b:List UInt8):((sb a).toList==(sb b).toList)=decide (a=b):=by
 rw[c8,c8]
 by_cases h:a=b
 ·subst h;simp
 ·simp[h]
theorem yHk:ByteArray.mk #[]=sb []:=rfl
theorem yMx (c:Cmd) (h:cmdOrdC.cnd c):z3d c:=by
 have h:c.label.length≤140737488355328:=h
 unfold z3d zGl zGp
 simp only[yHk,eqB,yNn]
 have tail:¬(c.side≠1∧c.side≠2)→cnd (decide (c.time<1)) (∃(o:Unit),c.orderE=27∧True) (cnd (decide (c.time>3)) (∃(o:Unit),c.orderE=27∧True) (cnd (decide (c.qty≥1)) (cnd (!decide (c.qty≤1000000)) (∃(o:Unit),c.orderE=24∧True) (cnd (decide (c.least<0)) (∃(o:Unit),c.orderE=28∧True) (cnd (decide (c.least>c.qty)) (∃(o:Unit),c.orderE=28∧True) (cnd (!decide (c.label=[])) (∃(i:List UInt8),sb i=sb c.label∧i.length≤140737488355328∧∀(o:Unit),True→cnd (!fF i) (∃(o:Unit),c.orderE=29∧True) (cnd (decide (c.price≥-2000000)) (cnd (!decide (c.price≤2000000)) (∃(o:Unit),c.orderE=23∧True) (cnd (decide (c.inst<0)) (∃(o:Unit),c.orderE=20∧True) (cnd (decide (c.inst>255)) (∃(o:Unit),c.orderE=20∧True) (∃(o:Unit),c.orderE=0∧True)))) (∃(o:Unit),c.orderE=23∧True))) (cnd (decide (c.price≥-2000000)) (cnd (!decide (c.price≤2000000)) (∃(o:Unit),c.orderE=23∧True) (cnd (decide (c.inst<0)) (∃(o:Unit),c.orderE=20∧True) (cnd (decide (c.inst>255)) (∃(o:Unit),c.orderE=20∧True) (∃(o:Unit),c.orderE=0∧True)))) (∃(o:Unit),c.orderE=23∧True)))))) (∃(o:Unit),c.orderE=24∧True))):=by
  intro hs
  have e1:c.orderE=if c.time<1∨3<c.time then 27 else if wI c.qty=false then 24 else if c.least<0∨c.qty<c.least then 28
   else if c.label≠[]∧fF c.label=false then 29 else if gU c.price=false then 23 else if c.inst<0∨255<c.inst then 20 else 0:=by rw[Cmd.orderE,if_neg hs]
  refine zK (fun d1=>⟨(),by rw[e1,if_pos (.inl d1)],trivial⟩) fun d1=>zK (fun d2=>⟨(),by rw[e1,if_pos (.inr d2)],trivial⟩) fun d2=> ?_
  rw[if_neg (by omega)]at e1
  have q (hq:wI c.qty=false):∃(o:Unit),c.orderE=24∧True:=⟨(),by rw[e1,if_pos hq],trivial⟩
  refine zK (fun d3=>Cv.cnd.mk (fun d4=>q ?_) fun d4=> ?_) fun d3=>q ?_
  ·have d4:¬c.qty≤1000000:=by simpa using d4
   simp[wI,d4]
  ·have d4:c.qty≤1000000:=by simpa using d4
   have hq:¬wI c.qty=false:=by simp[wI,d4];omega
   rw[if_neg hq]at e1
   refine zK (fun d5=>⟨(),by rw[e1,if_pos (.inl d5)],trivial⟩) fun d5=>zK (fun d6=>⟨(),by rw[e1,if_pos (.inr d6)],trivial⟩) fun d6=> ?_
   rw[if_neg (by omega)]at e1
   have last:¬(c.label≠[]∧fF c.label=false)→cnd (decide (c.price≥-2000000)) (cnd (!decide (c.price≤2000000)) (∃(o:Unit),c.orderE=23∧True) (cnd (decide (c.inst<0)) (∃(o:Unit),c.orderE=20∧True) (cnd (decide (c.inst>255)) (∃(o:Unit),c.orderE=20∧True) (∃(o:Unit),c.orderE=0∧True)))) (∃(o:Unit),c.orderE=23∧True):=by
    intro hl
    rw[if_neg hl]at e1
    have pr (hq:gU c.price=false):∃(o:Unit),c.orderE=23∧True:=⟨(),by rw[e1,if_pos hq],trivial⟩
    refine zK (fun g1=>Cv.cnd.mk (fun g2=>pr ?_) fun g2=> ?_) fun g1=>pr ?_
    ·have g2:¬c.price≤2000000:=by simpa using g2
     simp[gU,g2]
    ·have g2:c.price≤2000000:=by simpa using g2
     have hp:¬gU c.price=false:=by simp[gU,g2];omega
     rw[if_neg hp]at e1
     refine zK (fun g3=>⟨(),by rw[e1,if_pos (.inl g3)],trivial⟩) fun g3=>zK (fun g4=>⟨(),by rw[e1,if_pos (.inr g4)],trivial⟩) fun g4=>⟨(),by rw[e1,if_neg (by omega)],trivial⟩
    ·simp[gU];omega
   refine Cv.cnd.mk (fun d7=>⟨c.label,rfl,h,fun _ _=>Cv.cnd.mk (fun d8=> ?_) fun d8=>last ?_⟩) fun d7=>last ?_
   ·have d7:¬c.label=[]:=by simpa using d7
    have d8:fF c.label=false:=by simpa using d8
    exact⟨(),by rw[e1,if_pos ⟨d7,d8⟩],trivial⟩
   ·have d8:fF c.label=true:=by simpa using d8
    simp[d8]
   ·have d7:c.label=[]:=by simpa using d7
    simp[d7]
  ·simp[wI];omega
 refine zK (fun c1=>zK (fun c2=>⟨(),by rw[Cmd.orderE,if_pos ⟨c1,c2⟩],trivial⟩) fun c2=>tail ?_) fun c1=>tail ?_
 ·omega
 ·omega
theorem yBw:cmdOrdC.ok Tryz.prog 69:=yKd (gokc yFx gok0) yMx
theorem yKw (c:Cmd) (h:cmdRtC.cnd c):zVs c:=by
 have h:c.label.length≤140737488355328:=h
 unfold zVs tP
 simp only[yOz,yNn]
 refine zK (fun c1=>⟨(),by rw[Cmd.right,if_pos (.inl c1)],trivial⟩) fun c1=>zK (fun c2=>⟨(),by rw[Cmd.right,if_pos (.inr c2)],trivial⟩) fun c2=> ?_
 refine zK (fun c3=>⟨(),by rw[Cmd.right,if_neg (by omega),if_pos (.inl c3)],trivial⟩) fun c3=>zK (fun c4=>⟨(),by rw[Cmd.right,if_neg (by omega),if_pos (.inr c4)],trivial⟩) fun c4=> ?_
 have e0:c.right=if c.kind=1 then c.orderE else if c.kind≠2∧wI c.qty=false then 24 else if c.kind=4∧gU c.price=false then 23 else 0:=by rw[Cmd.right,if_neg (by omega),if_neg (by omega)]
 refine zK (fun c5=>⟨c,?_⟩) fun c5=> ?_
 ·rw[if_pos c5]at e0
  exact kp
 rw[if_neg c5]at e0
 have last (hn:¬(c.kind≠2∧wI c.qty=false)):cnd (decide (c.kind=4)) (cnd (decide (c.price≥-2000000)) (cnd (!decide (c.price≤2000000)) (∃(o:Unit),c.right=23∧True) (∃(o:Unit),c.right=0∧True)) (∃(o:Unit),c.right=23∧True)) (∃(o:Unit),c.right=0∧True):=by
  rw[if_neg hn]at e0
  refine zK (fun d1=>zK (fun d2=>Cv.cnd.mk (fun d3=> ?_) fun d3=> ?_) fun d2=> ?_) fun d1=> ?_
  ·have d3:¬c.price≤2000000:=by simpa using d3
   exact⟨(),by rw[e0,if_pos ⟨d1,by simp[gU,d3]⟩],trivial⟩
  ·have d3:c.price≤2000000:=by simpa using d3
   exact⟨(),by rw[e0,if_neg (by simp[gU,d3];omega)],trivial⟩
  ·exact⟨(),by rw[e0,if_pos ⟨d1,by simp[gU];omega⟩],trivial⟩
  ·exact⟨(),by rw[e0,if_neg (by simp[d1])],trivial⟩
 refine zK (fun d1=>zK (fun d2=>Cv.cnd.mk (fun d3=> ?_) fun d3=>last ?_) fun d2=> ?_) fun d1=>last ?_
 ·have d3:¬c.qty≤1000000:=by simpa using d3
  exact⟨(),by rw[e0,if_pos ⟨d1,by simp[wI,d3]⟩],trivial⟩
 ·have d3:c.qty≤1000000:=by simpa using d3
  simp[wI,d3];omega
 ·exact⟨(),by rw[e0,if_pos ⟨d1,by simp[wI];omega⟩],trivial⟩
 ·omega
theorem z3p:cmdRtC.ok Tryz.prog 38:=yEk (gokc yBw gok0) yKw
open Go Cv Go.Proofs
structure SoI where
 s:MSt
 p:Prd
 B:List (List zD)
 inst:Int
 sd:Bool
@[reducible] def SoI.ok (i:SoI):Prop:=i.s.Rep i.p i.B∧i.B.length≤1000
open Go Cv Go.Proofs
open Go Cv Go.Proofs
open Go Cv Go.Proofs
def eD (s:Int) (F:List zD):Prop:=F.Pairwise fun o o'=>btr s o'.price o.price=false
def kM (L:List zD) (s:Int):List zD:=L.filter fun o=>decide (o.side=s)
structure BWf (p:Prd) (B:List (List zD)):Prop where
 ok:BOk p B
 od:yBc B
 ub:((whL 0 B).map (·.1)).Nodup
 srt:∀(k:Nat) (L:List zD),B[k]? =some L→∀s,s=1∨s=2→eD s (kM L s)
theorem z7g {s x y:Int} (h:btr s y x=false) (h2:btr s x y=false):x=y:=by
 rw[btr]at h h2
 split at h
 ·rename_i e;rw[if_pos e]at h2;have:=of_decide_eq_false h;have:=of_decide_eq_false h2;omega
 ·rename_i e;rw[if_neg e]at h2;have:=of_decide_eq_false h;have:=of_decide_eq_false h2;omega
theorem zPw {s:Int} {b:Book} {Q:List (List Nat)}:∀{R:List xL},(R.Pairwise fun r r'=>btr s r.price r'.price=true)→eD s (R.flatMap (b.rOrds Q s))
 |[],_=>List.Pairwise.nil
 |r::R,h=>by
  rw[List.pairwise_cons]at h
  rw[List.flatMap_cons,eD,List.pairwise_append]
  refine⟨List.pairwise_of_forall_mem_list fun o ho o' ho'=> ?_,zPw h.2,fun o ho o' ho'=> ?_⟩
  ·rw[(qI ho).2,(qI ho').2];exact mB _ _
  ·obtain⟨r',hr',ho'⟩:=List.mem_flatMap.1 ho'
   rw[(qI ho).2,(qI ho').2];exact zPz (h.1 r' hr')
theorem Book.Rep.srt {b:Book} {L:List zD} (h:b.Rep L) {s:Int} (hs:s=1∨s=2):eD s (kM L s):=by
 obtain⟨Q,c,ht,rfl⟩:=h
 rw[kM,zJg hs]
 exact zPw (c.srt s hs)
theorem MSt.Rep.wf {s:MSt} {p:Prd} {B:List (List zD)} (h:s.Rep p B) (hb:BOk p B):BWf p B:=by
 refine⟨hb,h.ords,h.ids,fun k L hL=> ?_⟩
 obtain⟨b,hb⟩:=yA (l:=s.books) (i:=k) (by rw[h.bl];exact(List.getElem?_eq_some_iff.1 hL).1)
 exact fun s hs=>(h.bk k b L hb hL).srt hs
theorem z9o {L:List zD} (h:∀o∈L,zFl o) (hn:(L.map (·.id)).Nodup) (id q:Int):∀o∈(xS L id q).1,zFl o:=by
 intro o ho
 rw[xS]at ho
 split at ho
 ·exact h o ho
 split at ho
 ·exact h o ho
 rename_i hb
 obtain⟨o',ho',e⟩:=List.mem_filterMap.1 ho
 have h0:=h o' ho'
 split at e
 ·rename_i e1
  have hg:=uB hn ho'
  rw[e1]at hg
  rw[hg]at hb
  split at e
  ·cases e
  ·rename_i e2
   cases e
   have:=h0.q
   exact⟨h0.s,by dsimp only;omega⟩
 ·cases e;exact h0
theorem z7r (L:List zD) (id q:Int):(xS L id q).1.length≤L.length:=by
 rw[xS]
 split
 ·exact Nat.le_refl _
 split
 ·exact Nat.le_refl _
 exact List.length_filterMap_le _ _
theorem z8n {L:List zD} {s:Int} (h:eD s (kM L s)) (id q:Int):eD s (kM (xS L id q).1 s):=by
 rw[xS]
 split
 ·exact h
 split
 ·exact h
 have e:kM (yL L id q) s=yL (kM L s) id q:=by
  rw[kM,kM,yL,yL,List.filter_filterMap,List.filterMap_filter]
  refine wS fun o _=> ?_
  by_cases e1:o.id=id
  ·rw[if_pos e1]
   by_cases e2:o.qty=q
   ·rw[if_pos e2];simp
   ·rw[if_neg e2];by_cases e3:o.side=s<;>simp[Option.filter,e3]
  ·rw[if_neg e1];by_cases e3:o.side=s<;>simp[Option.filter,e3]
 rw[e,yL]
 refine List.Pairwise.filterMap _ (fun a a' haa b hb b' hb'=> ?_) h
 have g:∀{a b:zD},(if a.id=id then(if a.qty=q then none else some {a with qty:=a.qty-q})else some a)=some b→b.price=a.price:=by
  intro a b e
  split at e
  ·split at e
   ·cases e
   ·cases e;rfl
  ·cases e;rfl
 rw[g hb,g hb'];exact haa
theorem yCh {B:List (List zD)} (h:((whL 0 B).map (·.1)).Nodup) {k:Nat} {L L':List zD} (hL:B[k]? =some L) (hs:(L'.map (·.id)).Sublist (L.map (·.id))):((whL 0 (B.set k L')).map (·.1)).Nodup:=by
 have hk:=(List.getElem?_eq_some_iff.1 hL).1
 obtain⟨rest,hr⟩:=zDl (B:=B) 0 k hk
 have h0:=hr L
 rw[kH hL]at h0
 have h1:=(h0.map (·.1)).nodup_iff.1 h
 refine((hr L').map (·.1)).nodup_iff.2 ?_
 rw[List.map_append,List.map_map]at h1 ⊢
 exact h1.sublist (List.Sublist.append hs (List.Sublist.refl _))
theorem BWf.take {p:Prd} {B:List (List zD)} (h:BWf p B) (id q:Int):BWf p (yT B id q).1:=by
 refine⟨h.ok.take id q,?_,?_,?_⟩
 all_goals
  rw[yT]
  cases hi:fD B id with
  |none=>first|exact h.od|exact h.ub|exact h.srt
  |some k=>
   obtain⟨L,hL,hh⟩:=xW hi
   have ho:=h.od k L hL
   dsimp only
   rw[zI hL]
   first
   |(intro j M hM
     rcases uC hM with⟨rfl,rfl⟩|⟨_,hM⟩
     ·refine⟨z9o ho.1 ho.2.1 id q,?_,Nat.le_trans (z7r L id q) ho.2.2⟩
      rcases zEe ho.2.1 id q with⟨e,_⟩|⟨e,_⟩
      ·rw[e];exact ho.2.1
      ·rw[e];exact ho.2.1.sublist (List.Sublist.map _ List.filter_sublist)
     ·exact h.od j M hM)
   |(refine yCh h.ub hL ?_
     rcases zEe ho.2.1 id q with⟨e,_⟩|⟨e,_⟩
     ·rw[e];exact List.Sublist.refl _
     ·rw[e];exact List.Sublist.map _ List.filter_sublist)
   |(intro j M hM s hs
     rcases uC hM with⟨rfl,rfl⟩|⟨_,hM⟩
     ·exact z8n (h.srt _ L hL s hs) id q
     ·exact h.srt j M hM s hs)
theorem BWf.takes {p:Prd}:∀{fs:List wO} {B:List (List zD)},BWf p B→BWf p (xF B fs)
 |[],B,h=>h
 |f::fs,B,h=>BWf.takes (fs:=fs) (h.take f.id f.qty)
theorem BWf.inst {p:Prd} {B:List (List zD)} (h:BWf p B) {k:Nat} {L:List zD} (hL:B[k]? =some L) {id:Int} (hid:id∈L.map (·.id)):fD B id=some k:=by
 cases hi:fD B id with
 |none=>
  have:=zFq hi L (List.mem_of_getElem? hL)
  rw[hasId_iff.2 hid]at this;cases this
 |some j=>
  obtain⟨M,hM,hh⟩:=xW hi
  rw[zQx h.ub hM hL (hasId_iff.1 hh) hid]
theorem zBv {s:Int} {F:List zD} (hs:eD s F) {v:Lv} {vs:List Lv} (h:grp F=v::vs):
 v=zIs v.price (F.filter fun o=>decide (o.price=v.price))∧vs=grp (F.filter fun o=> !decide (o.price=v.price))∧∀o∈F,btr s o.price v.price=false:=by
 obtain⟨o,r,rfl,he⟩:=pA h
 rw[eD,List.pairwise_cons]at hs
 have key:∀(r:List zD),(∀x∈r,btr s x.price o.price=false)→eD s r→r=r.filter (fun x=>decide (x.price=o.price))++r.filter fun x=> !decide (x.price=o.price):=by
  intro r
  induction r with
  |nil=>intro _ _;rfl
  |cons x r ih=>
   intro h1 h2
   rw[eD,List.pairwise_cons]at h2
   by_cases e:x.price=o.price
   ·rw[List.filter_cons_of_pos (by simpa using e),List.filter_cons_of_neg (by simpa using e),List.cons_append,← ih (fun y hy=>h1 y (List.mem_cons_of_mem _ hy)) h2.2]
   ·have h3:∀y∈r,¬y.price=o.price:=by
     intro y hy e2
     have a:=h2.1 y hy
     have b:=h1 x List.mem_cons_self
     rw[e2]at a
     exact e (z7g a b)
    rw[List.filter_cons_of_neg (by simpa using e),List.filter_cons_of_pos (by simpa using e)]
    have e1:r.filter (fun x=>decide (x.price=o.price))=[]:=by
     rw[List.filter_eq_nil_iff];intro y hy;simpa using h3 y hy
    have e2:r.filter (fun x=> !decide (x.price=o.price))=r:=by
     rw[List.filter_eq_self];intro y hy;simpa using h3 y hy
    rw[e1,e2,List.nil_append]
 have hk:=key r hs.1 hs.2
 rw[← he]
 have hf1:(o::r).filter (fun x=>decide (x.price=o.price))=o::r.filter fun x=>decide (x.price=o.price):=List.filter_cons_of_pos (by simp)
 have hf2:(o::r).filter (fun x=> !decide (x.price=o.price))=r.filter fun x=> !decide (x.price=o.price):=List.filter_cons_of_neg (by simp)
 rw[hf1,hf2]
 have hg:grp (o::r)=zIs o.price (o::r.filter fun x=>decide (x.price=o.price))::grp (r.filter fun x=> !decide (x.price=o.price)):=by
  conv=>lhs;rw[hk]
  refine zMk (l:=o::r.filter fun x=>decide (x.price=o.price)) (by simp) (fun x hx=> ?_) (fun x y e=> ?_)
  ·rcases List.mem_cons.1 hx with rfl|hx
   ·rfl
   ·simpa using(List.mem_filter.1 hx).2
  ·have:x∈r.filter fun x=> !decide (x.price=o.price):=by rw[e];exact List.mem_cons_self
   simpa using(List.mem_filter.1 this).2
 rw[h]at hg
 cases hg
 refine⟨rfl,rfl,fun x hx=> ?_⟩
 rcases List.mem_cons.1 hx with rfl|hx
 ·exact mB _ _
 ·exact hs.1 x hx
theorem z3o (L:List zD) (s p:Int):atL L s p=(kM L s).filter fun o=>decide (o.price=p):=by
 rw[atL,kM,List.filter_filter]
 refine List.filter_congr fun o _=> ?_
 exact Bool.and_comm _ _
open Go Cv Go.Proofs
theorem zAh {p:Prd} {B:List (List zD)} (h:BWf p B) {inst:Int} {sd:Bool} {price q:Int} {t:k6} {B':List (List zD)} (e:jK p B inst sd price q=some (t,B')):BWf p B'∧B'.length=B.length:=by
 rw[jK]at e
 dsimp only at e
 split at e
 ·split at e
  ·cases e;exact⟨h.takes.takes,by rw[qK,qK]⟩
  ·cases e;exact⟨h.takes,by rw[qK]⟩
 ·cases e
theorem dR {p:Prd} {inst:Int} {sd:Bool} {price:Int}:∀(m:Nat) (q:Int) (B:List (List zD)),q.toNat≤m→BWf p B→BWf p (qE p B inst sd price q).B∧(qE p B inst sd price q).B.length=B.length∧(0≤q→0≤(qE p B inst sd price q).left∧(qE p B inst sd price q).left≤q)
 |m,q,B,hm,h=>by
  by_cases hq:q≤0
  ·rw[jB (.inl hq)]
   exact⟨h,rfl,fun x=>⟨x,Int.le_refl _⟩⟩
  cases hs:jK p B inst sd price q with
  |none=>
   rw[jB (.inr hs)]
   exact⟨h,rfl,fun x=>⟨x,Int.le_refl _⟩⟩
  |some x=>
   obtain⟨t,C⟩:=x
   obtain⟨k1,k2⟩:=zAh h hs
   have hq2:=pF (by omega) hs
   cases m with
   |zero=>omega
   |succ m=>
   obtain⟨i1,i2,i3⟩:=dR (p:=p) (inst:=inst) (sd:=sd) (price:=price) m (q-t.qty) C (by omega) k1
   rw[fL (by omega) hs]
   exact⟨i1,i2.trans k2,fun _=>⟨(i3 (by omega)).1,by dsimp only;have:=(i3 (by omega)).2;omega⟩⟩
open Go Cv Go.Proofs
@[reducible] def RunI.ok (i:RunI):Prop:=i.s.Rep i.p i.B∧BOk i.p i.B∧(0≤i.inst∧i.inst<i.B.length)∧1≤i.q∧i.q≤1000000
def scouldC:Con:=con1 RunI (fun i=>[.nm 0 0,zB i.inst,zB (zA i.sd),zB i.price,zB i.q]) (fun i=>[zE i.s]) (fun i=>i.ok) (fun i=>zB (i.q-i.r.left)) (fun i=>[zE i.s])
def fP (p:Prd) (B:List (List zD)) (inst:Int) (sd:Bool) (price q:Int):Bool:=
 decide ((qE p B inst sd price q).left≠0) && (xG ⟨p,(qE p B inst sd price q).B.map yV,inst⟩ (zA (!sd))).any fun x=>jH sd price x.price
def stuckC:Con:=con1 RunI (fun i=>[.nm 0 0,zB i.inst,zB (zA i.sd),zB i.price,zB i.q]) (fun i=>[zE i.s]) (fun i=>i.ok) (fun i=>yO (fP i.p i.B i.inst i.sd i.price i.q)) (fun i=>[zE i.s])
def zGc (B:List (List zD)):Nat:=(whL 0 B).length
def countC16:Con:=con1 SoI (fun i=>[.nm 0 0]) (fun i=>[zE i.s]) (fun i=>i.ok) (fun i=>zB (zGc i.B)) (fun i=>[zE i.s])
def gC (p:Prd) (inst price:Int):Int×Int×Int:=
 if(p.legs inst).2.2=false then(0,0,20)else if p.price inst price≠0 then(0,0,p.price inst price)else
 let far:=p.settle.getD (p.legs inst).2.1.toNat 0
 let a:=if p.high<far+price then(p.high,p.high-price)else(far+price,far)
 if a.1<p.low then(p.low,p.low-price,0)else(a.1,a.2,0)
structure LpI where
 p:Prd
 inst:Int
 price:Int
def lpricesC:Con:=con1 LpI (fun i=>[prdV i.p,zB i.inst,zB i.price]) (fun _=>[]) (fun i=>i.p.check=0∧i.p.small∧yQ i.price) (fun i=> .tup [zB (gC i.p i.inst i.price).1,zB (gC i.p i.inst i.price).2.1,zB (gC i.p i.inst i.price).2.2]) (fun _=>[])
def ijj (t u:Nat):SAnn:={ι:=Int×Int,slots:=fun n=>[(t,zB n.1),(u,zB n.2)],rows:=fun _=>[]}
def lpJ:List (Nat×SAnn):=[(50,ijj 15 14),(58,ijj 15 14)]
def yGg:List SAnn:=[{ι:=Nat,slots:=fun j=>[(40,zB j)],rows:=fun _=>[]}]
def yIs:List (Nat×SAnn):=[(8,{ι:=Unit,slots:=fun _=>[],rows:=fun _=>[],opn:=[11]})]
open Go Cv Go.Proofs
def pT (a:Book):Prop:=(a.a.slots.length≤1000000∧a.a.queues.length≤1000000)∧a.buys.length≤1000000∧a.sells.length≤1000000∧a.spare.length≤1000000
def uP (a:MSt):Prop:=a.books.length≤1000000∧∀(b:Book),b∈a.books→pT b
def qS (a:RunI):Prop:=a.s.Rep a.p a.B∧BOk a.p a.B∧(0≤a.inst∧a.inst<(↑a.B.length:Int))∧1≤a.q∧a.q≤1000000
def gI (a:RunI):Prop:=∃(b:Unit),a.q-a.r.left=0∧sb a.s.p.code=sb a.s.p.code∧a.s.p.tick=a.s.p.tick∧a.s.p.low=a.s.p.low∧a.s.p.high=a.s.p.high∧a.s.p.wide=a.s.p.wide∧a.s.p.rule=a.s.p.rule∧a.s.p.top=a.s.p.top∧a.s.p.least=a.s.p.least∧a.s.p.part=a.s.p.part∧AObj.objs 102 Book 6 zQ a.s.books none=AObj.objs 102 Book 6 zQ a.s.books none∧yR a.s.wh=yR a.s.wh∧AObj.fro 1 (iE a.s.p.months)=AObj.fro 1 (iE a.s.p.months)∧AObj.fro 1 (iE a.s.p.settle)=AObj.fro 1 (iE a.s.p.settle)∧True
def tM (a:RunI):Prop:=cnd (decide (a.q≥1)) (cnd (!decide (a.q≤1000000)) (gI a) (∃(b:MSt),sb b.p.code=sb a.s.p.code∧b.p.tick=a.s.p.tick∧b.p.low=a.s.p.low∧b.p.high=a.s.p.high∧b.p.wide=a.s.p.wide∧b.p.rule=a.s.p.rule∧b.p.top=a.s.p.top∧b.p.least=a.s.p.least∧b.p.part=a.s.p.part∧AObj.objs 102 Book 6 zQ b.books none=AObj.objs 102 Book 6 zQ a.s.books none∧yR b.wh=yR a.s.wh∧AObj.fro 1 (iE b.p.months)=AObj.fro 1 (iE a.s.p.months)∧AObj.fro 1 (iE b.p.settle)=AObj.fro 1 (iE a.s.p.settle)∧(uP b)∧∀(c:Unit),True→∃(d:RunI),d.inst=a.inst∧zA d.sd=zA a.sd∧d.price=a.price∧d.q=a.q∧zE d.s=zE b∧(qS d)∧∀(e:MSt),e.Rep d.p d.r.B→∃(f:Unit),a.q-a.r.left=IntKind.i64.wrap (a.q-d.r.left)∧zE a.s=zE b∧True)) (gI a)
def zMz (i:RunI):Prop:=
 cnd (decide (i.inst≥0)) (cnd (decide (i.inst<(↑i.s.books.length:Int))) (cnd (zA i.sd==1) (tM i) (cnd (zA i.sd==2) (tM i) (gI i))) (gI i)) (gI i)
theorem z3z (hG:GOk Tryz.prog ([(48,copySC),(56,runC)])) (h:∀(i:RunI),scouldC.cnd i→zMz i):scouldC.ok Tryz.prog 29:=okw mixed hG 2 (fun _=>[]) (fun _=>[]) [0] Tryz.func29 h
def zHy (i:SoI):Prop:=
 ∃(a:Unit),(↑(zGc i.B):Int)=(↑(yR i.s.wh).length:Int)∧sb i.s.p.code=sb i.s.p.code∧i.s.p.tick=i.s.p.tick∧i.s.p.low=i.s.p.low∧i.s.p.high=i.s.p.high∧i.s.p.wide=i.s.p.wide∧i.s.p.rule=i.s.p.rule∧i.s.p.top=i.s.p.top∧i.s.p.least=i.s.p.least∧i.s.p.part=i.s.p.part∧AObj.objs 102 Book 6 zQ i.s.books none=AObj.objs 102 Book 6 zQ i.s.books none∧yR i.s.wh=yR i.s.wh∧AObj.fro 1 (iE i.s.p.months)=AObj.fro 1 (iE i.s.p.months)∧AObj.fro 1 (iE i.s.p.settle)=AObj.fro 1 (iE i.s.p.settle)∧True
theorem z2s (hG:GOk Tryz.prog ([])) (h:∀(i:SoI),countC16.cnd i→zHy i):countC16.ok Tryz.prog 45:=okw mixed hG 0 (fun _=>[]) (fun _=>[]) [0] Tryz.func45 h
def fE (a:Int×Int→Prop) (b:Int×Int) (c:LpI):Prop:=a b∧Sx.AObj.cells [V.d (D.v (Value.string (sb c.p.code))),V.own 0,V.d (D.v (.int .i64 c.p.tick)),V.d (D.v (.int .i64 c.p.low)),V.d (D.v (.int .i64 c.p.high)),V.d (D.v (.int .i64 c.p.wide)),V.d (D.v (.int .i64 c.p.rule)),V.d (D.v (.int .i64 c.p.top)),V.d (D.v (.int .i64 c.p.least)),V.d (D.v (.int .i64 c.p.part)),V.own ((0:Nat)+(1:Nat))] 29=Sx.AObj.cells [V.d (D.v (Value.string (sb c.p.code))),V.own 0,V.d (D.v (.int .i64 c.p.tick)),V.d (D.v (.int .i64 c.p.low)),V.d (D.v (.int .i64 c.p.high)),V.d (D.v (.int .i64 c.p.wide)),V.d (D.v (.int .i64 c.p.rule)),V.d (D.v (.int .i64 c.p.top)),V.d (D.v (.int .i64 c.p.least)),V.d (D.v (.int .i64 c.p.part)),V.own ((0:Nat)+(1:Nat))] 29∧AObj.fro 1 (iE c.p.settle)=AObj.fro 1 (iE c.p.settle)∧AObj.fro 1 (iE c.p.months)=AObj.fro 1 (iE c.p.months)
def yU (a:LpI):=(gC a.p a.inst a.price)
def zEb (i:LpI):Prop:=
 ∃(a:Prd),sb a.code=sb i.p.code∧iE a.months=iE i.p.months∧a.tick=i.p.tick∧a.low=i.p.low∧a.high=i.p.high∧a.wide=i.p.wide∧a.rule=i.p.rule∧a.top=i.p.top∧a.least=i.p.least∧a.part=i.p.part∧iE a.settle=iE i.p.settle∧(xZ a)∧∀(b:Unit),True→cnd (a.check !=0) (∃(c:Unit),(yU i).fst=0∧(yU i).snd.fst=0∧(yU i).snd.snd=1∧True) (∃(c:cF),sb c.p.code=sb i.p.code∧iE c.p.months=iE i.p.months∧c.p.tick=i.p.tick∧c.p.low=i.p.low∧c.p.high=i.p.high∧c.p.wide=i.p.wide∧c.p.rule=i.p.rule∧c.p.top=i.p.top∧c.p.least=i.p.least∧c.p.part=i.p.part∧iE c.p.settle=iE i.p.settle∧c.n=i.inst∧(uW c)∧∀(d:Unit),True→cnd (!(c.p.legs c.n).snd.snd) (∃(e:Unit),(yU i).fst=0∧(yU i).snd.fst=0∧(yU i).snd.snd=20∧True) (∃(e:b9),sb e.p.code=sb i.p.code∧iE e.p.months=iE i.p.months∧e.p.tick=i.p.tick∧e.p.low=i.p.low∧e.p.high=i.p.high∧e.p.wide=i.p.wide∧e.p.rule=i.p.rule∧e.p.top=i.p.top∧e.p.least=i.p.least∧e.p.part=i.p.part∧iE e.p.settle=iE i.p.settle∧e.a=i.inst∧e.b=i.price∧(uZ e)∧∀(f:Unit),True→cnd (e.p.price e.a e.b !=0) (∃(g:Unit),(yU i).fst=0∧(yU i).snd.fst=0∧(yU i).snd.snd=e.p.price e.a e.b∧True) ((0≤(c.p.legs c.n).snd.fst∧(c.p.legs c.n).snd.fst<(↑(iE i.p.settle).length:Int))∧∃(g:Int),zF (iE i.p.settle) (c.p.legs c.n).snd.fst.toNat 0 1=some [D.v (.int .i64 g)]∧∃(h:Int×Int),∃(j:Int×Int→Prop),cnd (decide (IntKind.i64.wrap (g+i.price)>i.p.high)) (∃(k:Int×Int),k.fst=i.p.high∧k.snd=IntKind.i64.wrap (i.p.high-i.price)∧fE j k i) (∃(k:Int×Int),k.fst=IntKind.i64.wrap (g+i.price)∧k.snd=g∧fE j k i)∧∀(k:Int×Int),j k→∃(l:Int×Int),∃(m:Int×Int→Prop),cnd (decide (k.fst<i.p.low)) (∃(n:Int×Int),n.fst=i.p.low∧n.snd=IntKind.i64.wrap (i.p.low-i.price)∧fE m n i) (∃(n:Int×Int),n.fst=k.fst∧n.snd=k.snd∧fE m n i)∧∀(n:Int×Int),m n→∃(p:Unit),(yU i).fst=n.fst∧(yU i).snd.fst=n.snd∧(yU i).snd.snd=0∧True)))
theorem z2d (hG:GOk Tryz.prog ([(50,checkC),(51,legsC),(72,priceC)])) (h:∀(i:LpI),lpricesC.cnd i→zEb i):lpricesC.ok Tryz.prog 133:=okw mixed hG 0 (fun _=>lpJ) (fun _=>[]) [] Tryz.func133 h
def rY (a:MSt) (b:MSt):Prop:=sb a.p.code=sb b.p.code∧True∧a.p.tick=b.p.tick∧a.p.low=b.p.low∧a.p.high=b.p.high∧a.p.wide=b.p.wide∧a.p.rule=b.p.rule∧a.p.top=b.p.top∧a.p.least=b.p.least∧a.p.part=b.p.part∧True∧True
def sO (a:RunI) (b:MSt):Prop:=∃(c:Unit),fP a.p a.B a.inst a.sd a.price a.q=false∧zE a.s=zE b∧True
def qN (a:fM):=(List.map zH (xG a.i (zA a.s)))
def dL (a:Nat) (b:fM):Prop:=0≤(↑a:Int)∧(↑a:Int)<(↑(qN b).length:Int)
def cB (a:Nat) (b:fM):=(decide ((↑a:Int)<(↑(qN b).length:Int)))
def zVt (i:RunI):Prop:=
 ∃(a:MSt),zE a=zE i.s∧(uP a)∧∀(b:Unit),True→∃(c:RunI),c.inst=i.inst∧zA c.sd=zA i.sd∧c.price=i.price∧c.q=i.q∧zE c.s=zE a∧(qS c)∧∀(d:MSt),d.Rep c.p c.r.B→cnd (c.r.left==0) (sO i a) (∃(e:MSt),sb e.p.code=sb d.p.code∧e.p.tick=d.p.tick∧e.p.low=d.p.low∧e.p.high=d.p.high∧e.p.wide=d.p.wide∧e.p.rule=d.p.rule∧e.p.top=d.p.top∧e.p.least=d.p.least∧e.p.part=d.p.part∧AObj.objs 102 Book 6 zQ e.books none=AObj.objs 102 Book 6 zQ d.books none∧yR e.wh=yR d.wh∧AObj.fro 1 (iE e.p.months)=AObj.fro 1 (iE d.p.months)∧AObj.fro 1 (iE e.p.settle)=AObj.fro 1 (iE d.p.settle)∧(gM e)∧∀(f:Unit),True→(rY e d)∧∃(g:Bool),zA g=zA i.sd∧True∧∀(h:Unit),True→(rY e d)∧∃(j:fM),sb j.i.p.code=sb d.p.code∧iE j.i.p.months=iE e.p.months∧j.i.p.tick=d.p.tick∧j.i.p.low=d.p.low∧j.i.p.high=d.p.high∧j.i.p.wide=d.p.wide∧j.i.p.rule=d.p.rule∧j.i.p.top=d.p.top∧j.i.p.least=d.p.least∧j.i.p.part=d.p.part∧iE j.i.p.settle=iE e.p.settle∧List.map zT j.i.tops=List.map zT e.tops∧j.i.inst=i.inst∧zA j.s=zA !g∧(fA j)∧∀(k:Unit),True→∃(l:Nat),(↑l:Int)=0∧∃(m:Nat→Prop),∃(n:Nat→Nat),m l∧∀(p:Nat),m p→cnd (cB p j) ((dL p j)∧∃(q:Int),∃(r:Int),∃(s:Int),∃(t:Int),∃(u:Int),∃(v:Int),zF (qN j) (↑p:Int).toNat 0 6=some [D.v (.int .i64 q),D.v (.int .i64 r),D.v (.int .i64 s),D.v (.int .i64 t),D.v (.int .i64 u),D.v (.int .i64 v)]∧∃(w:GoI),zA w.s=zA i.sd∧w.p=i.price∧w.x=q∧True∧∀(x:Unit),True→cnd (jH w.s w.p w.x) (∃(y:Unit),fP i.p i.B i.inst i.sd i.price i.q=true∧zE i.s=zE a∧True) (∃(y:Nat),(↑y:Int)=IntKind.i64.wrap ((↑p:Int)+1)∧m y∧n y<n p∧AObj.own 62 6 (qN j)=AObj.own 62 6 (qN j)∧Sx.AObj.cells (hZ (dP 5 (1+((2:Nat)-(1:Nat))+((2:Nat)-(1:Nat))+((5:Nat)-(1:Nat))) ((6:Nat)-(5:Nat)) [((2:Nat),1+((2:Nat)-(1:Nat))+((2:Nat)-(1:Nat))+nat_lit 1),((1:Nat),1+((2:Nat)-(1:Nat))+((2:Nat)-(1:Nat))+nat_lit 0),((4:Nat),1+((2:Nat)-(1:Nat))+((2:Nat)-(1:Nat))+nat_lit 3),((3:Nat),1+((2:Nat)-(1:Nat))+((2:Nat)-(1:Nat))+nat_lit 2),((0:Nat),1+nat_lit 0)]) [sV e.p.code,V.own 3,zB e.p.tick,zB e.p.low,zB e.p.high,zB e.p.wide,zB e.p.rule,zB e.p.top,zB e.p.least,zB e.p.part,V.own 4,V.own 1,V.mp 2]) (101:TypeId)=Sx.AObj.cells (hZ (dP 5 (1+((2:Nat)-(1:Nat))+((2:Nat)-(1:Nat))+((5:Nat)-(1:Nat))) ((6:Nat)-(5:Nat)) [((2:Nat),1+((2:Nat)-(1:Nat))+((2:Nat)-(1:Nat))+nat_lit 1),((1:Nat),1+((2:Nat)-(1:Nat))+((2:Nat)-(1:Nat))+nat_lit 0),((4:Nat),1+((2:Nat)-(1:Nat))+((2:Nat)-(1:Nat))+nat_lit 3),((3:Nat),1+((2:Nat)-(1:Nat))+((2:Nat)-(1:Nat))+nat_lit 2),((0:Nat),1+nat_lit 0)]) [sV e.p.code,V.own 3,zB e.p.tick,zB e.p.low,zB e.p.high,zB e.p.wide,zB e.p.rule,zB e.p.top,zB e.p.least,zB e.p.part,V.own 4,V.own 1,V.mp 2]) (101:TypeId)∧AObj.objs 102 Book 6 zQ e.books none=AObj.objs 102 Book 6 zQ e.books none∧Sx.AObj.map (yR e.wh)=Sx.AObj.map (yR e.wh)∧AObj.fro 1 (iE e.p.months)=AObj.fro 1 (iE e.p.months)∧AObj.fro 1 (iE e.p.settle)=AObj.fro 1 (iE e.p.settle)∧AObj.fro 6 (List.map zT e.tops)=AObj.fro 6 (List.map zT e.tops)∧AObj.fro 1 (iE d.p.months)=AObj.fro 1 (iE d.p.months)∧AObj.fro 1 (iE d.p.settle)=AObj.fro 1 (iE d.p.settle)∧AObj.own 158 4 (List.map jL c.r.steps)=AObj.own 158 4 (List.map jL c.r.steps)∧zE a=zE a)) (sO i a))
theorem yAj (hG:GOk Tryz.prog ([(48,copySC),(56,runC),(23,topsOC),(25,allC),(91,motherC),(92,mgoodC)])) (h:∀(i:RunI),stuckC.cnd i→zVt i):stuckC.ok Tryz.prog 73:=okw mixed hG 0 (fun _=>yIs) (fun _=>yGg) [] Tryz.func73 h
open Go Cv Go.Proofs
theorem MSt.Rep.small {s:MSt} {p:Prd} {B:List (List zD)} (h:s.Rep p B) (hb:BOk p B):s.small:=by
 have:=qG p
 refine⟨by rw[h.bl,hb.bl];omega,fun b hm=> ?_⟩
 obtain⟨k,hk⟩:=List.mem_iff_getElem?.1 hm
 have hlt:=(List.getElem?_eq_some_iff.1 hk).1
 rw[h.bl]at hlt
 obtain⟨L,hL⟩:=yA hlt
 obtain⟨Q,c,_⟩:=h.bk k b L hk hL
 exact c.small
theorem yCk (i:RunI) (h:scouldC.cnd i):zMz i:=by
 have h':i.ok:=h
 obtain⟨hR,hB,⟨h0,h1⟩,hq1,hq2⟩:=h'
 have hbl:=hR.bl
 have hl:=(dR (inst:=i.inst) (sd:=i.sd) (price:=i.price) _ i.q i.B (Nat.le_refl _) (hR.wf hB)).2.2 (by omega)
 have er:i.r=qE i.p i.B i.inst i.sd i.price i.q:=rfl
 unfold zMz tM gI qS uP pT
 refine(fun hT=>zK (fun c=>zK (fun c2=>Cv.cnd.mk (fun _=>zK (fun _=>Cv.cnd.mk (fun e=>absurd hq2 (by simpa using e)) (fun _=>hT)) (fun e=>absurd hq1 e)) (fun e1=>Cv.cnd.mk (fun _=>zK (fun _=>Cv.cnd.mk (fun e=>absurd hq2 (by simpa using e)) (fun _=>hT)) (fun e=>absurd hq1 e)) (fun e2=>by
  rcases fW i.sd with e|e
  ·rw[e]at e1;cases e1
  ·rw[e]at e2;cases e2))) (fun c2=>absurd (by omega) c2)) (fun c=>absurd h0 c)) ?_
 refine⟨i.s,rfl,rfl,rfl,rfl,rfl,rfl,rfl,rfl,rfl,rfl,rfl,rfl,rfl,hR.small hB,fun _ _=>⟨i,rfl,rfl,rfl,rfl,rfl,h,fun o ho=>⟨(),?_,rfl,trivial⟩⟩⟩
 rw[w64 (by rw[er];omega)]
theorem z1s:scouldC.ok Tryz.prog 29:=z3z (gokc lO (gokc zTo gok0)) yCk
theorem z6v (i:SoI) (h:countC16.cnd i):zHy i:=by
 obtain⟨hR,hB⟩:i.s.Rep i.p i.B∧i.B.length≤1000:=h
 unfold zHy
 have e:(yR i.s.wh).length=zGc i.B:=by rw[yR,List.length_map,hR.wh.length_eq,zGc]
 exact⟨(),by rw[e],by(repeat'(first|exact trivial|exact rfl|apply And.intro))⟩
theorem zFc:countC16.ok Tryz.prog 45:=z2s gok0 z6v
theorem zQu {p:Prd} {i n:Int} (h:p.price i n=0):0≤i∧i<p.count:=by
 rw[Prd.price]at h
 split at h
 ·cases h
 split at h
 ·cases h
 omega
theorem z3f (i:LpI) (h:lpricesC.cnd i):zEb i:=by
 obtain⟨hc,hp,hpr⟩:i.p.check=0∧i.p.small∧yQ i.price:=h
 unfold zEb uW uZ fE yU xZ
 refine⟨i.p,rfl,rfl,rfl,rfl,rfl,rfl,rfl,rfl,rfl,rfl,rfl,hp,fun _ _=>Cv.cnd.mk (fun e=>by rw[hc]at e;cases e) (fun _=> ?_)⟩
 refine⟨⟨i.p,i.inst⟩,rfl,rfl,rfl,rfl,rfl,rfl,rfl,rfl,rfl,rfl,rfl,rfl,hp,fun _ _=>Cv.cnd.mk (fun e=> ?_) (fun e=> ?_)⟩
 ·have e:(i.p.legs i.inst).2.2=false:=by simpa using e
  have h0:gC i.p i.inst i.price=(0,0,20):=by rw[gC,if_pos e]
  rw[h0];exact⟨(),rfl,rfl,rfl,trivial⟩
 have e:(i.p.legs i.inst).2.2=true:=by simpa using e
 refine⟨⟨i.p,i.inst,i.price⟩,rfl,rfl,rfl,rfl,rfl,rfl,rfl,rfl,rfl,rfl,rfl,rfl,rfl,hp,fun _ _=>Cv.cnd.mk (fun e2=> ?_) (fun e2=> ?_)⟩
 ·have e2:¬i.p.price i.inst i.price=0:=by simpa using e2
  have h0:gC i.p i.inst i.price=(0,0,i.p.price i.inst i.price):=by rw[gC,if_neg (by rw[e];decide),if_pos e2]
  rw[h0];exact⟨(),rfl,rfl,rfl,trivial⟩
 have e2:i.p.price i.inst i.price=0:=by simpa using e2
 have hin:=zQu e2
 have hbd:=eW hc e2
 have ok:=qY hc
 have b1:=ok.b1
 have b2:=ok.b2
 have b3:=ok.b3
 have s1:=ok.s1
 have s2:=ok.s2
 have s3:=ok.s3
 obtain⟨k,hk⟩:∃k:Nat,i.inst=k:=⟨i.inst.toNat,by omega⟩
 have hl:=fH hc (k:=k) (by omega)
 rw[← hk]at hl
 rcases hl with⟨_,_,_,l3,l4⟩|⟨x,_⟩
 rotate_left
 ·rw[e]at x;cases x
 have hsl:(iE i.p.settle).length=i.p.settle.length:=xI _
 obtain⟨n,hn⟩:=yA (l:=i.p.settle) (i:=(i.p.legs i.inst).2.1.toNat) (by omega)
 have hm:=List.mem_of_getElem? hn
 have m1:=zYz hm
 have m2:=zXw hm
 have hg:i.p.settle.getD (i.p.legs i.inst).2.1.toNat 0=n:=zI hn
 have h0:gC i.p i.inst i.price=(if(if i.p.high<n+i.price then(i.p.high,i.p.high-i.price)else(n+i.price,n)).1<i.p.low then(i.p.low,i.p.low-i.price,0)else((if i.p.high<n+i.price then(i.p.high,i.p.high-i.price)else(n+i.price,n)).1,(if i.p.high<n+i.price then(i.p.high,i.p.high-i.price)else(n+i.price,n)).2,0)):=by
  rw[gC,if_neg (by rw[e];decide),if_neg (by rw[e2];decide)]
  dsimp only
  rw[hg]
 dsimp only
 refine⟨⟨l3,by omega⟩,n,elI hn,(0,0),fun a=>a=if i.p.high<n+i.price then(i.p.high,i.p.high-i.price)else(n+i.price,n),zK (fun c=>⟨(i.p.high,i.p.high-i.price),rfl,(w64 (by omega)).symm,?_,by(repeat'(first|exact trivial|exact rfl|apply And.intro))⟩) (fun c=>⟨(n+i.price,n),(w64 (by omega)).symm,rfl,?_,by(repeat'(first|exact trivial|exact rfl|apply And.intro))⟩),?_⟩
 ·rw[w64 (by omega)]at c;rw[if_pos c]
 ·rw[w64 (by omega)]at c;rw[if_neg c]
 rintro _ rfl
 generalize (if i.p.high<n+i.price then(i.p.high,i.p.high-i.price)else(n+i.price,n))=a at h0 ⊢
 refine⟨(0,0),fun b=>b=if a.1<i.p.low then(i.p.low,i.p.low-i.price)else a,zK (fun c=>⟨(i.p.low,i.p.low-i.price),rfl,(w64 (by omega)).symm,by rw[if_pos c],by(repeat'(first|exact trivial|exact rfl|apply And.intro))⟩) (fun c=>⟨a,rfl,rfl,by rw[if_neg c],by(repeat'(first|exact trivial|exact rfl|apply And.intro))⟩),?_⟩
 rintro _ rfl
 rw[h0]
 by_cases c:a.1<i.p.low
 ·rw[if_pos c,if_pos c];exact⟨(),rfl,rfl,rfl,trivial⟩
 ·rw[if_neg c,if_neg c];exact⟨(),rfl,rfl,rfl,trivial⟩
theorem zWn:lpricesC.ok Tryz.prog 133:=z2d (gokc eG (gokc pR (gokc nP gok0))) z3f
theorem yDj {l:List Quote} {k:Nat} {q:Quote} (h:l[k]? =some q):zF (l.map zH) k 0 6=some [D.v (.int .i64 q.price),D.v (.int .i64 q.qty),D.v (.int .i64 q.a.inst),D.v (.int .i64 q.a.side),D.v (.int .i64 q.b.inst),D.v (.int .i64 q.b.side)]:=elA h (by simp[zH]) rfl
theorem yLh (i:RunI) (h:stuckC.cnd i):zVt i:=by
 have h':i.ok:=h
 obtain⟨hR,hB,⟨h0,h1⟩,hq1,hq2⟩:=h'
 have hwf:=hR.wf hB
 obtain⟨k1,k2,k3⟩:=dR (inst:=i.inst) (sd:=i.sd) (price:=i.price) _ i.q i.B (Nat.le_refl _) hwf
 have hcl:=qG i.p
 unfold zVt cB dL qN sO rY qS uP pT fA gM
 refine⟨i.s,rfl,hR.small hB,fun _ _=>⟨i,rfl,rfl,rfl,rfl,rfl,h,fun o ho=> ?_⟩⟩
 have er:i.r=qE i.p i.B i.inst i.sd i.price i.q:=rfl
 have es:fP i.p i.B i.inst i.sd i.price i.q=(decide ((qE i.p i.B i.inst i.sd i.price i.q).left≠0) && (xG ⟨i.p,(qE i.p i.B i.inst i.sd i.price i.q).B.map yV,i.inst⟩ (zA (!i.sd))).any fun x=>jH i.sd i.price x.price):=rfl
 rw[er]at ho ⊢
 rw[es]
 generalize qE i.p i.B i.inst i.sd i.price i.q=R at*
 obtain⟨ts,lf,RB⟩:=R
 dsimp only at*
 refine Cv.cnd.mk (fun e=>⟨(),?_,rfl,trivial⟩) (fun e=> ?_)
 ·have e:lf=0:=by simpa using e
  rw[e];rfl
 have e:lf≠0:=by simpa using e
 rw[decide_eq_true e,Bool.true_and]
 have ep:=ho.ep
 have hB':=k1.ok
 have hbl:=hB'.bl
 have hcnt:o.cntOk:=ho.cnt (by omega)
 have hps:o.p.small:=by rw[ep];exact hB'.ps
 have hto:wY (RB.map yV):=hB'.tops
 have hle:=m5 ⟨o.p,RB.map yV,i.inst⟩ (zA (!i.sd))
 refine⟨o,rfl,rfl,rfl,rfl,rfl,rfl,rfl,rfl,rfl,rfl,rfl,rfl,rfl,hcnt,fun _ _=>⟨⟨rfl,trivial,rfl,rfl,rfl,rfl,rfl,rfl,rfl,rfl,trivial,trivial⟩,i.sd,rfl,trivial,fun _ _=>⟨⟨rfl,trivial,rfl,rfl,rfl,rfl,rfl,rfl,rfl,rfl,trivial,trivial⟩,⟨⟨o.p,RB.map yV,i.inst⟩,!i.sd⟩,rfl,rfl,rfl,rfl,rfl,rfl,rfl,rfl,rfl,rfl,rfl,by rw[ho.tops],rfl,rfl,⟨hps,hto⟩,fun _ _=> ?_⟩⟩⟩
 dsimp only
 rw[← ep]
 generalize xG ⟨o.p,RB.map yV,i.inst⟩ (zA (!i.sd))=Q at*
 have e4:(Q.map zH).length=Q.length:=List.length_map ..
 refine⟨0,rfl,fun j=>j≤Q.length∧(Q.take j).any (fun x=>jH i.sd i.price x.price)=false,fun j=>Q.length-j,⟨Nat.zero_le _,rfl⟩,?_⟩
 rintro j ⟨j1,j2⟩
 refine zK (fun c=> ?_) (fun c=>⟨(),?_,rfl,trivial⟩)
 ·obtain⟨q,hq⟩:=yA (l:=Q) (i:=j) (by omega)
  refine⟨⟨by omega,by omega⟩,_,_,_,_,_,_,yDj hq,⟨i.sd,i.price,q.price⟩,rfl,rfl,rfl,trivial,fun _ _=>Cv.cnd.mk (fun g=>⟨(),?_,rfl,trivial⟩) (fun g=>⟨j+1,wjn (by omega),⟨by omega,?_⟩,by dsimp only;omega,by(repeat'(first|exact trivial|exact rfl|apply And.intro))⟩)⟩
  ·rw[List.any_eq_true];exact⟨q,List.mem_of_getElem? hq,g⟩
  ·rw[List.take_add_one,hq,List.any_append,j2]
   show(false||([q].any fun x=>jH i.sd i.price x.price))=false
   simp only[List.any_cons,List.any_nil,Bool.or_false,Bool.false_or]
   exact g
 ·have:j=Q.length:=by omega
  rw[this,List.take_of_length_le (Nat.le_refl _)]at j2
  exact j2
theorem zSa:stuckC.ok Tryz.prog 73:=yAj (gokc lO (gokc zTo (gokc zRc (gokc all_ok (gokc zLs (gokc zRo gok0)))))) yLh
open Go Cv Go.Proofs
def aJ (c:Cmd) (why:Int):List Rep:=[⟨2,c.id,0,0,0,0,0,why⟩]
def ofF (x:k6) (k:Int):Int:=match x.fills.find? fun f=>decide (f.inst=k)with
 |some f=>f.price
 |none=>x.price
def jX (p:Prd) (inst:Int) (x:k6):Int×Int:=if x.implied=false then((gC p inst x.price).1,(gC p inst x.price).2.1)else(ofF x (p.legs inst).1,ofF x (p.legs inst).2.1)
def zDu (p:Prd) (r:Rep) (near far:Int):List Rep:=[{r with inst:=(p.legs r.inst).1,price:=near},{r with inst:=(p.legs r.inst).2.1,side:=3-r.side,price:=far}]
def mQ (p:Prd) (x:k6) (r:Rep):List Rep:=r::if(p.legs r.inst).2.2=true then zDu p r (jX p r.inst x).1 (jX p r.inst x).2 else[]
def eB (f:wO):Rep:=⟨3,f.id,f.inst,f.side,f.price,f.qty,f.left,0⟩
def bG (p:Prd) (c:Cmd) (x:k6) (left:Int):List Rep:=x.fills.flatMap (fun f=>mQ p x (eB f))++mQ p x ⟨3,c.id,c.inst,c.side,x.price,x.qty,left,0⟩
def aO (p:Prd) (c:Cmd):List k6→Int→List Rep
 |[],_=>[]
 |x::l,left=>bG p c x (left-x.qty)++aO p c l (left-x.qty)
structure MkX where
 B:List (List zD)
 U:List Int
 R:List Rep
def lM (U:List Int) (id:Int):List Int:=if id∈U then U else U++[id]
def u6 (p:Prd) (B:List (List zD)) (U:List Int) (c:Cmd):MkX:=match qE p B c.inst (decide (c.side=2)) c.price c.qty with
 |⟨ts,left,B'⟩=>⟨if left≠0∧c.time=1 then(zCd p B' c.inst c.id c.side c.price left).1 else B',lM U c.id,
  (⟨1,c.id,c.inst,c.side,c.price,c.qty,c.qty,0⟩::aO p c ts c.qty)++if left≠0∧c.time≠1 then[⟨4,c.id,c.inst,c.side,c.price,left,0,0⟩]else[]⟩
def Cmd.lst (c:Cmd):Int:=if c.time=3 then c.qty else c.least
def mM (p:Prd) (B:List (List zD)) (U:List Int) (c:Cmd):MkX:=
 if p.price c.inst c.price≠0 then⟨B,U,aJ c (p.price c.inst c.price)⟩
 else if c.id∈U then⟨B,U,aJ c 25⟩
 else if 250≤zGc B then⟨B,U,aJ c 13⟩
 else if 0<c.lst∧c.qty-(qE p B c.inst (decide (c.side=2)) c.price c.qty).left<c.lst then⟨B,U,aJ c 28⟩
 else if c.time=1∧fP p B c.inst (decide (c.side=2)) c.price c.qty=true then⟨B,U,aJ c 23⟩
 else u6 p B U c
def cP (B:List (List zD)) (U:List Int) (id inst:Int) (o:zD):MkX:=⟨(yT B id o.qty).1,U,[⟨4,id,inst,o.side,o.price,o.qty,0,0⟩]⟩
def tZ (B:List (List zD)) (U:List Int) (id q inst:Int) (o:zD):MkX:=⟨(yT B id q).1,U,[⟨5,id,inst,o.side,o.price,q,o.qty-q,0⟩]⟩
def fC (p:Prd) (B:List (List zD)) (U:List Int) (c:Cmd) (inst:Int) (o:zD):MkX:=
 if p.price inst c.price≠0 then⟨B,U,aJ c (p.price inst c.price)⟩
 else if c.price=o.price∧c.qty≤o.qty then tZ B U c.id (o.qty-c.qty) inst o
 else if fP p (yT B c.id o.qty).1 inst (decide (o.side=2)) c.price c.qty=true then⟨B,U,aJ c 23⟩
 else
  let x:=cP B U c.id inst o
  let y:=u6 p x.B U ⟨1,c.id,inst,o.side,c.price,c.qty,0,1,[]⟩
  ⟨y.B,y.U,x.R++y.R⟩
def doF (p:Prd) (B:List (List zD)) (U:List Int) (c:Cmd):MkX:=
 if c.right≠0 then⟨B,U,aJ c c.right⟩
 else if c.kind=1 then mM p B U c
 else if(z6 B c.id).2.2=false then⟨B,U,aJ c 26⟩
 else if c.kind=4 then fC p B U c (z6 B c.id).1 (z6 B c.id).2.1
 else if c.kind=2∨(z6 B c.id).2.1.qty≤c.qty then cP B U c.id (z6 B c.id).1 (z6 B c.id).2.1
 else tZ B U c.id c.qty (z6 B c.id).1 (z6 B c.id).2.1
structure Mkt.Rep (m:Mkt) (p:Prd) (B:List (List zD)) (U:List Int):Prop where
 ep:m.p=p
 s:m.s.Rep p B
 u:m.used=U
@[reducible] def lF (m:Mkt):List AObj:=[yH m 0,yH m 1,yH m 2,yH m 3,yH m 4]
@[reducible] def yFp (x:k6):V:= .agg [zB x.price,zB x.qty,yO x.implied,roV 6 (x.fills.map yP)]
@[reducible] def tRp:Nat:=41
@[reducible] def zWk (l:List Rep):AObj:= .own tRp 8 (l.map x7)
structure RjI where
 c:Cmd
 why:Int
def rejC:Con:=con1 RjI (fun i=>[zIx i.c,zB i.why]) (fun _=>[]) (fun _=>True) (fun _=> .own 0) (fun i=>[zWk (aJ i.c i.why)])
structure MsI where
 m:Mkt
 r:Rep
 near:Int
 far:Int
@[reducible] def Mkt.fine (m:Mkt):Prop:=m.p.check=0∧m.p.small
def mspreadC:Con:=con1 MsI (fun i=>[.nm 0 0,yOw i.r,zB i.near,zB i.far]) (fun i=>lF i.m) (fun i=>i.m.fine∧(i.r.side=1∨i.r.side=2)) (fun _=> .own 5) (fun i=>lF i.m++[zWk (zDu i.m.p i.r i.near i.far)])
structure MiN where
 m:Mkt
 inst:Int
def misC:Con:=con1 MiN (fun i=>[.nm 0 0,zB i.inst]) (fun i=>lF i.m) (fun i=>i.m.fine) (fun i=>yO (i.m.p.legs i.inst).2.2) (fun i=>lF i.m)
structure OfI where
 x:k6
 k:Int
@[reducible] def zPt (x:k6) (n:Nat):List AObj:=[.cells [zB x.price,zB x.qty,yO x.implied,.own n] 158,.fro 6 (x.fills.map yP)]
def ofC:Con:=con1 OfI (fun i=>[zB i.k,.nm 0 0]) (fun i=>zPt i.x 1) (fun i=>i.x.fills.length≤1000000) (fun i=>zB (ofF i.x i.k)) (fun i=>zPt i.x 1)
def ofA:List SAnn:=[{ι:=Nat,slots:=fun j=>[(9,zB j)],rows:=fun _=>[]}]
structure MpI where
 m:Mkt
 inst:Int
 x:k6
def mpricesC:Con:=con1 MpI (fun i=>[.nm 0 0,zB i.inst,yFp i.x]) (fun i=>lF i.m) (fun i=>i.m.fine∧yQ i.x.price∧i.x.fills.length≤1000000) (fun i=> .tup [zB (jX i.m.p i.inst i.x).1,zB (jX i.m.p i.inst i.x).2]) (fun i=>lF i.m)
structure StI' where
 m:Mkt
 c:Cmd
 x:k6
 left:Int
def StI'.out (i:StI') (j:Nat):List Rep:=(i.x.fills.take j).flatMap fun f=>mQ i.m.p i.x (eB f)
def mstepC:Con:=con1 StI' (fun i=>[.nm 0 0,zIx i.c,yFp i.x,zB i.left]) (fun i=>lF i.m) (fun i=>i.m.fine∧yQ i.x.price∧i.x.fills.length≤1000000∧(i.c.side=1∨i.c.side=2)∧∀f∈i.x.fills,f.side=1∨f.side=2) (fun _=> .own 5) (fun i=>lF i.m++[zWk (bG i.m.p i.c i.x i.left)])
def yJp (i:StI'):List SAnn:=[{ι:=Nat,slots:=fun j=>[(9,.nm 0 0),(17,zB j)],rows:=fun j=>[.cells [.own 1] 32,zWk (i.out j)]}]
open Go Cv Go.Proofs
def yOv (i:RjI):Prop:=
 ∃(o:Unit),[x7 (Rep.mk 2 i.c.id 0 0 0 0 0 i.why)]=[[D.v (.int .i64 2),D.v (.int .i64 i.c.id),D.v (.int .i64 0),D.v (.int .i64 0),D.v (.int .i64 0),D.v (.int .i64 0),D.v (.int .i64 0),D.v (.int .i64 i.why)]]∧True
theorem yMa (hG:GOk Tryz.prog ([])) (h:∀(i:RjI),rejC.cnd i→yOv i):rejC.ok Tryz.prog 39:=okw mixed hG 0 (fun _=>[]) (fun _=>[]) [] Tryz.func39 h
def vF (a:MsI):Prop:=a.r.kind=a.r.kind∧a.r.id=a.r.id∧a.r.inst=a.r.inst∧a.r.side=a.r.side∧a.r.price=a.r.price∧a.r.qty=a.r.qty∧a.r.left=a.r.left∧a.r.why=a.r.why∧True
def u7 (a:MsI):=(Rep.mk a.r.kind a.r.id (a.m.p.legs a.r.inst).snd.fst ((3:Int)-a.r.side) a.far a.r.qty a.r.left a.r.why)
def gB (a:MsI):=(Rep.mk a.r.kind a.r.id (a.m.p.legs a.r.inst).fst a.r.side a.near a.r.qty a.r.left a.r.why)
def nG (a:MsI) (b:cF):Prop:=(vF a)∧(vF a)∧(vF a)∧(vF a)∧(vF a)∧a.r.side=a.r.side∧∃(c:Unit),sb a.m.p.code=sb a.m.p.code∧a.m.p.tick=a.m.p.tick∧a.m.p.low=a.m.p.low∧a.m.p.high=a.m.p.high∧a.m.p.wide=a.m.p.wide∧a.m.p.rule=a.m.p.rule∧a.m.p.top=a.m.p.top∧a.m.p.least=a.m.p.least∧a.m.p.part=a.m.p.part∧zE a.m.s=yH a.m 1∧zY a.m.used=zY a.m.used∧AObj.fro 1 (iE a.m.p.months)=yH a.m 3∧AObj.fro 1 (iE a.m.p.settle)=yH a.m 4∧[x7 (gB a),x7 (u7 a)]=[[D.v (.int .i64 a.r.kind),D.v (.int .i64 a.r.id),D.v (.int .i64 (b.p.legs b.n).fst),D.v (.int .i64 a.r.side),D.v (.int .i64 a.near),D.v (.int .i64 a.r.qty),D.v (.int .i64 a.r.left),D.v (.int .i64 a.r.why)],[D.v (.int .i64 a.r.kind),D.v (.int .i64 a.r.id),D.v (.int .i64 (b.p.legs b.n).snd.fst),D.v (.int .i64 (IntKind.i64.wrap (3-a.r.side))),D.v (.int .i64 a.far),D.v (.int .i64 a.r.qty),D.v (.int .i64 a.r.left),D.v (.int .i64 a.r.why)]]∧True
def zFm (i:MsI):Prop:=
 ∃(a:cF),sb a.p.code=sb i.m.p.code∧iE a.p.months=iE i.m.p.months∧a.p.tick=i.m.p.tick∧a.p.low=i.m.p.low∧a.p.high=i.m.p.high∧a.p.wide=i.m.p.wide∧a.p.rule=i.m.p.rule∧a.p.top=i.m.p.top∧a.p.least=i.m.p.least∧a.p.part=i.m.p.part∧iE a.p.settle=iE i.m.p.settle∧a.n=i.r.inst∧(uW a)∧∀(b:Unit),True→(nG i a)∧nG i a
theorem z2o (hG:GOk Tryz.prog ([(51,legsC)])) (h:∀(i:MsI),mspreadC.cnd i→zFm i):mspreadC.ok Tryz.prog 117:=okw mixed hG 0 (fun _=>[]) (fun _=>[]) [] Tryz.func117 h
def yOk (i:MiN):Prop:=
 ∃(i_1:cF),sb i_1.p.code=sb i.m.p.code∧iE i_1.p.months=iE i.m.p.months∧i_1.p.tick=i.m.p.tick∧i_1.p.low=i.m.p.low∧i_1.p.high=i.m.p.high∧i_1.p.wide=i.m.p.wide∧i_1.p.rule=i.m.p.rule∧i_1.p.top=i.m.p.top∧i_1.p.least=i.m.p.least∧i_1.p.part=i.m.p.part∧iE i_1.p.settle=iE i.m.p.settle∧i_1.n=i.inst∧(i_1.p.code.length≤1099511627776∧i_1.p.months.length≤1099511627776∧i_1.p.settle.length≤1099511627776)∧∀(o:Unit),True→∃(o:Unit),(i.m.p.legs i.inst).snd.snd=(i_1.p.legs i_1.n).snd.snd∧sb i.m.p.code=sb i.m.p.code∧i.m.p.tick=i.m.p.tick∧i.m.p.low=i.m.p.low∧i.m.p.high=i.m.p.high∧i.m.p.wide=i.m.p.wide∧i.m.p.rule=i.m.p.rule∧i.m.p.top=i.m.p.top∧i.m.p.least=i.m.p.least∧i.m.p.part=i.m.p.part∧zE i.m.s=yH i.m 1∧zY i.m.used=zY i.m.used∧AObj.fro 1 (iE i.m.p.months)=yH i.m 3∧AObj.fro 1 (iE i.m.p.settle)=yH i.m 4∧True
theorem yMu (hG:GOk Tryz.prog ([(51,legsC)])) (h:∀(i:MiN),misC.cnd i→yOk i):misC.ok Tryz.prog 115:=okw mixed hG 0 (fun _=>[]) (fun _=>[]) [] Tryz.func115 h
def zOn (a:OfI):Prop:=a.x.price=a.x.price∧a.x.qty=a.x.qty∧a.x.implied=a.x.implied∧AObj.fro 6 (List.map yP a.x.fills)=AObj.fro 6 (List.map yP a.x.fills)∧True
def Vof (i:OfI):Prop:=
 ∃(a:Nat),(↑a:Int)=0∧∃(b:Nat→Prop),∃(c:Nat→Nat),b a∧∀(d:Nat),b d→cnd (decide ((↑d:Int)<(↑(List.map yP i.x.fills).length:Int))) ((0≤(↑d:Int)∧(↑d:Int)<(↑(List.map yP i.x.fills).length:Int))∧∃(e:Int),∃(f:Int),∃(g:Int),∃(h:Int),∃(j:Int),∃(k:Int),zF (List.map yP i.x.fills) (↑d:Int).toNat 0 6=some [D.v (.int .i64 e),D.v (.int .i64 f),D.v (.int .i64 g),D.v (.int .i64 h),D.v (.int .i64 j),D.v (.int .i64 k)]∧cnd (f==i.k) (∃(l:Unit),ofF i.x i.k=h∧zOn i) (∃(l:Nat),(↑l:Int)=IntKind.i64.wrap ((↑d:Int)+1)∧b l∧c l<c d∧Sx.AObj.cells [zB i.x.price,zB i.x.qty,yO i.x.implied,V.own 1] (158:TypeId)=Sx.AObj.cells [zB i.x.price,zB i.x.qty,yO i.x.implied,V.own 1] (158:TypeId)∧AObj.fro 6 (List.map yP i.x.fills)=AObj.fro 6 (List.map yP i.x.fills))) (∃(e:Unit),ofF i.x i.k=i.x.price∧zOn i)
theorem yPj (hG:GOk Tryz.prog ([])) (h:∀(i:OfI),ofC.cnd i→Vof i):ofC.ok Tryz.prog 134:=okw mixed hG 0 (fun _=>[]) (fun _=>ofA) [] Tryz.func134 h
def nS (a:MpI):Prop:=sb a.m.p.code=sb a.m.p.code∧a.m.p.tick=a.m.p.tick∧a.m.p.low=a.m.p.low∧a.m.p.high=a.m.p.high∧a.m.p.wide=a.m.p.wide∧a.m.p.rule=a.m.p.rule∧a.m.p.top=a.m.p.top∧a.m.p.least=a.m.p.least∧a.m.p.part=a.m.p.part∧zE a.m.s=yH a.m 1∧zY a.m.used=zY a.m.used∧AObj.fro 1 (iE a.m.p.months)=yH a.m 3∧AObj.fro 1 (iE a.m.p.settle)=yH a.m 4∧True
def qO (a:MpI):=(jX a.m.p a.inst a.x)
def zGb (i:MpI):Prop:=
 cnd (!i.x.implied) (∃(a:LpI),sb a.p.code=sb i.m.p.code∧iE a.p.months=iE i.m.p.months∧a.p.tick=i.m.p.tick∧a.p.low=i.m.p.low∧a.p.high=i.m.p.high∧a.p.wide=i.m.p.wide∧a.p.rule=i.m.p.rule∧a.p.top=i.m.p.top∧a.p.least=i.m.p.least∧a.p.part=i.m.p.part∧iE a.p.settle=iE i.m.p.settle∧a.inst=i.inst∧a.price=i.x.price∧(a.p.check=0∧(a.p.code.length≤1099511627776∧a.p.months.length≤1099511627776∧a.p.settle.length≤1099511627776)∧(-9223372036854775808)≤a.price∧a.price≤9223372036854775807)∧∀(b:Unit),True→∃(c:Unit),(qO i).fst=(yU a).fst∧(qO i).snd=(yU a).snd.fst∧nS i) (∃(a:cF),sb a.p.code=sb i.m.p.code∧iE a.p.months=iE i.m.p.months∧a.p.tick=i.m.p.tick∧a.p.low=i.m.p.low∧a.p.high=i.m.p.high∧a.p.wide=i.m.p.wide∧a.p.rule=i.m.p.rule∧a.p.top=i.m.p.top∧a.p.least=i.m.p.least∧a.p.part=i.m.p.part∧iE a.p.settle=iE i.m.p.settle∧a.n=i.inst∧(uW a)∧∀(b:Unit),True→∃(c:OfI),c.k=(a.p.legs a.n).fst∧c.x.price=i.x.price∧c.x.qty=i.x.qty∧c.x.implied=i.x.implied∧AObj.fro 6 (List.map yP c.x.fills)=AObj.fro 6 (List.map yP i.x.fills)∧c.x.fills.length≤1000000∧∀(d:Unit),True→∃(e:OfI),e.k=(a.p.legs a.n).snd.fst∧e.x.price=c.x.price∧e.x.qty=c.x.qty∧e.x.implied=c.x.implied∧AObj.fro 6 (List.map yP e.x.fills)=AObj.fro 6 (List.map yP c.x.fills)∧e.x.fills.length≤1000000∧∀(f:Unit),True→∃(g:Unit),(qO i).fst=ofF c.x c.k∧(qO i).snd=ofF e.x e.k∧nS i)
theorem z2p (hG:GOk Tryz.prog ([(51,legsC),(133,lpricesC),(134,ofC)])) (h:∀(i:MpI),mpricesC.cnd i→zGb i):mpricesC.ok Tryz.prog 116:=okw mixed hG 0 (fun _=>[]) (fun _=>[]) [] Tryz.func116 h
def rZ (a:MpI):Prop:=(a.m.p.check=0∧a.m.p.code.length≤1099511627776∧a.m.p.months.length≤1099511627776∧a.m.p.settle.length≤1099511627776)∧((-9223372036854775808)≤a.x.price∧a.x.price≤9223372036854775807)∧a.x.fills.length≤1000000
def tA (a:MsI):Prop:=(a.m.p.check=0∧a.m.p.code.length≤1099511627776∧a.m.p.months.length≤1099511627776∧a.m.p.settle.length≤1099511627776)∧(a.r.side=1∨a.r.side=2)
def sQ (a:MiN):Prop:=a.m.p.check=0∧a.m.p.code.length≤1099511627776∧a.m.p.months.length≤1099511627776∧a.m.p.settle.length≤1099511627776
def dH (a:StI'):=(D.v (Value.string (sb a.c.label)))
def zVp (i:StI'):Prop:=
 ∃(a:Nat),(↑a:Int)=0∧List.map x7 (i.out a)=[]∧∃(b:Nat→Prop),∃(c:Nat→Nat),b a∧∀(d:Nat),b d→cnd (decide ((↑d:Int)<(↑(List.map yP i.x.fills).length:Int))) ((0≤(↑d:Int)∧(↑d:Int)<(↑(List.map yP i.x.fills).length:Int))∧∃(e:Int),∃(f:Int),∃(g:Int),∃(h:Int),∃(j:Int),∃(k:Int),zF (List.map yP i.x.fills) (↑d:Int).toNat 0 6=some [D.v (.int .i64 e),D.v (.int .i64 f),D.v (.int .i64 g),D.v (.int .i64 h),D.v (.int .i64 j),D.v (.int .i64 k)]∧((List.map x7 (i.out d)).length+1)*(64:Nat)≤(70368744177664:Nat)∧∃(l:MiN),l.inst=f∧sb l.m.p.code=sb i.m.p.code∧l.m.p.tick=i.m.p.tick∧l.m.p.low=i.m.p.low∧l.m.p.high=i.m.p.high∧l.m.p.wide=i.m.p.wide∧l.m.p.rule=i.m.p.rule∧l.m.p.top=i.m.p.top∧l.m.p.least=i.m.p.least∧l.m.p.part=i.m.p.part∧zE l.m.s=yH i.m 1∧zY l.m.used=zY i.m.used∧AObj.fro 1 (iE l.m.p.months)=yH i.m 3∧AObj.fro 1 (iE l.m.p.settle)=yH i.m 4∧(sQ l)∧∀(m:Unit),True→cnd (l.m.p.legs l.inst).snd.snd (∃(n:MpI),n.inst=f∧n.x.price=i.x.price∧n.x.qty=i.x.qty∧n.x.implied=i.x.implied∧List.map yP n.x.fills=List.map yP i.x.fills∧sb n.m.p.code=sb l.m.p.code∧n.m.p.tick=l.m.p.tick∧n.m.p.low=l.m.p.low∧n.m.p.high=l.m.p.high∧n.m.p.wide=l.m.p.wide∧n.m.p.rule=l.m.p.rule∧n.m.p.top=l.m.p.top∧n.m.p.least=l.m.p.least∧n.m.p.part=l.m.p.part∧zE n.m.s=zE l.m.s∧zY n.m.used=zY l.m.used∧AObj.fro 1 (iE n.m.p.months)=AObj.fro 1 (iE l.m.p.months)∧AObj.fro 1 (iE n.m.p.settle)=AObj.fro 1 (iE l.m.p.settle)∧(rZ n)∧∀(p:Unit),True→∃(q:MsI),q.r.kind=3∧q.r.id=e∧q.r.inst=f∧q.r.side=g∧q.r.price=h∧q.r.qty=j∧q.r.left=k∧q.r.why=0∧q.near=(qO n).fst∧q.far=(qO n).snd∧sb q.m.p.code=sb n.m.p.code∧q.m.p.tick=n.m.p.tick∧q.m.p.low=n.m.p.low∧q.m.p.high=n.m.p.high∧q.m.p.wide=n.m.p.wide∧q.m.p.rule=n.m.p.rule∧q.m.p.top=n.m.p.top∧q.m.p.least=n.m.p.least∧q.m.p.part=n.m.p.part∧zE q.m.s=zE n.m.s∧zY q.m.used=zY n.m.used∧AObj.fro 1 (iE q.m.p.months)=AObj.fro 1 (iE n.m.p.months)∧AObj.fro 1 (iE q.m.p.settle)=AObj.fro 1 (iE n.m.p.settle)∧(tA q)∧∀(r:Unit),True→True∧((List.map x7 (i.out d)++[[D.v (.int .i64 3),D.v (.int .i64 e),D.v (.int .i64 f),D.v (.int .i64 g),D.v (.int .i64 h),D.v (.int .i64 j),D.v (.int .i64 k),D.v (.int .i64 0)]]).length+2)*(64:Nat)≤(70368744177664:Nat)∧∃(s:Nat),(↑s:Int)=IntKind.i64.wrap ((↑d:Int)+1)∧List.map x7 (i.out s)=List.map x7 (i.out d)++[[D.v (.int .i64 3),D.v (.int .i64 e),D.v (.int .i64 f),D.v (.int .i64 g),D.v (.int .i64 h),D.v (.int .i64 j),D.v (.int .i64 k),D.v (.int .i64 0)]]++[x7 (gB q),x7 (u7 q)]∧b s∧c s<c d∧Sx.AObj.cells [V.d (D.v (.int .i64 i.x.price)),V.d (D.v (.int .i64 i.x.qty)),V.d (D.v (.bool i.x.implied)),V.own ((5:Nat)+(1:Nat)+1)] 158=Sx.AObj.cells [V.d (D.v (.int .i64 i.x.price)),V.d (D.v (.int .i64 i.x.qty)),V.d (D.v (.bool i.x.implied)),V.own ((5:Nat)+(1:Nat)+1)] 158∧AObj.fro 6 (List.map yP i.x.fills)=AObj.fro 6 (List.map yP i.x.fills)∧Sx.AObj.cells [V.d (D.v (.int .i64 i.c.kind)),V.d (D.v (.int .i64 i.c.id)),V.d (D.v (.int .i64 i.c.inst)),V.d (D.v (.int .i64 i.c.side)),V.d (D.v (.int .i64 i.c.price)),V.d (D.v (.int .i64 i.c.qty)),V.d (D.v (.int .i64 i.c.least)),V.d (D.v (.int .i64 i.c.time)),V.d (dH i)] 35=Sx.AObj.cells [V.d (D.v (.int .i64 i.c.kind)),V.d (D.v (.int .i64 i.c.id)),V.d (D.v (.int .i64 i.c.inst)),V.d (D.v (.int .i64 i.c.side)),V.d (D.v (.int .i64 i.c.price)),V.d (D.v (.int .i64 i.c.qty)),V.d (D.v (.int .i64 i.c.least)),V.d (D.v (.int .i64 i.c.time)),V.d (dH i)] 35∧Sx.AObj.cells [V.nm 0 0] 23=Sx.AObj.cells [V.nm 0 0] 23∧Sx.AObj.cells (hZ (dP 5 ((5:Nat)+(1:Nat)+(1:Nat)+(1:Nat)+(1:Nat)+(1:Nat)+(1:Nat)+(2:Nat)+(1:Nat)+(1:Nat)+(1:Nat)+(1:Nat)+((5:Nat)-(5:Nat))+((5:Nat)-(5:Nat))) ((6:Nat)-(5:Nat)) [((2:Nat),(2:Nat)),((1:Nat),(1:Nat)),((4:Nat),(4:Nat)),((3:Nat),(3:Nat)),((0:Nat),(0:Nat))]) [sV q.m.p.code,V.own 3,zB q.m.p.tick,zB q.m.p.low,zB q.m.p.high,zB q.m.p.wide,zB q.m.p.rule,zB q.m.p.top,zB q.m.p.least,zB q.m.p.part,V.own 4,V.nm 1 0,V.mp 2]) (90:TypeId)=yH i.m 0∧zE q.m.s=yH i.m 1∧Sx.AObj.map (zY q.m.used)=yH i.m 2∧AObj.fro 1 (iE q.m.p.months)=yH i.m 3∧AObj.fro 1 (iE q.m.p.settle)=yH i.m 4) (∃(n:Nat),(↑n:Int)=IntKind.i64.wrap ((↑d:Int)+1)∧List.map x7 (i.out n)=List.map x7 (i.out d)++[[D.v (.int .i64 3),D.v (.int .i64 e),D.v (.int .i64 f),D.v (.int .i64 g),D.v (.int .i64 h),D.v (.int .i64 j),D.v (.int .i64 k),D.v (.int .i64 0)]]∧b n∧c n<c d∧Sx.AObj.cells [V.d (D.v (.int .i64 i.x.price)),V.d (D.v (.int .i64 i.x.qty)),V.d (D.v (.bool i.x.implied)),V.own ((5:Nat)+(1:Nat)+1)] 158=Sx.AObj.cells [V.d (D.v (.int .i64 i.x.price)),V.d (D.v (.int .i64 i.x.qty)),V.d (D.v (.bool i.x.implied)),V.own ((5:Nat)+(1:Nat)+1)] 158∧AObj.fro 6 (List.map yP i.x.fills)=AObj.fro 6 (List.map yP i.x.fills)∧Sx.AObj.cells [V.d (D.v (.int .i64 i.c.kind)),V.d (D.v (.int .i64 i.c.id)),V.d (D.v (.int .i64 i.c.inst)),V.d (D.v (.int .i64 i.c.side)),V.d (D.v (.int .i64 i.c.price)),V.d (D.v (.int .i64 i.c.qty)),V.d (D.v (.int .i64 i.c.least)),V.d (D.v (.int .i64 i.c.time)),V.d (dH i)] 35=Sx.AObj.cells [V.d (D.v (.int .i64 i.c.kind)),V.d (D.v (.int .i64 i.c.id)),V.d (D.v (.int .i64 i.c.inst)),V.d (D.v (.int .i64 i.c.side)),V.d (D.v (.int .i64 i.c.price)),V.d (D.v (.int .i64 i.c.qty)),V.d (D.v (.int .i64 i.c.least)),V.d (D.v (.int .i64 i.c.time)),V.d (dH i)] 35∧Sx.AObj.cells [V.nm 0 0] 23=Sx.AObj.cells [V.nm 0 0] 23∧Sx.AObj.cells (hZ (dP 5 ((5:Nat)+(1:Nat)+(1:Nat)+(1:Nat)+(1:Nat)+(1:Nat)+(1:Nat)+(2:Nat)+(1:Nat)+(1:Nat)+(1:Nat)+(1:Nat)) ((5:Nat)-(5:Nat)) [((2:Nat),(2:Nat)),((1:Nat),(1:Nat)),((4:Nat),(4:Nat)),((3:Nat),(3:Nat)),((0:Nat),(0:Nat))]) [sV l.m.p.code,V.own 3,zB l.m.p.tick,zB l.m.p.low,zB l.m.p.high,zB l.m.p.wide,zB l.m.p.rule,zB l.m.p.top,zB l.m.p.least,zB l.m.p.part,V.own 4,V.nm 1 0,V.mp 2]) (90:TypeId)=yH i.m 0∧zE l.m.s=yH i.m 1∧Sx.AObj.map (zY l.m.used)=yH i.m 2∧AObj.fro 1 (iE l.m.p.months)=yH i.m 3∧AObj.fro 1 (iE l.m.p.settle)=yH i.m 4)) (((List.map x7 (i.out d)).length+1)*(64:Nat)≤(70368744177664:Nat)∧∃(e:MiN),e.inst=i.c.inst∧sb e.m.p.code=sb i.m.p.code∧e.m.p.tick=i.m.p.tick∧e.m.p.low=i.m.p.low∧e.m.p.high=i.m.p.high∧e.m.p.wide=i.m.p.wide∧e.m.p.rule=i.m.p.rule∧e.m.p.top=i.m.p.top∧e.m.p.least=i.m.p.least∧e.m.p.part=i.m.p.part∧zE e.m.s=yH i.m 1∧zY e.m.used=zY i.m.used∧AObj.fro 1 (iE e.m.p.months)=yH i.m 3∧AObj.fro 1 (iE e.m.p.settle)=yH i.m 4∧(sQ e)∧∀(f:Unit),True→cnd (e.m.p.legs e.inst).snd.snd (∃(g:MpI),g.inst=i.c.inst∧g.x.price=i.x.price∧g.x.qty=i.x.qty∧g.x.implied=i.x.implied∧List.map yP g.x.fills=List.map yP i.x.fills∧sb g.m.p.code=sb e.m.p.code∧g.m.p.tick=e.m.p.tick∧g.m.p.low=e.m.p.low∧g.m.p.high=e.m.p.high∧g.m.p.wide=e.m.p.wide∧g.m.p.rule=e.m.p.rule∧g.m.p.top=e.m.p.top∧g.m.p.least=e.m.p.least∧g.m.p.part=e.m.p.part∧zE g.m.s=zE e.m.s∧zY g.m.used=zY e.m.used∧AObj.fro 1 (iE g.m.p.months)=AObj.fro 1 (iE e.m.p.months)∧AObj.fro 1 (iE g.m.p.settle)=AObj.fro 1 (iE e.m.p.settle)∧(rZ g)∧∀(h:Unit),True→∃(j:MsI),j.r.kind=3∧j.r.id=i.c.id∧j.r.inst=i.c.inst∧j.r.side=i.c.side∧j.r.price=i.x.price∧j.r.qty=i.x.qty∧j.r.left=i.left∧j.r.why=0∧j.near=(qO g).fst∧j.far=(qO g).snd∧sb j.m.p.code=sb g.m.p.code∧j.m.p.tick=g.m.p.tick∧j.m.p.low=g.m.p.low∧j.m.p.high=g.m.p.high∧j.m.p.wide=g.m.p.wide∧j.m.p.rule=g.m.p.rule∧j.m.p.top=g.m.p.top∧j.m.p.least=g.m.p.least∧j.m.p.part=g.m.p.part∧zE j.m.s=zE g.m.s∧zY j.m.used=zY g.m.used∧AObj.fro 1 (iE j.m.p.months)=AObj.fro 1 (iE g.m.p.months)∧AObj.fro 1 (iE j.m.p.settle)=AObj.fro 1 (iE g.m.p.settle)∧(tA j)∧∀(k:Unit),True→True∧((List.map x7 (i.out d)++[[D.v (.int .i64 3),D.v (.int .i64 i.c.id),D.v (.int .i64 i.c.inst),D.v (.int .i64 i.c.side),D.v (.int .i64 i.x.price),D.v (.int .i64 i.x.qty),D.v (.int .i64 i.left),D.v (.int .i64 0)]]).length+2)*(64:Nat)≤(70368744177664:Nat)∧∃(l:Unit),sb i.m.p.code=sb j.m.p.code∧i.m.p.tick=j.m.p.tick∧i.m.p.low=j.m.p.low∧i.m.p.high=j.m.p.high∧i.m.p.wide=j.m.p.wide∧i.m.p.rule=j.m.p.rule∧i.m.p.top=j.m.p.top∧i.m.p.least=j.m.p.least∧i.m.p.part=j.m.p.part∧zE i.m.s=zE j.m.s∧zY i.m.used=zY j.m.used∧AObj.fro 1 (iE i.m.p.months)=AObj.fro 1 (iE j.m.p.months)∧AObj.fro 1 (iE i.m.p.settle)=AObj.fro 1 (iE j.m.p.settle)∧List.map x7 (bG i.m.p i.c i.x i.left)=List.map x7 (i.out d)++[[D.v (.int .i64 3),D.v (.int .i64 i.c.id),D.v (.int .i64 i.c.inst),D.v (.int .i64 i.c.side),D.v (.int .i64 i.x.price),D.v (.int .i64 i.x.qty),D.v (.int .i64 i.left),D.v (.int .i64 0)]]++[x7 (gB j),x7 (u7 j)]∧True) (∃(g:Unit),sb i.m.p.code=sb e.m.p.code∧i.m.p.tick=e.m.p.tick∧i.m.p.low=e.m.p.low∧i.m.p.high=e.m.p.high∧i.m.p.wide=e.m.p.wide∧i.m.p.rule=e.m.p.rule∧i.m.p.top=e.m.p.top∧i.m.p.least=e.m.p.least∧i.m.p.part=e.m.p.part∧zE i.m.s=zE e.m.s∧zY i.m.used=zY e.m.used∧AObj.fro 1 (iE i.m.p.months)=AObj.fro 1 (iE e.m.p.months)∧AObj.fro 1 (iE i.m.p.settle)=AObj.fro 1 (iE e.m.p.settle)∧List.map x7 (bG i.m.p i.c i.x i.left)=List.map x7 (i.out d)++[[D.v (.int .i64 3),D.v (.int .i64 i.c.id),D.v (.int .i64 i.c.inst),D.v (.int .i64 i.c.side),D.v (.int .i64 i.x.price),D.v (.int .i64 i.x.qty),D.v (.int .i64 i.left),D.v (.int .i64 0)]]∧True))
theorem yBj (hG:GOk Tryz.prog ([(115,misC),(116,mpricesC),(117,mspreadC)])) (h:∀(i:StI'),mstepC.cnd i→zVp i):mstepC.ok Tryz.prog 97:=okw mixed hG 1 (fun _=>[]) (fun i=>yJp i) [] Tryz.func97 h
open Go Cv Go.Proofs
theorem zUt:rejC.ok Tryz.prog 39:=yMa gok0 fun i _=>⟨(),rfl,trivial⟩
theorem z8g (i:MsI) (h:mspreadC.cnd i):zFm i:=by
 obtain⟨⟨hc,hp⟩,hs⟩:i.m.fine∧(i.r.side=1∨i.r.side=2):=h
 have hw:IntKind.i64.wrap (3-i.r.side)=3-i.r.side:=w64 (by omega)
 unfold zFm uW nG gB u7 vF
 rw[hw]
 refine⟨⟨i.m.p,i.r.inst⟩,rfl,rfl,rfl,rfl,rfl,rfl,rfl,rfl,rfl,rfl,rfl,rfl,hp,fun _ _=> ?_⟩
 exact kp
theorem zWc:mspreadC.ok Tryz.prog 117:=z2o (gokc pR gok0) z8g
theorem yGs:misC.ok Tryz.prog 115:=yMu (gokc pR gok0) fun i h=>by
 obtain⟨hc,hp⟩:i.m.fine:=h
 exact⟨⟨i.m.p,i.inst⟩,rfl,rfl,rfl,rfl,rfl,rfl,rfl,rfl,rfl,rfl,rfl,rfl,hp,fun _ _=>kp⟩
theorem yNc {l:List wO} {k:Nat} {f:wO} (h:l[k]? =some f):zF (l.map yP) k 0 6=some [D.v (.int .i64 f.id),D.v (.int .i64 f.inst),D.v (.int .i64 f.side),D.v (.int .i64 f.price),D.v (.int .i64 f.qty),D.v (.int .i64 f.left)]:=elA h (by simp[yP]) rfl
theorem vof (i:OfI) (h:ofC.cnd i):Vof i:=by
 have hl:i.x.fills.length≤1000000:=h
 have e4:(i.x.fills.map yP).length=i.x.fills.length:=List.length_map ..
 unfold Vof zOn
 refine⟨0,rfl,fun j=>j≤i.x.fills.length∧(i.x.fills.take j).find? (fun f=>decide (f.inst=i.k))=none,fun j=>i.x.fills.length-j,⟨Nat.zero_le _,rfl⟩,?_⟩
 rintro j ⟨j1,j2⟩
 refine zK (fun c=> ?_) (fun c=> ?_)
 ·obtain⟨f,hf⟩:=yA (l:=i.x.fills) (i:=j) (by omega)
  refine⟨⟨by omega,by omega⟩,_,_,_,_,_,_,yNc hf,Cv.cnd.mk (fun g=>⟨(),?_,by(repeat'(first|exact trivial|exact rfl|apply And.intro))⟩) (fun g=>⟨j+1,wjn (by omega),⟨by omega,?_⟩,by dsimp only;omega,by(repeat'(first|exact trivial|exact rfl|apply And.intro))⟩)⟩
  ·have g:f.inst=i.k:=by simpa using g
   have e:i.x.fills.find? (fun f=>decide (f.inst=i.k))=some f:=by
    rw[← List.take_append_drop j i.x.fills,List.find?_append,j2,List.drop_eq_getElem_cons (by omega),(List.getElem?_eq_some_iff.1 hf).2,List.find?_cons_of_pos (by simpa using g)]
    rfl
   rw[ofF,e]
  ·have g:¬f.inst=i.k:=by simpa using g
   rw[List.take_add_one,hf,List.find?_append,j2]
   simp[g]
 ·have:j=i.x.fills.length:=by omega
  rw[this,List.take_of_length_le (Nat.le_refl _)]at j2
  exact⟨(),by rw[ofF,j2],by(repeat'(first|exact trivial|exact rfl|apply And.intro))⟩
theorem yNp:ofC.ok Tryz.prog 134:=yPj gok0 vof
theorem z9m (i:MpI) (h:mpricesC.cnd i):zGb i:=by
 obtain⟨⟨hc,hp⟩,hpr,hl⟩:i.m.fine∧yQ i.x.price∧i.x.fills.length≤1000000:=h
 unfold zGb uW nS qO yU
 refine Cv.cnd.mk (fun e=> ?_) (fun e=> ?_)
 ·have e:i.x.implied=false:=by simpa using e
  have h0:jX i.m.p i.inst i.x=((gC i.m.p i.inst i.x.price).1,(gC i.m.p i.inst i.x.price).2.1):=by rw[jX,if_pos e]
  rw[h0]
  exact⟨⟨i.m.p,i.inst,i.x.price⟩,rfl,rfl,rfl,rfl,rfl,rfl,rfl,rfl,rfl,rfl,rfl,rfl,rfl,⟨hc,hp,hpr⟩,fun _ _=>kp⟩
 ·have e:¬i.x.implied=false:=by simpa using e
  have h0:jX i.m.p i.inst i.x=(ofF i.x (i.m.p.legs i.inst).1,ofF i.x (i.m.p.legs i.inst).2.1):=by rw[jX,if_neg e]
  rw[h0]
  exact⟨⟨i.m.p,i.inst⟩,rfl,rfl,rfl,rfl,rfl,rfl,rfl,rfl,rfl,rfl,rfl,rfl,hp,fun _ _=>⟨⟨i.x,(i.m.p.legs i.inst).1⟩,rfl,rfl,rfl,rfl,rfl,hl,fun _ _=>⟨⟨i.x,(i.m.p.legs i.inst).2.1⟩,rfl,rfl,rfl,rfl,rfl,hl,fun _ _=>kp⟩⟩⟩
theorem zVj:mpricesC.ok Tryz.prog 116:=z2p (gokc pR (gokc zWn (gokc yNp gok0))) z9m
theorem zEa (p:Prd) (x:k6) (r:Rep):(mQ p x r).length≤3:=by
 rw[mQ,List.length_cons]
 split
 ·rw[zDu];simp
 ·simp
theorem zXy {p:Prd} {x:k6} {r:Rep} (h:(p.legs r.inst).2.2=false):mQ p x r=[r]:=by
 rw[mQ,if_neg (by rw[h];decide)]
theorem zRh {p:Prd} {x:k6} {r:Rep} (h:(p.legs r.inst).2.2=true):mQ p x r=r::zDu p r (jX p r.inst x).1 (jX p r.inst x).2:=by
 rw[mQ,if_pos h]
theorem StI'.out_len (i:StI'):∀j,(i.out j).length≤3*j
 |0=>Nat.le_refl _
 |j+1=>by
  have ih:=StI'.out_len i j
  rw[StI'.out]at ih ⊢
  rw[List.take_add_one,List.flatMap_append,List.length_append]
  cases e:i.x.fills[j]? with
  |none=>simp only[Option.toList_none,List.flatMap_nil,List.length_nil];omega
  |some f=>
   have:=zEa i.m.p i.x (eB f)
   simp only[Option.toList_some,List.flatMap_cons,List.flatMap_nil,List.append_nil]
   omega
theorem StI'.out_succ (i:StI') {j:Nat} {f:wO} (h:i.x.fills[j]? =some f):i.out (j+1)=i.out j++mQ i.m.p i.x (eB f):=by
 rw[StI'.out,StI'.out,List.take_add_one,List.flatMap_append,h]
 simp
theorem yKb (i:StI') (h:mstepC.cnd i):zVp i:=by
 obtain⟨hf,hpr,hl,hcs,hfs⟩:i.m.fine∧yQ i.x.price∧i.x.fills.length≤1000000∧(i.c.side=1∨i.c.side=2)∧∀f∈i.x.fills,f.side=1∨f.side=2:=h
 have e4:(i.x.fills.map yP).length=i.x.fills.length:=List.length_map ..
 unfold zVp dH sQ tA rZ gB u7 qO
 refine⟨0,rfl,rfl,fun j=>j≤i.x.fills.length,fun j=>i.x.fills.length-j,Nat.zero_le _,?_⟩
 intro j hj
 have ho:=i.out_len j
 have e5:((i.out j).map x7).length=(i.out j).length:=List.length_map ..
 refine zK (fun c=> ?_) (fun c=> ?_)
 ·obtain⟨f,hfj⟩:=yA (l:=i.x.fills) (i:=j) (by omega)
  have hos:=i.out_succ hfj
  have hfj2:=hfs f (List.mem_of_getElem? hfj)
  refine⟨⟨by omega,by omega⟩,_,_,_,_,_,_,yNc hfj,by omega,⟨i.m,f.inst⟩,rfl,rfl,rfl,rfl,rfl,rfl,rfl,rfl,rfl,rfl,rfl,rfl,rfl,rfl,hf,fun _ _=>Cv.cnd.mk (fun e=> ?_) (fun e=> ?_)⟩
  ·have e:(i.m.p.legs (eB f).inst).2.2=true:=e
   rw[zRh e]at hos
   refine⟨⟨i.m,f.inst,i.x⟩,rfl,rfl,rfl,rfl,rfl,rfl,rfl,rfl,rfl,rfl,rfl,rfl,rfl,rfl,rfl,rfl,rfl,rfl,⟨hf,hpr,hl⟩,fun _ _=>⟨⟨i.m,eB f,(jX i.m.p f.inst i.x).1,(jX i.m.p f.inst i.x).2⟩,rfl,rfl,rfl,rfl,rfl,rfl,rfl,rfl,rfl,rfl,rfl,rfl,rfl,rfl,rfl,rfl,rfl,rfl,rfl,rfl,rfl,rfl,rfl,⟨hf,hfj2⟩,fun _ _=>⟨trivial,by rw[List.length_append,e5];simp only[List.length_cons,List.length_nil];omega,j+1,wjn (by omega),?_,by omega,by dsimp only;omega,by(repeat'(first|exact trivial|exact rfl|apply And.intro))⟩⟩⟩
   rw[hos,List.map_append,List.append_assoc]
   rfl
  ·have e:(i.m.p.legs (eB f).inst).2.2=false:=e
   rw[zXy e]at hos
   refine⟨j+1,wjn (by omega),?_,by omega,by dsimp only;omega,by(repeat'(first|exact trivial|exact rfl|apply And.intro))⟩
   rw[hos,List.map_append];rfl
 ·have hj:j=i.x.fills.length:=by omega
  have ho2:i.x.fills.flatMap (fun f=>mQ i.m.p i.x (eB f))=i.out j:=by rw[StI'.out,hj,List.take_of_length_le (Nat.le_refl _)]
  have hR:bG i.m.p i.c i.x i.left=i.out j++mQ i.m.p i.x ⟨3,i.c.id,i.c.inst,i.c.side,i.x.price,i.x.qty,i.left,0⟩:=by rw[bG,ho2]
  refine⟨by omega,⟨i.m,i.c.inst⟩,rfl,rfl,rfl,rfl,rfl,rfl,rfl,rfl,rfl,rfl,rfl,rfl,rfl,rfl,hf,fun _ _=>Cv.cnd.mk (fun e=> ?_) (fun e=> ?_)⟩
  ·have e:(i.m.p.legs (⟨3,i.c.id,i.c.inst,i.c.side,i.x.price,i.x.qty,i.left,0⟩:Rep).inst).2.2=true:=e
   rw[zRh e]at hR
   refine⟨⟨i.m,i.c.inst,i.x⟩,rfl,rfl,rfl,rfl,rfl,rfl,rfl,rfl,rfl,rfl,rfl,rfl,rfl,rfl,rfl,rfl,rfl,rfl,⟨hf,hpr,hl⟩,fun _ _=>⟨⟨i.m,⟨3,i.c.id,i.c.inst,i.c.side,i.x.price,i.x.qty,i.left,0⟩,(jX i.m.p i.c.inst i.x).1,(jX i.m.p i.c.inst i.x).2⟩,rfl,rfl,rfl,rfl,rfl,rfl,rfl,rfl,rfl,rfl,rfl,rfl,rfl,rfl,rfl,rfl,rfl,rfl,rfl,rfl,rfl,rfl,rfl,⟨hf,hcs⟩,fun _ _=>⟨trivial,by rw[List.length_append,e5];simp only[List.length_cons,List.length_nil];omega,?_⟩⟩⟩
   rw[hR,List.map_append,List.append_assoc]
   exact kp
  ·have e:(i.m.p.legs (⟨3,i.c.id,i.c.inst,i.c.side,i.x.price,i.x.qty,i.left,0⟩:Rep).inst).2.2=false:=e
   rw[zXy e]at hR
   rw[hR,List.map_append]
   exact kp
theorem z3n:mstepC.ok Tryz.prog 97:=yBj (gokc yGs (gokc zVj (gokc zWc gok0))) yKb
open Go Cv Go.Proofs
structure EnI where
 m:Mkt
 p:Prd
 B:List (List zD)
 U:List Int
 c:Cmd
 X:MkX
@[reducible] def EnI.std (i:EnI):Prop:=i.m.Rep i.p i.B i.U∧BOk i.p i.B
@[reducible] def EnI.good (i:EnI):Prop:=(0≤i.c.inst∧i.c.inst<i.B.length)∧(1≤i.c.qty∧i.c.qty≤1000000)∧(i.c.side=1∨i.c.side=2)
@[reducible] def zSr (X:MkX) (p:Prd):Alt:={o:=Mkt,res:=fun _=> .own 5,post:=fun o=>lF o++[zWk X.R],rel:=fun o=>o.Rep p X.B X.U}
def enterC:Con where
 ι:=EnI
 pat:=fun i=>[.nm 0 0,zIx i.c]
 pre:=fun i=>lF i.m
 cnd:=fun i=>i.std∧i.good∧i.p.price i.c.inst i.c.price=0∧i.X=u6 i.p i.B i.U i.c
 alts:=fun i=>[zSr i.X i.p]
structure EnJ where
 left:Int
 k:Nat
 out:List Rep
def yGn (i:EnI):List SAnn:=[{ι:=EnJ,slots:=fun j=>[(5,.own 0),(8,zB j.left),(51,zB j.k)],rows:=fun j=>[zWk j.out]}]
def orderC:Con where
 ι:=EnI
 pat:=fun i=>[.nm 0 0,zIx i.c]
 pre:=fun i=>lF i.m
 cnd:=fun i=>i.std∧i.c.right=0∧i.c.kind=1∧i.X=mM i.p i.B i.U i.c
 alts:=fun i=>[zSr i.X i.p]
def yKv:List (Nat×SAnn):=[(22,ij 6),(44,bj 47),(52,bj 69)]
structure CaI where
 m:Mkt
 p:Prd
 B:List (List zD)
 U:List Int
 id:Int
 q:Int
 inst:Int
 o:zD
 X:MkX
@[reducible] def CaI.std (i:CaI):Prop:=i.m.Rep i.p i.B i.U∧BOk i.p i.B
def cancelC:Con where
 ι:=CaI
 pat:=fun i=>[.nm 0 0,zB i.id,zB i.inst,z1i i.o]
 pre:=fun i=>lF i.m
 cnd:=fun i=>i.std∧i.X=cP i.B i.U i.id i.inst i.o
 alts:=fun i=>[zSr i.X i.p]
def reduceC:Con where
 ι:=CaI
 pat:=fun i=>[.nm 0 0,zB i.id,zB i.q,zB i.inst,z1i i.o]
 pre:=fun i=>lF i.m
 cnd:=fun i=>i.std∧yQ (i.o.qty-i.q)∧i.X=tZ i.B i.U i.id i.q i.inst i.o
 alts:=fun i=>[zSr i.X i.p]
structure zUz where
 m:Mkt
 p:Prd
 B:List (List zD)
 U:List Int
 c:Cmd
 inst:Int
 o:zD
 X:MkX
def replaceC:Con where
 ι:=zUz
 pat:=fun i=>[.nm 0 0,zIx i.c,zB i.inst,z1i i.o]
 pre:=fun i=>lF i.m
 cnd:=fun i=>i.m.Rep i.p i.B i.U∧BOk i.p i.B∧z6 i.B i.c.id=(i.inst,i.o,true)∧(1≤i.c.qty∧i.c.qty≤1000000)∧i.X=fC i.p i.B i.U i.c i.inst i.o
 alts:=fun i=>[zSr i.X i.p]
def doC:Con where
 ι:=EnI
 pat:=fun i=>[.nm 0 0,zIx i.c]
 pre:=fun i=>[zIn i.m]
 cnd:=fun i=>i.std∧i.c.label.length≤140737488355328∧yQ i.c.qty∧i.X=doF i.p i.B i.U i.c
 alts:=fun i=>[{o:=Mkt,res:=fun _=> .own 1,post:=fun o=>[zIn o,zWk i.X.R],rel:=fun o=>o.Rep i.p i.X.B i.X.U}]
structure MfI where
 m:Mkt
 p:Prd
 B:List (List zD)
 U:List Int
 id:Int
def mcountC:Con:=con1 MfI (fun i=>[.nm 0 0]) (fun i=>[zIn i.m]) (fun i=>i.m.Rep i.p i.B i.U∧BOk i.p i.B) (fun i=>zB (zGc i.B)) (fun i=>[zIn i.m])
open Go Cv Go.Proofs
def sD (a:Mkt) (b:EnI) (c:EnJ):Prop:=zY a.used=h8 (Value.int IntKind.i64 b.c.id) [D.v (.bool true)] (zY b.m.used)∧AObj.fro 1 (iE a.p.months)=yH b.m 3∧AObj.fro 1 (iE a.p.settle)=yH b.m 4∧List.map x7 b.X.R=List.map x7 c.out∧a.Rep b.p b.X.B b.X.U
def wQ (a:EnI):=(D.v (Value.string (sb a.c.label)))
def wR (a:EnI):=(D.v (.int .i64 a.c.price))
def wP (a:EnI):=(D.v (.int .i64 a.c.least))
def vE (a:EnI):=(D.v (.int .i64 a.c.time))
def wV (a:EnI):=(D.v (.int .i64 a.c.side))
def wX (a:EnI):=(D.v (.int .i64 a.c.kind))
def vC (a:EnI):=(D.v (.int .i64 a.c.inst))
def zVd (i:EnI):Prop:=
 (∀(a:Value×List D),a∈zY i.m.used→like (Value.int IntKind.i64 i.c.id) a.fst=true)∧∃(a:RunI),a.inst=i.c.inst∧zA a.sd=i.c.side∧a.price=i.c.price∧a.q=i.c.qty∧zE a.s=yH i.m 1∧(qS a)∧∀(b:MSt),b.Rep a.p a.r.B→∃(c:EnJ),c.left=i.c.qty∧(↑c.k:Int)=0∧List.map x7 c.out=[[D.v (.int .i64 1),D.v (.int .i64 i.c.id),D.v (.int .i64 i.c.inst),D.v (.int .i64 i.c.side),D.v (.int .i64 i.c.price),D.v (.int .i64 i.c.qty),D.v (.int .i64 i.c.qty),D.v (.int .i64 0)]]∧∃(d:EnJ→Prop),∃(e:EnJ→Nat),d c∧∀(f:EnJ),d f→cnd (decide ((↑f.k:Int)<(↑(List.map jL a.r.steps).length:Int))) ((0≤(↑f.k:Int)∧(↑f.k:Int)<(↑(List.map jL a.r.steps).length:Int))∧∃(g:Int),∃(h:Int),∃(j:Bool),∃(k:List (List D)),zF (List.map jL a.r.steps) (↑f.k:Int).toNat 0 4=some [D.v (.int .i64 g),D.v (.int .i64 h),D.v (.bool j),D.ro 6 k]∧∃(l:StI'),l.c.kind=i.c.kind∧l.c.id=i.c.id∧l.c.inst=i.c.inst∧l.c.side=i.c.side∧l.c.price=i.c.price∧l.c.qty=i.c.qty∧l.c.least=i.c.least∧l.c.time=i.c.time∧sb l.c.label=sb i.c.label∧l.x.price=g∧l.x.qty=h∧l.x.implied=j∧List.map yP l.x.fills=k∧l.left=IntKind.i64.wrap (f.left-h)∧sb l.m.p.code=sb i.m.p.code∧l.m.p.tick=i.m.p.tick∧l.m.p.low=i.m.p.low∧l.m.p.high=i.m.p.high∧l.m.p.wide=i.m.p.wide∧l.m.p.rule=i.m.p.rule∧l.m.p.top=i.m.p.top∧l.m.p.least=i.m.p.least∧l.m.p.part=i.m.p.part∧zE l.m.s=zE b∧zY l.m.used=h8 (Value.int IntKind.i64 i.c.id) [D.v (.bool true)] (zY i.m.used)∧AObj.fro 1 (iE l.m.p.months)=yH i.m 3∧AObj.fro 1 (iE l.m.p.settle)=yH i.m 4∧((l.m.p.check=0∧l.m.p.code.length≤1099511627776∧l.m.p.months.length≤1099511627776∧l.m.p.settle.length≤1099511627776)∧((-9223372036854775808)≤l.x.price∧l.x.price≤9223372036854775807)∧l.x.fills.length≤1000000∧(l.c.side=1∨l.c.side=2)∧∀(m:wO),m∈l.x.fills→m.side=1∨m.side=2)∧∀(m:Unit),True→((List.map x7 f.out).length+(List.map x7 (bG l.m.p l.c l.x l.left)).length)*(64:Nat)≤(70368744177664:Nat)∧∃(n:EnJ),n.left=IntKind.i64.wrap (f.left-h)∧(↑n.k:Int)=IntKind.i64.wrap ((↑f.k:Int)+1)∧List.map x7 n.out=List.map x7 f.out++List.map x7 (bG l.m.p l.c l.x l.left)∧d n∧e n<e f∧zE l.m.s=zE b∧AObj.own 158 4 (List.map jL a.r.steps)=AObj.own 158 4 (List.map jL a.r.steps)∧Sx.AObj.cells [V.d (wX i),V.d (D.v (.int .i64 i.c.id)),V.d (vC i),V.d (wV i),V.d (wR i),V.d (D.v (.int .i64 i.c.qty)),V.d (wP i),V.d (vE i),V.d (wQ i)] 35=Sx.AObj.cells [V.d (wX i),V.d (D.v (.int .i64 i.c.id)),V.d (vC i),V.d (wV i),V.d (wR i),V.d (D.v (.int .i64 i.c.qty)),V.d (wP i),V.d (vE i),V.d (wQ i)] 35∧Sx.AObj.cells (hZ (dP 5 ((5:Nat)+(1:Nat)+1+((2:Nat)-(1:Nat))+(1:Nat)+(1:Nat)+1) ((6:Nat)-(5:Nat)) [((2:Nat),(2:Nat)),((1:Nat),(1:Nat)),((4:Nat),(4:Nat)),((3:Nat),(3:Nat)),((0:Nat),(0:Nat))]) [sV l.m.p.code,V.own 3,zB l.m.p.tick,zB l.m.p.low,zB l.m.p.high,zB l.m.p.wide,zB l.m.p.rule,zB l.m.p.top,zB l.m.p.least,zB l.m.p.part,V.own 4,V.nm 1 0,V.mp 2]) (90:TypeId)=yH i.m 0∧Sx.AObj.map (zY l.m.used)=Sx.AObj.map (h8 (Value.int IntKind.i64 i.c.id) [D.v (.bool true)] (zY i.m.used))∧AObj.fro 1 (iE l.m.p.months)=yH i.m 3∧AObj.fro 1 (iE l.m.p.settle)=yH i.m 4) (cnd (a.r.left==0) (∃(g:Mkt),sb g.p.code=sb i.m.p.code∧g.p.tick=i.m.p.tick∧g.p.low=i.m.p.low∧g.p.high=i.m.p.high∧g.p.wide=i.m.p.wide∧g.p.rule=i.m.p.rule∧g.p.top=i.m.p.top∧g.p.least=i.m.p.least∧g.p.part=i.m.p.part∧zE g.s=zE b∧sD g i f) (cnd (i.c.time==1) (∃(g:SaI),g.inst=i.c.inst∧g.id=i.c.id∧zA g.sd=i.c.side∧g.price=i.c.price∧g.qty=a.r.left∧zE g.s=zE b∧((g.s.p.code.length≤1099511627776∧g.s.p.months.length≤1099511627776∧g.s.p.settle.length≤1099511627776)∧g.s.books.length≤1000000∧∀(h:Book),h∈g.s.books→(h.a.slots.length≤1000000∧(h.a.free≠0→∃(j:Slot),j∈h.a.slots∧j.used=false)∧∀(j:fJ),j∈h.a.queues→j.last=(-1)∨0≤j.last∧j.last<(↑h.a.slots.length:Int))∧h.a.queues.length≤100000∧h.buys.length≤100000∧h.sells.length≤100000∧h.spare.length≤100000)∧∀(h:Unit),True→∃(j:Mkt),sb j.p.code=sb i.m.p.code∧j.p.tick=i.m.p.tick∧j.p.low=i.m.p.low∧j.p.high=i.m.p.high∧j.p.wide=i.m.p.wide∧j.p.rule=i.m.p.rule∧j.p.top=i.m.p.top∧j.p.least=i.m.p.least∧j.p.part=i.m.p.part∧zE j.s=zE (MSt.addF g).fst∧sD j i f) (((List.map x7 f.out).length+1)*(64:Nat)≤(70368744177664:Nat)∧∃(g:Mkt),sb g.p.code=sb i.m.p.code∧g.p.tick=i.m.p.tick∧g.p.low=i.m.p.low∧g.p.high=i.m.p.high∧g.p.wide=i.m.p.wide∧g.p.rule=i.m.p.rule∧g.p.top=i.m.p.top∧g.p.least=i.m.p.least∧g.p.part=i.m.p.part∧zE g.s=zE b∧zY g.used=h8 (Value.int IntKind.i64 i.c.id) [D.v (.bool true)] (zY i.m.used)∧AObj.fro 1 (iE g.p.months)=yH i.m 3∧AObj.fro 1 (iE g.p.settle)=yH i.m 4∧List.map x7 i.X.R=List.map x7 f.out++[[D.v (.int .i64 4),D.v (.int .i64 i.c.id),D.v (.int .i64 i.c.inst),D.v (.int .i64 i.c.side),D.v (.int .i64 i.c.price),D.v (.int .i64 a.r.left),D.v (.int .i64 0),D.v (.int .i64 0)]]∧g.Rep i.p i.X.B i.X.U)))
theorem yBn (hG:GOk Tryz.prog ([(56,runC),(97,mstepC),(98,saddC)])) (h:∀(i:EnI),enterC.cnd i→zVd i):enterC.ok Tryz.prog 74:=okw mixed hG 0 (fun _=>[]) (fun i=>yGn i) [] Tryz.func74 h
def zCb (a:EnI):Prop:=Sx.AObj.cells [V.d (wX a),V.d (D.v (.int .i64 a.c.id)),V.d (vC a),V.d (wV a),V.d (wR a),V.d (D.v (.int .i64 a.c.qty)),V.d (wP a),V.d (vE a),V.d (wQ a)] 35=Sx.AObj.cells [V.d (wX a),V.d (D.v (.int .i64 a.c.id)),V.d (vC a),V.d (wV a),V.d (wR a),V.d (D.v (.int .i64 a.c.qty)),V.d (wP a),V.d (vE a),V.d (wQ a)] 35∧yH a.m 0=yH a.m 0∧yH a.m 2=yH a.m 2∧yH a.m 3=yH a.m 3∧yH a.m 4=yH a.m 4
def zAc (a:Bool→Prop) (b:SoI) (c:EnI):Prop:=∃(d:Bool),d=false∧a d∧zE b.s=zE b.s∧zCb c
def zAa (a:Bool→Prop) (b:Bool) (c:RunI) (d:SoI) (e:EnI):Prop:=a b∧zE c.s=zE d.s∧zCb e
def zAq (a:Int→Prop) (b:Int) (c:EnI):Prop:=a b∧Sx.AObj.cells [V.d (wX c),V.d (D.v (.int .i64 c.c.id)),V.d (vC c),V.d (wV c),V.d (wR c),V.d (D.v (.int .i64 c.c.qty)),V.d (wP c),V.d (vE c),V.d (wQ c)] 35=Sx.AObj.cells [V.d (wX c),V.d (D.v (.int .i64 c.c.id)),V.d (vC c),V.d (wV c),V.d (wR c),V.d (D.v (.int .i64 c.c.qty)),V.d (wP c),V.d (vE c),V.d (wQ c)] 35∧yH c.m 0=yH c.m 0∧yH c.m 1=yH c.m 1∧yH c.m 2=yH c.m 2∧yH c.m 3=yH c.m 3∧yH c.m 4=yH c.m 4
def sN (a:Mkt) (b:EnI) (c:RjI):Prop:=zY a.used=zY b.m.used∧AObj.fro 1 (iE a.p.months)=yH b.m 3∧AObj.fro 1 (iE a.p.settle)=yH b.m 4∧List.map x7 b.X.R=[x7 (Rep.mk 2 c.c.id 0 0 0 0 0 c.why)]∧a.Rep b.p b.X.B b.X.U
def p8 (a:EnI) (b:SoI) (c:RjI):Prop:=True∧∀(d:Unit),True→∃(e:Mkt),sb e.p.code=sb a.m.p.code∧e.p.tick=a.m.p.tick∧e.p.low=a.m.p.low∧e.p.high=a.m.p.high∧e.p.wide=a.m.p.wide∧e.p.rule=a.m.p.rule∧e.p.top=a.m.p.top∧e.p.least=a.m.p.least∧e.p.part=a.m.p.part∧zE e.s=zE b.s∧sN e a c
def zBf (a:EnI) (b:RjI):Prop:=True∧∀(c:Unit),True→∃(d:Mkt),sb d.p.code=sb a.m.p.code∧d.p.tick=a.m.p.tick∧d.p.low=a.m.p.low∧d.p.high=a.m.p.high∧d.p.wide=a.m.p.wide∧d.p.rule=a.m.p.rule∧d.p.top=a.m.p.top∧d.p.least=a.m.p.least∧d.p.part=a.m.p.part∧zE d.s=yH a.m 1∧sN d a b
def rN (a:EnI) (b:EnI):Prop:=∀(c:Mkt),c.Rep a.p a.X.B a.X.U→∃(d:Mkt),sb d.p.code=sb c.p.code∧d.p.tick=c.p.tick∧d.p.low=c.p.low∧d.p.high=c.p.high∧d.p.wide=c.p.wide∧d.p.rule=c.p.rule∧d.p.top=c.p.top∧d.p.least=c.p.least∧d.p.part=c.p.part∧zE d.s=zE c.s∧zY d.used=zY c.used∧AObj.fro 1 (iE d.p.months)=AObj.fro 1 (iE c.p.months)∧AObj.fro 1 (iE d.p.settle)=AObj.fro 1 (iE c.p.settle)∧List.map x7 b.X.R=List.map x7 a.X.R∧d.Rep b.p b.X.B b.X.U
def aR (a:EnI):Prop:=(a.m.Rep a.p a.B a.U∧BOk a.p a.B)∧((0≤a.c.inst∧a.c.inst<(↑a.B.length:Int))∧(1≤a.c.qty∧a.c.qty≤1000000)∧(a.c.side=1∨a.c.side=2))∧a.p.price a.c.inst a.c.price=0∧a.X=u6 a.p a.B a.U a.c
def zVc (i:EnI):Prop:=
 ∃(a:b9),sb a.p.code=sb i.m.p.code∧iE a.p.months=iE i.m.p.months∧a.p.tick=i.m.p.tick∧a.p.low=i.m.p.low∧a.p.high=i.m.p.high∧a.p.wide=i.m.p.wide∧a.p.rule=i.m.p.rule∧a.p.top=i.m.p.top∧a.p.least=i.m.p.least∧a.p.part=i.m.p.part∧iE a.p.settle=iE i.m.p.settle∧a.a=i.c.inst∧a.b=i.c.price∧(uZ a)∧∀(b:Unit),True→cnd (a.p.price a.a a.b !=0) (∃(c:RjI),c.c.kind=i.c.kind∧c.c.id=i.c.id∧c.c.inst=i.c.inst∧c.c.side=i.c.side∧c.c.price=i.c.price∧c.c.qty=i.c.qty∧c.c.least=i.c.least∧c.c.time=i.c.time∧sb c.c.label=sb i.c.label∧c.why=a.p.price a.a a.b∧zBf i c) (∃(c:Int),∃(d:Int→Prop),cnd (i.c.time==3) (∃(e:Int),e=i.c.qty∧zAq d e i) (∃(e:Int),e=i.c.least∧zAq d e i)∧∀(e:Int),d e→(∀(f:Value×List D),f∈zY i.m.used→like (Value.int IntKind.i64 i.c.id) f.fst=true)∧∃(f:Bool),∃(g:Bool),(vK (Value.int IntKind.i64 i.c.id) (zY i.m.used)=some [D.v (.bool g)]∧f=true∨vK (Value.int IntKind.i64 i.c.id) (zY i.m.used)=none∧[D.v (.bool g)]=[D.v (.bool false)]∧f=false)∧cnd g (∃(h:RjI),h.c.kind=i.c.kind∧h.c.id=i.c.id∧h.c.inst=i.c.inst∧h.c.side=i.c.side∧h.c.price=i.c.price∧h.c.qty=i.c.qty∧h.c.least=i.c.least∧h.c.time=i.c.time∧sb h.c.label=sb i.c.label∧h.why=25∧zBf i h) (∃(h:SoI),zE h.s=yH i.m 1∧(h.s.Rep h.p h.B∧h.B.length≤1000)∧∀(j:Unit),True→cnd (decide ((↑(zGc h.B):Int)≥250)) (∃(k:RjI),k.c.kind=i.c.kind∧k.c.id=i.c.id∧k.c.inst=i.c.inst∧k.c.side=i.c.side∧k.c.price=i.c.price∧k.c.qty=i.c.qty∧k.c.least=i.c.least∧k.c.time=i.c.time∧sb k.c.label=sb i.c.label∧k.why=13∧p8 i h k) (∃(k:Bool),∃(l:Bool→Prop),cnd (decide (e>0)) (∃(m:RunI),m.inst=i.c.inst∧zA m.sd=i.c.side∧m.price=i.c.price∧m.q=i.c.qty∧zE m.s=zE h.s∧(qS m)∧∀(n:Unit),True→∃(p:Bool),p=decide (m.q-m.r.left<e)∧zAa l p m h i) (zAc l h i)∧∀(m:Bool),l m→cnd m (∃(n:RjI),n.c.kind=i.c.kind∧n.c.id=i.c.id∧n.c.inst=i.c.inst∧n.c.side=i.c.side∧n.c.price=i.c.price∧n.c.qty=i.c.qty∧n.c.least=i.c.least∧n.c.time=i.c.time∧sb n.c.label=sb i.c.label∧n.why=28∧p8 i h n) (∃(n:Bool),∃(p:Bool→Prop),cnd (i.c.time==1) (∃(q:RunI),q.inst=i.c.inst∧zA q.sd=i.c.side∧q.price=i.c.price∧q.q=i.c.qty∧zE q.s=zE h.s∧(qS q)∧∀(r:Unit),True→∃(s:Bool),s=fP q.p q.B q.inst q.sd q.price q.q∧zAa p s q h i) (zAc p h i)∧∀(q:Bool),p q→cnd q (∃(r:RjI),r.c.kind=i.c.kind∧r.c.id=i.c.id∧r.c.inst=i.c.inst∧r.c.side=i.c.side∧r.c.price=i.c.price∧r.c.qty=i.c.qty∧r.c.least=i.c.least∧r.c.time=i.c.time∧sb r.c.label=sb i.c.label∧r.why=23∧p8 i h r) (∃(r:EnI),r.c.kind=i.c.kind∧r.c.id=i.c.id∧r.c.inst=i.c.inst∧r.c.side=i.c.side∧r.c.price=i.c.price∧r.c.qty=i.c.qty∧r.c.least=i.c.least∧r.c.time=i.c.time∧sb r.c.label=sb i.c.label∧sb r.m.p.code=sb i.m.p.code∧r.m.p.tick=i.m.p.tick∧r.m.p.low=i.m.p.low∧r.m.p.high=i.m.p.high∧r.m.p.wide=i.m.p.wide∧r.m.p.rule=i.m.p.rule∧r.m.p.top=i.m.p.top∧r.m.p.least=i.m.p.least∧r.m.p.part=i.m.p.part∧zE r.m.s=zE h.s∧zY r.m.used=zY i.m.used∧AObj.fro 1 (iE r.m.p.months)=yH i.m 3∧AObj.fro 1 (iE r.m.p.settle)=yH i.m 4∧(aR r)∧rN r i)))))
theorem yEe (hG:GOk Tryz.prog ([(72,priceC),(39,rejC),(45,countC16),(29,scouldC),(73,stuckC),(74,enterC)])) (h:∀(i:EnI),orderC.cnd i→zVc i):orderC.ok Tryz.prog 40:=okw mixed hG 0 (fun _=>yKv) (fun _=>[]) [] Tryz.func40 h
def yAl (i:CaI):Prop:=
 ∃(i_1:StI),i_1.id=i.id∧i_1.q=i.o.qty∧zE i_1.s=yH i.m 1∧(i_1.s.Rep i_1.p i_1.B∧i_1.B.length≤1000)∧∀(o:MSt),o.Rep i_1.p (yT i_1.B i_1.id i_1.q).fst→∃(o_1:Mkt),sb o_1.p.code=sb i.m.p.code∧o_1.p.tick=i.m.p.tick∧o_1.p.low=i.m.p.low∧o_1.p.high=i.m.p.high∧o_1.p.wide=i.m.p.wide∧o_1.p.rule=i.m.p.rule∧o_1.p.top=i.m.p.top∧o_1.p.least=i.m.p.least∧o_1.p.part=i.m.p.part∧zE o_1.s=zE o∧zY o_1.used=zY i.m.used∧AObj.fro 1 (iE o_1.p.months)=yH i.m 3∧AObj.fro 1 (iE o_1.p.settle)=yH i.m 4∧List.map x7 i.X.R=[[D.v (.int .i64 4),D.v (.int .i64 i.id),D.v (.int .i64 i.inst),D.v (.int .i64 i.o.side),D.v (.int .i64 i.o.price),D.v (.int .i64 i.o.qty),D.v (.int .i64 0),D.v (.int .i64 0)]]∧o_1.Rep i.p i.X.B i.X.U
theorem z4b (hG:GOk Tryz.prog ([(76,stakeC)])) (h:∀(i:CaI),cancelC.cnd i→yAl i):cancelC.ok Tryz.prog 43:=okw mixed hG 0 (fun _=>[]) (fun _=>[]) [] Tryz.func43 h
def zXa (i:CaI):Prop:=
 ∃(a:StI),a.id=i.id∧a.q=i.q∧zE a.s=yH i.m 1∧(a.s.Rep a.p a.B∧a.B.length≤1000)∧∀(b:MSt),b.Rep a.p (yT a.B a.id a.q).fst→∃(c:Mkt),sb c.p.code=sb i.m.p.code∧c.p.tick=i.m.p.tick∧c.p.low=i.m.p.low∧c.p.high=i.m.p.high∧c.p.wide=i.m.p.wide∧c.p.rule=i.m.p.rule∧c.p.top=i.m.p.top∧c.p.least=i.m.p.least∧c.p.part=i.m.p.part∧zE c.s=zE b∧zY c.used=zY i.m.used∧AObj.fro 1 (iE c.p.months)=yH i.m 3∧AObj.fro 1 (iE c.p.settle)=yH i.m 4∧List.map x7 i.X.R=[[D.v (.int .i64 5),D.v (.int .i64 i.id),D.v (.int .i64 i.inst),D.v (.int .i64 i.o.side),D.v (.int .i64 i.o.price),D.v (.int .i64 i.q),D.v (.int .i64 (IntKind.i64.wrap (i.o.qty-i.q))),D.v (.int .i64 0)]]∧c.Rep i.p i.X.B i.X.U
theorem z8m (hG:GOk Tryz.prog ([(76,stakeC)])) (h:∀(i:CaI),reduceC.cnd i→zXa i):reduceC.ok Tryz.prog 44:=okw mixed hG 0 (fun _=>[]) (fun _=>[]) [] Tryz.func44 h
def aW (a:Mkt) (b:zUz) (c:RjI):Prop:=zY a.used=zY b.m.used∧AObj.fro 1 (iE a.p.months)=yH b.m 3∧AObj.fro 1 (iE a.p.settle)=yH b.m 4∧List.map x7 b.X.R=[x7 (Rep.mk 2 c.c.id 0 0 0 0 0 c.why)]∧a.Rep b.p b.X.B b.X.U
def tD (a:zUz):Prop:=∃(b:MSt),zE b=yH a.m 1∧(uP b)∧∀(c:Unit),True→∃(d:StI),d.id=a.c.id∧d.q=a.o.qty∧zE d.s=zE b∧(d.s.Rep d.p d.B∧d.B.length≤1000)∧∀(e:MSt),e.Rep d.p (yT d.B d.id d.q).fst→∃(f:RunI),f.inst=a.inst∧zA f.sd=a.o.side∧f.price=a.c.price∧f.q=a.c.qty∧zE f.s=zE e∧(qS f)∧∀(g:Unit),True→cnd (fP f.p f.B f.inst f.sd f.price f.q) (∃(h:RjI),h.c.kind=a.c.kind∧h.c.id=a.c.id∧h.c.inst=a.c.inst∧h.c.side=a.c.side∧h.c.price=a.c.price∧h.c.qty=a.c.qty∧h.c.least=a.c.least∧h.c.time=a.c.time∧sb h.c.label=sb a.c.label∧h.why=23∧True∧∀(j:Unit),True→∃(k:Mkt),sb k.p.code=sb a.m.p.code∧k.p.tick=a.m.p.tick∧k.p.low=a.m.p.low∧k.p.high=a.m.p.high∧k.p.wide=a.m.p.wide∧k.p.rule=a.m.p.rule∧k.p.top=a.m.p.top∧k.p.least=a.m.p.least∧k.p.part=a.m.p.part∧zE k.s=zE b∧aW k a h) (∃(h:CaI),h.id=a.c.id∧h.inst=a.inst∧h.o.id=a.o.id∧h.o.side=a.o.side∧h.o.price=a.o.price∧h.o.qty=a.o.qty∧h.o.top=a.o.top∧sb h.m.p.code=sb a.m.p.code∧h.m.p.tick=a.m.p.tick∧h.m.p.low=a.m.p.low∧h.m.p.high=a.m.p.high∧h.m.p.wide=a.m.p.wide∧h.m.p.rule=a.m.p.rule∧h.m.p.top=a.m.p.top∧h.m.p.least=a.m.p.least∧h.m.p.part=a.m.p.part∧zE h.m.s=zE b∧zY h.m.used=zY a.m.used∧AObj.fro 1 (iE h.m.p.months)=yH a.m 3∧AObj.fro 1 (iE h.m.p.settle)=yH a.m 4∧((h.m.Rep h.p h.B h.U∧BOk h.p h.B)∧h.X=cP h.B h.U h.id h.inst h.o)∧∀(j:Mkt),j.Rep h.p h.X.B h.X.U→∃(k:EnI),k.c.kind=1∧k.c.id=a.c.id∧k.c.inst=a.inst∧k.c.side=a.o.side∧k.c.price=a.c.price∧k.c.qty=a.c.qty∧k.c.least=0∧k.c.time=1∧sb k.c.label=ByteArray.mk #[]∧sb k.m.p.code=sb j.p.code∧k.m.p.tick=j.p.tick∧k.m.p.low=j.p.low∧k.m.p.high=j.p.high∧k.m.p.wide=j.p.wide∧k.m.p.rule=j.p.rule∧k.m.p.top=j.p.top∧k.m.p.least=j.p.least∧k.m.p.part=j.p.part∧zE k.m.s=zE j.s∧zY k.m.used=zY j.used∧AObj.fro 1 (iE k.m.p.months)=AObj.fro 1 (iE j.p.months)∧AObj.fro 1 (iE k.m.p.settle)=AObj.fro 1 (iE j.p.settle)∧(aR k)∧∀(l:Mkt),l.Rep k.p k.X.B k.X.U→((List.map x7 h.X.R).length+(List.map x7 k.X.R).length)*(64:Nat)≤(70368744177664:Nat)∧∃(m:Mkt),sb m.p.code=sb l.p.code∧m.p.tick=l.p.tick∧m.p.low=l.p.low∧m.p.high=l.p.high∧m.p.wide=l.p.wide∧m.p.rule=l.p.rule∧m.p.top=l.p.top∧m.p.least=l.p.least∧m.p.part=l.p.part∧zE m.s=zE l.s∧zY m.used=zY l.used∧AObj.fro 1 (iE m.p.months)=AObj.fro 1 (iE l.p.months)∧AObj.fro 1 (iE m.p.settle)=AObj.fro 1 (iE l.p.settle)∧List.map x7 a.X.R=List.map x7 h.X.R++List.map x7 k.X.R∧m.Rep a.p a.X.B a.X.U)
def fU (a:CaI):Prop:=(a.m.Rep a.p a.B a.U∧BOk a.p a.B)∧((-9223372036854775808)≤a.o.qty-a.q∧a.o.qty-a.q≤9223372036854775807)∧a.X=tZ a.B a.U a.id a.q a.inst a.o
def zEt (i:zUz):Prop:=
 ∃(a:b9),sb a.p.code=sb i.m.p.code∧iE a.p.months=iE i.m.p.months∧a.p.tick=i.m.p.tick∧a.p.low=i.m.p.low∧a.p.high=i.m.p.high∧a.p.wide=i.m.p.wide∧a.p.rule=i.m.p.rule∧a.p.top=i.m.p.top∧a.p.least=i.m.p.least∧a.p.part=i.m.p.part∧iE a.p.settle=iE i.m.p.settle∧a.a=i.inst∧a.b=i.c.price∧(uZ a)∧∀(b:Unit),True→cnd (a.p.price a.a a.b !=0) (∃(c:RjI),c.c.kind=i.c.kind∧c.c.id=i.c.id∧c.c.inst=i.c.inst∧c.c.side=i.c.side∧c.c.price=i.c.price∧c.c.qty=i.c.qty∧c.c.least=i.c.least∧c.c.time=i.c.time∧sb c.c.label=sb i.c.label∧c.why=a.p.price a.a a.b∧True∧∀(d:Unit),True→∃(e:Mkt),sb e.p.code=sb i.m.p.code∧e.p.tick=i.m.p.tick∧e.p.low=i.m.p.low∧e.p.high=i.m.p.high∧e.p.wide=i.m.p.wide∧e.p.rule=i.m.p.rule∧e.p.top=i.m.p.top∧e.p.least=i.m.p.least∧e.p.part=i.m.p.part∧zE e.s=yH i.m 1∧aW e i c) (cnd (i.c.price==i.o.price) (cnd (decide (i.c.qty≤i.o.qty)) (∃(c:CaI),c.id=i.c.id∧c.q=IntKind.i64.wrap (i.o.qty-i.c.qty)∧c.inst=i.inst∧c.o.id=i.o.id∧c.o.side=i.o.side∧c.o.price=i.o.price∧c.o.qty=i.o.qty∧c.o.top=i.o.top∧sb c.m.p.code=sb i.m.p.code∧c.m.p.tick=i.m.p.tick∧c.m.p.low=i.m.p.low∧c.m.p.high=i.m.p.high∧c.m.p.wide=i.m.p.wide∧c.m.p.rule=i.m.p.rule∧c.m.p.top=i.m.p.top∧c.m.p.least=i.m.p.least∧c.m.p.part=i.m.p.part∧zE c.m.s=yH i.m 1∧zY c.m.used=zY i.m.used∧AObj.fro 1 (iE c.m.p.months)=yH i.m 3∧AObj.fro 1 (iE c.m.p.settle)=yH i.m 4∧(fU c)∧∀(d:Mkt),d.Rep c.p c.X.B c.X.U→∃(e:Mkt),sb e.p.code=sb d.p.code∧e.p.tick=d.p.tick∧e.p.low=d.p.low∧e.p.high=d.p.high∧e.p.wide=d.p.wide∧e.p.rule=d.p.rule∧e.p.top=d.p.top∧e.p.least=d.p.least∧e.p.part=d.p.part∧zE e.s=zE d.s∧zY e.used=zY d.used∧AObj.fro 1 (iE e.p.months)=AObj.fro 1 (iE d.p.months)∧AObj.fro 1 (iE e.p.settle)=AObj.fro 1 (iE d.p.settle)∧List.map x7 i.X.R=List.map x7 c.X.R∧e.Rep i.p i.X.B i.X.U) (tD i)) (tD i))
theorem z1z (hG:GOk Tryz.prog ([(72,priceC),(39,rejC),(48,copySC),(76,stakeC),(73,stuckC),(43,cancelC),(44,reduceC),(74,enterC)])) (h:∀(i:zUz),replaceC.cnd i→zEt i):replaceC.ok Tryz.prog 42:=okw mixed hG 0 (fun _=>[]) (fun _=>[]) [] Tryz.func42 h
def zMy (a:Mkt) (b:EnI) (c:RjI):Prop:=zY a.used=zY b.m.used∧AObj.fro 1 (iE a.p.months)=AObj.fro 1 (iE b.m.p.months)∧AObj.fro 1 (iE a.p.settle)=AObj.fro 1 (iE b.m.p.settle)∧List.map x7 b.X.R=[x7 (Rep.mk 2 c.c.id 0 0 0 0 0 c.why)]∧a.Rep b.p b.X.B b.X.U
def zUj (a:CaI) (b:EnI):Prop:=∀(c:Mkt),c.Rep a.p a.X.B a.X.U→∃(d:Mkt),sb d.p.code=sb c.p.code∧d.p.tick=c.p.tick∧d.p.low=c.p.low∧d.p.high=c.p.high∧d.p.wide=c.p.wide∧d.p.rule=c.p.rule∧d.p.top=c.p.top∧d.p.least=c.p.least∧d.p.part=c.p.part∧zE d.s=zE c.s∧zY d.used=zY c.used∧AObj.fro 1 (iE d.p.months)=AObj.fro 1 (iE c.p.months)∧AObj.fro 1 (iE d.p.settle)=AObj.fro 1 (iE c.p.settle)∧List.map x7 b.X.R=List.map x7 a.X.R∧d.Rep b.p b.X.B b.X.U
def zWf (a:EnI) (b:StI):Prop:=∃(c:CaI),c.id=a.c.id∧c.inst=(z6 b.B b.id).fst∧c.o.id=(z6 b.B b.id).snd.fst.id∧c.o.side=(z6 b.B b.id).snd.fst.side∧c.o.price=(z6 b.B b.id).snd.fst.price∧c.o.qty=(z6 b.B b.id).snd.fst.qty∧c.o.top=(z6 b.B b.id).snd.fst.top∧sb c.m.p.code=sb a.m.p.code∧c.m.p.tick=a.m.p.tick∧c.m.p.low=a.m.p.low∧c.m.p.high=a.m.p.high∧c.m.p.wide=a.m.p.wide∧c.m.p.rule=a.m.p.rule∧c.m.p.top=a.m.p.top∧c.m.p.least=a.m.p.least∧c.m.p.part=a.m.p.part∧zE c.m.s=zE b.s∧zY c.m.used=zY a.m.used∧AObj.fro 1 (iE c.m.p.months)=AObj.fro 1 (iE a.m.p.months)∧AObj.fro 1 (iE c.m.p.settle)=AObj.fro 1 (iE a.m.p.settle)∧((c.m.Rep c.p c.B c.U∧BOk c.p c.B)∧c.X=cP c.B c.U c.id c.inst c.o)∧zUj c a
def z6p (a:EnI):Prop:=∃(b:StI),b.id=a.c.id∧zE b.s=zE a.m.s∧(b.s.Rep b.p b.B∧b.B.length≤1000)∧∀(c:Unit),True→cnd (!(z6 b.B b.id).snd.snd) (∃(d:RjI),d.c.kind=a.c.kind∧d.c.id=a.c.id∧d.c.inst=a.c.inst∧d.c.side=a.c.side∧d.c.price=a.c.price∧d.c.qty=a.c.qty∧d.c.least=a.c.least∧d.c.time=a.c.time∧sb d.c.label=sb a.c.label∧d.why=26∧True∧∀(e:Unit),True→∃(f:Mkt),sb f.p.code=sb a.m.p.code∧f.p.tick=a.m.p.tick∧f.p.low=a.m.p.low∧f.p.high=a.m.p.high∧f.p.wide=a.m.p.wide∧f.p.rule=a.m.p.rule∧f.p.top=a.m.p.top∧f.p.least=a.m.p.least∧f.p.part=a.m.p.part∧zE f.s=zE b.s∧zMy f a d) (cnd (a.c.kind==4) (∃(d:zUz),d.c.kind=a.c.kind∧d.c.id=a.c.id∧d.c.inst=a.c.inst∧d.c.side=a.c.side∧d.c.price=a.c.price∧d.c.qty=a.c.qty∧d.c.least=a.c.least∧d.c.time=a.c.time∧sb d.c.label=sb a.c.label∧d.inst=(z6 b.B b.id).fst∧d.o.id=(z6 b.B b.id).snd.fst.id∧d.o.side=(z6 b.B b.id).snd.fst.side∧d.o.price=(z6 b.B b.id).snd.fst.price∧d.o.qty=(z6 b.B b.id).snd.fst.qty∧d.o.top=(z6 b.B b.id).snd.fst.top∧sb d.m.p.code=sb a.m.p.code∧d.m.p.tick=a.m.p.tick∧d.m.p.low=a.m.p.low∧d.m.p.high=a.m.p.high∧d.m.p.wide=a.m.p.wide∧d.m.p.rule=a.m.p.rule∧d.m.p.top=a.m.p.top∧d.m.p.least=a.m.p.least∧d.m.p.part=a.m.p.part∧zE d.m.s=zE b.s∧zY d.m.used=zY a.m.used∧AObj.fro 1 (iE d.m.p.months)=AObj.fro 1 (iE a.m.p.months)∧AObj.fro 1 (iE d.m.p.settle)=AObj.fro 1 (iE a.m.p.settle)∧(d.m.Rep d.p d.B d.U∧BOk d.p d.B∧z6 d.B d.c.id=(d.inst,d.o,true)∧(1≤d.c.qty∧d.c.qty≤1000000)∧d.X=fC d.p d.B d.U d.c d.inst d.o)∧∀(e:Mkt),e.Rep d.p d.X.B d.X.U→∃(f:Mkt),sb f.p.code=sb e.p.code∧f.p.tick=e.p.tick∧f.p.low=e.p.low∧f.p.high=e.p.high∧f.p.wide=e.p.wide∧f.p.rule=e.p.rule∧f.p.top=e.p.top∧f.p.least=e.p.least∧f.p.part=e.p.part∧zE f.s=zE e.s∧zY f.used=zY e.used∧AObj.fro 1 (iE f.p.months)=AObj.fro 1 (iE e.p.months)∧AObj.fro 1 (iE f.p.settle)=AObj.fro 1 (iE e.p.settle)∧List.map x7 a.X.R=List.map x7 d.X.R∧f.Rep a.p a.X.B a.X.U) (cnd (a.c.kind==2) (zWf a b) (cnd (decide (a.c.qty≥(z6 b.B b.id).snd.fst.qty)) (zWf a b) (∃(d:CaI),d.id=a.c.id∧d.q=a.c.qty∧d.inst=(z6 b.B b.id).fst∧d.o.id=(z6 b.B b.id).snd.fst.id∧d.o.side=(z6 b.B b.id).snd.fst.side∧d.o.price=(z6 b.B b.id).snd.fst.price∧d.o.qty=(z6 b.B b.id).snd.fst.qty∧d.o.top=(z6 b.B b.id).snd.fst.top∧sb d.m.p.code=sb a.m.p.code∧d.m.p.tick=a.m.p.tick∧d.m.p.low=a.m.p.low∧d.m.p.high=a.m.p.high∧d.m.p.wide=a.m.p.wide∧d.m.p.rule=a.m.p.rule∧d.m.p.top=a.m.p.top∧d.m.p.least=a.m.p.least∧d.m.p.part=a.m.p.part∧zE d.m.s=zE b.s∧zY d.m.used=zY a.m.used∧AObj.fro 1 (iE d.m.p.months)=AObj.fro 1 (iE a.m.p.months)∧AObj.fro 1 (iE d.m.p.settle)=AObj.fro 1 (iE a.m.p.settle)∧(fU d)∧zUj d a))))
def Vdo (i:EnI):Prop:=
 ∃(a:Cmd),a.kind=i.c.kind∧a.id=i.c.id∧a.inst=i.c.inst∧a.side=i.c.side∧a.price=i.c.price∧a.qty=i.c.qty∧a.least=i.c.least∧a.time=i.c.time∧sb a.label=sb i.c.label∧a.label.length≤140737488355328∧∀(b:Unit),True→cnd (a.right !=0) (∃(c:RjI),c.c.kind=i.c.kind∧c.c.id=i.c.id∧c.c.inst=i.c.inst∧c.c.side=i.c.side∧c.c.price=i.c.price∧c.c.qty=i.c.qty∧c.c.least=i.c.least∧c.c.time=i.c.time∧sb c.c.label=sb i.c.label∧c.why=a.right∧True∧∀(d:Unit),True→∃(e:Mkt),sb e.p.code=sb i.m.p.code∧e.p.tick=i.m.p.tick∧e.p.low=i.m.p.low∧e.p.high=i.m.p.high∧e.p.wide=i.m.p.wide∧e.p.rule=i.m.p.rule∧e.p.top=i.m.p.top∧e.p.least=i.m.p.least∧e.p.part=i.m.p.part∧zE e.s=zE i.m.s∧zMy e i c) (cnd (i.c.kind==1) (∃(c:EnI),c.c.kind=i.c.kind∧c.c.id=i.c.id∧c.c.inst=i.c.inst∧c.c.side=i.c.side∧c.c.price=i.c.price∧c.c.qty=i.c.qty∧c.c.least=i.c.least∧c.c.time=i.c.time∧sb c.c.label=sb i.c.label∧sb c.m.p.code=sb i.m.p.code∧c.m.p.tick=i.m.p.tick∧c.m.p.low=i.m.p.low∧c.m.p.high=i.m.p.high∧c.m.p.wide=i.m.p.wide∧c.m.p.rule=i.m.p.rule∧c.m.p.top=i.m.p.top∧c.m.p.least=i.m.p.least∧c.m.p.part=i.m.p.part∧zE c.m.s=zE i.m.s∧zY c.m.used=zY i.m.used∧AObj.fro 1 (iE c.m.p.months)=AObj.fro 1 (iE i.m.p.months)∧AObj.fro 1 (iE c.m.p.settle)=AObj.fro 1 (iE i.m.p.settle)∧((c.m.Rep c.p c.B c.U∧BOk c.p c.B)∧c.c.right=0∧c.c.kind=1∧c.X=mM c.p c.B c.U c.c)∧rN c i) ((z6p i)∧i.c.id=i.c.id∧True∧z6p i))
theorem yPf (hG:GOk Tryz.prog ([(38,cmdRtC),(39,rejC),(41,sfindC),(40,orderC),(42,replaceC),(43,cancelC),(44,reduceC)])) (h:∀(i:EnI),doC.cnd i→Vdo i):doC.ok Tryz.prog 13:=okw mixed hG 0 (fun _=>[]) (fun _=>[]) [0] Tryz.func13 h
def yBo (i:MfI):Prop:=
 ∃(i_1:SoI),zE i_1.s=zE i.m.s∧(i_1.s.Rep i_1.p i_1.B∧i_1.B.length≤1000)∧∀(o:Unit),True→∃(o:Unit),(↑(zGc i.B):Int)=(↑(zGc i_1.B):Int)∧sb i.m.p.code=sb i.m.p.code∧i.m.p.tick=i.m.p.tick∧i.m.p.low=i.m.p.low∧i.m.p.high=i.m.p.high∧i.m.p.wide=i.m.p.wide∧i.m.p.rule=i.m.p.rule∧i.m.p.top=i.m.p.top∧i.m.p.least=i.m.p.least∧i.m.p.part=i.m.p.part∧zE i.m.s=zE i_1.s∧zY i.m.used=zY i.m.used∧AObj.fro 1 (iE i.m.p.months)=AObj.fro 1 (iE i.m.p.months)∧AObj.fro 1 (iE i.m.p.settle)=AObj.fro 1 (iE i.m.p.settle)∧True
theorem z3r (hG:GOk Tryz.prog ([(45,countC16)])) (h:∀(i:MfI),mcountC.cnd i→yBo i):mcountC.ok Tryz.prog 19:=okw mixed hG 0 (fun _=>[]) (fun _=>[]) [0] Tryz.func19 h
open Go Cv Go.Proofs
theorem bW (p:Prd) (B:List (List zD)) (U:List Int) (c:Cmd):u6 p B U c=⟨if(qE p B c.inst (decide (c.side=2)) c.price c.qty).left≠0∧c.time=1 then(zCd p (qE p B c.inst (decide (c.side=2)) c.price c.qty).B c.inst c.id c.side c.price (qE p B c.inst (decide (c.side=2)) c.price c.qty).left).1 else(qE p B c.inst (decide (c.side=2)) c.price c.qty).B,lM U c.id,
 (⟨1,c.id,c.inst,c.side,c.price,c.qty,c.qty,0⟩::aO p c (qE p B c.inst (decide (c.side=2)) c.price c.qty).steps c.qty)++if(qE p B c.inst (decide (c.side=2)) c.price c.qty).left≠0∧c.time≠1 then[⟨4,c.id,c.inst,c.side,c.price,(qE p B c.inst (decide (c.side=2)) c.price c.qty).left,0,0⟩]else[]⟩:=by
 rw[u6]
theorem zKv {p:Prd} {B:List (List zD)} (h:BWf p B) (U:List Int) (c:Cmd):BOk p (u6 p B U c).B:=by
 have:=(dR (inst:=c.inst) (sd:=decide (c.side=2)) (price:=c.price) _ c.qty B (Nat.le_refl _) h).1.ok
 rw[bW]
 dsimp only
 split
 ·exact this.add _ _ _ _ _
 ·exact this
theorem z1n {p:Prd} {B:List (List zD)} (h:BWf p B) (U:List Int) (c:Cmd):BOk p (mM p B U c).B:=by
 rw[mM]
 split
 ·exact h.ok
 split
 ·exact h.ok
 split
 ·exact h.ok
 split
 ·exact h.ok
 split
 ·exact h.ok
 exact zKv h U c
theorem yHu {p:Prd} {B:List (List zD)} (h:BWf p B) (U:List Int) (c:Cmd):BOk p (doF p B U c).B:=by
 rw[doF]
 split
 ·exact h.ok
 split
 ·exact z1n h U c
 split
 ·exact h.ok
 split
 ·rw[fC]
  split
  ·exact h.ok
  split
  ·exact h.ok.take _ _
  split
  ·exact h.ok
  exact zKv (h.take _ _) U _
 split
 ·exact h.ok.take _ _
 ·exact h.ok.take _ _
def Acc (B:List (List zD)) (U:List Int):Prop:=∀L∈B,∀o∈L,o.id∈U
theorem use_mem {U:List Int} {id k:Int}:k∈lM U id↔k∈U∨k=id:=by
 rw[lM]
 split
 ·rename_i h
  constructor
  ·exact .inl
  ·rintro(h2|rfl)
   ·exact h2
   ·exact h
 ·simp
theorem Acc.mono {B:List (List zD)} {U U':List Int} (h:Acc B U) (hu:∀k∈U,k∈U'):Acc B U':=fun L hL o ho=>hu _ (h L hL o ho)
theorem Acc.take {B:List (List zD)} {U:List Int} (h:Acc B U) (id q:Int):Acc (yT B id q).1 U:=by
 rw[yT]
 split
 ·exact h
 ·rename_i k hk
  dsimp only
  obtain⟨L0,hL0,_⟩:=xW hk
  intro L hL o ho
  rcases List.mem_or_eq_of_mem_set hL with hL|rfl
  ·exact h L hL o ho
  ·rw[zI hL0]at ho
   obtain⟨o',ho',_,_,e⟩:=eF ho
   rw[e]
   exact h L0 (List.mem_of_getElem? hL0) o' ho'
theorem Acc.takes {U:List Int}:∀{fs:List wO} {B:List (List zD)},Acc B U→Acc (xF B fs) U
 |[],B,h=>h
 |f::fs,B,h=>Acc.takes (fs:=fs) (h.take f.id f.qty)
theorem Acc.run {p:Prd} {inst:Int} {sd:Bool} {price:Int} {U:List Int}:∀(m:Nat) (q:Int) (B:List (List zD)),q.toNat≤m→Acc B U→Acc (qE p B inst sd price q).B U
 |m,q,B,hm,h=>by
  by_cases hq:q≤0
  ·rw[jB (.inl hq)];exact h
  cases hs:jK p B inst sd price q with
  |none=>rw[jB (.inr hs)];exact h
  |some x=>
   obtain⟨t,C⟩:=x
   have hC:Acc C U:=by
    rw[jK]at hs
    dsimp only at hs
    split at hs
    ·split at hs
     ·cases hs;exact h.takes.takes
     ·cases hs;exact h.takes
    ·cases hs
   have hq2:=pF (by omega) hs
   cases m with
   |zero=>omega
   |succ m=>
   rw[fL (by omega) hs]
   exact Acc.run m (q-t.qty) C (by omega) hC
theorem Acc.add {p:Prd} {B:List (List zD)} {U:List Int} (h:Acc B U) (inst id s price q:Int):Acc (zCd p B inst id s price q).1 (lM U id):=by
 have h':Acc B (lM U id):=h.mono fun k hk=>use_mem.2 (.inl hk)
 rw[zCd]
 split
 ·exact h'
 split
 ·exact h'
 split
 ·exact h'
 split
 ·exact h'
 rename_i c1 _ _ _
 obtain⟨L0,hL0⟩:=yA (l:=B) (i:=inst.toNat) (by omega)
 have hm:=h L0 (List.mem_of_getElem? hL0)
 intro L hL o ho
 rcases List.mem_or_eq_of_mem_set hL with hL|rfl
 ·exact h' L hL o ho
 ·rw[zI hL0,eL]at ho
  split at ho
  ·exact use_mem.2 (.inl (hm o ho))
  split at ho
  ·exact use_mem.2 (.inl (hm o ho))
  split at ho
  ·exact use_mem.2 (.inl (hm o ho))
  rcases List.mem_cons.1 ((zPs L0 s id price q).mem_iff.1 (List.mem_map_of_mem (f:=(·.id)) ho))with e|hm2
  ·exact use_mem.2 (.inr e)
  ·obtain⟨o',ho',e⟩:=List.mem_map.1 hm2
   exact use_mem.2 (.inl (e▸hm o' ho'))
theorem Acc.enter {p:Prd} {B:List (List zD)} {U:List Int} (h:Acc B U) (c:Cmd):Acc (u6 p B U c).B (u6 p B U c).U:=by
 have hr:=Acc.run (p:=p) (inst:=c.inst) (sd:=decide (c.side=2)) (price:=c.price) _ c.qty B (Nat.le_refl _) h
 rw[bW]
 dsimp only
 split
 ·exact hr.add _ _ _ _ _
 ·exact hr.mono fun k hk=>use_mem.2 (.inl hk)
structure DoU (p:Prd) (B:List (List zD)) (U:List Int) (c:Cmd) (X:MkX):Prop where
 acc:Acc X.B X.U
 fst:∃r l,X.R=r::l∧(c.right=0→c.kind=1→p.price c.inst c.price=0→(r.why=25↔c.id∈U))∧(∀k,k∈X.U↔k∈U∨(c.kind=1∧r.kind=1∧k=c.id))
open Go Cv Go.Proofs
def Two (L:List zD):Prop:=L=kM L 1++kM L 2
open Go Cv Go.Proofs
end Sx
