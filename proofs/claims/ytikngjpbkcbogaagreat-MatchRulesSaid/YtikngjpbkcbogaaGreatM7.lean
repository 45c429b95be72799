/- Texts of ours, one behind the other: a walk that the kernel reckons, and contracts of functions. No condition. -/
import Derived.Test.YtikngjpbkcbogaaGreatM6
namespace Sx
set_option linter.unusedVariables false
set_option linter.unusedSimpArgs false
set_option maxRecDepth 100000
open Go Cv Go.Proofs
def kR (l:List Nat) (t:Int):Int:=match l with
 |[]=>t
 |k::_=>k
def xZ:List Nat→Int→Int
 |[],p=>p
 |k::l,_=>xZ l k
structure zCs (s:Slot) (n k:Nat) (p t:Int):Prop where
 used:s.used=true
 no:s.n=k
 queue:s.queue=n
 ahead:s.ahead=p
 back:s.back=t
 q1:0≤s.qty
 q2:s.qty≤1000000
def seg (sl:List Slot) (n:Nat):Int→List Nat→Int→Prop
 |_,[],_=>True
 |p,k::l,t=>(∃s,sl[k]? =some s∧zCs s n k p (kR l t))∧seg sl n k l t
theorem m4 (l1 l2:List Nat) (t:Int):kR (l1++l2) t=kR l1 (kR l2 t):=by cases l1<;>rfl
theorem vI:∀(l1 l2:List Nat) (p:Int),xZ (l1++l2) p=xZ l2 (xZ l1 p)
 |[],l2,p=>rfl
 |k::l1,l2,p=>vI l1 l2 k
theorem dJ {sl:List Slot} {n:Nat}:∀{l1 l2:List Nat} {p t:Int},seg sl n p (l1++l2) t↔seg sl n p l1 (kR l2 t)∧seg sl n (xZ l1 p) l2 t
 |[],l2,p,t=>by simp[seg,xZ]
 |k::l1,l2,p,t=>by
  rw[List.cons_append,seg,seg,m4,dJ,xZ,and_assoc]
theorem zNa {sl:List Slot} {n k:Nat}:∀{l:List Nat} {p t:Int},seg sl n p l t→k∈l→∃s p' t',sl[k]? =some s∧zCs s n k p' t'
 |j::l,p,t,h,hk=>by
  rcases List.mem_cons.1 hk with rfl|hk
  ·obtain⟨⟨s,h1,h2⟩,_⟩:=h
   exact⟨s,_,_,h1,h2⟩
  ·exact zNa h.2 hk
theorem kJ {sl sl':List Slot} {n:Nat}:∀{l:List Nat} {p t:Int},(∀k∈l,sl'[k]? =sl[k]?)→seg sl n p l t→seg sl' n p l t
 |[],p,t,_,h=>h
 |k::l,p,t,e,⟨⟨s,h1,h2⟩,h3⟩=>⟨⟨s,by rw[e k List.mem_cons_self];exact h1,h2⟩,kJ (fun j hj=>e j (List.mem_cons_of_mem _ hj)) h3⟩
theorem wN {α:Type} {l:List α} {f:α→α} {i j:Nat} (h:i≠j):(l.modify i f)[j]? =l[j]? :=by rw[List.getElem?_modify];cases l[j]? <;>simp[h]
theorem fQ {α:Type} {l:List α} {f:α→α} {i:Nat} {x:α} (h:l[i]? =some x):(l.modify i f)[i]? =some (f x):=by rw[List.getElem?_modify,h];simp
theorem kW {α:Type} {l:List α} {x:α} {i j:Nat} (h:i≠j):(l.set i x)[j]? =l[j]? :=by rw[List.getElem?_set,if_neg h]
theorem j5 {α:Type} {l:List α} {x:α} {i:Nat} (h:i<l.length):(l.set i x)[i]? =some x:=by rw[List.getElem?_set,if_pos rfl,if_pos h]
theorem vC {α:Type} {Q:List α} {n m:Nat} {x y:α} (h:(Q.set n x)[m]? =some y):(m=n∧y=x)∨(m≠n∧Q[m]? =some y):=by
 by_cases e:n=m
 ·subst e
  have hn:n<Q.length:=by
   have:=(List.getElem?_eq_some_iff.1 h).1
   simpa using this
  rw[j5 hn]at h
  cases h
  exact .inl ⟨rfl,rfl⟩
 ·rw[kW e]at h
  exact .inr ⟨fun c=>e c.symm,h⟩
theorem zEb {sl:List Slot} {n k:Nat} {l:List Nat} {p t:Int} (t':Int) (hk:k∉l) (h:seg sl n p (l++[k]) t):seg (sl.modify k fun s=>{s with back:=t'}) n p (l++[k]) t':=by
 rw[dJ]at h ⊢
 obtain⟨h1,⟨s,h2,h3⟩,_⟩:=h
 refine⟨kJ (fun j hj=>wN (fun e=>hk (e▸hj))) h1,⟨_,fQ h2,?_⟩,trivial⟩
 exact⟨h3.used,h3.no,h3.queue,h3.ahead,rfl,h3.q1,h3.q2⟩
theorem zPg {sl:List Slot} {n k:Nat} {l:List Nat} {p t:Int} (p':Int) (hk:k∉l) (h:seg sl n p (k::l) t):seg (sl.modify k fun s=>{s with ahead:=p'}) n p' (k::l) t:=by
 obtain⟨⟨s,h1,h2⟩,h3⟩:=h
 refine⟨⟨_,fQ h1,?_⟩,kJ (fun j hj=>wN (fun e=>hk (e▸hj))) h3⟩
 exact⟨h2.used,h2.no,h2.queue,rfl,h2.back,h2.q1,h2.q2⟩
theorem kB (l:List Nat):l=[]∨∃(x:List Nat) (j:Nat),l=x++[j]∧∀p:Int,xZ l p=(j:Int):=by
 rcases List.eq_nil_or_concat l with rfl|⟨x,j,rfl⟩
 ·exact .inl rfl
 ·exact .inr ⟨x,j,by simp,fun p=>by rw[List.concat_eq_append,vI];rfl⟩
theorem uO (l:List Nat):xZ l (-1)= -1↔l=[]:=by
 rcases kB l with rfl|⟨x,j,rfl,e⟩
 ·simp[xZ]
 ·rw[e];simp
theorem lW (l:List Nat):kR l (-1)= -1↔l=[]:=by
 cases l with
 |nil=>simp[kR]
 |cons k l=>simp only[kR];constructor
            ·intro h;omega
            ·intro h;cases h
theorem dI {α β:Type} {g:α→β} {f:α→α} (h:∀x,g (f x)=g x):∀(l:List α) (i:Nat),(l.modify i f).map g=l.map g
 |[],i=>by simp
 |a::l,0=>by simp[h]
 |a::l,i+1=>by rw[List.modify_succ_cons,List.map_cons,List.map_cons,dI h l i]
theorem tK:∀(m:Nat) {l:List Nat},l.Nodup→(∀k∈l,k<m)→l.length≤m
 |0,[],_,_=>Nat.le_refl 0
 |0,k::l,_,h=>absurd (h k List.mem_cons_self) (by omega)
 |m+1,l,hn,h=>by
  have:=tK m (hn.erase m) fun k hk=>by
   have:=(hn.mem_erase_iff).1 hk
   have:=h k this.2
   omega
  by_cases hm:m∈l
  ·rw[List.length_erase_of_mem hm]at this;omega
  ·rw[List.erase_of_not_mem hm]at this;omega
theorem zNm {f g:Nat→Int} {k:Nat}:∀{l:List Nat},l.Nodup→k∈l→(∀j∈l,j≠k→g j=f j)→(l.map g).sum=(l.map f).sum+(g k-f k)
 |j::l,hn,hk,h=>by
  have hn:=List.nodup_cons.1 hn
  rw[List.map_cons,List.map_cons,List.sum_cons,List.sum_cons]
  rcases List.mem_cons.1 hk with rfl|hk
  ·have:l.map g=l.map f:=List.map_congr_left fun i hi=>h i (List.mem_cons_of_mem _ hi) (fun e=>hn.1 (e▸hi))
   rw[this];omega
  ·have e:=h j List.mem_cons_self (fun e=>hn.1 (e▸hk))
   rw[zNm hn.2 hk (fun i hi=>h i (List.mem_cons_of_mem _ hi)),e]
   omega
theorem zRx {f:Nat→Int} {m:Int}:∀{l:List Nat},(∀j∈l,0≤f j∧f j≤m)→0≤(l.map f).sum∧(l.map f).sum≤m*l.length
 |[],_=>by simp
 |j::l,h=>by
  have:=h j List.mem_cons_self
  have:=zRx (l:=l) fun i hi=>h i (List.mem_cons_of_mem _ hi)
  rw[List.map_cons,List.sum_cons,List.length_cons,Int.natCast_add,Int.mul_add]
  simp only[Int.natCast_one,Int.mul_one]
  omega
def Arena.qsum (a:Arena) (l:List Nat):Int:=(l.map fun k=>(a.slotAt k).qty).sum
structure Arena.Wf0 (a:Arena) (Q:List (List Nat)):Prop where
 len:a.slots.length=250
 ql:a.queues.length=Q.length
 q:∀(n:Nat) (l:List Nat),Q[n]? =some l→a.queues[n]? =some ⟨kR l (-1),xZ l (-1),a.qsum l,l.length⟩
 sg:∀(n:Nat) (l:List Nat),Q[n]? =some l→seg a.slots n (-1) l (-1)
 nd:∀(n:Nat) (l:List Nat),Q[n]? =some l→l.Nodup
 us:∀(k:Nat) (s:Slot),a.slots[k]? =some s→s.used=true→∃(n:Nat) (l:List Nat),Q[n]? =some l∧k∈l
 free:a.free=((a.slots.map (·.used)).countP (!·):Nat)
structure Arena.Wf (a:Arena) (Q:List (List Nat)):Prop extends a.Wf0 Q where
 pos:∀(n:Nat) (l:List Nat),Q[n]? =some l→∀k∈l,1≤(a.slotAt k).qty
theorem Arena.Wf0.mem {a:Arena} {Q:List (List Nat)} (h:a.Wf0 Q) {n k:Nat} {l:List Nat} (hl:Q[n]? =some l) (hk:k∈l):k<250∧(∃p t,zCs (a.slotAt k) n k p t)∧a.slots[k]? =some (a.slotAt k):=by
 obtain⟨s,p,t,h1,h2⟩:=zNa (h.sg n l hl) hk
 have e:a.slotAt k=s:=zP h1
 have hlt:=(List.getElem?_eq_some_iff.1 h1).1
 rw[h.len]at hlt
 exact⟨hlt,⟨p,t,by rw[e];exact h2⟩,by rw[e];exact h1⟩
theorem Arena.Wf0.one {a:Arena} {Q:List (List Nat)} (h:a.Wf0 Q) {n m k:Nat} {l l':List Nat} (hl:Q[n]? =some l) (hl':Q[m]? =some l') (hk:k∈l) (hk':k∈l'):n=m:=by
 obtain⟨_,⟨_,_,h1⟩,_⟩:=h.mem hl hk
 obtain⟨_,⟨_,_,h2⟩,_⟩:=h.mem hl' hk'
 have:=h1.queue
 have:=h2.queue
 omega
theorem Arena.Wf0.short {a:Arena} {Q:List (List Nat)} (h:a.Wf0 Q) {n:Nat} {l:List Nat} (hl:Q[n]? =some l):l.length≤250:=tK 250 (h.nd n l hl) fun k hk=>(h.mem hl hk).1
theorem v7 {a a':Arena} {l:List Nat} (h:∀k∈l,(a'.slotAt k).qty=(a.slotAt k).qty):a'.qsum l=a.qsum l:=by rw[Arena.qsum,Arena.qsum,List.map_congr_left h]
theorem Arena.Wf0.sum {a:Arena} {Q:List (List Nat)} (h:a.Wf0 Q) {n:Nat} {l:List Nat} (hl:Q[n]? =some l):0≤a.qsum l∧a.qsum l≤250000000:=by
 have:=zRx (f:=fun k=>(a.slotAt k).qty) (m:=1000000) (l:=l) fun j hj=>by
  obtain⟨_,⟨_,_,h1⟩,_⟩:=h.mem hl hj
  exact⟨h1.q1,h1.q2⟩
 have:=h.short hl
 rw[Arena.qsum]
 omega
theorem lV {sl:List Slot} {n:Nat}:∀{l:List Nat} {p:Int},seg sl n p l (-1)→zGr sl (kR l (-1)) l
 |[],p,_=>rfl
 |k::l,p,⟨⟨s,h1,h2⟩,h3⟩=>by
  refine⟨rfl,(List.getElem?_eq_some_iff.1 h1).1,?_⟩
  rw[zP h1,h2.back]
  exact lV h3
theorem Arena.Wf0.ok {a:Arena} {Q:List (List Nat)} (h:a.Wf0 Q):a.okAt:=by
 refine⟨by rw[h.len];decide,fun k s hk hu=> ?_⟩
 obtain⟨n,l,hl,hkl⟩:=h.us k s hk hu
 have hQ:=(List.getElem?_eq_some_iff.1 hl).1
 have hql:=h.ql
 obtain⟨l1,l2,rfl⟩:=List.append_of_mem hkl
 have hsg:=h.sg n _ hl
 have hnd:=h.nd n _ hl
 rw[dJ]at hsg
 obtain⟨_,⟨s',h1,h2⟩,_⟩:=hsg
 rw[hk]at h1;cases h1
 have hq:=h2.queue
 have hd:=List.nodup_append.1 hnd
 have hd2:=List.nodup_cons.1 hd.2.1
 refine⟨⟨by omega,by omega⟩,h2.q2,?_,?_⟩
 ·rw[h2.ahead]
  rcases kB l1 with rfl|⟨x,j,rfl,e⟩
  ·exact .inl rfl
  ·have hj:j∈x++[j]:=by simp
   have hjl:=(h.mem hl (List.mem_append_left _ hj)).1
   rw[e,h.len]
   refine .inr ⟨by omega,by omega,fun e2=> ?_⟩
   have:j=k:=by omega
   exact hd.2.2 j hj k List.mem_cons_self this
 ·rw[h2.back]
  cases l2 with
  |nil=>exact .inl rfl
  |cons j x=>
   have hjl:=(h.mem hl (List.mem_append_right _ (List.mem_cons_of_mem _ List.mem_cons_self))).1
   rw[kR,h.len]
   refine .inr ⟨by omega,by omega,fun e2=> ?_⟩
   have:j=k:=by omega
   exact hd2.1 (this▸List.mem_cons_self)
theorem Arena.Wf0.open {a:Arena} {Q:List (List Nat)} (h:a.Wf0 Q):a.openQ.Wf0 (Q++[[]]):=by
 have g:∀{n:Nat} {l:List Nat},(Q++[[]])[n]? =some l→Q[n]? =some l∨(n=Q.length∧l=[]):=by
  intro n l hl
  rw[List.getElem?_append]at hl
  split at hl
  ·exact .inl hl
  ·rename_i hn
   have:=(List.getElem?_eq_some_iff.1 hl).1
   simp only[List.length_singleton]at this
   have e:n-Q.length=0:=by omega
   rw[e]at hl
   cases hl
   exact .inr ⟨by omega,rfl⟩
 refine⟨h.len,by simp[Arena.openQ,h.ql],fun n l hl=> ?_,fun n l hl=> ?_,fun n l hl=> ?_,fun k s hk hu=> ?_,h.free⟩
 ·rcases g hl with hl|⟨rfl,rfl⟩
  ·show(a.queues++[vR])[n]? =_
   rw[List.getElem?_append_left (by have:=(List.getElem?_eq_some_iff.1 hl).1;have:=h.ql;omega)]
   exact h.q n l hl
  ·show(a.queues++[vR])[_]? =_
   rw[← h.ql,List.getElem?_append_right (Nat.le_refl _),Nat.sub_self]
   rfl
 ·rcases g hl with hl|⟨rfl,rfl⟩
  ·exact h.sg n l hl
  ·trivial
 ·rcases g hl with hl|⟨rfl,rfl⟩
  ·exact h.nd n l hl
  ·exact List.nodup_nil
 ·obtain⟨n,l,hl,hkl⟩:=h.us k s hk hu
  exact⟨n,l,by rw[List.getElem?_append_left (List.getElem?_eq_some_iff.1 hl).1];exact hl,hkl⟩
theorem Arena.Wf.open {a:Arena} {Q:List (List Nat)} (h:a.Wf Q):a.openQ.Wf (Q++[[]]):=by
 refine⟨h.toWf0.open,fun n l hl k hk=> ?_⟩
 rw[List.getElem?_append]at hl
 split at hl
 ·exact h.pos n l hl k hk
 ·have:=(List.getElem?_eq_some_iff.1 hl).1
  simp only[List.length_singleton]at this
  have e:n-Q.length=0:=by omega
  rw[e]at hl
  cases hl
  cases hk
theorem tT {sl sl':List Slot} {n:Nat}:∀{l:List Nat} {p t:Int},(∀k∈l,∀s,sl[k]? =some s→∃s',sl'[k]? =some s'∧s'.used=s.used∧s'.n=s.n∧s'.queue=s.queue∧s'.ahead=s.ahead∧s'.back=s.back∧0≤s'.qty∧s'.qty≤1000000)→seg sl n p l t→seg sl' n p l t
 |[],p,t,_,h=>h
 |k::l,p,t,e,⟨⟨s,h1,h2⟩,h3⟩=>by
  obtain⟨s',q0,q1,q2,q3,q4,q5,q6,q7⟩:=e k List.mem_cons_self s h1
  exact⟨⟨s',q0,⟨q1.trans h2.used,q2.trans h2.no,q3.trans h2.queue,q4.trans h2.ahead,q5.trans h2.back,q6,q7⟩⟩,tT (fun j hj=>e j (List.mem_cons_of_mem _ hj)) h3⟩
theorem zCc (a:Arena) (n:Int) (t:Bool) (j:Nat):(a.topF n t).slotAt j=if a.usedAt n=true∧j=n.toNat then{a.slotAt j with top:=t}else a.slotAt j:=by
 rw[Arena.topF]
 by_cases hu:a.usedAt n=true
 ·rw[if_pos hu]
  by_cases e:j=n.toNat
  ·subst e
   rw[if_pos ⟨hu,rfl⟩]
   have hlt:n.toNat<a.slots.length:=by
    simp only[Arena.usedAt,Bool.and_eq_true,decide_eq_true_eq]at hu
    omega
   show(a.slots.modify n.toNat _).getD n.toNat slot0=_
   obtain⟨s,hs⟩:=z8 hlt
   rw[zP (fQ hs),y9 hs]
  ·rw[if_neg (fun h=>e h.2)]
   show(a.slots.modify n.toNat _).getD j slot0=a.slots.getD j slot0
   rw[List.getD_eq_getElem?_getD,wN (fun h=>e h.symm),List.getD_eq_getElem?_getD]
 ·rw[if_neg hu,if_neg (fun h=>hu h.1)]
theorem Arena.Wf.top {a:Arena} {Q:List (List Nat)} (h:a.Wf Q) (n:Int) (t:Bool):(a.topF n t).Wf Q:=by
 have hq:∀j,((a.topF n t).slotAt j).qty=(a.slotAt j).qty:=by
  intro j
  rw[zCc]
  split<;>rfl
 by_cases hu:a.usedAt n=true
 ·have e:a.topF n t={a with slots:=a.slots.modify n.toNat fun s=>{s with top:=t}}:=by rw[Arena.topF,if_pos hu]
  have hm:∀(k:Nat) (s:Slot),a.slots[k]? =some s→∃s',(a.topF n t).slots[k]? =some s'∧s'.used=s.used∧s'.n=s.n∧s'.queue=s.queue∧s'.ahead=s.ahead∧s'.back=s.back∧s'.qty=s.qty:=by
   intro k s hk
   rw[e]
   by_cases ek:n.toNat=k
   ·subst ek
    exact⟨_,fQ hk,rfl,rfl,rfl,rfl,rfl,rfl⟩
   ·exact⟨s,by rw[wN ek];exact hk,rfl,rfl,rfl,rfl,rfl,rfl⟩
  have hl:(a.topF n t).slots.length=250:=by rw[e];simpa using h.len
  have hmu:(a.topF n t).slots.map (·.used)=a.slots.map (·.used):=by rw[e];exact dI (g:=fun s:Slot=>s.used) (f:=fun s:Slot=>{s with top:=t}) (fun _=>rfl) _ _
  refine⟨⟨hl,by rw[e];exact h.ql,fun m l hm'=> ?_,fun m l hm'=> ?_,h.nd,fun k s hk hs=> ?_,by rw[hmu];rw[e];exact h.free⟩,fun m l hm' k hk=>by rw[hq];exact h.pos m l hm' k hk⟩
  ·rw[v7 fun k _=>hq k]
   rw[e];exact h.q m l hm'
  ·refine tT (fun k hk s hs=> ?_) (h.sg m l hm')
   obtain⟨s',q0,q1,q2,q3,q4,q5,q6⟩:=hm k s hs
   obtain⟨_,⟨_,_,h2⟩,h3⟩:=h.mem hm' hk
   rw[hs]at h3;cases h3
   exact⟨s',q0,q1,q2,q3,q4,q5,by rw[q6];exact h2.q1,by rw[q6];exact h2.q2⟩
  ·have hlt:=(List.getElem?_eq_some_iff.1 hk).1
   rw[hl,← h.len]at hlt
   obtain⟨s0,h0⟩:=z8 hlt
   obtain⟨s',q0,q1,_⟩:=hm k s0 h0
   rw[hk]at q0;cases q0
   exact h.us k s0 h0 (by rw[← q1];exact hs)
 ·have e:a.topF n t=a:=by rw[Arena.topF,if_neg hu]
  rw[e];exact h
theorem eK {sl:List Slot} {k:Nat} {s x:Slot} (hk:sl[k]? =some s):((sl.set k x).map (·.used)).countP (!·)+(if s.used=true then 0 else 1)=(sl.map (·.used)).countP (!·)+(if x.used=true then 0 else 1):=by
 have hlt:=(List.getElem?_eq_some_iff.1 hk).1
 have e:(sl.map (·.used))[k]'(by simpa using hlt)=s.used:=by
  rw[List.getElem_map,(List.getElem?_eq_some_iff.1 hk).2]
 rw[List.map_set,List.countP_set (by simpa using hlt),e]
 have hp:s.used=false→1≤(sl.map (·.used)).countP (!·):=by
  intro h
  apply List.countP_pos_iff.2
  exact⟨s.used,List.mem_map_of_mem (List.mem_of_getElem? hk),by rw[h];rfl⟩
 generalize (sl.map (·.used)).countP (!·)=c at hp ⊢
 cases h1:s.used<;>cases h2:x.used
 all_goals
  simp only[h1,Bool.not_false,Bool.not_true,Bool.false_eq_true,↓reduceIte,if_true,if_false]at hp ⊢
  try have hp:=hp trivial
  omega
theorem zMb {sl:List Slot}:(sl.map (·.used)).countP (!·)≤sl.length:=by
 have:=List.countP_le_length (p:=fun b:Bool=> !b) (l:=sl.map (·.used))
 simpa using this
theorem Arena.Wf0.unused {a:Arena} {Q:List (List Nat)} (h:a.Wf0 Q) (hf:a.free≠0):∃k:Nat,xB a.slots=k∧k<250∧a.slots[k]? =some (a.slotAt k)∧(a.slotAt k).used=false∧∀(n:Nat) (l:List Nat),Q[n]? =some l→k∉l:=by
 have hx:∃s∈a.slots,s.used=false:=by
  have hp:0<(a.slots.map (·.used)).countP (!·):=by have:=h.free;omega
  obtain⟨b,hb,hb2⟩:=List.countP_pos_iff.1 hp
  obtain⟨s,hs,rfl⟩:=List.mem_map.1 hb
  exact⟨s,hs,by simpa using hb2⟩
 obtain⟨s,hs,hu⟩:=hx
 cases hi:a.slots.findIdx? fun s=> !s.used with
 |none=>
  rw[List.findIdx?_eq_none_iff]at hi
  have:=hi s hs
  rw[hu]at this;cases this
 |some k=>
  have hi':=hi
  rw[List.findIdx?_eq_some_iff_getElem]at hi
  obtain⟨hk,hku,_⟩:=hi
  have hk1:a.slots[k]? =some a.slots[k]:=List.getElem?_eq_getElem hk
  have e:=y9 hk1
  rw[← e]at hku
  have hku:(a.slotAt k).used=false:=by simpa using hku
  refine⟨k,by rw[xB,hi'];rfl,by rw[← h.len];exact hk,by rw[e];exact hk1,hku,fun n l hl hkl=> ?_⟩
  obtain⟨_,⟨_,_,h2⟩,_⟩:=h.mem hl hkl
  have:=h2.used
  rw[hku]at this
  cases this
theorem Arena.Wf.put {a:Arena} {Q:List (List Nat)} (h:a.Wf Q) {n:Nat} {l:List Nat} (hl:Q[n]? =some l) (hf:a.free≠0) {id qty:Int} (top:Bool) (hq:1≤qty∧qty≤1000000):
 ∃k:Nat,xB a.slots=k∧k<250∧(a.slotAt k).used=false∧(∀(m:Nat) (l:List Nat),Q[m]? =some l→k∉l)∧(a.put n id qty top).Wf (Q.set n (l++[k]))∧
  (∀j,((a.put n id qty top).slotAt j).ent=if j=k then⟨k,id,qty,top⟩else(a.slotAt j).ent)∧(a.put n id qty top).free=a.free-1:=by
 obtain⟨k,hk,hk2,hk1,hku,hkn⟩:=h.toWf0.unused hf
 have hkl:=hkn n l hl
 have hnQ:=(List.getElem?_eq_some_iff.1 hl).1
 have hqn:=h.q n l hl
 have hnq:a.queues.getD n vR=⟨kR l (-1),xZ l (-1),a.qsum l,l.length⟩:=zP hqn
 have hsum:=h.toWf0.sum hl
 have hsh:=h.toWf0.short hl
 have hlen:=h.len
 have hcl:=zMb (sl:=a.slots)
 have hfree:=h.free
 obtain⟨x,hx⟩:∃x:Slot,x=⟨true,k,id,qty,top,n,xZ l (-1),-1⟩:=⟨_,rfl⟩
 have hS:(a.put n id qty top).slots=if xZ l (-1)= -1 then a.slots.set k x else(a.slots.set k x).modify (xZ l (-1)).toNat fun s=>{s with back:=k}:=by
  simp only[Arena.put,Int.toNat_natCast,hnq,hk,hx]
 have hQs:(a.put n id qty top).queues=a.queues.set n ⟨kR (l++[k]) (-1),k,a.qsum l+qty,(l.length:Int)+1⟩:=by
  simp only[Arena.put,Int.toNat_natCast,hnq,hk]
  rw[w64 (by omega),w64 (by omega)]
  congr 2
  by_cases e:l=[]
  ·subst e;rfl
  ·rw[if_neg (fun c=>e ((uO l).1 c)),m4]
   cases l with
   |nil=>exact absurd rfl e
   |cons y ys=>rfl
 have hF:(a.put n id qty top).free=a.free-1:=by
  simp only[Arena.put]
  rw[w64 (by omega)]
 have hset:(a.slots.set k x)[k]? =some x:=j5 (by omega)
 have hlo:xZ l (-1)= -1∨∃(y:List Nat) (j:Nat),l=y++[j]∧xZ l (-1)=(j:Int):=by
  rcases kB l with e|⟨y,j,e,e2⟩
  ·exact .inl ((uO l).2 e)
  ·exact .inr ⟨y,j,e,e2 _⟩
 have hoth:∀j,j≠k→(xZ l (-1)≠(j:Int))→(a.put n id qty top).slots[j]? =a.slots[j]? :=by
  intro j hj hj2
  rw[hS]
  split
  ·exact kW (fun e=>hj e.symm)
  ·rcases hlo with e|⟨y,i,_,e⟩
   ·contradiction
   ·rw[wN (by omega),kW (fun e=>hj e.symm)]
 have hself:(a.put n id qty top).slots[k]? =some x:=by
  rw[hS]
  split
  ·exact hset
  ·rcases hlo with e|⟨y,i,e1,e⟩
   ·contradiction
   ·have:i≠k:=by rintro rfl;exact hkl (by rw[e1];simp)
    rw[wN (by omega)];exact hset
 have hlike:∀j,j≠k→((a.put n id qty top).slotAt j).ent=(a.slotAt j).ent∧((a.put n id qty top).slotAt j).used=(a.slotAt j).used∧((a.put n id qty top).slotAt j).qty=(a.slotAt j).qty:=by
  intro j hj
  by_cases c:xZ l (-1)=(j:Int)
  ·have e:(a.put n id qty top).slots=(a.slots.set k x).modify j fun s=>{s with back:=k}:=by
    rw[hS,if_neg (by omega),c];rfl
   by_cases hjl:j<a.slots.length
   ·obtain⟨s,hs⟩:=z8 hjl
    have h1:(a.put n id qty top).slots[j]? =some {s with back:=k}:=by rw[e];exact fQ (by rw[kW (fun e=>hj e.symm)];exact hs)
    rw[y9 h1,y9 hs];exact⟨rfl,rfl,rfl⟩
   ·have h1:(a.put n id qty top).slots[j]? =none:=List.getElem?_eq_none (by rw[e];simpa using hjl)
    have h2:a.slots[j]? =none:=List.getElem?_eq_none (by omega)
    rw[Arena.slotAt,Arena.slotAt,List.getD_eq_getElem?_getD,List.getD_eq_getElem?_getD,h1,h2]
    exact⟨rfl,rfl,rfl⟩
  ·have:=hoth j hj c
   rw[Arena.slotAt,Arena.slotAt,List.getD_eq_getElem?_getD,List.getD_eq_getElem?_getD,this]
   exact⟨rfl,rfl,rfl⟩
 have hselfA:(a.put n id qty top).slotAt k=x:=y9 hself
 have hent:∀j,((a.put n id qty top).slotAt j).ent=if j=k then⟨k,id,qty,top⟩else(a.slotAt j).ent:=by
  intro j
  split
  ·rename_i e;rw[e,hselfA,hx];rfl
  ·rename_i e;exact(hlike j e).1
 have gQ:∀{m:Nat} {l':List Nat},(Q.set n (l++[k]))[m]? =some l'→(m=n∧l'=l++[k])∨(m≠n∧Q[m]? =some l'):=by
  intro m l' hm
  exact vC hm
 have hsgn:seg (a.put n id qty top).slots n (-1) (l++[k]) (-1):=by
  rw[dJ]
  refine⟨?_,⟨x,hself,?_⟩,trivial⟩
  ·rcases kB l with e|⟨y,j,e,e2⟩
   ·subst e;trivial
   ·have h0:=h.sg n l hl
    have hnd:=h.nd n l hl
    rw[hS,if_neg (by rw[e2];omega),e2,Int.toNat_natCast]
    rw[e]at h0 hnd hkl ⊢
    have hd:=List.nodup_append.1 hnd
    refine zEb (k:Int) (fun hj=>hd.2.2 j hj j List.mem_cons_self rfl) (t:= -1) ?_
    exact kJ (fun i hi=>kW (fun e=>hkl (e▸hi))) h0
  ·rw[hx]
   exact⟨rfl,rfl,rfl,rfl,rfl,by dsimp only;omega,hq.2⟩
 refine⟨k,hk,hk2,hku,hkn,⟨⟨?_,?_,?_,?_,?_,?_,?_⟩,?_⟩,hent,hF⟩
 ·rw[hS];split<;>simp[hlen]
 ·rw[hQs];simp[h.ql]
 ·intro m l' hm
  rcases gQ hm with⟨rfl,rfl⟩|⟨e,hm⟩
  ·rw[hQs,j5 (by rw[h.ql];exact hnQ),vI]
   have:(a.put m id qty top).qsum (l++[k])=a.qsum l+qty:=by
    rw[Arena.qsum,List.map_append,List.sum_append]
    have e1:l.map (fun k=>((a.put m id qty top).slotAt k).qty)=l.map fun k=>(a.slotAt k).qty:=List.map_congr_left fun j hj=>(hlike j (fun e=>hkl (e▸hj))).2.2
    rw[e1]
    simp only[List.map_cons,List.map_nil,List.sum_cons,List.sum_nil,hselfA]
    rw[hx,Arena.qsum];dsimp only;omega
   rw[this]
   simp[xZ]
  ·rw[hQs,kW (fun c=>e c.symm),h.q m l' hm,v7]
   intro j hj
   exact(hlike j (fun e=>hkn m l' hm (e▸hj))).2.2.symm
 ·intro m l' hm
  rcases gQ hm with⟨rfl,rfl⟩|⟨e,hm⟩
  ·exact hsgn
  ·refine kJ (fun j hj=>hoth j (fun e=>hkn m l' hm (e▸hj)) fun c=> ?_) (h.sg m l' hm)
   rcases hlo with e2|⟨y,i,e1,e2⟩
   ·omega
   ·have:i=j:=by omega
    exact e (h.toWf0.one hm hl hj (by rw[e1];simp[this]))
 ·intro m l' hm
  rcases gQ hm with⟨rfl,rfl⟩|⟨e,hm⟩
  ·refine List.nodup_append.2 ⟨h.nd m l hl,by simp,?_⟩
   rintro i hi j hj rfl
   rw[List.mem_singleton.1 hj]at hi
   exact hkl hi
  ·exact h.nd m l' hm
 ·intro j s hj hs
  by_cases e:j=k
  ·exact⟨n,l++[k],j5 hnQ,by rw[e];simp⟩
  ·have hu:(a.slotAt j).used=true:=by rw[← (hlike j e).2.1,y9 hj];exact hs
   have hjl:j<a.slots.length:=by
    have:=(List.getElem?_eq_some_iff.1 hj).1
    rw[hS]at this
    split at this<;>simpa using this
   obtain⟨s',hs'⟩:=z8 hjl
   rw[y9 hs']at hu
   obtain⟨m,l',hm,hjm⟩:=h.us j s' hs' hu
   by_cases em:m=n
   ·subst em
    rw[hl]at hm;cases hm
    exact⟨m,l++[k],j5 hnQ,List.mem_append_left _ hjm⟩
   ·exact⟨m,l',by rw[kW (fun c=>em c.symm)];exact hm,hjm⟩
 ·have hmu:(a.put n id qty top).slots.map (·.used)=(a.slots.set k x).map (·.used):=by
   rw[hS]
   split
   ·rfl
   ·exact dI (g:=fun s:Slot=>s.used) (f:=fun s:Slot=>{s with back:=k}) (fun _=>rfl) _ _
  have:=eK (x:=x) hk1
  rw[hku,if_neg (by decide),show x.used=true by rw[hx],if_pos rfl]at this
  rw[hmu,hF,hfree]
  omega
 ·intro m l' hm j hj
  rcases gQ hm with⟨rfl,rfl⟩|⟨e,hm⟩
  ·rcases List.mem_append.1 hj with hj|hj
   ·rw[(hlike j (fun e=>hkl (e▸hj))).2.2];exact h.pos m l hl j hj
   ·rw[List.mem_singleton.1 hj,hselfA,hx];exact hq.1
  ·rw[(hlike j (fun e=>hkn m l' hm (e▸hj))).2.2];exact h.pos m l' hm j hj
open Go Cv Go.Proofs
theorem bX (a:Arena) (k:Nat) (q:Int) (j:Nat) (hk:k<a.slots.length):(a.less k q).slotAt j=if j=k then{a.slotAt j with qty:=(a.slotAt j).qty-q}else a.slotAt j:=by
 split
 ·rename_i e
  subst e
  obtain⟨s,hs⟩:=z8 hk
  rw[y9 hs,y9 (a:=a.less j q) (fQ hs)]
 ·rename_i e
  show(a.slots.modify k _).getD j slot0=a.slots.getD j slot0
  rw[List.getD_eq_getElem?_getD,wN (fun c=>e c.symm),List.getD_eq_getElem?_getD]
theorem Arena.Wf0.less {a:Arena} {Q:List (List Nat)} (h:a.Wf0 Q) {n k:Nat} {l:List Nat} (hl:Q[n]? =some l) (hk:k∈l) {q:Int} (hq:0≤q∧q≤(a.slotAt k).qty):(a.less k q).Wf0 Q:=by
 obtain⟨hk2,⟨p,t,hs⟩,hk1⟩:=h.mem hl hk
 have hkl:k<a.slots.length:=by rw[h.len];exact hk2
 have hqt:(a.slotAt k).queue.toNat=n:=by rw[hs.queue];exact Int.toNat_natCast n
 have hm:∀(j:Nat) (s:Slot),a.slots[j]? =some s→∃s',(a.less k q).slots[j]? =some s'∧s'.used=s.used∧s'.n=s.n∧s'.queue=s.queue∧s'.ahead=s.ahead∧s'.back=s.back:=by
  intro j s hj
  by_cases e:k=j
  ·subst e
   exact⟨_,fQ hj,rfl,rfl,rfl,rfl,rfl⟩
  ·exact⟨s,by rw[show(a.less k q).slots=a.slots.modify k _ from rfl,wN e];exact hj,rfl,rfl,rfl,rfl,rfl⟩
 have hsl:(a.less k q).slots.length=250:=by simpa[Arena.less]using h.len
 have hqs:(a.less k q).queues=a.queues.modify n fun x=>{x with total:=IntKind.i64.wrap (x.total-q)}:=by rw[Arena.less,hqt]
 have hmu:(a.less k q).slots.map (·.used)=a.slots.map (·.used):=dI (g:=fun s:Slot=>s.used) (f:=fun s:Slot=>{s with qty:=s.qty-q}) (fun _=>rfl) _ _
 refine⟨hsl,by rw[hqs];simpa using h.ql,fun m l' hm'=> ?_,fun m l' hm'=> ?_,h.nd,fun j s hj hu=> ?_,by rw[hmu];exact h.free⟩
 ·by_cases e:n=m
  ·subst e
   rw[hl]at hm';cases hm'
   rw[hqs,fQ (h.q n l hl)]
   have hsum:=h.sum hl
   have e2:(a.less k q).qsum l=a.qsum l-q:=by
    rw[Arena.qsum,Arena.qsum,zNm (k:=k) (f:=fun k=>(a.slotAt k).qty) (h.nd n l hl) hk]
    ·rw[bX a k q k hkl,if_pos rfl];dsimp only;omega
    ·intro j _ hj
     rw[bX a k q j hkl,if_neg hj]
   have h1:=hs.q2
   rw[e2]
   dsimp only
   rw[w64 (by omega)]
  ·rw[hqs,wN e,h.q m l' hm',v7]
   intro j hj
   have:j≠k:=fun c=>e (h.one hl hm' hk (c▸hj))
   rw[bX a k q j hkl,if_neg this]
 ·refine tT (fun j hj s hs'=> ?_) (h.sg m l' hm')
  obtain⟨s',q0,q1,q2,q3,q4,q5⟩:=hm j s hs'
  refine⟨s',q0,q1,q2,q3,q4,q5,?_⟩
  have e:=y9 q0
  rw[← e,bX a k q j hkl]
  obtain⟨_,⟨_,_,h2⟩,h3⟩:=h.mem hm' hj
  have:=h2.q1
  have:=h2.q2
  split
  ·rename_i c
   subst c
   dsimp only
   omega
  ·omega
 ·have hlt:=(List.getElem?_eq_some_iff.1 hj).1
  rw[hsl,← h.len]at hlt
  obtain⟨s0,h0⟩:=z8 hlt
  obtain⟨s',q0,q1,_⟩:=hm j s0 h0
  rw[hj]at q0;cases q0
  exact h.us j s0 h0 (by rw[← q1];exact hu)
theorem Arena.Wf0.drop {a:Arena} {Q:List (List Nat)} (h:a.Wf0 Q) {n k:Nat} {l1 l2:List Nat} (hl:Q[n]? =some (l1++k::l2)) (h0:(a.slotAt k).qty=0):
 (a.dropF k).Wf0 (Q.set n (l1++l2))∧(∀j,j≠k→((a.dropF k).slotAt j).ent=(a.slotAt j).ent∧((a.dropF k).slotAt j).used=(a.slotAt j).used∧((a.dropF k).slotAt j).qty=(a.slotAt j).qty)∧(a.dropF k).slotAt k=slot0∧(a.dropF k).free=a.free+1:=by
 have hkm:k∈l1++k::l2:=by simp
 have hnQ:=(List.getElem?_eq_some_iff.1 hl).1
 obtain⟨hk2,_,hk1⟩:=h.mem hl hkm
 have hlen:=h.len
 have hkl:k<a.slots.length:=by omega
 have hsg:=h.sg n _ hl
 have hnd:=h.nd n _ hl
 have hd:=List.nodup_append.1 hnd
 have hd2:=List.nodup_cons.1 hd.2.1
 have k1:k∉l1:=fun hk=>hd.2.2 k hk k List.mem_cons_self rfl
 have k2:k∉l2:=hd2.1
 rw[dJ]at hsg
 obtain⟨g1,⟨s,hs1,hs⟩,g2⟩:=hsg
 have es:=y9 hs1
 have eqn:(a.queues.getD s.queue.toNat vR)=⟨kR (l1++k::l2) (-1),xZ (l1++k::l2) (-1),a.qsum (l1++k::l2),(l1++k::l2).length⟩:=by
  rw[hs.queue,Int.toNat_natCast];exact zP (h.q n _ hl)
 have hfree:=h.free
 have hcl:=zMb (sl:=a.slots)
 have hsh:=h.short hl
 obtain⟨sl1,hsl1⟩:∃sl1,sl1=if xZ l1 (-1)= -1 then a.slots else a.slots.modify (xZ l1 (-1)).toNat fun x=>{x with back:=kR l2 (-1)}:=⟨_,rfl⟩
 obtain⟨sl2,hsl2⟩:∃sl2,sl2=if kR l2 (-1)= -1 then sl1 else sl1.modify (kR l2 (-1)).toNat fun x=>{x with ahead:=xZ l1 (-1)}:=⟨_,rfl⟩
 have hS:(a.dropF k).slots=sl2.set k slot0:=by
  simp only[Arena.dropF,es,hs.ahead,hs.back]
  rw[hsl2,hsl1]
 have hQs:(a.dropF k).queues=a.queues.set n ⟨kR (l1++l2) (-1),xZ (l1++l2) (-1),a.qsum (l1++l2),(l1++l2).length⟩:=by
  simp only[Arena.dropF,es,eqn,hs.ahead,hs.back]
  rw[hs.queue,Int.toNat_natCast]
  have el:(l1++k::l2).length=(l1++l2).length+1:=by simp;omega
  have eq:a.qsum (l1++k::l2)=a.qsum (l1++l2):=by
   rw[Arena.qsum,Arena.qsum,List.map_append,List.sum_append,List.map_append,List.sum_append,List.map_cons,List.sum_cons,h0]
   omega
  rw[el]at hsh ⊢
  rw[w64 (by omega),eq]
  congr 2
  ·cases l1 with
   |nil=>simp[xZ,m4,kR]
   |cons y ys=>
    rw[if_neg (by rw[uO];simp)]
    rfl
  ·rcases kB l2 with e|⟨x,j,e,e2⟩
   ·subst e;simp[kR,vI,xZ]
   ·have:l2≠[]:=by rw[e];simp
    rw[if_neg (fun c=>this ((lW l2).1 c)),vI,vI,xZ,e2,e2]
  ·simp
 have hF:(a.dropF k).free=a.free+1:=by
  simp only[Arena.dropF]
  rw[w64 (by omega)]
 have hc1:xZ l1 (-1)= -1∨∃(y:List Nat) (j:Nat),l1=y++[j]∧xZ l1 (-1)=(j:Int):=by
  rcases kB l1 with e|⟨y,j,e,e2⟩
  ·exact .inl ((uO l1).2 e)
  ·exact .inr ⟨y,j,e,e2 _⟩
 have hc2:kR l2 (-1)= -1∨∃(y:List Nat) (j:Nat),l2=j::y∧kR l2 (-1)=(j:Int):=by
  cases l2 with
  |nil=>exact .inl rfl
  |cons j y=>exact .inr ⟨y,j,rfl,rfl⟩
 have hoth:∀j,j∉l1→j∉l2→j≠k→(a.dropF k).slots[j]? =a.slots[j]? :=by
  intro j h1 h2 h3
  rw[hS,kW (fun e=>h3 e.symm),hsl2]
  have e1:sl1[j]? =a.slots[j]? :=by
   rw[hsl1]
   split
   ·rfl
   ·rcases hc1 with e|⟨y,i,e,e2⟩
    ·contradiction
    ·rw[wN]
     rw[e2,Int.toNat_natCast]
     rintro rfl
     exact h1 (by rw[e];simp)
  split
  ·exact e1
  ·rcases hc2 with e|⟨y,i,e,e2⟩
   ·contradiction
   ·rw[wN,e1]
    rw[e2,Int.toNat_natCast]
    rintro rfl
    exact h2 (by rw[e];simp)
 have hlike:∀j,j≠k→((a.dropF k).slotAt j).ent=(a.slotAt j).ent∧((a.dropF k).slotAt j).used=(a.slotAt j).used∧((a.dropF k).slotAt j).qty=(a.slotAt j).qty:=by
  intro j hj
  have m1:∀(sl:List Slot) (i:Nat) (b:Int),((sl.modify i fun x=>{x with back:=b}).getD j slot0).ent=(sl.getD j slot0).ent∧((sl.modify i fun x=>{x with back:=b}).getD j slot0).used=(sl.getD j slot0).used∧((sl.modify i fun x=>{x with back:=b}).getD j slot0).qty=(sl.getD j slot0).qty:=by
   intro sl i b
   rw[List.getD_eq_getElem?_getD,List.getD_eq_getElem?_getD,List.getElem?_modify]
   cases sl[j]? with
   |none=>exact⟨rfl,rfl,rfl⟩
   |some s=>by_cases e:i=j<;>simp[e,Slot.ent]
  have m2:∀(sl:List Slot) (i:Nat) (b:Int),((sl.modify i fun x=>{x with ahead:=b}).getD j slot0).ent=(sl.getD j slot0).ent∧((sl.modify i fun x=>{x with ahead:=b}).getD j slot0).used=(sl.getD j slot0).used∧((sl.modify i fun x=>{x with ahead:=b}).getD j slot0).qty=(sl.getD j slot0).qty:=by
   intro sl i b
   rw[List.getD_eq_getElem?_getD,List.getD_eq_getElem?_getD,List.getElem?_modify]
   cases sl[j]? with
   |none=>exact⟨rfl,rfl,rfl⟩
   |some s=>by_cases e:i=j<;>simp[e,Slot.ent]
  have e0:(a.dropF k).slotAt j=sl2.getD j slot0:=by
   rw[Arena.slotAt,hS,List.getD_eq_getElem?_getD,kW (fun e=>hj e.symm),List.getD_eq_getElem?_getD]
  have e1:(sl1.getD j slot0).ent=(a.slotAt j).ent∧(sl1.getD j slot0).used=(a.slotAt j).used∧(sl1.getD j slot0).qty=(a.slotAt j).qty:=by
   rw[hsl1]
   split
   ·exact⟨rfl,rfl,rfl⟩
   ·exact m1 _ _ _
  have e2:(sl2.getD j slot0).ent=(sl1.getD j slot0).ent∧(sl2.getD j slot0).used=(sl1.getD j slot0).used∧(sl2.getD j slot0).qty=(sl1.getD j slot0).qty:=by
   rw[hsl2]
   split
   ·exact⟨rfl,rfl,rfl⟩
   ·exact m2 _ _ _
  rw[e0]
  exact⟨e2.1.trans e1.1,e2.2.1.trans e1.2.1,e2.2.2.trans e1.2.2⟩
 have hl1:sl1.length=250:=by rw[hsl1];split<;>simp[hlen]
 have hl2:sl2.length=250:=by rw[hsl2];split<;>simp[hl1]
 have hself:(a.dropF k).slots[k]? =some slot0:=by rw[hS];exact j5 (by omega)
 have hsgn:seg (a.dropF k).slots n (-1) (l1++l2) (-1):=by
  rw[hS,dJ]
  constructor
  ·--the part ahead
   refine kJ (sl:=sl2) (fun j hj=>kW (fun e=>k1 (e▸hj))) ?_
   have f1:seg sl1 n (-1) l1 (kR l2 (-1)):=by
    rcases kB l1 with e|⟨y,j,e,e2⟩
    ·subst e;trivial
    ·rw[hsl1,if_neg (by rw[e2];omega),e2,Int.toNat_natCast]
     subst e
     have hd3:=List.nodup_append.1 hd.1
     exact zEb _ (fun hj=>hd3.2.2 j hj j List.mem_cons_self rfl) g1
   refine kJ (fun j hj=> ?_) f1
   rw[hsl2]
   split
   ·rfl
   ·rcases hc2 with e|⟨y,i,e,e2⟩
    ·contradiction
    ·refine wN ?_
     rw[e2,Int.toNat_natCast]
     rintro rfl
     exact hd.2.2 i hj i (List.mem_cons_of_mem _ (by rw[e];simp)) rfl
  ·--the part behind
   refine kJ (sl:=sl2) (fun j hj=>kW (fun e=>k2 (e▸hj))) ?_
   have f1:seg sl1 n k l2 (-1):=by
    refine kJ (fun j hj=> ?_) g2
    rw[hsl1]
    split
    ·rfl
    ·rcases hc1 with e|⟨y,i,e,e2⟩
     ·contradiction
     ·refine wN ?_
      rw[e2,Int.toNat_natCast]
      rintro rfl
      exact hd.2.2 i (by rw[e];simp) i (List.mem_cons_of_mem _ hj) rfl
   rcases hc2 with e|⟨y,j,e,e2⟩
   ·rw[(lW l2).1 e];trivial
   ·rw[hsl2,if_neg (by rw[e2];omega),e2,Int.toNat_natCast]
    rw[e]at f1 hd2 ⊢
    exact zPg _ (List.nodup_cons.1 hd2.2).1 f1
 refine⟨⟨?_,?_,?_,?_,?_,?_,?_⟩,hlike,y9 hself,hF⟩
 ·rw[hS,List.length_set];exact hl2
 ·rw[hQs];simp[h.ql]
 ·intro m l' hm
  rcases vC hm with⟨rfl,rfl⟩|⟨e,hm⟩
  ·rw[hQs,j5 (by rw[h.ql];exact hnQ)]
   congr 2
   refine(v7 fun j hj=>(hlike j fun e=> ?_).2.2).symm
   subst e
   rcases List.mem_append.1 hj with hj|hj
   ·exact k1 hj
   ·exact k2 hj
  ·rw[hQs,kW (fun c=>e c.symm),h.q m l' hm]
   congr 2
   refine(v7 fun j hj=>(hlike j fun e2=> ?_).2.2).symm
   subst e2
   exact e (h.one hm hl hj hkm)
 ·intro m l' hm
  rcases vC hm with⟨rfl,rfl⟩|⟨e,hm⟩
  ·exact hsgn
  ·refine kJ (fun j hj=>hoth j ?_ ?_ ?_) (h.sg m l' hm)
   ·exact fun c=>e (h.one hm hl hj (List.mem_append_left _ c))
   ·exact fun c=>e (h.one hm hl hj (List.mem_append_right _ (List.mem_cons_of_mem _ c)))
   ·rintro rfl;exact e (h.one hm hl hj hkm)
 ·intro m l' hm
  rcases vC hm with⟨rfl,rfl⟩|⟨e,hm⟩
  ·refine List.nodup_append.2 ⟨hd.1,hd2.2,fun i hi j hj=>hd.2.2 i hi j (List.mem_cons_of_mem _ hj)⟩
  ·exact h.nd m l' hm
 ·intro j s' hj hu
  have hjk:j≠k:=by
   rintro rfl
   rw[hself]at hj;cases hj;cases hu
  have hu2:(a.slotAt j).used=true:=by rw[← (hlike j hjk).2.1,y9 hj];exact hu
  have hjl:j<a.slots.length:=by
   have:=(List.getElem?_eq_some_iff.1 hj).1
   rw[hS,List.length_set]at this
   omega
  obtain⟨s0,hs0⟩:=z8 hjl
  rw[y9 hs0]at hu2
  obtain⟨m,l',hm,hjm⟩:=h.us j s0 hs0 hu2
  by_cases em:m=n
  ·subst em
   rw[hl]at hm;cases hm
   refine⟨m,_,j5 hnQ,?_⟩
   rcases List.mem_append.1 hjm with hj|hj
   ·exact List.mem_append_left _ hj
   ·rcases List.mem_cons.1 hj with e|hj
    ·exact absurd e hjk
    ·exact List.mem_append_right _ hj
  ·exact⟨m,l',by rw[kW (fun c=>em c.symm)];exact hm,hjm⟩
 ·have hmu:(a.dropF k).slots.map (·.used)=(a.slots.set k slot0).map (·.used):=by
   have e1:sl2.map (·.used)=a.slots.map (·.used):=by
    have f2:sl2.map (·.used)=sl1.map (·.used):=by
     rw[hsl2]
     split
     ·rfl
     ·exact dI (g:=fun s:Slot=>s.used) (f:=fun s:Slot=>{s with ahead:=xZ l1 (-1)}) (fun _=>rfl) _ _
    have f1:sl1.map (·.used)=a.slots.map (·.used):=by
     rw[hsl1]
     split
     ·rfl
     ·exact dI (g:=fun s:Slot=>s.used) (f:=fun s:Slot=>{s with back:=kR l2 (-1)}) (fun _=>rfl) _ _
    rw[f2,f1]
   rw[hS,List.map_set,e1,List.map_set]
  have:=eK (x:=slot0) hs1
  rw[hs.used,if_pos rfl,show slot0.used=false from rfl,if_neg (by decide)]at this
  rw[hmu,hF,hfree]
  omega
theorem Arena.Wf.take {a:Arena} {Q:List (List Nat)} (h:a.Wf Q) {n k:Nat} {l:List Nat} (hl:Q[n]? =some l) (hk:k∈l) {q:Int} (hq:1≤q∧q≤(a.slotAt k).qty):
 (a.takeF k q).2=0∧(∀j,j≠k→((a.takeF k q).1.slotAt j).ent=(a.slotAt j).ent∧((a.takeF k q).1.slotAt j).used=(a.slotAt j).used)∧
   (if(a.slotAt k).qty=q then(a.takeF k q).1.Wf (Q.set n (l.erase k))∧(a.takeF k q).1.slotAt k=slot0∧(a.takeF k q).1.free=a.free+1
    else(a.takeF k q).1.Wf Q∧(a.takeF k q).1.slotAt k={a.slotAt k with qty:=(a.slotAt k).qty-q}∧(a.takeF k q).1.free=a.free):=by
 obtain⟨hk2,⟨p,t,hs⟩,hk1⟩:=h.toWf0.mem hl hk
 have hkl:k<a.slots.length:=by rw[h.len];exact hk2
 have hu:a.usedAt k=true:=by
  simp only[Arena.usedAt,Bool.and_eq_true,decide_eq_true_eq]
  refine⟨by omega,by omega,?_⟩
  rw[Int.toNat_natCast]
  exact hs.used
 have hless:=h.toWf0.less hl hk (q:=q) (by omega)
 have hat:=bX a k q
 rw[Arena.takeF,if_neg (by rw[hu];decide),Int.toNat_natCast,if_neg (by omega)]
 by_cases e:(a.slotAt k).qty=q
 ·rw[if_pos e,if_pos e]
  obtain⟨l1,l2,rfl⟩:=List.append_of_mem hk
  have hnd:=h.nd n _ hl
  have hd:=List.nodup_append.1 hnd
  have k1:k∉l1:=fun hk=>hd.2.2 k hk k List.mem_cons_self rfl
  obtain⟨d1,d2,d3,d4⟩:=hless.drop hl (by rw[hat k hkl,if_pos rfl];dsimp only;omega)
  have ee:(l1++k::l2).erase k=l1++l2:=by rw[List.erase_append_right _ k1,List.erase_cons_head]
  refine⟨rfl,fun j hj=> ?_,?_,d3,d4⟩
  ·have:=d2 j hj
   rw[hat j hkl,if_neg hj]at this
   exact⟨this.1,this.2.1⟩
  ·rw[ee]
   refine⟨d1,fun m l' hm j hj=> ?_⟩
   have hj2:j≠k∧∃l'',Q[m]? =some l''∧j∈l'':=by
    have hd2:=List.nodup_cons.1 hd.2.1
    rcases vC hm with⟨rfl,rfl⟩|⟨e3,hm⟩
    ·refine⟨?_,_,hl,?_⟩
     ·rintro rfl
      rcases List.mem_append.1 hj with hj|hj
      ·exact k1 hj
      ·exact hd2.1 hj
     ·rcases List.mem_append.1 hj with hj|hj
      ·exact List.mem_append_left _ hj
      ·exact List.mem_append_right _ (List.mem_cons_of_mem _ hj)
    ·refine⟨?_,_,hm,hj⟩
     rintro rfl
     exact e3 (h.toWf0.one hm hl hj hk)
   obtain⟨hj3,l'',hm2,hj4⟩:=hj2
   have:=(d2 j hj3).2.2
   rw[hat j hkl,if_neg hj3]at this
   dsimp only
   rw[this]
   exact h.pos m l'' hm2 j hj4
 ·rw[if_neg e,if_neg e]
  refine⟨rfl,fun j hj=> ?_,⟨hless,fun m l' hm j hj=> ?_⟩,?_,rfl⟩
  ·dsimp only
   rw[hat j hkl,if_neg hj];exact⟨rfl,rfl⟩
  ·dsimp only
   rw[hat j hkl]
   split
   ·rename_i c
    subst c
    dsimp only
    omega
   ·exact h.pos m l' hm j hj
  ·dsimp only
   rw[hat k hkl,if_pos rfl]
open Go Cv Go.Proofs
theorem yT {α β:Type} {f g:α→List β}:∀{l:List α},(∀x∈l,f x=g x)→l.flatMap f=l.flatMap g
 |[],_=>rfl
 |x::l,h=>by rw[List.flatMap_cons,List.flatMap_cons,h x List.mem_cons_self,yT fun y hy=>h y (List.mem_cons_of_mem _ hy)]
theorem fM {α β γ:Type} {f:α→List β} {g:β→γ}:∀(l:List α),(l.flatMap f).map g=l.flatMap fun x=>(f x).map g
 |[]=>rfl
 |x::l=>by rw[List.flatMap_cons,List.flatMap_cons,List.map_append,fM l]
theorem zKe {α β:Type} {f:α→List β}:∀{l:List α},(∀x∈l,f x≠[])→l.length≤(l.flatMap f).length
 |[],_=>Nat.le_refl 0
 |x::l,h=>by
  have:=zKe (l:=l) fun y hy=>h y (List.mem_cons_of_mem _ hy)
  have:=List.length_pos_iff.2 (h x List.mem_cons_self)
  rw[List.flatMap_cons,List.length_append,List.length_cons];omega
theorem mL {α:Type} [DecidableEq α]:∀{l m:List α},l.Nodup→(∀x∈l,x∈m)→l.length≤m.length
 |[],_,_,_=>Nat.zero_le _
 |x::l,m,h,hs=>by
  have hd:=List.nodup_cons.1 h
  have hx:=hs x List.mem_cons_self
  have:=mL (l:=l) (m:=m.erase x) hd.2 fun y hy=>by
   have hne:y≠x:=by rintro rfl;exact hd.1 hy
   exact(List.mem_erase_of_ne hne).2 (hs y (List.mem_cons_of_mem _ hy))
  rw[List.length_erase_of_mem hx]at this
  have:=List.length_pos_of_mem hx
  rw[List.length_cons];omega
theorem zOp {l:List Int} (h:l.Nodup) (hr:∀x∈l,0≤x∧x<l.length) {n:Nat} (hn:n<l.length):(n:Int)∈l:=by
 apply Classical.byContradiction
 intro hx
 have hnd:((n:Int)::l).Nodup:=List.nodup_cons.2 ⟨hx,h⟩
 have:=mL (m:=(List.range l.length).map fun k:Nat=>(k:Int)) hnd fun y hy=>by
  rw[List.mem_map]
  rcases List.mem_cons.1 hy with rfl|hy
  ·exact⟨n,List.mem_range.2 hn,rfl⟩
  ·have:=hr y hy
   exact⟨y.toNat,List.mem_range.2 (by omega),by omega⟩
 simp at this
 omega
theorem bN {α β:Type} {l:List (α×β)} (h:(l.map (·.1)).Nodup) {k:α} {x y:β} (hx:(k,x)∈l) (hy:(k,y)∈l):x=y:=by
 induction l with
 |nil=>cases hx
 |cons p l ih=>
  rw[List.map_cons,List.nodup_cons]at h
  rcases List.mem_cons.1 hx with ex|hx<;>rcases List.mem_cons.1 hy with ey|hy
  ·rw[← ex]at ey;exact(Prod.mk.inj ey).2.symm
  ·exact absurd (List.mem_map_of_mem (f:=(·.1)) hy) (by rw[← ex]at h;exact h.1)
  ·exact absurd (List.mem_map_of_mem (f:=(·.1)) hx) (by rw[← ey]at h;exact h.1)
  ·exact ih h.2 hx hy
theorem fJ:∀{l:List (Int×Place)} {k:Int} {x:Place},pget l k=some x→(k,x)∈l
 |[],k,x,h=>by cases h
 |p::l,k,x,h=>by
  rw[pget,List.find?_cons]at h
  by_cases e:p.1=k
  ·rw[decide_eq_true e]at h
   simp only[Option.map_some,Option.some.injEq]at h
   subst h;subst e
   exact List.mem_cons_self
  ·rw[decide_eq_false e]at h
   exact List.mem_cons_of_mem _ (fJ h)
theorem mJ {l:List (Int×Place)} {k:Int} (h:pget l k=none):k∉l.map (·.1):=by
 intro hk
 obtain⟨⟨k',x⟩,hx,rfl⟩:=List.mem_map.1 hk
 rw[pget,Option.map_eq_none_iff,List.find?_eq_none]at h
 have:=h _ hx
 simp at this
theorem zGs:∀{l:List (Int×Place)} {k:Int} {x:Place},k∉l.map (·.1)→h8 k x l=l++[(k,x)]
 |[],k,x,_=>rfl
 |p::l,k,x,h=>by
  rw[List.map_cons,List.mem_cons,not_or]at h
  rw[h8,if_neg h.1,zGs h.2];rfl
def yR (Q:List (List Nat)) (r:y7):List Nat:=Q.getD r.queue.toNat []
def zTu (s p:Int) (e:Ent):zH:=⟨e.id,s,p,e.qty,e.top⟩
def kG (a:Arena) (s p:Int) (k:Nat):zH:=zTu s p (a.slotAt k).ent
def Book.rOrds (b:Book) (Q:List (List Nat)) (s:Int) (r:y7):List zH:=(yR Q r).map (kG b.a s r.price)
def Book.sideL (b:Book) (Q:List (List Nat)) (s:Int):List zH:=(b.rungs s).flatMap (b.rOrds Q s)
def Book.flat (b:Book) (Q:List (List Nat)):List zH:=b.sideL Q 1++b.sideL Q 2
def kQ (a:Arena) (s p:Int) (k:Nat):Int×Place:=((a.slotAt k).id,⟨s,p,k⟩)
def Book.plcs (b:Book) (Q:List (List Nat)) (s:Int):List (Int×Place):=(b.rungs s).flatMap fun r=>(yR Q r).map (kQ b.a s r.price)
def Book.qs (b:Book):List Int:=b.buys.map (·.queue)++b.sells.map (·.queue)++b.spare
structure Book.Core (b:Book) (Q:List (List Nat)) (hole:Int):Prop where
 wf:b.a.Wf Q
 srt:∀s,s=1∨s=2→(b.rungs s).Pairwise fun r r'=>btr s r.price r'.price=true
 rng:∀q∈b.qs,0≤q∧q<Q.length
 nd:b.qs.Nodup
 ql:b.qs.length=Q.length
 ne:∀s,s=1∨s=2→∀r∈b.rungs s,r.queue≠hole→yR Q r≠[]
 sp:∀q∈b.spare,Q.getD q.toNat []=[]
 at_:b.at_.Perm (b.plcs Q 1++b.plcs Q 2)
 ids:((b.flat Q).map (·.id)).Nodup
 qb:Q.length≤250
structure Book.Tops (b:Book) (L:List zH):Prop where
 fl:∀o∈L,o.top=(b.hasF o.side && decide (o.id=b.topI o.side))
 th:∀s,s=1∨s=2→b.hasF s=true→∃o∈L,o.side=s∧o.id=b.topI s
structure Book.Rep (b:Book) (L:List zH):Prop where
 ex:∃Q,b.Core Q (-1)∧b.Tops L∧L=b.flat Q
theorem vN (b:Book) (Q:List (List Nat)) (s:Int):(b.plcs Q s).map (·.1)=(b.sideL Q s).map (·.id):=by
 rw[Book.plcs,Book.sideL,fM,fM]
 refine yT fun r _=> ?_
 rw[Book.rOrds,List.map_map,List.map_map]
 rfl
theorem Book.Core.keysP {b:Book} {Q:List (List Nat)} {h:Int} (c:b.Core Q h):(b.at_.map (·.1)).Perm ((b.flat Q).map (·.id)):=by
 have:=c.at_.map (·.1)
 rw[List.map_append,vN,vN,← List.map_append]at this
 exact this
theorem Book.Core.keys {b:Book} {Q:List (List Nat)} {h:Int} (c:b.Core Q h):(b.at_.map (·.1)).Nodup:=c.keysP.nodup_iff.2 c.ids
theorem Book.Core.len {b:Book} {Q:List (List Nat)} {h:Int} (c:b.Core Q h):b.at_.length=(b.flat Q).length:=by
 have:=c.keysP.length_eq
 simpa using this
theorem Book.Core.plc {b:Book} {Q:List (List Nat)} {h:Int} (c:b.Core Q h) {s:Int} (hs:s=1∨s=2) {r:y7} (hr:r∈b.rungs s) {k:Nat} (hk:k∈yR Q r):((b.a.slotAt k).id,(⟨s,r.price,k⟩:Place))∈b.at_:=by
 refine c.at_.mem_iff.2 ?_
 have hp:kQ b.a s r.price k∈b.plcs Q s:=List.mem_flatMap.2 ⟨r,hr,List.mem_map_of_mem hk⟩
 rcases hs with rfl|rfl
 ·exact List.mem_append_left _ hp
 ·exact List.mem_append_right _ hp
theorem Book.Core.plcI {b:Book} {Q:List (List Nat)} {h:Int} (c:b.Core Q h) {id:Int} {x:Place} (hx:(id,x)∈b.at_):∃(k:Nat) (r:y7),(x.side=1∨x.side=2)∧r∈b.rungs x.side∧k∈yR Q r∧x=⟨x.side,r.price,k⟩∧(b.a.slotAt k).id=id:=by
 have:=c.at_.mem_iff.1 hx
 rcases List.mem_append.1 this with hp|hp
 all_goals
  obtain⟨r,hr,hp⟩:=List.mem_flatMap.1 hp
  obtain⟨k,hk,e⟩:=List.mem_map.1 hp
  simp only[kQ,Prod.mk.injEq]at e
  obtain⟨e1,rfl⟩:=e
  exact⟨k,r,by simp,hr,hk,rfl,e1⟩
theorem zHm {Q:List (List Nat)} {r:y7} (h:0≤r.queue∧r.queue<Q.length):Q[r.queue.toNat]? =some (yR Q r):=by
 obtain⟨l,hl⟩:=z8 (l:=Q) (i:=r.queue.toNat) (by omega)
 rw[yR,zP hl,hl]
theorem jL {b:Book} {s:Int} (hs:s=1∨s=2) {r:y7} (hr:r∈b.rungs s):r.queue∈b.qs:=by
 rcases hs with rfl|rfl
 ·exact List.mem_append_left _ (List.mem_append_left _ (List.mem_map_of_mem (f:=(·.queue)) hr))
 ·exact List.mem_append_left _ (List.mem_append_right _ (List.mem_map_of_mem (f:=(·.queue)) hr))
theorem Book.Core.get {b:Book} {Q:List (List Nat)} {h:Int} (c:b.Core Q h) {s:Int} (hs:s=1∨s=2) {r:y7} (hr:r∈b.rungs s):Q[r.queue.toNat]? =some (yR Q r):=zHm (c.rng _ (jL hs hr))
def clr (L:List zH) (s:Int):List zH:=L.map fun o=>if o.side=s then{o with top:=false}else o
theorem gN (s x:Int):btr s x x=false:=by
 rw[btr];split<;>exact decide_eq_false (by omega)
theorem Book.Core.flag {b:Book} {Q:List (List Nat)} {h:Int} (c:b.Core Q h) {a':Arena} (hw:a'.Wf Q) (hi:∀k,(a'.slotAt k).id=(b.a.slotAt k).id):({b with a:=a'}:Book).Core Q h:=by
 have e1:∀s,({b with a:=a'}:Book).plcs Q s=b.plcs Q s:=by
  intro s
  refine yT fun r _=>List.map_congr_left fun k _=> ?_
  simp only[kQ,hi]
 have e2:((({b with a:=a'}:Book).flat Q).map (·.id))=(b.flat Q).map (·.id):=by
  rw[Book.flat,Book.flat,List.map_append,List.map_append,← vN,← vN,← vN,← vN,e1,e1]
 exact⟨hw,c.srt,c.rng,c.nd,c.ql,c.ne,c.sp,by rw[e1,e1];exact c.at_,by rw[e2];exact c.ids,c.qb⟩
theorem zYj (a:Arena) (n:Int) (t:Bool) (k:Nat):((a.topF n t).slotAt k).id=(a.slotAt k).id:=by
 rw[zCc];split<;>rfl
theorem Book.Core.untop {b:Book} {Q:List (List Nat)} {h:Int} (c:b.Core Q h) (s:Int):(b.untop s).Wf Q∧∀k,((b.untop s).slotAt k).id=(b.a.slotAt k).id:=by
 rw[Book.untop]
 repeat' split
 all_goals first|exact⟨c.wf,fun _=>rfl⟩|exact⟨c.wf.top _ _,fun k=>zYj _ _ _ k⟩
theorem Book.Core.untop_flat {b:Book} {Q:List (List Nat)} {h:Int} (c:b.Core Q h) (ht:b.Tops (b.flat Q)) {s:Int} (hs:s=1∨s=2):({b with a:=b.untop s}:Book).flat Q=clr (b.flat Q) s:=by
 have hfl:∀{s':Int} (hs':s'=1∨s'=2) {r:y7} (hr:r∈b.rungs s') {k:Nat} (hk:k∈yR Q r),(b.a.slotAt k).top=(b.hasF s' && decide ((b.a.slotAt k).id=b.topI s')):=by
  intro s' hs' r hr k hk
  have hm:kG b.a s' r.price k∈b.flat Q:=by
   have:kG b.a s' r.price k∈b.sideL Q s':=List.mem_flatMap.2 ⟨r,hr,List.mem_map_of_mem hk⟩
   rcases hs' with rfl|rfl
   ·exact List.mem_append_left _ this
   ·exact List.mem_append_right _ this
  exact ht.fl _ hm
 have key:∀{s':Int} (hs':s'=1∨s'=2) {r:y7} (hr:r∈b.rungs s') {k:Nat} (hk:k∈yR Q r),((b.untop s).slotAt k).ent=if s'=s then{(b.a.slotAt k).ent with top:=false}else(b.a.slotAt k).ent:=by
  intro s' hs' r hr k hk
  have hplc:=c.plc hs' hr hk
  have htop:=hfl hs' hr hk
  have hno:(b.a.slotAt k).top=false→(b.a.slotAt k).ent=if s'=s then{(b.a.slotAt k).ent with top:=false}else(b.a.slotAt k).ent:=by
   intro e
   split
   ·rw[Slot.ent,e]
   ·rfl
  rw[Book.untop]
  by_cases hh:b.hasF s=true
  ·rw[if_pos hh]
   cases hg:pget b.at_ (b.topI s)with
   |none=>
    dsimp only
    by_cases e:s'=s
    ·subst e
     refine hno ?_
     rw[htop,hh,Bool.true_and]
     refine decide_eq_false fun e2=> ?_
     rw[← e2]at hg
     exact mJ hg (List.mem_map_of_mem (f:=(·.1)) hplc)
    ·rw[if_neg e]
   |some o=>
    dsimp only
    obtain⟨k',r',hs2,hr2,hk2,ho,hid⟩:=c.plcI (fJ hg)
    by_cases es:o.side=s
    ·rw[if_pos es,zCc]
     have hos:o.slot=(k':Int):=by rw[ho]
     by_cases ek:k=k'
     ·subst ek
      have hu:b.a.usedAt o.slot=true:=by
       obtain⟨_,⟨_,_,h2⟩,h3⟩:=c.wf.toWf0.mem (c.get hs' hr) hk
       have hlt:=(List.getElem?_eq_some_iff.1 h3).1
       simp only[Arena.usedAt,Bool.and_eq_true,decide_eq_true_eq,hos,Int.toNat_natCast]
       exact⟨by omega,by omega,h2.used⟩
      rw[if_pos ⟨hu,by rw[hos];rfl⟩]
      have:=c.plc hs2 hr2 hk2
      have e3:=bN c.keys hplc this
      have e4:s'=s:=by
       have:=congrArg Place.side e3
       dsimp only at this
       rw[this,es]
      rw[if_pos e4];rfl
     ·rw[if_neg (fun e=>ek (by have:=e.2;rw[hos]at this;simpa using this))]
      by_cases e:s'=s
      ·subst e
       refine hno ?_
       rw[htop,hh,Bool.true_and]
       refine decide_eq_false fun e2=>ek ?_
       have hp2:=c.plc hs2 hr2 hk2
       rw[hid,← e2]at hp2
       have e3:=bN c.keys hplc hp2
       have:=congrArg Place.slot e3
       dsimp only at this
       omega
      ·rw[if_neg e]
    ·rw[if_neg es]
     by_cases e:s'=s
     ·subst e
      refine hno ?_
      rw[htop,hh,Bool.true_and]
      refine decide_eq_false fun e2=>es ?_
      have hp2:=fJ hg
      rw[← e2]at hp2
      have e3:=bN c.keys hplc hp2
      rw[← e3]
     ·rw[if_neg e]
  ·rw[if_neg hh]
   by_cases e:s'=s
   ·subst e
    refine hno ?_
    have:b.hasF s'=false:=by simpa using hh
    rw[htop,this,Bool.false_and]
   ·rw[if_neg e]
 have side:∀s',s'=1∨s'=2→({b with a:=b.untop s}:Book).sideL Q s'=clr (b.sideL Q s') s:=by
  intro s' hs'
  rw[clr,Book.sideL,Book.sideL,fM]
  refine yT fun r hr=> ?_
  rw[Book.rOrds,Book.rOrds,List.map_map]
  refine List.map_congr_left fun k hk=> ?_
  simp only[kG,Function.comp,key hs' hr hk,zTu]
  by_cases e:s'=s
  ·rw[if_pos e];exact(if_pos e).symm
  ·rw[if_neg e];exact(if_neg e).symm
 rw[Book.flat,side 1 (.inl rfl),side 2 (.inr rfl),Book.flat,clr,clr,clr,List.map_append]
open Go Cv Go.Proofs
def before (s p:Int) (o:zH):Bool:=decide (o.side<s)||(decide (o.side=s) && !btr s p o.price)
def j4 (L:List zH) (s p:Int):Bool:=L.all fun o=> !decide (o.side=s)||btr s p o.price
def zDu (L:List zH) (s id p q:Int):List zH:=
 let L1:=if j4 L s p=true then clr L s else L
 L1.takeWhile (before s p)++⟨id,s,p,q,j4 L s p⟩::L1.dropWhile (before s p)
theorem zSp {α:Type} {f:α→Bool}:∀{A B:List α},(∀x∈A,f x=true)→(∀x∈B,f x=false)→(A++B).takeWhile f=A∧(A++B).dropWhile f=B
 |[],[],_,_=>⟨rfl,rfl⟩
 |[],b::B,_,h=>by
  have:=h b List.mem_cons_self
  simp[this]
 |a::A,B,h,h2=>by
  obtain⟨i1,i2⟩:=zSp (A:=A) (B:=B) (fun x hx=>h x (List.mem_cons_of_mem _ hx)) h2
  have:=h a List.mem_cons_self
  rw[List.cons_append,List.takeWhile_cons,List.dropWhile_cons,this]
  simp[i1,i2]
theorem xJ {b:Book} {Q:List (List Nat)} {s:Int} {r:y7} {o:zH} (h:o∈b.rOrds Q s r):o.side=s∧o.price=r.price:=by
 obtain⟨k,_,rfl⟩:=List.mem_map.1 h
 exact⟨rfl,rfl⟩
theorem vP {b:Book} {Q:List (List Nat)} {s:Int} {o:zH} (h:o∈b.sideL Q s):o.side=s∧∃r∈b.rungs s,o∈b.rOrds Q s r∧o.price=r.price:=by
 obtain⟨r,hr,ho⟩:=List.mem_flatMap.1 h
 exact⟨(xJ ho).1,r,hr,ho,(xJ ho).2⟩
structure Spl (s p:Int) (R1 R2:List y7):Prop where
 a:∀r∈R1,btr s r.price p=true
 b:∀r∈R2,btr s p r.price=true
theorem zFv {s x y:Int} (h:btr s x y=true):btr s y x=false:=by
 rw[btr]at h ⊢
 split at h
 ·rename_i e;rw[if_pos e];have:=of_decide_eq_true h;exact decide_eq_false (by omega)
 ·rename_i e;rw[if_neg e];have:=of_decide_eq_true h;exact decide_eq_false (by omega)
theorem lE {s x y z:Int} (h:btr s x y=true) (h2:btr s y z=true):btr s x z=true:=by
 rw[btr]at h h2 ⊢
 split at h
 ·rename_i e;rw[if_pos e]at h2 ⊢;have:=of_decide_eq_true h;have:=of_decide_eq_true h2;exact decide_eq_true (by omega)
 ·rename_i e;rw[if_neg e]at h2 ⊢;have:=of_decide_eq_true h;have:=of_decide_eq_true h2;exact decide_eq_true (by omega)
theorem zQv {s x y:Int} (h:btr s x y=false) (hne:x≠y):btr s y x=true:=by
 rw[btr]at h ⊢
 split at h
 ·rename_i e;rw[if_pos e];have:=of_decide_eq_false h;exact decide_eq_true (by omega)
 ·rename_i e;rw[if_neg e];have:=of_decide_eq_false h;exact decide_eq_true (by omega)
theorem cL {s p:Int} {l:List y7} (hs:l.Pairwise fun r r'=>btr s r.price r'.price=true):
 (∀r∈l.take (zQ s l p),btr s r.price p=true)∧
 (if xM s l p=true then ∃r,l[zQ s l p]? =some r∧r.price=p∧∀r'∈l.drop (zQ s l p+1),btr s p r'.price=true
  else ∀r'∈l.drop (zQ s l p),btr s p r'.price=true):=by
 have e1:l.take (zQ s l p)=l.takeWhile fun r=>btr s r.price p:=by
  rw[zQ]
  have h:=List.take_left (l₁:=l.takeWhile fun r=>btr s r.price p) (l₂:=l.dropWhile fun r=>btr s r.price p)
  rwa [List.takeWhile_append_dropWhile]at h
 have e2:l.drop (zQ s l p)=l.dropWhile fun r=>btr s r.price p:=by
  have h:=List.take_append_drop (zQ s l p) l
  have h2:=List.takeWhile_append_dropWhile (p:=fun r:y7=>btr s r.price p) (l:=l)
  rw[e1]at h
  exact List.append_cancel_left (h.trans h2.symm)
 refine⟨fun r hr=> ?_,?_⟩
 ·rw[e1]at hr
  exact List.all_eq_true.1 List.all_takeWhile r hr
 have hd:∀r,l[zQ s l p]? =some r→btr s r.price p=false:=by
  intro r hr
  have h0:(l.drop (zQ s l p))[0]? =some r:=by rw[List.getElem?_drop];exact hr
  rw[e2]at h0
  cases hdw:l.dropWhile fun r=>btr s r.price p with
  |nil=>rw[hdw]at h0;cases h0
  |cons x y=>
   rw[hdw]at h0
   cases h0
   have:=List.head?_dropWhile_not (fun r:y7=>btr s r.price p) l
   rw[hdw]at this
   simpa using this
 have hpw:∀r r',l[zQ s l p]? =some r→r'∈l.drop (zQ s l p+1)→btr s r.price r'.price=true:=by
  intro r r' hr hr'
  have hlt:=(List.getElem?_eq_some_iff.1 hr).1
  have:=List.Pairwise.sublist (List.drop_sublist (zQ s l p) l) hs
  rw[List.drop_eq_getElem_cons hlt,List.pairwise_cons,(List.getElem?_eq_some_iff.1 hr).2]at this
  exact this.1 r' hr'
 split
 ·rename_i hb
  rw[xM]at hb
  cases hr:l[zQ s l p]? with
  |none=>rw[hr]at hb;cases hb
  |some r=>
   rw[hr]at hb
   have hp:r.price=p:=of_decide_eq_true hb
   exact⟨r,rfl,hp,fun r' hr'=>by rw[← hp];exact hpw r r' hr hr'⟩
 ·rename_i hb
  intro r' hr'
  by_cases hlt:zQ s l p<l.length
  ·obtain⟨r,hr⟩:=z8 hlt
   rw[xM,hr]at hb
   have hp:¬r.price=p:=fun e=>hb (decide_eq_true e)
   have h1:=zQv (hd r hr) hp
   rw[List.drop_eq_getElem_cons hlt,(List.getElem?_eq_some_iff.1 hr).2]at hr'
   rcases List.mem_cons.1 hr' with rfl|hr'
   ·exact h1
   ·exact lE h1 (hpw r r' hr hr')
  ·rw[List.drop_eq_nil_of_le (by omega)]at hr'
   cases hr'
def Book.setR (b:Book) (s:Int) (l:List y7):Book:=if s=1 then{b with buys:=l}else{b with sells:=l}
theorem zNy {b:Book} {s:Int} (hs:s=1∨s=2):∃rest,b.qs.Perm ((b.rungs s).map (·.queue)++rest)∧∀l,(b.setR s l).qs.Perm (l.map (·.queue)++rest):=by
 rcases hs with rfl|rfl
 ·refine⟨b.sells.map (·.queue)++b.spare,?_,fun l=> ?_⟩
  ·rw[Book.qs,List.append_assoc];exact .refl _
  ·show(l.map (·.queue)++b.sells.map (·.queue)++b.spare).Perm _
   rw[List.append_assoc]
 ·refine⟨b.buys.map (·.queue)++b.spare,?_,fun l=> ?_⟩
  ·rw[Book.qs]
   show(b.buys.map (·.queue)++b.sells.map (·.queue)++b.spare).Perm (b.sells.map (·.queue)++(b.buys.map (·.queue)++b.spare))
   rw[← List.append_assoc];exact List.perm_append_comm.append_right _
  ·show(b.buys.map (·.queue)++l.map (·.queue)++b.spare).Perm (l.map (·.queue)++(b.buys.map (·.queue)++b.spare))
   rw[← List.append_assoc];exact List.perm_append_comm.append_right _
structure Queued (b:Book) (Q:List (List Nat)) (s p:Int) (b':Book) (n:Int) (Q':List (List Nat)) (R1 R2:List y7):Prop where
 core:b'.Core Q' n
 rungs:b'.rungs s=R1++⟨p,n⟩::R2
 spl:Spl s p R1 R2
 flat:b'.flat Q'=b.flat Q
 at_:b'.at_=b.at_
 free:b'.a.free=b.a.free
 tops:∀L,b.Tops L→b'.Tops L
 qty:∀x,b'.hasF x=b.hasF x∧b'.topI x=b.topI x
theorem zRi {α:Type} {l:List α} {x d:α} {n:Nat}:(l++[x]).getD n d=if n=l.length then x else l.getD n d:=by
 rw[List.getD_eq_getElem?_getD,List.getD_eq_getElem?_getD,List.getElem?_append]
 split
 ·rw[if_neg (by omega)]
 ·rename_i h
  by_cases e:n=l.length
  ·rw[if_pos e,e,Nat.sub_self];rfl
  ·rw[if_neg e,List.getElem?_eq_none (show([x]:List α).length≤n-l.length by simp;omega),List.getElem?_eq_none (by omega)]
theorem Book.Core.add {b:Book} {Q:List (List Nat)} (c:b.Core Q (-1)) {s p n:Int} (hs:s=1∨s=2) {R1 R2:List y7} (hr:b.rungs s=R1++R2) (spl:Spl s p R1 R2) {b':Book} {Q':List (List Nat)}
 (hrs:b'.rungs s=R1++⟨p,n⟩::R2) (hro:∀s',s'≠s→s'=1∨s'=2→b'.rungs s'=b.rungs s') (hat:b'.at_=b.at_) (hw:b'.a.Wf Q') (hsl:b'.a.slots=b.a.slots)
 (hQ:∀k,Q'.getD k []=Q.getD k []) (hn:Q.getD n.toNat []=[]) (hrng:∀q∈b'.qs,0≤q∧q<Q'.length) (hnd:b'.qs.Nodup) (hql:b'.qs.length=Q'.length) (hsp:∀q∈b'.spare,Q.getD q.toNat []=[]) (hqb:Q'.length≤250):
 b'.Core Q' n∧b'.flat Q'=b.flat Q:=by
 have hslQ:∀r,yR Q' r=yR Q r:=fun r=>hQ _
 have hsa:∀k,b'.a.slotAt k=b.a.slotAt k:=fun k=>by rw[Arena.slotAt,Arena.slotAt,hsl]
 have hn':yR Q ⟨p,n⟩=[]:=hn
 have hro':∀s' r,b'.rOrds Q' s' r=b.rOrds Q s' r:=by
  intro s' r
  rw[Book.rOrds,Book.rOrds,hslQ]
  exact List.map_congr_left fun k _=>by rw[kG,kG,hsa]
 have hpo:∀s' (r:y7),(yR Q' r).map (kQ b'.a s' r.price)=(yR Q r).map (kQ b.a s' r.price):=by
  intro s' r
  rw[hslQ]
  exact List.map_congr_left fun k _=>by rw[kQ,kQ,hsa]
 have hside:∀s',s'=1∨s'=2→b'.sideL Q' s'=b.sideL Q s':=by
  intro s' hs'
  rw[Book.sideL,Book.sideL]
  by_cases e:s'=s
  ·subst e
   rw[hrs,hr,List.flatMap_append,List.flatMap_append,List.flatMap_cons,yT (fun r _=>hro' s' r),yT (l:=R2) (fun r _=>hro' s' r),hro',Book.rOrds,hn',List.map_nil,List.nil_append]
  ·rw[hro s' e hs'];exact yT fun r _=>hro' s' r
 have hplc:∀s',s'=1∨s'=2→b'.plcs Q' s'=b.plcs Q s':=by
  intro s' hs'
  rw[Book.plcs,Book.plcs]
  by_cases e:s'=s
  ·subst e
   rw[hrs,hr,List.flatMap_append,List.flatMap_append,List.flatMap_cons,yT (fun r _=>hpo s' r),yT (l:=R2) (fun r _=>hpo s' r),hpo,hn',List.map_nil,List.nil_append]
  ·rw[hro s' e hs'];exact yT fun r _=>hpo s' r
 have hflat:b'.flat Q'=b.flat Q:=by rw[Book.flat,Book.flat,hside 1 (.inl rfl),hside 2 (.inr rfl)]
 refine⟨⟨hw,fun s' hs'=> ?_,hrng,hnd,hql,fun s' hs' r hr' hne=> ?_,fun q hq=>by rw[hQ];exact hsp q hq,by rw[hat,hplc 1 (.inl rfl),hplc 2 (.inr rfl)];exact c.at_,by rw[hflat];exact c.ids,hqb⟩,hflat⟩
 ·by_cases e:s'=s
  ·subst e
   have h0:=c.srt s' hs'
   rw[hr,List.pairwise_append]at h0
   rw[hrs,List.pairwise_append,List.pairwise_cons]
   refine⟨h0.1,⟨spl.b,h0.2.1⟩,fun x hx y hy=> ?_⟩
   rcases List.mem_cons.1 hy with rfl|hy
   ·exact spl.a x hx
   ·exact h0.2.2 x hx y hy
  ·rw[hro s' e hs'];exact c.srt s' hs'
 ·rw[hslQ]
  have hold:∀r∈b.rungs s',yR Q r≠[]:=fun r hr=>c.ne s' hs' r hr fun e=>by
   have:=c.rng _ (jL hs' hr)
   omega
  by_cases e:s'=s
  ·subst e
   rw[hrs]at hr'
   rcases List.mem_append.1 hr' with h|h
   ·exact hold r (by rw[hr];exact List.mem_append_left _ h)
   ·rcases List.mem_cons.1 h with rfl|h
    ·exact absurd rfl hne
    ·exact hold r (by rw[hr];exact List.mem_append_right _ h)
  ·rw[hro s' e hs']at hr';exact hold r hr'
theorem rM (b:Book) {s:Int} (hs:s=1∨s=2) (l:List y7):(b.setR s l).rungs s=l∧∀s',s'≠s→s'=1∨s'=2→(b.setR s l).rungs s'=b.rungs s':=by
 rcases hs with rfl|rfl
 ·exact⟨rfl,fun s' h h2=>by rcases h2 with rfl|rfl;exact absurd rfl h;rfl⟩
 ·exact⟨rfl,fun s' h h2=>by rcases h2 with rfl|rfl;rfl;exact absurd rfl h⟩
theorem zQm (b:Book) {s p:Int} (hs:s=1∨s=2):b.queueF s p=if xM s (b.rungs s) p=true then(b,((b.rungs s).getD (zQ s (b.rungs s) p) ⟨0,0⟩).queue)else(({b with a:=b.newQ.2.2,spare:=b.newQ.2.1}:Book).setR s (b.ins s p),b.newQ.1):=by
 rcases hs with rfl|rfl<;>rfl
theorem Book.Core.queue {b:Book} {Q:List (List Nat)} (c:b.Core Q (-1)) (hl:(b.flat Q).length<250) {s:Int} (hs:s=1∨s=2) (p:Int):∃Q' R1 R2,Queued b Q s p (b.queueF s p).1 (b.queueF s p).2 Q' R1 R2:=by
 have hsp:=cL (p:=p) (c.srt s hs)
 rw[zQm b hs]
 by_cases hb:xM s (b.rungs s) p=true
 ·rw[if_pos hb]at hsp ⊢
  obtain⟨h1,r,hr,hp,h2⟩:=hsp
  have hlt:=(List.getElem?_eq_some_iff.1 hr).1
  have er:(⟨p,r.queue⟩:y7)=r:=by rw[← hp]
  have hsplit:b.rungs s=(b.rungs s).take (zQ s (b.rungs s) p)++r::(b.rungs s).drop (zQ s (b.rungs s) p+1):=by
   conv=>lhs;rw[← List.take_append_drop (zQ s (b.rungs s) p) (b.rungs s)]
   rw[List.drop_eq_getElem_cons hlt,(List.getElem?_eq_some_iff.1 hr).2]
  refine⟨Q,_,_,⟨⟨c.wf,c.srt,c.rng,c.nd,c.ql,fun s' hs' r' hr' _=>c.ne s' hs' r' hr' fun e=> ?_,c.sp,c.at_,c.ids,c.qb⟩,?_,⟨h1,h2⟩,rfl,rfl,rfl,fun _ h=>h,fun _=>⟨rfl,rfl⟩⟩⟩
  ·have:=c.rng _ (jL hs' hr');omega
  ·dsimp only
   rw[zP hr,er];exact hsplit
 ·rw[if_neg hb]at hsp ⊢
  obtain⟨h1,h2⟩:=hsp
  have hr:b.rungs s=(b.rungs s).take (zQ s (b.rungs s) p)++(b.rungs s).drop (zQ s (b.rungs s) p):=(List.take_append_drop _ _).symm
  obtain⟨g1,g2⟩:=rM ({b with a:=b.newQ.2.2,spare:=b.newQ.2.1}:Book) hs (b.ins s p)
  have tops:∀x,((({b with a:=b.newQ.2.2,spare:=b.newQ.2.1}:Book).setR s (b.ins s p)).hasF x=b.hasF x∧(({b with a:=b.newQ.2.2,spare:=b.newQ.2.1}:Book).setR s (b.ins s p)).topI x=b.topI x):=by
   intro x;rcases hs with rfl|rfl<;>exact⟨rfl,rfl⟩
  have hat:(({b with a:=b.newQ.2.2,spare:=b.newQ.2.1}:Book).setR s (b.ins s p)).at_=b.at_:=by rcases hs with rfl|rfl<;>rfl
  have ha:(({b with a:=b.newQ.2.2,spare:=b.newQ.2.1}:Book).setR s (b.ins s p)).a=b.newQ.2.2:=by rcases hs with rfl|rfl<;>rfl
  have hspr:(({b with a:=b.newQ.2.2,spare:=b.newQ.2.1}:Book).setR s (b.ins s p)).spare=b.newQ.2.1:=by rcases hs with rfl|rfl<;>rfl
  obtain⟨rest,q1,q2⟩:=zNy (b:=({b with a:=b.newQ.2.2,spare:=b.newQ.2.1}:Book)) hs
  have q2:=q2 (b.ins s p)
  have hqs:(({b with a:=b.newQ.2.2,spare:=b.newQ.2.1}:Book).setR s (b.ins s p)).qs.Perm (b.newQ.1::({b with a:=b.newQ.2.2,spare:=b.newQ.2.1}:Book).qs):=by
   refine q2.trans (.trans ?_ (q1.symm.cons _))
   rw[← List.cons_append]
   refine List.Perm.append_right _ ?_
   show((b.ins s p).map (·.queue)).Perm (b.newQ.1::(b.rungs s).map (·.queue))
   conv=>rhs;rw[hr]
   rw[Book.ins,List.map_append,List.map_append,List.map_cons]
   exact List.perm_middle
  generalize hB:(({b with a:=b.newQ.2.2,spare:=b.newQ.2.1}:Book).setR s (b.ins s p))=B at*
  have fin:∀Q',B.a.Wf Q'→B.a.slots=b.a.slots→B.a.free=b.a.free→(∀k,Q'.getD k []=Q.getD k [])→Q.getD b.newQ.1.toNat []=[]→(∀q∈B.qs,0≤q∧q<Q'.length)→B.qs.Nodup→B.qs.length=Q'.length→(∀q∈B.spare,Q.getD q.toNat []=[])→Q'.length≤250→∃Q' R1 R2,Queued b Q s p B b.newQ.1 Q' R1 R2:=by
   intro Q' w1 w2 w3 w4 w5 w6 w7 w8 w9 w10
   obtain⟨u1,u2⟩:=c.add hs hr ⟨h1,h2⟩ (b':=B) (Q':=Q') (n:=b.newQ.1) (by rw[g1];rfl) g2 hat w1 w2 w4 w5 w6 w7 w8 w9 w10
   refine⟨Q',_,_,⟨u1,g1.trans rfl,⟨h1,h2⟩,u2,hat,w3,fun L h=>⟨fun o ho=> ?_,fun s' hs' hh=> ?_⟩,tops⟩⟩
   ·rw[(tops o.side).1,(tops o.side).2];exact h.fl o ho
   ·rw[(tops s').1]at hh
    rw[(tops s').2];exact h.th s' hs' hh
  by_cases he:b.spare.length=0
  ·have hnq:b.newQ=((b.a.queues.length:Int),b.spare,b.a.openQ):=by rw[Book.newQ,if_pos he]
   have hql:=c.wf.ql
   have hspe:b.spare=[]:=List.eq_nil_of_length_eq_zero he
   have hqs':B.qs.Perm ((Q.length:Int)::b.qs):=by
    rw[hnq]at hqs
    rw[← hql];exact hqs
   refine fin (Q++[[]]) (by rw[ha,hnq];exact c.wf.open) (by rw[ha,hnq];rfl) (by rw[ha,hnq];rfl) (fun k=> ?_) ?_ (fun q hq=> ?_) ?_ ?_ (fun q hq=> ?_) ?_
   ·rw[zRi]
    split
    ·rename_i e;rw[e,List.getD_eq_getElem?_getD,List.getElem?_eq_none (Nat.le_refl _)];rfl
    ·rfl
   ·rw[hnq,List.getD_eq_getElem?_getD,List.getElem?_eq_none (by dsimp only;omega)];rfl
   ·rw[List.length_append]
    rcases List.mem_cons.1 (hqs'.mem_iff.1 hq)with rfl|hq
    ·simp only[List.length_singleton];omega
    ·have:=c.rng q hq;simp only[List.length_singleton];omega
   ·refine hqs'.nodup_iff.2 (List.nodup_cons.2 ⟨fun hm=> ?_,c.nd⟩)
    have:=c.rng _ hm;omega
   ·rw[hqs'.length_eq,List.length_cons,List.length_append,c.ql];rfl
   ·rw[hspr,hnq]at hq
    rw[hspe]at hq;cases hq
   ·have h1:=zKe (l:=b.rungs 1) (f:=b.rOrds Q 1) fun r hr e=>c.ne 1 (.inl rfl) r hr (fun e2=>by have:=c.rng _ (jL (.inl rfl) hr);omega) (List.map_eq_nil_iff.1 e)
    have h2:=zKe (l:=b.rungs 2) (f:=b.rOrds Q 2) fun r hr e=>c.ne 2 (.inr rfl) r hr (fun e2=>by have:=c.rng _ (jL (.inr rfl) hr);omega) (List.map_eq_nil_iff.1 e)
    have h3:=c.ql
    rw[Book.flat,List.length_append,Book.sideL,Book.sideL]at hl
    rw[Book.qs,List.length_append,List.length_append,List.length_map,List.length_map,he]at h3
    rw[gU]at h1 hl
    rw[gS]at h2 hl
    rw[List.length_append,List.length_singleton]
    omega
  ·have hnq:b.newQ=(b.spare.getD (b.spare.length-1) 0,b.spare.take (b.spare.length-1),b.a):=by rw[Book.newQ,if_neg he]
   obtain⟨sp,q,hspq⟩:∃sp q,b.spare=sp++[q]:=⟨_,_,(List.dropLast_concat_getLast (l:=b.spare) (by intro e;rw[e]at he;exact he rfl)).symm⟩
   have e1:b.newQ=(q,sp,b.a):=by
    rw[hnq,hspq]
    simp
   have hqs':B.qs.Perm b.qs:=by
    refine hqs.trans ?_
    rw[e1]
    show(q::(b.buys.map (·.queue)++b.sells.map (·.queue)++sp)).Perm (b.buys.map (·.queue)++b.sells.map (·.queue)++b.spare)
    rw[hspq,← List.append_assoc]
    exact List.perm_append_singleton q _|>.symm
   have hq0:q∈b.spare:=by rw[hspq];simp
   refine fin Q (by rw[ha,e1];exact c.wf) (by rw[ha,e1]) (by rw[ha,e1]) (fun _=>rfl) (by rw[e1];exact c.sp q hq0) (fun q hq=>c.rng q (hqs'.mem_iff.1 hq)) (hqs'.nodup_iff.2 c.nd) (by rw[hqs'.length_eq];exact c.ql) (fun q' hq'=> ?_) c.qb
   rw[hspr,e1]at hq'
   exact c.sp q' (by rw[hspq];exact List.mem_append_left _ hq')
open Go Cv Go.Proofs
theorem Book.Core.used {b:Book} {Q:List (List Nat)} (c:b.Core Q (-1)) (hl:(b.flat Q).length<250):b.a.free≠0:=by
 intro hf
 have hcn:=c.wf.free
 rw[hf]at hcn
 have hz:(b.a.slots.map (·.used)).countP (!·)=0:=by omega
 rw[List.countP_eq_zero]at hz
 have hin:∀k∈List.range 250,k∈((b.rungs 1).flatMap (yR Q)++(b.rungs 2).flatMap (yR Q)):=by
  intro k hk
  have hk:=List.mem_range.1 hk
  obtain⟨s,hs⟩:=z8 (l:=b.a.slots) (i:=k) (by rw[c.wf.len];exact hk)
  have hu:s.used=true:=by
   have:=hz s.used (List.mem_map_of_mem (List.mem_of_getElem? hs))
   simpa using this
  obtain⟨n,l,hn,hkl⟩:=c.wf.us k s hs hu
  have hnQ:=(List.getElem?_eq_some_iff.1 hn).1
  have hm:(n:Int)∈b.qs:=zOp c.nd (fun x hx=>by rw[c.ql];exact c.rng x hx) (by rw[c.ql];exact hnQ)
  have e:∀r:y7,r.queue=(n:Int)→k∈yR Q r:=by
   intro r hr
   rw[yR,hr,Int.toNat_natCast,zP hn];exact hkl
  rw[Book.qs]at hm
  rcases List.mem_append.1 hm with hm|hm
  ·rcases List.mem_append.1 hm with hm|hm
   ·obtain⟨r,hr,er⟩:=List.mem_map.1 hm
    exact List.mem_append_left _ (List.mem_flatMap.2 ⟨r,hr,e r er⟩)
   ·obtain⟨r,hr,er⟩:=List.mem_map.1 hm
    exact List.mem_append_right _ (List.mem_flatMap.2 ⟨r,hr,e r er⟩)
  ·have:=c.sp _ hm
   rw[Int.toNat_natCast,zP hn]at this
   rw[this]at hkl;cases hkl
 have h1:=mL List.nodup_range hin
 have e:∀s,(b.sideL Q s).length=((b.rungs s).flatMap (yR Q)).length:=by
  intro s
  rw[Book.sideL,List.length_flatMap,List.length_flatMap]
  congr 1
  exact List.map_congr_left fun r _=>by rw[Book.rOrds,List.length_map]
 rw[List.length_append,← e,← e,List.length_range]at h1
 rw[Book.flat,List.length_append]at hl
 omega
theorem zBq {s p:Int} {o:zH} (h:o.side≠s) (hlt:o.side=1∨o.side=2) (hs:s=1∨s=2):before s p o=decide (s=2):=by
 rw[before,decide_eq_false h,Bool.false_and,Bool.or_false]
 rcases hs with rfl|rfl
 ·rw[decide_eq_false (by omega),decide_eq_false (by omega)]
 ·rw[decide_eq_true (by omega),decide_eq_true rfl]
theorem Queued.put {b:Book} {Q:List (List Nat)} {s p:Int} {b':Book} {n:Int} {Q':List (List Nat)} {R1 R2:List y7} (h:Queued b Q s p b' n Q' R1 R2) (hs:s=1∨s=2) {id qty:Int} (top:Bool) (hid:id∉(b.flat Q).map (·.id)) (hf:b.a.free≠0) (hq:1≤qty∧qty≤1000000):
 ∃Q3 A B,({b' with a:=(b'.a.push n id qty top).1,at_:=h8 id ⟨s,p,(b'.a.push n id qty top).2.1⟩ b'.at_}:Book).Core Q3 (-1)∧b'.flat Q'=A++B∧
  ({b' with a:=(b'.a.push n id qty top).1,at_:=h8 id ⟨s,p,(b'.a.push n id qty top).2.1⟩ b'.at_}:Book).flat Q3=A++⟨id,s,p,qty,top⟩::B∧(∀o∈A,before s p o=true)∧∀o∈B,before s p o=false:=by
 have c:=h.core
 have hrm:(⟨p,n⟩:y7)∈b'.rungs s:=by rw[h.rungs];simp
 have hnr:0≤n∧n<Q'.length:=c.rng n (jL hs hrm)
 obtain⟨m,rfl⟩:∃m:Nat,n=m:=⟨n.toNat,by omega⟩
 have hl:Q'[m]? =some (yR Q' ⟨p,m⟩):=zHm (r:=⟨p,m⟩) hnr
 obtain⟨k,k1,k2,k3,k4,kw,kent,kfree⟩:=c.wf.put (id:=id) hl (by rw[h.free];exact hf) top hq
 have hpush:b'.a.push m id qty top=(b'.a.put m id qty top,(k:Int),0):=by
  have:=c.wf.ql
  rw[Arena.push,if_neg (by omega),if_neg (by omega),if_neg (by rw[h.free];exact hf),k1]
 rw[hpush]
 dsimp only
 have hmQ:=(List.getElem?_eq_some_iff.1 hl).1
 have hqd:∀s' (r:y7),(s'=1∨s'=2)→r∈b'.rungs s'→(r.queue=m→s'=s∧r=⟨p,m⟩):=by
  intro s' r hs' hr e
  obtain⟨rest,q1,_⟩:=zNy (b:=b') hs
  have hnd:=q1.nodup_iff.1 c.nd
  rw[h.rungs,List.map_append,List.map_cons]at hnd
  by_cases es:s'=s
  ·subst es
   refine⟨rfl,?_⟩
   rw[h.rungs]at hr
   have hnd2:=(List.nodup_append.1 hnd).1
   rcases List.mem_append.1 hr with hr|hr
   ·exact absurd e ((List.nodup_append.1 hnd2).2.2 r.queue (List.mem_map_of_mem (f:=(·.queue)) hr) m List.mem_cons_self)
   ·rcases List.mem_cons.1 hr with rfl|hr
    ·rfl
    ·have:=(List.nodup_cons.1 (List.nodup_append.1 hnd2).2.1).1
     exact absurd (e▸List.mem_map_of_mem (f:=(·.queue)) hr) this
  ·exfalso
   have hcn:=c.nd
   rw[Book.qs]at hcn
   have hcn2:=(List.nodup_append.1 (List.nodup_append.1 hcn).1).2.2
   have ha:(m:Int)∈(b'.rungs s).map (·.queue):=List.mem_map.2 ⟨_,hrm,rfl⟩
   have hb:(m:Int)∈(b'.rungs s').map (·.queue):=List.mem_map.2 ⟨r,hr,e⟩
   rcases hs with rfl|rfl<;>rcases hs' with rfl|rfl
   ·exact es rfl
   ·exact hcn2 _ ha _ hb rfl
   ·exact hcn2 _ hb _ ha rfl
   ·exact es rfl
 have hsl1:yR (Q'.set m (yR Q' ⟨p,m⟩++[k])) ⟨p,m⟩=yR Q' ⟨p,m⟩++[k]:=by
  show(Q'.set m _).getD (Int.toNat (m:Int)) []=_
  rw[Int.toNat_natCast];exact zP (j5 hmQ)
 have hsl2:∀q:Int,0≤q→q≠m→(Q'.set m (yR Q' ⟨p,m⟩++[k])).getD q.toNat []=Q'.getD q.toNat []:=by
  intro q h0 hne
  rw[List.getD_eq_getElem?_getD,kW (by omega),List.getD_eq_getElem?_getD]
 generalize hQ3:Q'.set m (yR Q' ⟨p,m⟩++[k])=Q3 at*
 have hQl:Q3.length=Q'.length:=by rw[← hQ3,List.length_set]
 have hpid:=vN
 have hord:∀s' (r:y7),(s'=1∨s'=2)→r∈b'.rungs s'→∀j∈yR Q' r,j≠k∧(kG (b'.a.put m id qty top) s' r.price j=kG b'.a s' r.price j∧kQ (b'.a.put m id qty top) s' r.price j=kQ b'.a s' r.price j):=by
  intro s' r hs' hr j hj
  have hjk:j≠k:=by rintro rfl;exact k4 _ _ (c.get hs' hr) hj
  have:=kent j
  rw[if_neg hjk]at this
  refine⟨hjk,by rw[kG,kG,this],?_⟩
  have:=congrArg Ent.id this
  rw[kQ,kQ]
  exact congrArg (fun i=>(i,(⟨s',r.price,j⟩:Place))) this
 have hr0:∀s' (r:y7),(s'=1∨s'=2)→r∈b'.rungs s'→r.queue≠m→yR Q3 r=yR Q' r:=by
  intro s' r hs' hr hne
  exact hsl2 _ (c.rng _ (jL hs' hr)).1 hne
 generalize hB:({b' with a:=b'.a.put m id qty top,at_:=h8 id ⟨s,p,k⟩ b'.at_}:Book)=B3
 have hBr:∀s',B3.rungs s'=b'.rungs s':=by intro s';rw[← hB];rfl
 have hBa:B3.a=b'.a.put m id qty top:=by rw[← hB]
 have hBat:B3.at_=h8 id ⟨s,p,k⟩ b'.at_:=by rw[← hB]
 have hBqs:B3.qs=b'.qs:=by rw[← hB];rfl
 have hBsp:B3.spare=b'.spare:=by rw[← hB]
 have hro:∀s' (r:y7),(s'=1∨s'=2)→r∈b'.rungs s'→r.queue≠m→B3.rOrds Q3 s' r=b'.rOrds Q' s' r∧(yR Q3 r).map (kQ B3.a s' r.price)=(yR Q' r).map (kQ b'.a s' r.price):=by
  intro s' r hs' hr hne
  rw[Book.rOrds,Book.rOrds,hr0 s' r hs' hr hne,hBa]
  exact⟨List.map_congr_left fun j hj=>(hord s' r hs' hr j hj).2.1,List.map_congr_left fun j hj=>(hord s' r hs' hr j hj).2.2⟩
 have hnew:kG B3.a s p k=⟨id,s,p,qty,top⟩∧kQ B3.a s p k=(id,⟨s,p,k⟩):=by
  have:=kent k
  rw[if_pos rfl]at this
  rw[kG,hBa,this]
  refine⟨rfl,?_⟩
  have:=congrArg Ent.id this
  rw[kQ]
  exact congrArg (fun i=>(i,(⟨s,p,k⟩:Place))) this
 have hroN:B3.rOrds Q3 s ⟨p,m⟩=b'.rOrds Q' s ⟨p,m⟩++[⟨id,s,p,qty,top⟩]∧(yR Q3 ⟨p,m⟩).map (kQ B3.a s p)=(yR Q' ⟨p,m⟩).map (kQ b'.a s p)++[(id,⟨s,p,k⟩)]:=by
  rw[Book.rOrds,Book.rOrds,hsl1,List.map_append,List.map_append,List.map_singleton,List.map_singleton]
  refine⟨?_,?_⟩
  ·rw[hnew.1,List.map_congr_left (g:=kG b'.a s p) fun j hj=>by rw[hBa];exact(hord s ⟨p,m⟩ hs hrm j hj).2.1]
  ·rw[hnew.2,List.map_congr_left (g:=kQ b'.a s p) fun j hj=>by rw[hBa];exact(hord s ⟨p,m⟩ hs hrm j hj).2.2]
 have hR1:∀r∈R1,r∈b'.rungs s∧r.queue≠m:=by
  intro r hr
  have hm:r∈b'.rungs s:=by rw[h.rungs];exact List.mem_append_left _ hr
  refine⟨hm,fun e=> ?_⟩
  have e2:=(hqd s r hs hm e).2
  have:=h.spl.a r hr
  rw[e2,gN]at this;cases this
 have hR2:∀r∈R2,r∈b'.rungs s∧r.queue≠m:=by
  intro r hr
  have hm:r∈b'.rungs s:=by rw[h.rungs];exact List.mem_append_right _ (List.mem_cons_of_mem _ hr)
  refine⟨hm,fun e=> ?_⟩
  have e2:=(hqd s r hs hm e).2
  have:=h.spl.b r hr
  rw[e2,gN]at this;cases this
 have zB:B3.sideL Q3 s=(R1.flatMap (b'.rOrds Q' s)++b'.rOrds Q' s ⟨p,m⟩)++⟨id,s,p,qty,top⟩::R2.flatMap (b'.rOrds Q' s):=by
  rw[Book.sideL,hBr,h.rungs,List.flatMap_append,List.flatMap_cons,hroN.1,yT (l:=R1) (fun r hr=>(hro s r hs (hR1 r hr).1 (hR1 r hr).2).1),yT (l:=R2) (fun r hr=>(hro s r hs (hR2 r hr).1 (hR2 r hr).2).1)]
  simp
 have sideO:b'.sideL Q' s=(R1.flatMap (b'.rOrds Q' s)++b'.rOrds Q' s ⟨p,m⟩)++R2.flatMap (b'.rOrds Q' s):=by
  rw[Book.sideL,h.rungs,List.flatMap_append,List.flatMap_cons,List.append_assoc]
 have plcN:(B3.plcs Q3 s).Perm ((id,⟨s,p,k⟩)::b'.plcs Q' s):=by
  rw[Book.plcs,hBr,h.rungs,List.flatMap_append,List.flatMap_cons,hroN.2,yT (l:=R1) (fun r hr=>(hro s r hs (hR1 r hr).1 (hR1 r hr).2).2),yT (l:=R2) (fun r hr=>(hro s r hs (hR2 r hr).1 (hR2 r hr).2).2),Book.plcs,h.rungs,List.flatMap_append,List.flatMap_cons]
  rw[List.append_assoc,List.singleton_append,← List.append_assoc]
  refine List.perm_middle.trans ?_
  rw[List.append_assoc]
 have other:∀s',s'≠s→s'=1∨s'=2→B3.sideL Q3 s'=b'.sideL Q' s'∧B3.plcs Q3 s'=b'.plcs Q' s':=by
  intro s' hne hs'
  have hne':∀r∈b'.rungs s',r.queue≠m:=fun r hr e=>hne (hqd s' r hs' hr e).1
  rw[Book.sideL,Book.sideL,Book.plcs,Book.plcs,hBr]
  exact⟨yT fun r hr=>(hro s' r hs' hr (hne' r hr)).1,yT fun r hr=>(hro s' r hs' hr (hne' r hr)).2⟩
 have bA:∀o∈R1.flatMap (b'.rOrds Q' s)++b'.rOrds Q' s ⟨p,m⟩,before s p o=true:=by
  intro o ho
  rcases List.mem_append.1 ho with ho|ho
  ·obtain⟨r,hr,ho⟩:=List.mem_flatMap.1 ho
   obtain⟨e1,e2⟩:=xJ ho
   rw[before,e1,e2,zFv (h.spl.a r hr)];simp
  ·obtain⟨e1,e2⟩:=xJ ho
   rw[before,e1,e2,gN];simp
 have bB:∀o∈R2.flatMap (b'.rOrds Q' s),before s p o=false:=by
  intro o ho
  obtain⟨r,hr,ho⟩:=List.mem_flatMap.1 ho
  obtain⟨e1,e2⟩:=xJ ho
  rw[before,e1,e2,h.spl.b r hr];simp
 have bO:∀s',s'≠s→s'=1∨s'=2→∀o∈b'.sideL Q' s',before s p o=decide (s=2):=by
  intro s' hne hs' o ho
  have:=(vP ho).1
  exact zBq (by omega) (by omega) hs
 have flatE:∃A B,b'.flat Q'=A++B∧B3.flat Q3=A++⟨id,s,p,qty,top⟩::B∧(∀o∈A,before s p o=true)∧∀o∈B,before s p o=false:=by
  rcases hs with rfl|rfl
  ·refine⟨_,R2.flatMap (b'.rOrds Q' 1)++b'.sideL Q' 2,?_,?_,bA,fun o ho=> ?_⟩
   ·rw[Book.flat,sideO];simp only[List.append_assoc]
   ·rw[Book.flat,zB,(other 2 (by decide) (.inr rfl)).1];simp only[List.append_assoc,List.cons_append]
   ·rcases List.mem_append.1 ho with ho|ho
    ·exact bB o ho
    ·exact bO 2 (by decide) (.inr rfl) o ho
  ·refine⟨b'.sideL Q' 1++(R1.flatMap (b'.rOrds Q' 2)++b'.rOrds Q' 2 ⟨p,m⟩),R2.flatMap (b'.rOrds Q' 2),?_,?_,fun o ho=> ?_,bB⟩
   ·rw[Book.flat,sideO];simp only[List.append_assoc]
   ·rw[Book.flat,zB,(other 1 (by decide) (.inl rfl)).1];simp only[List.append_assoc]
   ·rcases List.mem_append.1 ho with ho|ho
    ·exact bO 1 (by decide) (.inl rfl) o ho
    ·exact bA o ho
 obtain⟨A,B,f1,f2,f3,f4⟩:=flatE
 refine⟨Q3,A,B,⟨by rw[hBa];exact kw,fun s' hs'=>by rw[hBr];exact c.srt s' hs',by rw[hBqs,hQl];exact c.rng,by rw[hBqs];exact c.nd,by rw[hBqs,hQl];exact c.ql,fun s' hs' r hr _=> ?_,fun q hq=> ?_,?_,?_,by rw[hQl];exact c.qb⟩,f1,f2,f3,f4⟩
 ·rw[hBr]at hr
  by_cases e:r.queue=m
  ·obtain⟨rfl,rfl⟩:=hqd s' r hs' hr e
   rw[hsl1];simp
  ·rw[hr0 s' r hs' hr e];exact c.ne s' hs' r hr e
 ·rw[hBsp]at hq
  have hqq:q∈b'.qs:=List.mem_append_right _ hq
  rw[hsl2 q (c.rng q hqq).1 fun e=> ?_]
  ·exact c.sp q hq
  ·have hcn:=c.nd
   rw[Book.qs]at hcn
   refine(List.nodup_append.1 hcn).2.2 m ?_ q hq e.symm
   rcases hs with rfl|rfl
   ·exact List.mem_append_left _ (List.mem_map.2 ⟨_,hrm,rfl⟩)
   ·exact List.mem_append_right _ (List.mem_map.2 ⟨_,hrm,rfl⟩)
 ·have hnk:id∉b'.at_.map (·.1):=by
   rw[c.keysP.mem_iff,h.flat];exact hid
  rw[hBat,zGs hnk]
  refine(List.perm_append_singleton _ _).trans ?_
  rcases hs with rfl|rfl
  ·rw[(other 2 (by decide) (.inr rfl)).2]
   exact(c.at_.cons _).trans (plcN.symm.append_right _)
  ·rw[(other 1 (by decide) (.inl rfl)).2]
   refine(c.at_.cons _).trans ?_
   refine(List.perm_middle.symm).trans (plcN.symm.append_left _)
 ·rw[f2,List.map_append,List.map_cons]
  have h1:=c.ids
  rw[f1,List.map_append]at h1
  have h2:id∉(A++B).map (·.id):=by rw[← f1,h.flat];exact hid
  refine List.perm_middle.nodup_iff.2 (List.nodup_cons.2 ⟨by rw[List.map_append]at h2;exact h2,h1⟩)
open Go Cv Go.Proofs
def qF (L:List zH) (id:Int):Bool:=L.any fun o=>decide (o.id=id)
def nZ (L:List zH) (s id p q:Int):List zH×Int:=if q<1∨1000000<q then(L,24)else if qF L id=true then(L,25)else if 250≤L.length then(L,13)else(zDu L s id p q,0)
theorem hasId_iff {L:List zH} {id:Int}:qF L id=true↔id∈L.map (·.id):=by
 rw[qF,List.any_eq_true,List.mem_map]
 constructor
 ·rintro⟨o,ho,e⟩;exact⟨o,ho,of_decide_eq_true e⟩
 ·rintro⟨o,ho,e⟩;exact⟨o,ho,decide_eq_true e⟩
theorem u6 {b:Book} {Q:List (List Nat)} {o:zH} (h:o∈b.flat Q):(o.side=1∨o.side=2)∧∃r∈b.rungs o.side,o∈b.rOrds Q o.side r∧o.price=r.price:=by
 rcases List.mem_append.1 h with h|h
 all_goals
  obtain⟨e,r,hr,ho,hp⟩:=vP h
  rw[e]
  exact⟨by simp,r,hr,ho,hp⟩
theorem flat_mem {b:Book} {Q:List (List Nat)} {s:Int} (hs:s=1∨s=2) {o:zH} (h:o∈b.sideL Q s):o∈b.flat Q:=by
 rcases hs with rfl|rfl
 ·exact List.mem_append_left _ h
 ·exact List.mem_append_right _ h
theorem Book.Core.leads {b:Book} {Q:List (List Nat)} (c:b.Core Q (-1)) {s:Int} (hs:s=1∨s=2) (p:Int):b.leads s p=j4 (b.flat Q) s p:=by
 have hsrt:=c.srt s hs
 have hne:=c.ne s hs
 rw[Book.leads]
 cases hr:b.rungs s with
 |nil=>
  symm
  dsimp only
  rw[j4,List.all_eq_true]
  intro o ho
  obtain⟨_,r,hr2,_⟩:=u6 ho
  by_cases e:o.side=s
  ·rw[e,hr]at hr2;cases hr2
  ·rw[decide_eq_false e];rfl
 |cons r0 l=>
  dsimp only
  rw[hr,List.pairwise_cons]at hsrt
  have hm:r0∈b.rungs s:=by rw[hr];exact List.mem_cons_self
  cases hb:btr s p r0.price with
  |true=>
   symm
   rw[j4,List.all_eq_true]
   intro o ho
   obtain⟨_,r,hr2,_,hp⟩:=u6 ho
   by_cases e:o.side=s
   ·rw[e,hr]at hr2
    rw[hp]
    rcases List.mem_cons.1 hr2 with rfl|hr2
    ·rw[hb];simp
    ·rw[lE hb (hsrt.1 r hr2)];simp
   ·rw[decide_eq_false e];rfl
  |false=>
   symm
   rw[j4,List.all_eq_false]
   have h0:=hne r0 hm fun e=>by have:=c.rng _ (jL hs hm);omega
   cases hk:yR Q r0 with
   |nil=>exact absurd hk h0
   |cons k ks=>
    refine⟨kG b.a s r0.price k,flat_mem hs (List.mem_flatMap.2 ⟨r0,hm,by rw[Book.rOrds,hk];exact List.mem_cons_self⟩),?_⟩
    show ¬((!decide (s=s))||btr s p r0.price)=true
    rw[hb];simp
theorem zNg {L:List zH} {s:Int} {o:zH} (h:o∈clr L s):∃o'∈L,o.id=o'.id∧o.side=o'.side∧o.price=o'.price∧o.qty=o'.qty∧o.top=(if o.side=s then false else o'.top):=by
 obtain⟨o',ho,e⟩:=List.mem_map.1 h
 refine⟨o',ho,?_⟩
 by_cases c:o'.side=s
 ·rw[if_pos c]at e
  subst e
  exact⟨rfl,rfl,rfl,rfl,(if_pos c).symm⟩
 ·rw[if_neg c]at e
  subst e
  exact⟨rfl,rfl,rfl,rfl,(if_neg c).symm⟩
theorem zYf {L:List zH} {s:Int} {o:zH} (h:o∈L) (hs:o.side≠s):o∈clr L s:=List.mem_map.2 ⟨o,h,if_neg hs⟩
theorem zLm (L:List zH) (s:Int):(clr L s).map (·.id)=L.map (·.id):=by
 rw[clr,List.map_map]
 refine List.map_congr_left fun o _=> ?_
 simp only[Function.comp]
 split<;>rfl
theorem zHu (b:Book) (id:Int) {s:Int} (hs:s=1∨s=2):(b.leadF id s).a=b.untop s∧(b.leadF id s).buys=b.buys∧(b.leadF id s).sells=b.sells∧(b.leadF id s).at_=b.at_∧(b.leadF id s).spare=b.spare∧∀s',s'=1∨s'=2→(b.leadF id s).hasF s'=(if s'=s then true else b.hasF s')∧(b.leadF id s).topI s'=(if s'=s then id else b.topI s'):=by
 rcases hs with rfl|rfl
 ·exact⟨rfl,rfl,rfl,rfl,rfl,fun s' h=>by rcases h with rfl|rfl<;>exact⟨rfl,rfl⟩⟩
 ·exact⟨rfl,rfl,rfl,rfl,rfl,fun s' h=>by rcases h with rfl|rfl<;>exact⟨rfl,rfl⟩⟩
theorem Book.Core.like {b b':Book} {Q:List (List Nat)} {h:Int} (c:b.Core Q h) (e1:b'.a=b.a) (e2:b'.buys=b.buys) (e3:b'.sells=b.sells) (e4:b'.at_=b.at_) (e5:b'.spare=b.spare):b'.Core Q h∧b'.flat Q=b.flat Q:=by
 have er:∀s,b'.rungs s=b.rungs s:=fun s=>by rw[Book.rungs,Book.rungs,e2,e3]
 have eo:∀s r,b'.rOrds Q s r=b.rOrds Q s r:=fun s r=>by rw[Book.rOrds,Book.rOrds,e1]
 have es:∀s,b'.sideL Q s=b.sideL Q s:=fun s=>by rw[Book.sideL,Book.sideL,er];exact yT fun r _=>eo s r
 have ep:∀s,b'.plcs Q s=b.plcs Q s:=fun s=>by rw[Book.plcs,Book.plcs,er,e1]
 have ef:b'.flat Q=b.flat Q:=by rw[Book.flat,Book.flat,es,es]
 have eq:b'.qs=b.qs:=by rw[Book.qs,Book.qs,e2,e3,e5]
 exact⟨⟨by rw[e1];exact c.wf,fun s hs=>by rw[er];exact c.srt s hs,by rw[eq];exact c.rng,by rw[eq];exact c.nd,by rw[eq];exact c.ql,fun s hs=>by rw[er];exact c.ne s hs,by rw[e5];exact c.sp,by rw[e4,ep,ep];exact c.at_,by rw[ef];exact c.ids,c.qb⟩,ef⟩
theorem Book.Rep.stand {b:Book} {L:List zH} (h:b.Rep L) {s:Int} (hs:s=1∨s=2) {id p q:Int} (hid:id∉L.map (·.id)) (hl:L.length<250) (hq:1≤q∧q≤1000000):(b.stand s id p q).Rep (zDu L s id p q):=by
 obtain⟨Q,c,ht,rfl⟩:=h
 have hld:=c.leads hs p
 have h1:(b.led id s p).Core Q (-1)∧(b.led id s p).flat Q=(if j4 (b.flat Q) s p=true then clr (b.flat Q) s else b.flat Q):=by
  rw[Book.led,hld]
  split
  ·obtain⟨e1,e2,e3,e4,e5,_⟩:=zHu b id hs
   obtain⟨u1,u2⟩:=c.untop s
   obtain⟨v1,v2⟩:=Book.Core.like (b':=b.leadF id s) (c.flag u1 u2) e1 e2 e3 e4 e5
   exact⟨v1,v2.trans (c.untop_flat ht hs)⟩
  ·exact⟨c,rfl⟩
 obtain⟨c1,f1⟩:=h1
 have hlen1:((b.led id s p).flat Q).length<250:=by
  rw[f1];split
  ·rw[clr,List.length_map];exact hl
  ·exact hl
 have hid1:id∉((b.led id s p).flat Q).map (·.id):=by
  rw[f1];split
  ·rw[zLm];exact hid
  ·exact hid
 obtain⟨Q',R1,R2,hqd⟩:=c1.queue hlen1 hs p
 obtain⟨Q3,A,B,k1,k2,k3,k4,k5⟩:=hqd.put hs (b.leads s p) hid1 (c1.used hlen1) hq
 have hAB:A++B=(if j4 (b.flat Q) s p=true then clr (b.flat Q) s else b.flat Q):=by rw[← k2,hqd.flat,f1]
 have hins:zDu (b.flat Q) s id p q=A++⟨id,s,p,q,b.leads s p⟩::B:=by
  rw[zDu]
  obtain⟨t1,t2⟩:=zSp k4 k5
  rw[← hAB,t1,t2,hld]
 refine⟨Q3,k1,?_,?_⟩
 ·rw[hins,hld]
  show Book.Tops {((b.led id s p).queueF s p).1 with a:=_,at_:=_} _
  have hto:∀x,({((b.led id s p).queueF s p).1 with a:=(((b.led id s p).queueF s p).1.a.push ((b.led id s p).queueF s p).2 id q (b.leads s p)).1,at_:=h8 id ⟨s,p,(((b.led id s p).queueF s p).1.a.push ((b.led id s p).queueF s p).2 id q (b.leads s p)).2.1⟩ ((b.led id s p).queueF s p).1.at_}:Book).hasF x=(b.led id s p).hasF x∧({((b.led id s p).queueF s p).1 with a:=(((b.led id s p).queueF s p).1.a.push ((b.led id s p).queueF s p).2 id q (b.leads s p)).1,at_:=h8 id ⟨s,p,(((b.led id s p).queueF s p).1.a.push ((b.led id s p).queueF s p).2 id q (b.leads s p)).2.1⟩ ((b.led id s p).queueF s p).1.at_}:Book).topI x=(b.led id s p).topI x:=hqd.qty
  generalize ({((b.led id s p).queueF s p).1 with a:=(((b.led id s p).queueF s p).1.a.push ((b.led id s p).queueF s p).2 id q (b.leads s p)).1,at_:=h8 id ⟨s,p,(((b.led id s p).queueF s p).1.a.push ((b.led id s p).queueF s p).2 id q (b.leads s p)).2.1⟩ ((b.led id s p).queueF s p).1.at_}:Book)=B3 at*
  have mAB:∀o,o∈A++⟨id,s,p,q,j4 (b.flat Q) s p⟩::B↔o=⟨id,s,p,q,j4 (b.flat Q) s p⟩∨o∈A++B:=by
   intro o
   rw[List.mem_append,List.mem_cons,List.mem_append]
   constructor
   ·rintro(h|h|h)
    ·exact .inr (.inl h)
    ·exact .inl h
    ·exact .inr (.inr h)
   ·rintro(h|h|h)
    ·exact .inr (.inl h)
    ·exact .inl h
    ·exact .inr (.inr h)
  have hsd:∀o∈b.flat Q,o.side=1∨o.side=2:=fun o ho=>(u6 ho).1
  by_cases hlead:j4 (b.flat Q) s p=true
  ·rw[if_pos hlead]at hAB
   have hb1:b.led id s p=b.leadF id s:=by rw[Book.led,if_pos (hld.trans hlead)]
   obtain⟨_,_,_,_,_,e6⟩:=zHu b id hs
   rw[hb1]at hto
   refine⟨fun o ho=> ?_,fun s' hs' hh=> ?_⟩
   ·rcases(mAB o).1 ho with rfl|ho
    ·rw[(hto s).1,(hto s).2,(e6 s hs).1,(e6 s hs).2,if_pos rfl,if_pos rfl,hlead];simp
    ·rw[hAB]at ho
     obtain⟨o',ho',i1,i2,_,_,i5⟩:=zNg ho
     rw[(hto _).1,(hto _).2,i5,(e6 o.side (by rw[i2];exact hsd o' ho')).1,(e6 o.side (by rw[i2];exact hsd o' ho')).2]
     by_cases e:o.side=s
     ·rw[if_pos e,if_pos e,if_pos e,Bool.true_and]
      symm
      refine decide_eq_false fun e2=>hid ?_
      rw[← e2,i1];exact List.mem_map_of_mem ho'
     ·rw[if_neg e,if_neg e,if_neg e,ht.fl o' ho',i1,i2]
   ·rw[(hto s').2,(e6 s' hs').2]
    by_cases e:s'=s
    ·rw[if_pos e]
     exact⟨_,(mAB _).2 (.inl rfl),e.symm,rfl⟩
    ·rw[(hto s').1,(e6 s' hs').1,if_neg e]at hh
     rw[if_neg e]
     obtain⟨o,ho,o1,o2⟩:=ht.th s' hs' hh
     exact⟨o,(mAB _).2 (.inr (by rw[hAB];exact zYf ho (by rw[o1];exact e))),o1,o2⟩
  ·rw[if_neg hlead]at hAB
   have hlf:j4 (b.flat Q) s p=false:=by simpa using hlead
   have hb1:b.led id s p=b:=by rw[Book.led,if_neg (by rw[hld];exact hlead)]
   rw[hb1]at hto
   refine⟨fun o ho=> ?_,fun s' hs' hh=> ?_⟩
   ·rw[(hto _).1,(hto _).2]
    rcases(mAB o).1 ho with rfl|ho
    ·show j4 (b.flat Q) s p=(b.hasF s && decide (id=b.topI s))
     rw[hlf]
     cases hh:b.hasF s with
     |false=>rfl
     |true=>
      rw[Bool.true_and]
      symm
      refine decide_eq_false fun e2=>hid ?_
      obtain⟨o,ho,_,o2⟩:=ht.th s hs hh
      rw[e2,← o2];exact List.mem_map_of_mem ho
    ·rw[hAB]at ho;exact ht.fl o ho
   ·rw[(hto s').1]at hh
    rw[(hto s').2]
    obtain⟨o,ho,o1,o2⟩:=ht.th s' hs' hh
    exact⟨o,(mAB _).2 (.inr (by rw[hAB];exact ho)),o1,o2⟩
 ·rw[hins];exact k3.symm
theorem Book.Rep.pget {b:Book} {L:List zH} (h:b.Rep L) (id:Int):(pget b.at_ id).isSome=qF L id:=by
 obtain⟨Q,c,ht,rfl⟩:=h
 cases hg:Sx.pget b.at_ id with
 |none=>
  have:=mJ hg
  rw[c.keysP.mem_iff,← hasId_iff]at this
  symm;simpa using this
 |some x=>
  have:=List.mem_map_of_mem (f:=(·.1)) (fJ hg)
  rw[c.keysP.mem_iff,← hasId_iff]at this
  symm;exact this
theorem Book.Rep.len {b:Book} {L:List zH} (h:b.Rep L):b.at_.length=L.length:=by
 obtain⟨Q,c,ht,rfl⟩:=h
 exact c.len
theorem Book.Rep.add {b:Book} {L:List zH} (h:b.Rep L) {s:Int} (hs:s=1∨s=2) (id p q:Int):(b.addF s id p q).1.Rep (nZ L s id p q).1∧(b.addF s id p q).2=(nZ L s id p q).2:=by
 rw[Book.addF,nZ,h.pget,h.len]
 repeat' split
 all_goals first|exact⟨h,rfl⟩|skip
 rename_i c1 c2 c3
 exact⟨h.stand hs (fun e=>c2 (hasId_iff.2 e)) (by omega) (by omega),rfl⟩
theorem zOi:book0.Rep []:=by
 refine⟨[],⟨⟨⟨by simp[book0,tO],rfl,fun n l h=>by simp at h,fun n l h=>by simp at h,fun n l h=>by simp at h,fun k s hk hu=> ?_,?_⟩,fun n l h=>by simp at h⟩,fun s hs=> ?_,fun q hq=>by simp[book0,Book.qs]at hq,by simp[book0,Book.qs],rfl,fun s hs r hr=> ?_,fun q hq=>by simp[book0]at hq,?_,?_,by decide⟩,⟨fun o ho=>(by cases ho),fun s hs hh=> ?_⟩,?_⟩
 ·have:=List.mem_of_getElem? hk
  rw[List.eq_of_mem_replicate this]at hu;cases hu
 ·decide
 ·rcases hs with rfl|rfl<;>exact List.Pairwise.nil
 ·rcases hs with rfl|rfl<;>cases hr
 ·exact List.Perm.refl _
 ·exact List.nodup_nil
 ·rcases hs with rfl|rfl<;>cases hh
 ·rfl
open Go Cv Go.Proofs
structure BoI where
 b:Book
 s:Int
 r:y7
 l:List Nat
def BoI.ords (i:BoI):List zH:=(i.b.a.ents i.l).map fun e=>⟨e.id,i.s,i.r.price,e.qty,e.top⟩
def ordersC:Con:=con1 BoI (fun i=>[.nm 0 0,zE i.s,.agg [zE i.r.price,zE i.r.queue]]) (fun i=>[yA i.b]) (fun i=>i.b.a.listOk i.r.queue i.l) (fun _=> .own 1) (fun i=>[yA i.b,.own 93 5 (i.ords.map qP)])
def z1u (i:BoI):List SAnn:=[{ι:=Nat,slots:=fun j=>[(7,.own 0),(18,zE j)],rows:=fun j=>[.own 93 5 ((i.ords.take j).map qP)]}]
open Go Cv Go.Proofs
def zBp (i:BoI):Prop:=
 ∃(i_1:ArL),i_1.n=i.r.queue∧AObj.adt Arena 3 zC i_1.a=AObj.adt Arena 3 zC i.b.a∧i_1.a.listOk i_1.n i_1.l∧∀(o:Unit),True→∃(i0:Nat),(↑i0:Int)=0∧List.map qP (List.take i0 i.ords)=[]∧∃(I:Nat→Prop),∃(μ:Nat→Nat),I i0∧∀(i_2:Nat),I i_2→cnd (decide ((↑i_2:Int)<(↑(List.map fS (i_1.a.ents i_1.l)).length:Int))) ((0≤(↑i_2:Int)∧(↑i_2:Int)<(↑(List.map fS (i_1.a.ents i_1.l)).length:Int))∧∃(n:Int),∃(n_1:Int),∃(n_2:Int),∃(b:Bool),zI (List.map fS (i_1.a.ents i_1.l)) (↑i_2:Int).toNat 0 4=some [D.v (.int .i64 n),D.v (.int .i64 n_1),D.v (.int .i64 n_2),D.v (.bool b)]∧((List.map qP (List.take i_2 i.ords)).length+1)*(40:Nat)≤(70368744177664:Nat)∧∃(i':Nat),(↑i':Int)=IntKind.i64.wrap ((↑i_2:Int)+1)∧List.map qP (List.take i' i.ords)=List.map qP (List.take i_2 i.ords)++[[D.v (.int .i64 n_1),D.v (.int .i64 i.s),D.v (.int .i64 i.r.price),D.v (.int .i64 n_2),D.v (.bool b)]]∧I i'∧μ i'<μ i_2∧AObj.adt Arena 3 zC i_1.a=AObj.adt Arena 3 zC i_1.a∧AObj.own 193 4 (List.map fS (i_1.a.ents i_1.l))=AObj.own 193 4 (List.map fS (i_1.a.ents i_1.l))∧Sx.AObj.cells [V.d (D.v (.int .i64 i.r.price)),V.d (D.v (.int .i64 i.r.queue))] 141=Sx.AObj.cells [V.d (D.v (.int .i64 i.r.price)),V.d (D.v (.int .i64 i.r.queue))] 141∧Sx.AObj.cells (gO (jH 0 1 6) [V.nm 1 0,V.own 2,V.own 3,V.mp 4,zE i.b.top1,zE i.b.top2,V.own 5,yN i.b.has1,yN i.b.has2]) (135:TypeId)=Sx.AObj.cells (gO (jH 0 1 6) [V.nm 1 0,V.own 2,V.own 3,V.mp 4,zE i.b.top1,zE i.b.top2,V.own 5,yN i.b.has1,yN i.b.has2]) (135:TypeId)∧AObj.own 141 2 (List.map zA i.b.buys)=AObj.own 141 2 (List.map zA i.b.buys)∧AObj.own 141 2 (List.map zA i.b.sells)=AObj.own 141 2 (List.map zA i.b.sells)∧Sx.AObj.map (atE i.b.at_)=Sx.AObj.map (atE i.b.at_)∧AObj.own 3 1 (iE i.b.spare)=AObj.own 3 1 (iE i.b.spare)) (∃(o:Unit),i.b.top1=i.b.top1∧i.b.top2=i.b.top2∧i.b.has1=i.b.has1∧i.b.has2=i.b.has2∧AObj.adt Arena 3 zC i.b.a=AObj.adt Arena 3 zC i_1.a∧List.map zA i.b.buys=List.map zA i.b.buys∧List.map zA i.b.sells=List.map zA i.b.sells∧atE i.b.at_=atE i.b.at_∧iE i.b.spare=iE i.b.spare∧List.map qP i.ords=List.map qP (List.take i_2 i.ords)∧True)
theorem zXn (hG:GOk Tryz.prog ([(130,alistC)])) (h:∀(i:BoI),ordersC.cnd i→zBp i):ordersC.ok Tryz.prog 104:=okw mixed hG 0 (fun _=>[]) (fun i=>z1u i) [0] Tryz.func104 h
open Go Cv Go.Proofs
theorem yBb {l:List Ent} {k:Nat} {e:Ent} (h:l[k]? =some e):zI (l.map fS) k 0 4=some [D.v (.int .i64 e.slot),.v (.int .i64 e.id),.v (.int .i64 e.qty),.v (.bool e.top)]:=elA h (by simp[fS]) rfl
theorem z0z (i:BoI) (h:ordersC.cnd i):zBp i:=by
 have h:i.b.a.listOk i.r.queue i.l:=h
 have hl:=h.len
 have hen:(i.b.a.ents i.l).length=i.l.length:=by simp[Arena.ents]
 have hol:i.ords.length=i.l.length:=by simp[BoI.ords,Arena.ents]
 unfold zBp
 refine⟨⟨i.b.a,i.r.queue,i.l⟩,rfl,rfl,h,fun _ _=> ?_⟩
 simp only[List.length_map]
 refine⟨0,rfl,rfl,fun j=>j≤i.l.length,fun j=>i.l.length-j,Nat.zero_le _,fun j hj=>zT (fun c=> ?_) (fun c=> ?_)⟩
 ·obtain⟨e,he⟩:=z8 (l:=i.b.a.ents i.l) (i:=j) (by omega)
  have ho:i.ords[j]? =some ⟨e.id,i.s,i.r.price,e.qty,e.top⟩:=by rw[BoI.ords,List.getElem?_map,he];rfl
  refine⟨⟨by omega,by omega⟩,e.slot,e.id,e.qty,e.top,yBb he,by rw[List.length_take];omega,j+1,wjn (by omega),?_,by omega,by dsimp only;omega,by(repeat'(first|exact trivial|exact rfl|apply And.intro))⟩
  rw[List.take_add_one,ho];simp[qP]
 ·have hje:j=i.l.length:=by omega
  subst hje
  rw[List.take_of_length_le (l:=i.ords) (by omega)]
  (repeat'(first|exact rfl|exact trivial|assumption|apply And.intro|refine fun(_:Unit) (_:True)=>?_|refine Exists.intro () ?_|omega|(dsimp only;omega)))
theorem zAg:ordersC.ok Tryz.prog 104:=zXn (gokc zRb gok0) z0z
open Go Go.RowKit Cv
theorem zFw {P:Program} {tS rt e sz by_:Nat} {z:Array Value} (hi:jK P tS=some (e,sz,by_,z)) {w:World} {g i c n k:Nat} {A:Option Addr} {cur src:List Value} {T:TypeId}
 (hg:w.heap[g]? =some (.cells cur.toArray T (0,0))) (hs:(Builtin.firstCells sz n (.slice A n k)).run P w= .ok src.toArray w) (hl:src.length=n*sz) (hfit:i+n≤c) (hroom:i*sz+n*sz≤cur.length) (hone:∀v∈src,v.oneC=true):
 j6 P (Builtin.append_ #[tS,tS] rt #[.slice (some ⟨g,0,none⟩) i c,.slice A n k]) w (.slice (some ⟨g,0,none⟩) (i+n) c) (World.setB w g (.cells (spl cur (i*sz) src).toArray T (0,0))):=by
 obtain⟨inf,zv,q1,q2,rfl,rfl,q5,rfl⟩:=qH hi
 have hst:=x7 (P:=P) src 0 (i*inf.size) cur w hg (by omega) hone
 simp only[Nat.add_zero]at hst
 have hln:∀w,(Builtin.lenOf (.slice A n k)).run P w= .ok n w:=fun w=>rfl
 unfold j6 Builtin.append_
 simp only[List.getElem?_toArray,List.getElem?_cons_zero,List.getElem?_cons_succ,bind,pure,run_bind,Sem.bind,Sem.run,Cv.run_underlying q1,Cv.run_sizeOf q2,Bool.false_eq_true,if_false,hs,hln,hfit,if_true,jM,Nat.zero_add,hst,Bool.not_false]
theorem zLa {P:Program} {tS ty e sz by_:Nat} {z:Array Value} (hi:jK P tS=some (e,sz,by_,z)) (hz:z.size=sz) (h1:∀v∈z.toList,v.oneC=true) {w:World} {g o n c:Nat} {cur:List Value} {T:TypeId} (hn:0<n)
 (hg:w.heap[g]? =some (.cells cur.toArray T (0,0))) (hroom:o+n*sz≤cur.length):
 j6 P (Builtin.clear_ #[tS] ty #[.slice (some ⟨g,o,none⟩) n c]) w (.tuple #[]) (World.setB w g (.cells (spl cur o (Builtin.zeroCells z n).toList).toArray T (0,0))):=by
 obtain⟨inf,zv,q1,q2,rfl,rfl,q5,rfl⟩:=qH hi
 have hlz:(Builtin.zeroCells zv.cells n).toList.length=n*inf.size:=by rw[Array.length_toList,size_zeroCells,hz]
 have hst:=x7 (P:=P) (Builtin.zeroCells zv.cells n).toList 0 o cur w hg (by omega) (by
  intro v hv
  obtain⟨i,hi,rfl⟩:=List.getElem_of_mem hv
  simp only[Builtin.zeroCells,Array.getElem_toList,Array.getElem_map,Array.getElem_range]
  have hpos:0<zv.cells.size:=by
   rcases Nat.eq_zero_or_pos zv.cells.size with h0|h0
   ·rw[hlz,← hz,h0]at hi;omega
   ·exact h0
  have hlt:i % zv.cells.size<zv.cells.size:=Nat.mod_lt _ hpos
  rw[getElem!_pos zv.cells (i % zv.cells.size) hlt]
  exact h1 _ (by simp))
 simp only[Nat.add_zero]at hst
 have hzr:∀w,(zeroValue e).run P w= .ok zv w:=fun w=>zero_run (by unfold zero?;rw[q2];exact q5) w
 obtain⟨m,rfl⟩:∃m,n=m+1:=⟨n-1,by omega⟩
 unfold j6 Builtin.clear_
 simp only[List.getElem?_toArray,List.getElem?_cons_zero,List.getElem?_cons_succ,bind,pure,run_bind,Sem.bind,Sem.run,Cv.run_underlying q1,hzr,hst]
def z3m (P:Program) (tS sz:Nat) (s:Option Addr) (sn sk:Nat) (i j:Int) (w:World) (R:Ending→World→Prop):Prop:=
z6o s sk i j (sn:Int) sz fun a1 na1 ka1=>
cnd ((i:Int)==j) (
R (.returned (.slice s sn sk)) w) (
DrewN w fun w2=>
slN s sn sk none (some i) sz fun a3 na3 ka3=>
slN s sn sk (some j) none sz fun a4 na4 ka4=>
∃(a5:Option Addr) (na5 ka5:Nat),∃w6:World,j6 P (Builtin.append_ #[tS,tS] tS #[.slice a3 na3 ka3,.slice a4 na4 ka4]) w2 (.slice a5 na5 ka5) w6∧
slN a5 na5 ka5 (some (na5:Int)) (some (sn:Int)) sz fun a7 na7 ka7=>
∃w8:World,j6 P (Builtin.clear_ #[tS] 0 #[.slice a7 na7 ka7]) w6 (.tuple #[]) w8∧
R (.returned (.slice a5 na5 ka5)) w8)
theorem yBd {P:Program} {tS e sz by_:Nat} {z:Array Value} (hi:jK P tS=some (e,sz,by_,z)) (hz:z.size=sz) (hz1:∀v∈z.toList,v.oneC=true)
 {k:Ko} {w:World} {L:List HP} {s:Option Addr} {sn sk i j:Nat} {xs:List Value} (H:Hp k w (slO e sz s sn sk xs::L)) (h1:∀u∈xs,u.oneC=true) (hij:i<j) (hj:j≤sn):
 z3m P tS sz s sn sk i j w fun en w'=>∃a kk,en= .returned (.slice a (sn-(j-i)) kk)∧Hp k w' (slO e sz a (sn-(j-i)) kk (xs.take (i*sz)++xs.drop (j*sz))::L):=by
 obtain⟨hxl,hnk⟩:=H.len
 rcases H.slcases with⟨_,e0,_⟩|⟨b,r,rfl,g1,g2,g3,H0⟩
 ·omega
 have hle:i*sz≤xs.length:=by rw[hxl];exact Nat.mul_le_mul_right _ (by omega)
 have hjle:j*sz≤xs.length:=by rw[hxl];exact Nat.mul_le_mul_right _ hj
 have hdl:(xs.drop (j*sz)).length=(sn-j)*sz:=by rw[List.length_drop,hxl,Nat.sub_mul]
 have hsum:i*sz+(sn-j)*sz=(sn-(j-i))*sz:=by rw[← Nat.add_mul];congr 1;omega
 have hsum2:i*sz+(sn-j)*sz+(j-i)*sz=sn*sz:=by rw[← Nat.add_mul,← Nat.add_mul];congr 1;omega
 have hsum3:j*sz+(sn-j)*sz=sn*sz:=by rw[← Nat.add_mul];congr 1;omega
 have hlen:(xs++r).length=xs.length+r.length:=List.length_append
 unfold z3m
 simp only[z6o,slN,Int.toNat_natCast]
 refine⟨⟨by omega,by omega,by omega,by omega⟩,Cv.cnd.mk (fun c=>absurd c (by simp;omega)) fun _=> ?_⟩
 rintro _ rfl
 have H1:=H0.drew
 have hsrc:(Builtin.firstCells sz (sn-j) (.slice (if sk=j then some ⟨b,0,none⟩else(some ⟨b,0,none⟩:Option Addr).map (·.add (j*sz))) (sn-j) (sk-j))).run P w.drew= .ok (xs.drop (j*sz)).toArray w.drew:=by
  by_cases h0:(sn-j)*sz=0
  ·have:xs.drop (j*sz)=[]:=List.eq_nil_of_length_eq_zero (by omega)
   rw[this]
   by_cases hk:sk=j
   ·rw[if_pos hk];unfold Builtin.firstCells;rw[h0];rfl
   ·rw[if_neg hk,Option.map_some,jM];unfold Builtin.firstCells;rw[h0];rfl
  ·have hk:sk≠j:=by rintro rfl;have:sn-sk=0:=by omega
                    rw[this]at h0;simp at h0
   rw[if_neg hk,Option.map_some,jM]
   unfold Builtin.firstCells
   rw[jU H1.get (by rw[hlen];omega)]
   rw[Nat.zero_add,List.drop_append_of_le_length hjle,List.take_append_of_le_length (by omega),List.take_of_length_le (by omega)]
 refine⟨⟨by omega,by omega⟩,⟨by omega,by omega,hnk⟩,_,_,_,_,zFw (i:=i) (c:=sk) hi H1.get hsrc hdl (by omega) (by rw[hlen];omega) (fun v hv=>h1 v (List.mem_of_mem_drop hv)),⟨by omega,by omega,by omega⟩,?_⟩
 have H2:=H1.upd (.cells (spl (xs++r) (i*sz) (xs.drop (j*sz))).toArray e)
 have e1:i+(sn-j)=sn-(j-i):=by omega
 rw[if_neg (show sk≠i+(sn-j)by omega),Option.map_some,jM,Nat.zero_add,e1]
 have espl:spl (xs++r) (i*sz) (xs.drop (j*sz))=(xs.take (i*sz)++xs.drop (j*sz))++(xs++r).drop ((sn-(j-i))*sz):=by
  simp only[spl]
  rw[List.take_append_of_le_length hle,hdl,hsum]
 rw[espl]at H2
 have hA:(xs.take (i*sz)++xs.drop (j*sz)).length=(sn-(j-i))*sz:=by
  rw[List.length_append,List.length_take,hdl];omega
 have hB:((xs++r).drop ((sn-(j-i))*sz)).length=(j-i)*sz+r.length:=by
  rw[List.length_drop,hlen];omega
 rw[espl]
 have hn:sn-(sn-(j-i))=j-i:=by omega
 rw[hn]
 refine⟨_,zLa hi hz hz1 (by omega) H2.get (by rw[List.length_append,hA,hB];omega),_,_,rfl,?_⟩
 have H3:=H2.upd (.cells (spl (xs.take (i*sz)++xs.drop (j*sz)++(xs++r).drop ((sn-(j-i))*sz)) ((sn-(j-i))*sz) (Builtin.zeroCells z (j-i)).toList).toArray e)
 have es:=zCe (xs.take (i*sz)++xs.drop (j*sz)) ((xs++r).drop ((sn-(j-i))*sz)) (Builtin.zeroCells z (j-i)).toList
 rw[hA]at es
 rw[es]at H3
 rw[es]
 rw[List.append_assoc (xs.take (i*sz)++xs.drop (j*sz))]at H3 ⊢
 have hzl:(Builtin.zeroCells z (j-i)).toList.length=(j-i)*sz:=by rw[Array.length_toList,size_zeroCells,hz]
 refine H3.slmk hA ?_ (by omega)
 rw[List.length_append,hA,List.length_append,hzl,List.length_drop,hB,← g2,hlen,hxl]
 omega
structure zVo where
 els:List (List D)
 i:Nat
 j:Nat
def z3e (e sz:Nat):Con where
 ι:=zVo
 pat:=fun i=>[.own 0,.d (.v (.int .i64 i.i)),.d (.v (.int .i64 i.j))]
 pre:=fun i=>[.own e sz i.els]
 cnd:=fun i=>i.i<i.j∧i.j≤i.els.length
 alts:=fun i=>[{o:=Unit,res:=fun _=> .own 1,post:=fun _=>[.gone,.own e sz (i.els.take i.i++i.els.drop i.j)],rel:=fun _=>True}]
theorem delX_ok {P:Program} (hm:P.follows .mixedOrders=true) {tS e sz by_ fI:Nat} {z:Array Value} {fn:Func} {c:Code} (hf:P.funcs[fI]? =some fn) (hb:fn.body=some c) (hbd:k7 P fI=true) (hok:okC fn.ntmps c=true) (hfx:okF [] c=true) (hsz3:Nat.ble 3 fn.ntmps=true)
 (hi:jK P tS=some (e,sz,by_,z)) (hz:z.size=sz) (hz1:∀v∈z.toList,v.oneC=true)
 (heq:∀(s:Option Addr) (sn sk:Nat) (i j:Int) (w:World) (R:Ending→World→Prop),z3m P tS sz s sn sk i j w R=cwp P [] c (zBv P fn R) (jE [.slice s sn sk,.int .i64 i,.int .i64 j]) w):
 (z3e e sz).ok P fI:=by
 intro i hc k L E w ys R hv
 obtain⟨c1,c2⟩:i.i<i.j∧i.j≤i.els.length:=hc
 simp only[z3e,VRL,VR,DR]at hv
 obtain⟨y0,_,rfl,⟨l0,e0,_⟩,y1,_,rfl,⟨rfl,_⟩,y2,_,rfl,⟨rfl,_⟩,rfl⟩:=hv
 obtain⟨s,sk,xs,sub0,g1,hxs,hu,H⟩:=R.ownOpen (n:=0) (t:=e) (sz:=sz) (els:=i.els) rfl
 rw[e0]at g1;cases g1
 have H2:Hp k w (slO e sz s i.els.length sk xs::fz E.F::L):=H
 have hv:=yBd hi hz hz1 H2 hxs.one c1 c2
 have hcall:=nQ (args:=[.slice s i.els.length sk,.int .i64 i.i,.int .i64 i.j]) hm hf hb [] hok hfx hsz3 (heq s i.els.length sk i.i i.j w _) hv
 refine c9 hbd (hcall.mono ?_)
 rintro en w' ⟨a,kk,rfl,H3⟩
 have hl:(i.els.take i.i++i.els.drop i.j).length=i.els.length-(i.j-i.i):=by
  rw[List.length_append,List.length_take,List.length_drop];omega
 have H4:Hp k w' (slO e sz a (i.els.take i.i++i.els.drop i.j).length kk (xs.take (i.i*sz)++xs.drop (i.j*sz))::(([]:List (Nat×AObj)).map (rHP E)++fz E.F::L)):=by
  rw[hl]
  exact H3
 obtain⟨E',r1,r2,r3⟩:=vM (nx:=1) R.nx (by
  rw[List.flatten_append,← u0 i.i hu,← uW i.j hu]
  exact(hxs.take _).append (hxs.drop _)) (fun x hx=>by
   rcases List.mem_append.1 hx with hx|hx
   ·exact hu x (List.mem_of_mem_take hx)
   ·exact hu x (List.mem_of_mem_drop hx)) H4
 rw[hl]at r3
 refine⟨_,rfl,_,List.mem_singleton.2 rfl,(),trivial,E',r1,r3,⟨r2.nx,?_⟩⟩
 exact((@jW k w' True _).2 ⟨trivial,r2.hp⟩).imp (B:=rHP E' (0,.gone)) fun x hx=> .inl ⟨rfl,hx.2⟩
open Go Cv Go.Proofs
def uI (k:Int):List (Int×Place)→List (Int×Place)
 |[]=>[]
 |(a,b)::l=>if k=a then l else(a,b)::uI k l
structure DrI where
 b:Book
 id:Int
 price:Int
 slot:Int
def Book.unhas (b:Book) (s id:Int):Book:=if b.hasF s=true∧b.topI s=id then(if s=1 then{b with has1:=false}else{b with has2:=false})else b
def Book.dropF (b:Book) (s id price:Int):Book:=
 if(b.a.qAt ((b.rungs s).getD (zQ s (b.rungs s) price) ⟨0,0⟩).queue).count=0 then
  ({b.unhas s id with at_:=uI id b.at_,spare:=b.spare++[((b.rungs s).getD (zQ s (b.rungs s) price) ⟨0,0⟩).queue]}:Book).setR s ((b.rungs s).take (zQ s (b.rungs s) price)++(b.rungs s).drop (zQ s (b.rungs s) price+1))
 else{b.unhas s id with at_:=uI id b.at_}
def z0n (b:Book):AObj:= .cells [.nm 1 0,.own 6,.own 7,.mp 4,zE b.top1,zE b.top2,.own 8,yN b.has1,yN b.has2] 135
@[reducible] def z2m (b:Book):List AObj:=[z0n b,zN b 1,.gone,.gone,zN b 4,.gone,zN b 2,zN b 3,zN b 5]
@[reducible] def DrI.ok (i:DrI) (s:Int):Prop:=i.b.small∧zQ s (i.b.rungs s) i.price<(i.b.rungs s).length
def zSw (s:Int):Con:=con1 DrI (fun i=>[.nm 0 0,zE i.id,.agg [zE s,zE i.price,zE i.slot]]) (fun i=>nH i.b) (fun i=>i.ok s) (fun _=>zGt) (fun i=>z2m (i.b.dropF s i.id i.price))
def drop1C:Con:=zSw 1
def drop2C:Con:=zSw 2
structure DrJ where
 i:DrI
 s:Bool
def dropC:Con:=con1 DrJ (fun j=>[.nm 0 0,zE j.i.id,.agg [zE (zB j.s),zE j.i.price,zE j.i.slot]]) (fun j=>nH j.i.b) (fun j=>j.i.ok (zB j.s)) (fun _=>zGt) (fun j=>z2m (j.i.b.dropF (zB j.s) j.i.id j.i.price))
def delRC:Con:=z3e 141 2
def z8r:zH:=⟨0,0,0,0,false⟩
def uK (L:List zH) (id:Int):zH:=(L.find? fun o=>decide (o.id=id)).getD z8r
def yK (L:List zH) (id q:Int):List zH:=L.filterMap fun o=>if o.id=id then(if o.qty=q then none else some {o with qty:=o.qty-q})else some o
def yZ (L:List zH) (id q:Int):List zH×Int:=if qF L id=false then(L,26)else if q<1∨(uK L id).qty<q then(L,24)else(yK L id q,0)
def atL (L:List zH) (s p:Int):List zH:=L.filter fun o=>decide (o.side=s) && decide (o.price=p)
def grp:List zH→List Lv
 |[]=>[]
 |o::l=>match grp l with
  |[]=>[⟨o.price,o.qty,1⟩]
  |v::vs=>if v.price=o.price then⟨v.price,o.qty+v.qty,v.count+1⟩::vs else⟨o.price,o.qty,1⟩::v::vs
def qY (L:List zH) (s:Int):List Lv:=grp (L.filter fun o=>decide (o.side=s))
def bestL (L:List zH) (s:Int):Lv×Bool:=match qY L s with
 |[]=>(⟨0,0,0⟩,false)
 |v::_=>(v,true)
structure BkL where
 b:Book
 L:List zH
structure FlI where
 b:Book
 L:List zH
 id:Int
 qty:Int
structure AtI where
 b:Book
 L:List zH
 s:Bool
 price:Int
def fillC:Con where
 ι:=FlI
 pat:=fun i=>[.nm 0 0,zE i.id,zE i.qty]
 pre:=fun i=>[yA i.b]
 cnd:=fun i=>i.b.Rep i.L
 alts:=fun i=>[{o:=Book,res:=fun _=>zE (yZ i.L i.id i.qty).2,post:=fun b=>[yA b],rel:=fun b=>b.Rep (yZ i.L i.id i.qty).1}]
def bfindC:Con:=con1 FlI (fun i=>[.nm 0 0,zE i.id]) (fun i=>[yA i.b]) (fun i=>i.b.Rep i.L) (fun i=> .tup [z9d (uK i.L i.id),yN (qF i.L i.id)]) (fun i=>[yA i.b])
def z9m (s:Bool):Con:=con1 AtI (fun i=>[.nm 0 0,zE (zB s),zE i.price]) (fun i=>[yA i.b]) (fun i=>i.b.Rep i.L) (fun _=> .own 1) (fun i=>[yA i.b,.own 93 5 ((atL i.L (zB s) i.price).map qP)])
def at1C:Con:=z9m false
def at2C:Con:=z9m true
def atC:Con:=con1 AtI (fun i=>[.nm 0 0,zE (zB i.s),zE i.price]) (fun i=>[yA i.b]) (fun i=>i.b.Rep i.L) (fun _=> .own 1) (fun i=>[yA i.b,.own 93 5 ((atL i.L (zB i.s) i.price).map qP)])
open Go Cv Go.Proofs
@[reducible] def sK (i:DrI):Prop:=∃(i_1:BkP),(1:Int)=(1:Int)∧i_1.price=i.price∧i_1.b.top1=i.b.top1∧i_1.b.top2=i.b.top2∧i_1.b.has1=i.b.has1∧i_1.b.has2=i.b.has2∧AObj.adt Arena 3 zC i_1.b.a=zN i.b 1∧List.map zA i_1.b.buys=List.map zA i.b.buys∧List.map zA i_1.b.sells=List.map zA i.b.sells∧atE i_1.b.at_=g9 (Value.int IntKind.i64 i.id) (atE i.b.at_)∧iE i_1.b.spare=iE i.b.spare∧((i_1.b.a.slots.length≤1000000∧i_1.b.a.queues.length≤1000000)∧i_1.b.buys.length≤1000000∧i_1.b.sells.length≤1000000∧i_1.b.spare.length≤1000000)∧∀(o:Unit),True→(0≤(↑(zQ 1 (i_1.b.rungs 1) i_1.price):Int)∧(↑(zQ 1 (i_1.b.rungs 1) i_1.price):Int)<(↑(List.map zA i_1.b.buys).length:Int))∧∃(n:Int),zI (List.map zA i_1.b.buys) (↑(zQ 1 (i_1.b.rungs 1) i_1.price):Int).toNat ((0:Nat)+(1:Nat)) 1=some [D.v (.int .i64 n)]∧∃(i_2:ArN),i_2.n=n∧AObj.adt Arena 3 zC i_2.a=AObj.adt Arena 3 zC i_1.b.a∧True∧∀(o:Unit),True→cnd ((i_2.a.qAt i_2.n).count==0) (((iE i_1.b.spare).length+1)*(8:Nat)≤(70368744177664:Nat)∧∃(i_3:zVo),(↑i_3.i:Int)=(↑(zQ 1 (i_1.b.rungs 1) i_1.price):Int)∧(↑i_3.j:Int)=IntKind.i64.wrap ((↑(zQ 1 (i_1.b.rungs 1) i_1.price):Int)+1)∧i_3.els=List.map zA i_1.b.buys∧(i_3.i<i_3.j∧i_3.j≤i_3.els.length)∧∀(o:Unit),True→(1:Int)=(1:Int)∧∃(o:Unit),(i.b.dropF 1 i.id i.price).top1=i_1.b.top1∧(i.b.dropF 1 i.id i.price).top2=i_1.b.top2∧(i.b.dropF 1 i.id i.price).has1=i_1.b.has1∧(i.b.dropF 1 i.id i.price).has2=i_1.b.has2∧AObj.adt Arena 3 zC (i.b.dropF 1 i.id i.price).a=AObj.adt Arena 3 zC i_2.a∧atE (i.b.dropF 1 i.id i.price).at_=atE i_1.b.at_∧List.map zA (i.b.dropF 1 i.id i.price).buys=List.take i_3.i i_3.els++List.drop i_3.j i_3.els∧List.map zA (i.b.dropF 1 i.id i.price).sells=List.map zA i_1.b.sells∧iE (i.b.dropF 1 i.id i.price).spare=iE i_1.b.spare++[[D.v (.int .i64 n)]]∧True) (∃(o:Unit),(i.b.dropF 1 i.id i.price).top1=i_1.b.top1∧(i.b.dropF 1 i.id i.price).top2=i_1.b.top2∧(i.b.dropF 1 i.id i.price).has1=i_1.b.has1∧(i.b.dropF 1 i.id i.price).has2=i_1.b.has2∧AObj.adt Arena 3 zC (i.b.dropF 1 i.id i.price).a=AObj.adt Arena 3 zC i_2.a∧atE (i.b.dropF 1 i.id i.price).at_=atE i_1.b.at_∧List.map zA (i.b.dropF 1 i.id i.price).buys=List.map zA i_1.b.buys∧List.map zA (i.b.dropF 1 i.id i.price).sells=List.map zA i_1.b.sells∧iE (i.b.dropF 1 i.id i.price).spare=iE i_1.b.spare∧True)
def zKl (i:DrI):Prop:=
 (∀(p:Value×List D),p∈atE i.b.at_→like (Value.int IntKind.i64 i.id) p.fst=true)∧cnd i.b.has1 (cnd (i.b.top1==i.id) (∃(i_1:BkP),(1:Int)=(1:Int)∧i_1.price=i.price∧i_1.b.top1=i.b.top1∧i_1.b.top2=i.b.top2∧i_1.b.has1=false∧i_1.b.has2=i.b.has2∧AObj.adt Arena 3 zC i_1.b.a=zN i.b 1∧List.map zA i_1.b.buys=List.map zA i.b.buys∧List.map zA i_1.b.sells=List.map zA i.b.sells∧atE i_1.b.at_=g9 (Value.int IntKind.i64 i.id) (atE i.b.at_)∧iE i_1.b.spare=iE i.b.spare∧((i_1.b.a.slots.length≤1000000∧i_1.b.a.queues.length≤1000000)∧i_1.b.buys.length≤1000000∧i_1.b.sells.length≤1000000∧i_1.b.spare.length≤1000000)∧∀(o:Unit),True→(0≤(↑(zQ 1 (i_1.b.rungs 1) i_1.price):Int)∧(↑(zQ 1 (i_1.b.rungs 1) i_1.price):Int)<(↑(List.map zA i_1.b.buys).length:Int))∧∃(n:Int),zI (List.map zA i_1.b.buys) (↑(zQ 1 (i_1.b.rungs 1) i_1.price):Int).toNat ((0:Nat)+(1:Nat)) 1=some [D.v (.int .i64 n)]∧∃(i_2:ArN),i_2.n=n∧AObj.adt Arena 3 zC i_2.a=AObj.adt Arena 3 zC i_1.b.a∧True∧∀(o:Unit),True→cnd ((i_2.a.qAt i_2.n).count==0) (((iE i_1.b.spare).length+1)*(8:Nat)≤(70368744177664:Nat)∧∃(i_3:zVo),(↑i_3.i:Int)=(↑(zQ 1 (i_1.b.rungs 1) i_1.price):Int)∧(↑i_3.j:Int)=IntKind.i64.wrap ((↑(zQ 1 (i_1.b.rungs 1) i_1.price):Int)+1)∧i_3.els=List.map zA i_1.b.buys∧(i_3.i<i_3.j∧i_3.j≤i_3.els.length)∧∀(o:Unit),True→(1:Int)=(1:Int)∧∃(o:Unit),(i.b.dropF 1 i.id i.price).top1=i_1.b.top1∧(i.b.dropF 1 i.id i.price).top2=i_1.b.top2∧(i.b.dropF 1 i.id i.price).has1=i_1.b.has1∧(i.b.dropF 1 i.id i.price).has2=i_1.b.has2∧AObj.adt Arena 3 zC (i.b.dropF 1 i.id i.price).a=AObj.adt Arena 3 zC i_2.a∧atE (i.b.dropF 1 i.id i.price).at_=atE i_1.b.at_∧List.map zA (i.b.dropF 1 i.id i.price).buys=List.take i_3.i i_3.els++List.drop i_3.j i_3.els∧List.map zA (i.b.dropF 1 i.id i.price).sells=List.map zA i_1.b.sells∧iE (i.b.dropF 1 i.id i.price).spare=iE i_1.b.spare++[[D.v (.int .i64 n)]]∧True) (∃(o:Unit),(i.b.dropF 1 i.id i.price).top1=i_1.b.top1∧(i.b.dropF 1 i.id i.price).top2=i_1.b.top2∧(i.b.dropF 1 i.id i.price).has1=i_1.b.has1∧(i.b.dropF 1 i.id i.price).has2=i_1.b.has2∧AObj.adt Arena 3 zC (i.b.dropF 1 i.id i.price).a=AObj.adt Arena 3 zC i_2.a∧atE (i.b.dropF 1 i.id i.price).at_=atE i_1.b.at_∧List.map zA (i.b.dropF 1 i.id i.price).buys=List.map zA i_1.b.buys∧List.map zA (i.b.dropF 1 i.id i.price).sells=List.map zA i_1.b.sells∧iE (i.b.dropF 1 i.id i.price).spare=iE i_1.b.spare∧True)) (sK i)) (sK i)
theorem z0m (hG:GOk Tryz.prog ([(98,find1C),(129,acountC),(135,delRC)])) (h:∀(i:DrI),drop1C.cnd i→zKl i):drop1C.ok Tryz.prog 113:=okw mixed hG 0 (fun _=>[]) (fun _=>[]) [] Tryz.func113 h
@[reducible] def sY (i:DrI):Prop:=∃(i_1:BkP),(2:Int)=(2:Int)∧i_1.price=i.price∧i_1.b.top1=i.b.top1∧i_1.b.top2=i.b.top2∧i_1.b.has1=i.b.has1∧i_1.b.has2=i.b.has2∧AObj.adt Arena 3 zC i_1.b.a=zN i.b 1∧List.map zA i_1.b.buys=List.map zA i.b.buys∧List.map zA i_1.b.sells=List.map zA i.b.sells∧atE i_1.b.at_=g9 (Value.int IntKind.i64 i.id) (atE i.b.at_)∧iE i_1.b.spare=iE i.b.spare∧((i_1.b.a.slots.length≤1000000∧i_1.b.a.queues.length≤1000000)∧i_1.b.buys.length≤1000000∧i_1.b.sells.length≤1000000∧i_1.b.spare.length≤1000000)∧∀(o:Unit),True→(0≤(↑(zQ 2 (i_1.b.rungs 2) i_1.price):Int)∧(↑(zQ 2 (i_1.b.rungs 2) i_1.price):Int)<(↑(List.map zA i_1.b.sells).length:Int))∧∃(n:Int),zI (List.map zA i_1.b.sells) (↑(zQ 2 (i_1.b.rungs 2) i_1.price):Int).toNat ((0:Nat)+(1:Nat)) 1=some [D.v (.int .i64 n)]∧∃(i_2:ArN),i_2.n=n∧AObj.adt Arena 3 zC i_2.a=AObj.adt Arena 3 zC i_1.b.a∧True∧∀(o:Unit),True→cnd ((i_2.a.qAt i_2.n).count==0) (((iE i_1.b.spare).length+1)*(8:Nat)≤(70368744177664:Nat)∧∃(i_3:zVo),(↑i_3.i:Int)=(↑(zQ 2 (i_1.b.rungs 2) i_1.price):Int)∧(↑i_3.j:Int)=IntKind.i64.wrap ((↑(zQ 2 (i_1.b.rungs 2) i_1.price):Int)+1)∧i_3.els=List.map zA i_1.b.sells∧(i_3.i<i_3.j∧i_3.j≤i_3.els.length)∧∀(o:Unit),True→(2:Int)=(2:Int)∧∃(o:Unit),(i.b.dropF 2 i.id i.price).top1=i_1.b.top1∧(i.b.dropF 2 i.id i.price).top2=i_1.b.top2∧(i.b.dropF 2 i.id i.price).has1=i_1.b.has1∧(i.b.dropF 2 i.id i.price).has2=i_1.b.has2∧AObj.adt Arena 3 zC (i.b.dropF 2 i.id i.price).a=AObj.adt Arena 3 zC i_2.a∧atE (i.b.dropF 2 i.id i.price).at_=atE i_1.b.at_∧List.map zA (i.b.dropF 2 i.id i.price).buys=List.map zA i_1.b.buys∧List.map zA (i.b.dropF 2 i.id i.price).sells=List.take i_3.i i_3.els++List.drop i_3.j i_3.els∧iE (i.b.dropF 2 i.id i.price).spare=iE i_1.b.spare++[[D.v (.int .i64 n)]]∧True) (∃(o:Unit),(i.b.dropF 2 i.id i.price).top1=i_1.b.top1∧(i.b.dropF 2 i.id i.price).top2=i_1.b.top2∧(i.b.dropF 2 i.id i.price).has1=i_1.b.has1∧(i.b.dropF 2 i.id i.price).has2=i_1.b.has2∧AObj.adt Arena 3 zC (i.b.dropF 2 i.id i.price).a=AObj.adt Arena 3 zC i_2.a∧atE (i.b.dropF 2 i.id i.price).at_=atE i_1.b.at_∧List.map zA (i.b.dropF 2 i.id i.price).buys=List.map zA i_1.b.buys∧List.map zA (i.b.dropF 2 i.id i.price).sells=List.map zA i_1.b.sells∧iE (i.b.dropF 2 i.id i.price).spare=iE i_1.b.spare∧True)
def zIs (i:DrI):Prop:=
 (∀(p:Value×List D),p∈atE i.b.at_→like (Value.int IntKind.i64 i.id) p.fst=true)∧cnd i.b.has2 (cnd (i.b.top2==i.id) (∃(i_1:BkP),(2:Int)=(2:Int)∧i_1.price=i.price∧i_1.b.top1=i.b.top1∧i_1.b.top2=i.b.top2∧i_1.b.has1=i.b.has1∧i_1.b.has2=false∧AObj.adt Arena 3 zC i_1.b.a=zN i.b 1∧List.map zA i_1.b.buys=List.map zA i.b.buys∧List.map zA i_1.b.sells=List.map zA i.b.sells∧atE i_1.b.at_=g9 (Value.int IntKind.i64 i.id) (atE i.b.at_)∧iE i_1.b.spare=iE i.b.spare∧((i_1.b.a.slots.length≤1000000∧i_1.b.a.queues.length≤1000000)∧i_1.b.buys.length≤1000000∧i_1.b.sells.length≤1000000∧i_1.b.spare.length≤1000000)∧∀(o:Unit),True→(0≤(↑(zQ 2 (i_1.b.rungs 2) i_1.price):Int)∧(↑(zQ 2 (i_1.b.rungs 2) i_1.price):Int)<(↑(List.map zA i_1.b.sells).length:Int))∧∃(n:Int),zI (List.map zA i_1.b.sells) (↑(zQ 2 (i_1.b.rungs 2) i_1.price):Int).toNat ((0:Nat)+(1:Nat)) 1=some [D.v (.int .i64 n)]∧∃(i_2:ArN),i_2.n=n∧AObj.adt Arena 3 zC i_2.a=AObj.adt Arena 3 zC i_1.b.a∧True∧∀(o:Unit),True→cnd ((i_2.a.qAt i_2.n).count==0) (((iE i_1.b.spare).length+1)*(8:Nat)≤(70368744177664:Nat)∧∃(i_3:zVo),(↑i_3.i:Int)=(↑(zQ 2 (i_1.b.rungs 2) i_1.price):Int)∧(↑i_3.j:Int)=IntKind.i64.wrap ((↑(zQ 2 (i_1.b.rungs 2) i_1.price):Int)+1)∧i_3.els=List.map zA i_1.b.sells∧(i_3.i<i_3.j∧i_3.j≤i_3.els.length)∧∀(o:Unit),True→(2:Int)=(2:Int)∧∃(o:Unit),(i.b.dropF 2 i.id i.price).top1=i_1.b.top1∧(i.b.dropF 2 i.id i.price).top2=i_1.b.top2∧(i.b.dropF 2 i.id i.price).has1=i_1.b.has1∧(i.b.dropF 2 i.id i.price).has2=i_1.b.has2∧AObj.adt Arena 3 zC (i.b.dropF 2 i.id i.price).a=AObj.adt Arena 3 zC i_2.a∧atE (i.b.dropF 2 i.id i.price).at_=atE i_1.b.at_∧List.map zA (i.b.dropF 2 i.id i.price).buys=List.map zA i_1.b.buys∧List.map zA (i.b.dropF 2 i.id i.price).sells=List.take i_3.i i_3.els++List.drop i_3.j i_3.els∧iE (i.b.dropF 2 i.id i.price).spare=iE i_1.b.spare++[[D.v (.int .i64 n)]]∧True) (∃(o:Unit),(i.b.dropF 2 i.id i.price).top1=i_1.b.top1∧(i.b.dropF 2 i.id i.price).top2=i_1.b.top2∧(i.b.dropF 2 i.id i.price).has1=i_1.b.has1∧(i.b.dropF 2 i.id i.price).has2=i_1.b.has2∧AObj.adt Arena 3 zC (i.b.dropF 2 i.id i.price).a=AObj.adt Arena 3 zC i_2.a∧atE (i.b.dropF 2 i.id i.price).at_=atE i_1.b.at_∧List.map zA (i.b.dropF 2 i.id i.price).buys=List.map zA i_1.b.buys∧List.map zA (i.b.dropF 2 i.id i.price).sells=List.map zA i_1.b.sells∧iE (i.b.dropF 2 i.id i.price).spare=iE i_1.b.spare∧True)) (sY i)) (sY i)
theorem zXy (hG:GOk Tryz.prog ([(98,find2C),(129,acountC),(135,delRC)])) (h:∀(i:DrI),drop2C.cnd i→zIs i):drop2C.ok Tryz.prog 113:=okw mixed hG 0 (fun _=>[]) (fun _=>[]) [] Tryz.func113 h
@[reducible] def sW (i:FlI) (b:Bool) (n:Int) (n_1:Int) (n_2:Int):Prop:=∃(i_1:ArN),i_1.n=n_2∧AObj.adt Arena 3 zC i_1.a=AObj.adt Arena 3 zC i.b.a∧i_1.a.slots.length≤1000000∧∀(o:Unit),True→∃(o:Unit),(uK i.L i.id).id=i.id∧(uK i.L i.id).side=n∧(uK i.L i.id).price=n_1∧(uK i.L i.id).qty=(i_1.a.getF i_1.n).fst.qty∧(uK i.L i.id).top=(i_1.a.getF i_1.n).fst.top∧qF i.L i.id=true∧i.b.top1=i.b.top1∧i.b.top2=i.b.top2∧i.b.has1=i.b.has1∧i.b.has2=i.b.has2∧AObj.adt Arena 3 zC i.b.a=AObj.adt Arena 3 zC i_1.a∧List.map zA i.b.buys=List.map zA i.b.buys∧List.map zA i.b.sells=List.map zA i.b.sells∧atE i.b.at_=atE i.b.at_∧iE i.b.spare=iE i.b.spare∧True
def zKk (i:FlI):Prop:=
 (∀(p:Value×List D),p∈atE i.b.at_→like (Value.int IntKind.i64 i.id) p.fst=true)∧∃(b:Bool),∃(n:Int),∃(n_1:Int),∃(n_2:Int),(kV (Value.int IntKind.i64 i.id) (atE i.b.at_)=some [D.v (.int .i64 n),D.v (.int .i64 n_1),D.v (.int .i64 n_2)]∧b=true∨kV (Value.int IntKind.i64 i.id) (atE i.b.at_)=none∧[D.v (.int .i64 n),D.v (.int .i64 n_1),D.v (.int .i64 n_2)]=[D.v (.int .i64 0),D.v (.int .i64 0),D.v (.int .i64 0)]∧b=false)∧cnd (!b) (∃(o:Unit),(uK i.L i.id).id=0∧(uK i.L i.id).side=0∧(uK i.L i.id).price=0∧(uK i.L i.id).qty=0∧(uK i.L i.id).top=false∧qF i.L i.id=false∧i.b.top1=i.b.top1∧i.b.top2=i.b.top2∧i.b.has1=i.b.has1∧i.b.has2=i.b.has2∧AObj.adt Arena 3 zC i.b.a=AObj.adt Arena 3 zC i.b.a∧List.map zA i.b.buys=List.map zA i.b.buys∧List.map zA i.b.sells=List.map zA i.b.sells∧atE i.b.at_=atE i.b.at_∧iE i.b.spare=iE i.b.spare∧True) ((sW i b n n_1 n_2)∧n_2=n_2∧True∧sW i b n n_1 n_2)
theorem zZs (hG:GOk Tryz.prog ([(111,agetC)])) (h:∀(i:FlI),bfindC.cnd i→zKk i):bfindC.ok Tryz.prog 71:=okw mixed hG 0 (fun _=>[]) (fun _=>[]) [0] Tryz.func71 h
@[reducible] def zCv (i:FlI) (b:Bool) (n:Int) (n_1:Int) (n_2:Int) (i_1:TkI) (o:Unit):Prop:=∃(i_2:ArN),i_2.n=n_2∧AObj.adt Arena 3 zC i_2.a=AObj.adt Arena 3 zC (i_1.a.takeF i_1.n i_1.qty).fst∧i_2.a.slots.length≤1000000∧∀(o:Unit),True→cnd (!(i_2.a.getF i_2.n).snd) (∃(i_3:DrJ),i_3.i.id=i.id∧zB i_3.s=n∧i_3.i.price=n_1∧i_3.i.slot=n_2∧i_3.i.b.top1=i.b.top1∧i_3.i.b.top2=i.b.top2∧i_3.i.b.has1=i.b.has1∧i_3.i.b.has2=i.b.has2∧AObj.adt Arena 3 zC i_3.i.b.a=AObj.adt Arena 3 zC i_2.a∧List.map zA i_3.i.b.buys=List.map zA i.b.buys∧List.map zA i_3.i.b.sells=List.map zA i.b.sells∧atE i_3.i.b.at_=atE i.b.at_∧iE i_3.i.b.spare=iE i.b.spare∧(((i_3.i.b.a.slots.length≤1000000∧i_3.i.b.a.queues.length≤1000000)∧i_3.i.b.buys.length≤1000000∧i_3.i.b.sells.length≤1000000∧i_3.i.b.spare.length≤1000000)∧zQ (zB i_3.s) (i_3.i.b.rungs (zB i_3.s)) i_3.i.price<(i_3.i.b.rungs (zB i_3.s)).length)∧∀(o:Unit),True→∃(o:Book),(yZ i.L i.id i.qty).snd=0∧o.top1=(i_3.i.b.dropF (zB i_3.s) i_3.i.id i_3.i.price).top1∧o.top2=(i_3.i.b.dropF (zB i_3.s) i_3.i.id i_3.i.price).top2∧o.has1=(i_3.i.b.dropF (zB i_3.s) i_3.i.id i_3.i.price).has1∧o.has2=(i_3.i.b.dropF (zB i_3.s) i_3.i.id i_3.i.price).has2∧AObj.adt Arena 3 zC o.a=AObj.adt Arena 3 zC (i_3.i.b.dropF (zB i_3.s) i_3.i.id i_3.i.price).a∧List.map zA o.buys=List.map zA (i_3.i.b.dropF (zB i_3.s) i_3.i.id i_3.i.price).buys∧List.map zA o.sells=List.map zA (i_3.i.b.dropF (zB i_3.s) i_3.i.id i_3.i.price).sells∧atE o.at_=atE (i_3.i.b.dropF (zB i_3.s) i_3.i.id i_3.i.price).at_∧iE o.spare=iE (i_3.i.b.dropF (zB i_3.s) i_3.i.id i_3.i.price).spare∧o.Rep (yZ i.L i.id i.qty).fst) (cnd ((i_2.a.getF i_2.n).fst.id !=i.id) (∃(i_3:DrJ),i_3.i.id=i.id∧zB i_3.s=n∧i_3.i.price=n_1∧i_3.i.slot=n_2∧i_3.i.b.top1=i.b.top1∧i_3.i.b.top2=i.b.top2∧i_3.i.b.has1=i.b.has1∧i_3.i.b.has2=i.b.has2∧AObj.adt Arena 3 zC i_3.i.b.a=AObj.adt Arena 3 zC i_2.a∧List.map zA i_3.i.b.buys=List.map zA i.b.buys∧List.map zA i_3.i.b.sells=List.map zA i.b.sells∧atE i_3.i.b.at_=atE i.b.at_∧iE i_3.i.b.spare=iE i.b.spare∧(((i_3.i.b.a.slots.length≤1000000∧i_3.i.b.a.queues.length≤1000000)∧i_3.i.b.buys.length≤1000000∧i_3.i.b.sells.length≤1000000∧i_3.i.b.spare.length≤1000000)∧zQ (zB i_3.s) (i_3.i.b.rungs (zB i_3.s)) i_3.i.price<(i_3.i.b.rungs (zB i_3.s)).length)∧∀(o:Unit),True→∃(o:Book),(yZ i.L i.id i.qty).snd=0∧o.top1=(i_3.i.b.dropF (zB i_3.s) i_3.i.id i_3.i.price).top1∧o.top2=(i_3.i.b.dropF (zB i_3.s) i_3.i.id i_3.i.price).top2∧o.has1=(i_3.i.b.dropF (zB i_3.s) i_3.i.id i_3.i.price).has1∧o.has2=(i_3.i.b.dropF (zB i_3.s) i_3.i.id i_3.i.price).has2∧AObj.adt Arena 3 zC o.a=AObj.adt Arena 3 zC (i_3.i.b.dropF (zB i_3.s) i_3.i.id i_3.i.price).a∧List.map zA o.buys=List.map zA (i_3.i.b.dropF (zB i_3.s) i_3.i.id i_3.i.price).buys∧List.map zA o.sells=List.map zA (i_3.i.b.dropF (zB i_3.s) i_3.i.id i_3.i.price).sells∧atE o.at_=atE (i_3.i.b.dropF (zB i_3.s) i_3.i.id i_3.i.price).at_∧iE o.spare=iE (i_3.i.b.dropF (zB i_3.s) i_3.i.id i_3.i.price).spare∧o.Rep (yZ i.L i.id i.qty).fst) (∃(o:Book),(yZ i.L i.id i.qty).snd=0∧o.top1=i.b.top1∧o.top2=i.b.top2∧o.has1=i.b.has1∧o.has2=i.b.has2∧AObj.adt Arena 3 zC o.a=AObj.adt Arena 3 zC i_2.a∧List.map zA o.buys=List.map zA i.b.buys∧List.map zA o.sells=List.map zA i.b.sells∧atE o.at_=atE i.b.at_∧iE o.spare=iE i.b.spare∧o.Rep (yZ i.L i.id i.qty).fst))
def zTm (i:FlI):Prop:=
 (∀(p:Value×List D),p∈atE i.b.at_→like (Value.int IntKind.i64 i.id) p.fst=true)∧∃(b:Bool),∃(n:Int),∃(n_1:Int),∃(n_2:Int),(kV (Value.int IntKind.i64 i.id) (atE i.b.at_)=some [D.v (.int .i64 n),D.v (.int .i64 n_1),D.v (.int .i64 n_2)]∧b=true∨kV (Value.int IntKind.i64 i.id) (atE i.b.at_)=none∧[D.v (.int .i64 n),D.v (.int .i64 n_1),D.v (.int .i64 n_2)]=[D.v (.int .i64 0),D.v (.int .i64 0),D.v (.int .i64 0)]∧b=false)∧cnd (!b) (∃(o:Book),(yZ i.L i.id i.qty).snd=26∧o.top1=i.b.top1∧o.top2=i.b.top2∧o.has1=i.b.has1∧o.has2=i.b.has2∧AObj.adt Arena 3 zC o.a=AObj.adt Arena 3 zC i.b.a∧List.map zA o.buys=List.map zA i.b.buys∧List.map zA o.sells=List.map zA i.b.sells∧atE o.at_=atE i.b.at_∧iE o.spare=iE i.b.spare∧o.Rep (yZ i.L i.id i.qty).fst) (∃(i_1:TkI),i_1.n=n_2∧i_1.qty=i.qty∧AObj.adt Arena 3 zC i_1.a=AObj.adt Arena 3 zC i.b.a∧(i_1.a.slots.length≤1000000∧∀(k:Nat) (s:Slot),i_1.a.slots[k]?=some s→s.used=true→(0≤s.queue∧s.queue<(↑i_1.a.queues.length:Int))∧s.qty≤1000000∧(s.ahead=(-1)∨0≤s.ahead∧s.ahead<(↑i_1.a.slots.length:Int)∧s.ahead≠(↑k:Int))∧(s.back=(-1)∨0≤s.back∧s.back<(↑i_1.a.slots.length:Int)∧s.back≠(↑k:Int)))∧∀(o:Unit),True→cnd ((i_1.a.takeF i_1.n i_1.qty).snd !=0) (∃(o:Book),(yZ i.L i.id i.qty).snd=(i_1.a.takeF i_1.n i_1.qty).snd∧o.top1=i.b.top1∧o.top2=i.b.top2∧o.has1=i.b.has1∧o.has2=i.b.has2∧AObj.adt Arena 3 zC o.a=AObj.adt Arena 3 zC (i_1.a.takeF i_1.n i_1.qty).fst∧List.map zA o.buys=List.map zA i.b.buys∧List.map zA o.sells=List.map zA i.b.sells∧atE o.at_=atE i.b.at_∧iE o.spare=iE i.b.spare∧o.Rep (yZ i.L i.id i.qty).fst) ((zCv i b n n_1 n_2 i_1 o)∧n_2=n_2∧True∧zCv i b n n_1 n_2 i_1 o))
theorem z6n (hG:GOk Tryz.prog ([(112,atakeC),(111,agetC),(113,dropC)])) (h:∀(i:FlI),fillC.cnd i→zTm i):fillC.ok Tryz.prog 73:=okw mixed hG 0 (fun _=>[]) (fun _=>[]) [0] Tryz.func73 h
def z5z (i:AtI):Prop:=
 ∃(i_1:Int),i_1=zB false∧True∧∀(o:Unit),True→cnd (!(decide (i_1=1)||decide (i_1=2))) (∃(o:Unit),i.b.top1=i.b.top1∧i.b.top2=i.b.top2∧i.b.has1=i.b.has1∧i.b.has2=i.b.has2∧AObj.adt Arena 3 zC i.b.a=AObj.adt Arena 3 zC i.b.a∧List.map zA i.b.buys=List.map zA i.b.buys∧List.map zA i.b.sells=List.map zA i.b.sells∧atE i.b.at_=atE i.b.at_∧iE i.b.spare=iE i.b.spare∧List.map qP (atL i.L (zB false) i.price)=[]∧True) (∃(i_2:BkP),1=zB false∧i_2.price=i.price∧i_2.b.top1=i.b.top1∧i_2.b.top2=i.b.top2∧i_2.b.has1=i.b.has1∧i_2.b.has2=i.b.has2∧AObj.adt Arena 3 zC i_2.b.a=AObj.adt Arena 3 zC i.b.a∧List.map zA i_2.b.buys=List.map zA i.b.buys∧List.map zA i_2.b.sells=List.map zA i.b.sells∧atE i_2.b.at_=atE i.b.at_∧iE i_2.b.spare=iE i.b.spare∧((i_2.b.a.slots.length≤1000000∧i_2.b.a.queues.length≤1000000)∧i_2.b.buys.length≤1000000∧i_2.b.sells.length≤1000000∧i_2.b.spare.length≤1000000)∧∀(o:Unit),True→cnd (!xM 1 (i_2.b.rungs 1) i_2.price) (∃(o:Unit),i.b.top1=i_2.b.top1∧i.b.top2=i_2.b.top2∧i.b.has1=i_2.b.has1∧i.b.has2=i_2.b.has2∧AObj.adt Arena 3 zC i.b.a=AObj.adt Arena 3 zC i_2.b.a∧List.map zA i.b.buys=List.map zA i_2.b.buys∧List.map zA i.b.sells=List.map zA i_2.b.sells∧atE i.b.at_=atE i_2.b.at_∧iE i.b.spare=iE i_2.b.spare∧List.map qP (atL i.L (zB false) i.price)=[]∧True) ((0≤(↑(zQ 1 (i_2.b.rungs 1) i_2.price):Int)∧(↑(zQ 1 (i_2.b.rungs 1) i_2.price):Int)<(↑(List.map zA i_2.b.buys).length:Int))∧∃(n:Int),∃(n_1:Int),zI (List.map zA i_2.b.buys) (↑(zQ 1 (i_2.b.rungs 1) i_2.price):Int).toNat 0 2=some [D.v (.int .i64 n),D.v (.int .i64 n_1)]∧∃(i_3:BoI),i_3.s=zB false∧i_3.r.price=n∧i_3.r.queue=n_1∧i_3.b.top1=i_2.b.top1∧i_3.b.top2=i_2.b.top2∧i_3.b.has1=i_2.b.has1∧i_3.b.has2=i_2.b.has2∧AObj.adt Arena 3 zC i_3.b.a=AObj.adt Arena 3 zC i_2.b.a∧List.map zA i_3.b.buys=List.map zA i_2.b.buys∧List.map zA i_3.b.sells=List.map zA i_2.b.sells∧atE i_3.b.at_=atE i_2.b.at_∧iE i_3.b.spare=iE i_2.b.spare∧i_3.b.a.listOk i_3.r.queue i_3.l∧∀(o:Unit),True→∃(o:Unit),yA i.b=yA i_3.b∧List.map qP (atL i.L (zB false) i.price)=List.map qP i_3.ords∧True))
theorem z8i (hG:GOk Tryz.prog ([(59,bisC),(98,find1C),(104,ordersC)])) (h:∀(i:AtI),at1C.cnd i→z5z i):at1C.ok Tryz.prog 67:=okw mixed hG 0 (fun _=>[]) (fun _=>[]) [0] Tryz.func67 h
def z4i (i:AtI):Prop:=
 ∃(i_1:Int),i_1=zB true∧True∧∀(o:Unit),True→cnd (!(decide (i_1=1)||decide (i_1=2))) (∃(o:Unit),i.b.top1=i.b.top1∧i.b.top2=i.b.top2∧i.b.has1=i.b.has1∧i.b.has2=i.b.has2∧AObj.adt Arena 3 zC i.b.a=AObj.adt Arena 3 zC i.b.a∧List.map zA i.b.buys=List.map zA i.b.buys∧List.map zA i.b.sells=List.map zA i.b.sells∧atE i.b.at_=atE i.b.at_∧iE i.b.spare=iE i.b.spare∧List.map qP (atL i.L (zB true) i.price)=[]∧True) (∃(i_2:BkP),2=zB true∧i_2.price=i.price∧i_2.b.top1=i.b.top1∧i_2.b.top2=i.b.top2∧i_2.b.has1=i.b.has1∧i_2.b.has2=i.b.has2∧AObj.adt Arena 3 zC i_2.b.a=AObj.adt Arena 3 zC i.b.a∧List.map zA i_2.b.buys=List.map zA i.b.buys∧List.map zA i_2.b.sells=List.map zA i.b.sells∧atE i_2.b.at_=atE i.b.at_∧iE i_2.b.spare=iE i.b.spare∧((i_2.b.a.slots.length≤1000000∧i_2.b.a.queues.length≤1000000)∧i_2.b.buys.length≤1000000∧i_2.b.sells.length≤1000000∧i_2.b.spare.length≤1000000)∧∀(o:Unit),True→cnd (!xM 2 (i_2.b.rungs 2) i_2.price) (∃(o:Unit),i.b.top1=i_2.b.top1∧i.b.top2=i_2.b.top2∧i.b.has1=i_2.b.has1∧i.b.has2=i_2.b.has2∧AObj.adt Arena 3 zC i.b.a=AObj.adt Arena 3 zC i_2.b.a∧List.map zA i.b.buys=List.map zA i_2.b.buys∧List.map zA i.b.sells=List.map zA i_2.b.sells∧atE i.b.at_=atE i_2.b.at_∧iE i.b.spare=iE i_2.b.spare∧List.map qP (atL i.L (zB true) i.price)=[]∧True) ((0≤(↑(zQ 2 (i_2.b.rungs 2) i_2.price):Int)∧(↑(zQ 2 (i_2.b.rungs 2) i_2.price):Int)<(↑(List.map zA i_2.b.sells).length:Int))∧∃(n:Int),∃(n_1:Int),zI (List.map zA i_2.b.sells) (↑(zQ 2 (i_2.b.rungs 2) i_2.price):Int).toNat 0 2=some [D.v (.int .i64 n),D.v (.int .i64 n_1)]∧∃(i_3:BoI),i_3.s=zB true∧i_3.r.price=n∧i_3.r.queue=n_1∧i_3.b.top1=i_2.b.top1∧i_3.b.top2=i_2.b.top2∧i_3.b.has1=i_2.b.has1∧i_3.b.has2=i_2.b.has2∧AObj.adt Arena 3 zC i_3.b.a=AObj.adt Arena 3 zC i_2.b.a∧List.map zA i_3.b.buys=List.map zA i_2.b.buys∧List.map zA i_3.b.sells=List.map zA i_2.b.sells∧atE i_3.b.at_=atE i_2.b.at_∧iE i_3.b.spare=iE i_2.b.spare∧i_3.b.a.listOk i_3.r.queue i_3.l∧∀(o:Unit),True→∃(o:Unit),yA i.b=yA i_3.b∧List.map qP (atL i.L (zB true) i.price)=List.map qP i_3.ords∧True))
theorem yAb (hG:GOk Tryz.prog ([(59,bisC),(98,find2C),(104,ordersC)])) (h:∀(i:AtI),at2C.cnd i→z4i i):at2C.ok Tryz.prog 67:=okw mixed hG 0 (fun _=>[]) (fun _=>[]) [0] Tryz.func67 h
open Go Cv Go.Proofs
theorem wS {L:List zH} (h:(L.map (·.id)).Nodup) {o:zH} (ho:o∈L):uK L o.id=o:=by
 induction L with
 |nil=>cases ho
 |cons x L ih=>
  rw[List.map_cons,List.nodup_cons]at h
  rw[uK,List.find?_cons]
  rcases List.mem_cons.1 ho with rfl|ho
  ·rw[decide_eq_true rfl];rfl
  ·have:x.id≠o.id:=fun e=>h.1 (e▸List.mem_map_of_mem (f:=(·.id)) ho)
   rw[decide_eq_false this]
   exact ih h.2 ho
theorem kY {α β:Type} {f g:α→Option β}:∀{l:List α},(∀x∈l,f x=g x)→l.filterMap f=l.filterMap g
 |[],_=>rfl
 |x::l,h=>by rw[List.filterMap_cons,List.filterMap_cons,h x List.mem_cons_self,kY fun y hy=>h y (List.mem_cons_of_mem _ hy)]
theorem z3n {L:List zH} {id:Int} (h:qF L id=false):uK L id=z8r:=by
 rw[uK]
 have:L.find? (fun o=>decide (o.id=id))=none:=by
  rw[List.find?_eq_none]
  intro o ho
  rw[qF,List.any_eq_false]at h
  exact h o ho
 rw[this];rfl
structure Told (b:Book) (Q:List (List Nat)) (id:Int) (s:Int) (r:y7) (k:Nat):Prop where
 hs:s=1∨s=2
 hr:r∈b.rungs s
 hk:k∈yR Q r
 e:pget b.at_ id=some ⟨s,r.price,k⟩
 ident:(b.a.slotAt k).id=id
 get:uK (b.flat Q) id=kG b.a s r.price k
 has:qF (b.flat Q) id=true
theorem zYa {b:Book} {Q:List (List Nat)} {s:Int} (hs:s=1∨s=2) {r:y7} (hr:r∈b.rungs s) {k:Nat} (hk:k∈yR Q r):kG b.a s r.price k∈b.flat Q:=
 flat_mem hs (List.mem_flatMap.2 ⟨r,hr,List.mem_map_of_mem hk⟩)
theorem Book.Core.told {b:Book} {Q:List (List Nat)} (c:b.Core Q (-1)) (id:Int):(pget b.at_ id=none∧qF (b.flat Q) id=false)∨∃s r k,Told b Q id s r k:=by
 cases hg:pget b.at_ id with
 |none=>
  have:=mJ hg
  rw[c.keysP.mem_iff,← hasId_iff]at this
  exact .inl ⟨rfl,by simpa using this⟩
 |some x=>
  obtain⟨k,r,hs,hr,hk,hx,hid⟩:=c.plcI (fJ hg)
  have hm:=zYa hs hr hk
  have hget:=wS c.ids hm
  have e:(kG b.a x.side r.price k).id=id:=hid
  rw[e]at hget
  exact .inr ⟨x.side,r,k,hs,hr,hk,by rw[hg];exact congrArg some hx,hid,hget,hasId_iff.2 (by rw[← e];exact List.mem_map_of_mem hm)⟩
theorem Told.only {b:Book} {Q:List (List Nat)} (c:b.Core Q (-1)) {id s:Int} {r:y7} {k:Nat} (h:Told b Q id s r k) {s':Int} (hs':s'=1∨s'=2) {r':y7} (hr':r'∈b.rungs s') {j:Nat} (hj:j∈yR Q r'):(b.a.slotAt j).id=id↔j=k:=by
 constructor
 ·intro e
  have h1:=c.plc hs' hr' hj
  have h2:=c.plc h.hs h.hr h.hk
  rw[e]at h1
  rw[h.ident]at h2
  have:=congrArg Place.slot (bN c.keys h1 h2)
  dsimp only at this
  omega
 ·rintro rfl;exact h.ident
theorem Book.Core.less {b:Book} {Q:List (List Nat)} (c:b.Core Q (-1)) (ht:b.Tops (b.flat Q)) {id s:Int} {r:y7} {k:Nat} (h:Told b Q id s r k) {q:Int} (hq:1≤q∧q<(b.a.slotAt k).qty):
 (b.a.takeF k q).2=0∧({b with a:=(b.a.takeF k q).1}:Book).Rep (yK (b.flat Q) id q)∧(b.a.takeF k q).1.slots.length=250∧(b.a.takeF k q).1.getF k=((((b.a.takeF k q).1.slotAt k)).ent,true)∧((b.a.takeF k q).1.slotAt k).id=id:=by
 obtain⟨t1,t2,t3⟩:=c.wf.take (c.get h.hs h.hr) h.hk (q:=q) ⟨hq.1,by omega⟩
 rw[if_neg (by omega)]at t3
 obtain⟨w,t4,t5⟩:=t3
 have hent:∀j,((b.a.takeF k q).1.slotAt j).ent=if j=k then{(b.a.slotAt k).ent with qty:=(b.a.slotAt k).qty-q}else(b.a.slotAt j).ent:=by
  intro j
  split
  ·rename_i e;rw[e,t4];rfl
  ·rename_i e;exact(t2 j e).1
 have hid:∀j,((b.a.takeF k q).1.slotAt j).id=(b.a.slotAt j).id:=by
  intro j
  have:=congrArg Ent.id (hent j)
  split at this
  ·rename_i e;rw[e]at this ⊢;exact this
  ·exact this
 have hflat:({b with a:=(b.a.takeF k q).1}:Book).flat Q=yK (b.flat Q) id q:=by
  have side:∀s',s'=1∨s'=2→({b with a:=(b.a.takeF k q).1}:Book).sideL Q s'=yK (b.sideL Q s') id q:=by
   intro s' hs'
   rw[yK,Book.sideL,Book.sideL,List.filterMap_flatMap]
   refine yT fun r' hr'=> ?_
   rw[Book.rOrds,Book.rOrds,List.filterMap_map]
   have:(yR Q r').filterMap (fun j=>some (kG (b.a.takeF k q).1 s' r'.price j))=(yR Q r').map (kG (b.a.takeF k q).1 s' r'.price):=by rw[← List.filterMap_eq_map];rfl
   refine this.symm.trans (kY fun j hj=> ?_)
   simp only[Function.comp,kG,zTu,hent]
   have hon:=h.only c hs' hr' hj
   by_cases e:j=k
   ·subst e
    rw[if_pos rfl]
    refine((if_pos (show(b.a.slotAt j).ent.id=id from h.ident)).trans (if_neg fun e=> ?_)).symm
    have e:(b.a.slotAt j).qty=q:=e
    omega
   ·rw[if_neg e];exact(if_neg (fun e2=>e (hon.1 e2))).symm
  rw[Book.flat,side 1 (.inl rfl),side 2 (.inr rfl),Book.flat,yK,yK,yK,List.filterMap_append]
 have hu:(b.a.takeF k q).1.usedAt k=true:=by
  obtain⟨hk2,⟨_,_,h2⟩,h3⟩:=w.toWf0.mem (c.get h.hs h.hr) h.hk
  have hlt:=w.len
  simp only[Arena.usedAt,Bool.and_eq_true,decide_eq_true_eq,Int.toNat_natCast]
  exact⟨by omega,by omega,h2.used⟩
 refine⟨t1,⟨Q,c.flag w hid,⟨fun o ho=> ?_,fun s' hs' hh=> ?_⟩,hflat.symm⟩,w.len,by rw[Arena.getF,if_pos hu,Int.toNat_natCast],by rw[hid,h.ident]⟩
 ·obtain⟨o',ho',e⟩:=List.mem_filterMap.1 ho
  have:=ht.fl o' ho'
  split at e
  ·split at e
   ·cases e
   ·cases e;exact this
  ·cases e;exact this
 ·obtain⟨o,ho,o1,o2⟩:=ht.th s' hs' hh
  by_cases e:o.id=id
  ·refine⟨{o with qty:=o.qty-q},List.mem_filterMap.2 ⟨o,ho,?_⟩,o1,o2⟩
   have hg:=wS c.ids ho
   rw[e,h.get]at hg
   rw[if_pos e,if_neg (fun e2=>by
    rw[← hg]at e2
    have:(b.a.slotAt k).qty=q:=e2
    omega)]
  ·exact⟨o,List.mem_filterMap.2 ⟨o,ho,if_neg e⟩,o1,o2⟩
theorem zMf:∀{l:List (Int×Place)} {k:Int},(l.map (·.1)).Nodup→uI k l=l.filter fun x=> !decide (x.1=k)
 |[],k,_=>rfl
 |(a,b)::l,k,h=>by
  rw[List.map_cons,List.nodup_cons]at h
  rw[uI]
  by_cases e:k=a
  ·subst e
   rw[if_pos rfl,List.filter_cons_of_neg (by simp)]
   symm
   rw[List.filter_eq_self]
   intro x hx
   have:x.1≠k:=fun e=>h.1 (e▸List.mem_map_of_mem (f:=(·.1)) hx)
   simp[this]
  ·rw[if_neg e,List.filter_cons_of_pos (by simp[Ne.symm e]),zMf h.2]
theorem aK {l:List Nat} (h:l.Nodup) (k:Nat):l.erase k=l.filter fun j=> !decide (j=k):=by
 rw[h.erase_eq_filter]
 refine List.filter_congr fun j _=> ?_
 simp[bne,BEq.beq]
theorem zWx {s:Int} {l:List y7} (hs:l.Pairwise fun r r'=>btr s r.price r'.price=true) {R1 R2:List y7} {r:y7} (hl:l=R1++r::R2):zQ s l r.price=R1.length:=by
 subst hl
 rw[List.pairwise_append]at hs
 refine uQ (by simp) (fun k hk x hx=> ?_) (fun x hx=> ?_)
 ·rw[List.getElem?_append_left hk]at hx
  exact hs.2.2 x (List.mem_of_getElem? hx) r List.mem_cons_self
 ·rw[List.getElem?_append_right (Nat.le_refl _),Nat.sub_self]at hx
  cases hx
  exact gN _ _
theorem zWg (b:Book) (id:Int) {s:Int} (hs:s=1∨s=2):(b.unhas s id).a=b.a∧(b.unhas s id).buys=b.buys∧(b.unhas s id).sells=b.sells∧(b.unhas s id).spare=b.spare∧∀s',s'=1∨s'=2→(b.unhas s id).topI s'=b.topI s'∧(b.unhas s id).hasF s'=if s'=s∧b.topI s=id then false else b.hasF s':=by
 rw[Book.unhas]
 by_cases hc:b.hasF s=true∧b.topI s=id
 ·rw[if_pos hc]
  rcases hs with rfl|rfl
  ·exact⟨rfl,rfl,rfl,rfl,fun s' h=>by rcases h with rfl|rfl;exact⟨rfl,(if_pos ⟨rfl,hc.2⟩).symm⟩;exact⟨rfl,(if_neg (fun e=>absurd e.1 (by decide))).symm⟩⟩
  ·exact⟨rfl,rfl,rfl,rfl,fun s' h=>by rcases h with rfl|rfl;exact⟨rfl,(if_neg (fun e=>absurd e.1 (by decide))).symm⟩;exact⟨rfl,(if_pos ⟨rfl,hc.2⟩).symm⟩⟩
 ·rw[if_neg hc]
  refine⟨rfl,rfl,rfl,rfl,fun s' h=>⟨rfl,?_⟩⟩
  split
  ·rename_i e
   rw[e.1]
   cases hh:b.hasF s with
   |false=>rfl
   |true=>exact absurd ⟨hh,e.2⟩ hc
  ·rfl
theorem Book.Core.close {b:Book} {Q:List (List Nat)} {s:Int} (hs:s=1∨s=2) {r:y7} {R1 R2:List y7} (hr:b.rungs s=R1++r::R2) (c:b.Core Q r.queue) (he:yR Q r=[]) {b':Book} (hb:b'=({b with spare:=b.spare++[r.queue]}:Book).setR s (R1++R2)):
 b'.Core Q (-1)∧b'.flat Q=b.flat Q:=by
 obtain⟨g1,g2⟩:=rM ({b with spare:=b.spare++[r.queue]}:Book) hs (R1++R2)
 rw[← hb]at g1 g2
 have ha:b'.a=b.a:=by rw[hb];rcases hs with rfl|rfl<;>rfl
 have hat:b'.at_=b.at_:=by rw[hb];rcases hs with rfl|rfl<;>rfl
 have hsp:b'.spare=b.spare++[r.queue]:=by rw[hb];rcases hs with rfl|rfl<;>rfl
 have hqs:b'.qs.Perm b.qs:=by
  rw[hb]
  rcases hs with rfl|rfl
  ·have hr:b.buys=R1++r::R2:=hr
   show((R1++R2).map (·.queue)++b.sells.map (·.queue)++(b.spare++[r.queue])).Perm (b.buys.map (·.queue)++b.sells.map (·.queue)++b.spare)
   rw[hr,← List.append_assoc]
   refine(List.perm_append_singleton _ _).trans ?_
   simp only[List.map_append,List.map_cons,List.append_assoc,List.cons_append]
   exact List.perm_middle.symm
  ·have hr:b.sells=R1++r::R2:=hr
   show(b.buys.map (·.queue)++(R1++R2).map (·.queue)++(b.spare++[r.queue])).Perm (b.buys.map (·.queue)++b.sells.map (·.queue)++b.spare)
   rw[hr,← List.append_assoc]
   refine(List.perm_append_singleton _ _).trans ?_
   simp only[List.map_append,List.map_cons,List.append_assoc,List.cons_append]
   refine .trans ?_ (List.Perm.append_left _ List.perm_middle.symm)
   exact List.perm_middle.symm
 have hside:∀s',s'=1∨s'=2→b'.sideL Q s'=b.sideL Q s':=by
  intro s' hs'
  have ho:∀x,b'.rOrds Q s' x=b.rOrds Q s' x:=fun x=>by rw[Book.rOrds,Book.rOrds,ha]
  rw[Book.sideL,Book.sideL]
  by_cases e:s'=s
  ·subst e
   rw[g1,hr,List.flatMap_append,List.flatMap_append,List.flatMap_cons,yT (fun x _=>ho x),yT (l:=R2) (fun x _=>ho x)]
   rw[show b.rOrds Q s' r=[]by rw[Book.rOrds,he];rfl,List.nil_append]
  ·rw[g2 s' e hs'];exact yT fun x _=>ho x
 have hplc:∀s',s'=1∨s'=2→b'.plcs Q s'=b.plcs Q s':=by
  intro s' hs'
  rw[Book.plcs,Book.plcs,ha]
  by_cases e:s'=s
  ·subst e
   rw[g1,hr,List.flatMap_append,List.flatMap_append,List.flatMap_cons,he,List.map_nil,List.nil_append]
  ·rw[g2 s' e hs'];rfl
 have hflat:b'.flat Q=b.flat Q:=by rw[Book.flat,Book.flat,hside 1 (.inl rfl),hside 2 (.inr rfl)]
 have hnd:=hqs.nodup_iff.2 c.nd
 have hmid:r.queue∉(R1++R2).map (·.queue):=by
  intro hm
  have h1:r.queue∈(b'.rungs s).map (·.queue):=by rw[g1];exact hm
  rw[Book.qs]at hnd
  have h2:=(List.nodup_append.1 hnd).2.2 r.queue (by
   rcases hs with rfl|rfl
   ·exact List.mem_append_left _ h1
   ·exact List.mem_append_right _ h1) r.queue (by rw[hsp];simp)
  exact h2 rfl
 refine⟨⟨by rw[ha];exact c.wf,fun s' hs'=> ?_,fun q hq=>c.rng q (hqs.mem_iff.1 hq),hnd,by rw[hqs.length_eq];exact c.ql,fun s' hs' x hx _=> ?_,fun q hq=> ?_,by rw[hat,hplc 1 (.inl rfl),hplc 2 (.inr rfl)];exact c.at_,by rw[hflat];exact c.ids,c.qb⟩,hflat⟩
 ·by_cases e:s'=s
  ·subst e
   have:=c.srt s' hs'
   rw[hr]at this
   rw[g1]
   exact this.sublist (List.Sublist.append_left (List.sublist_cons_self _ _) _)
  ·rw[g2 s' e hs'];exact c.srt s' hs'
 ·by_cases e:s'=s
  ·subst e
   rw[g1]at hx
   refine c.ne s' hs' x (by rw[hr];rcases List.mem_append.1 hx with h|h;exact List.mem_append_left _ h;exact List.mem_append_right _ (List.mem_cons_of_mem _ h)) fun e2=>hmid (e2▸List.mem_map_of_mem (f:=(·.queue)) hx)
  ·rw[g2 s' e hs']at hx
   refine c.ne s' hs' x hx fun e2=> ?_
   have h1:r.queue∈(b'.rungs s').map (·.queue):=by rw[g2 s' e hs',← e2];exact List.mem_map_of_mem (f:=(·.queue)) hx
   rw[Book.qs]at hnd
   exact(List.nodup_append.1 hnd).2.2 r.queue (by
    rcases hs' with rfl|rfl
    ·exact List.mem_append_left _ h1
    ·exact List.mem_append_right _ h1) r.queue (by rw[hsp];simp) rfl
 ·rw[hsp]at hq
  rcases List.mem_append.1 hq with hq|hq
  ·exact c.sp q hq
  ·rw[List.mem_singleton.1 hq];exact he
open Go Cv Go.Proofs
theorem l7 {L:List zH} (h:(L.map (·.id)).Nodup) {id:Int} (hh:qF L id=true):yK L id (uK L id).qty=L.filter fun o=> !decide (o.id=id):=by
 rw[yK,← List.filterMap_eq_filter]
 refine kY fun o ho=> ?_
 by_cases e:o.id=id
 ·have hg:=wS h ho
  rw[e]at hg
  rw[if_pos e,if_pos (by rw[hg])]
  simp[Option.guard,e]
 ·rw[if_neg e]
  simp[Option.guard,e]
theorem Book.Core.gone {b:Book} {Q:List (List Nat)} (c:b.Core Q (-1)) (ht:b.Tops (b.flat Q)) {id s:Int} {r:y7} {k:Nat} (h:Told b Q id s r k) {q:Int} (hq:1≤q∧q=(b.a.slotAt k).qty):
 (b.a.takeF k q).2=0∧(({b with a:=(b.a.takeF k q).1}:Book).dropF s id r.price).Rep (yK (b.flat Q) id q)∧(b.a.takeF k q).1.slots.length=250∧(b.a.takeF k q).1.queues.length=b.a.queues.length∧((b.a.takeF k q).1.getF k).2=false∧zQ s (b.rungs s) r.price<(b.rungs s).length:=by
 obtain⟨t1,t2,t3⟩:=c.wf.take (c.get h.hs h.hr) h.hk (q:=q) ⟨hq.1,by omega⟩
 rw[if_pos hq.2.symm]at t3
 obtain⟨w,t4,t5⟩:=t3
 generalize hA:(b.a.takeF k q).1=a1 at*
 have hget:=c.get h.hs h.hr
 have hnQ:=(List.getElem?_eq_some_iff.1 hget).1
 have hrq:=c.rng _ (jL h.hs h.hr)
 generalize hQ':Q.set r.queue.toNat ((yR Q r).erase k)=Q' at*
 have hQl:Q'.length=Q.length:=by rw[← hQ',List.length_set]
 have hnd:(yR Q r).Nodup:=c.wf.nd _ _ hget
 have hqd:∀s' (r':y7),(s'=1∨s'=2)→r'∈b.rungs s'→yR Q' r'=(yR Q r').erase k:=by
  intro s' r' hs' hr'
  by_cases e:r'.queue=r.queue
  ·have e1:yR Q r'=yR Q r:=by rw[yR,yR,e]
   rw[e1,yR,e,← hQ']
   exact zP (j5 hnQ)
  ·have h2:yR Q' r'=yR Q r':=by
    have:=c.rng _ (jL hs' hr')
    rw[yR,yR,List.getD_eq_getElem?_getD,List.getD_eq_getElem?_getD,← hQ',kW (by omega)]
   rw[h2]
   symm
   refine List.erase_of_not_mem fun hk=> ?_
   have:=c.wf.toWf0.one (c.get hs' hr') hget hk h.hk
   have:=c.rng _ (jL hs' hr')
   omega
 have hQo:∀q:Int,0≤q→q≠r.queue→Q'.getD q.toNat []=Q.getD q.toNat []:=by
  intro q h0 hne
  rw[← hQ',List.getD_eq_getElem?_getD,kW (by omega),List.getD_eq_getElem?_getD]
 obtain⟨u1,u2,u3,u4,u5⟩:=zWg ({b with a:=a1}:Book) id h.hs
 obtain⟨b1,hb1⟩:∃b1:Book,b1={({b with a:=a1}:Book).unhas s id with at_:=uI id b.at_}:=⟨_,rfl⟩
 have v1:b1.a=a1:=by rw[hb1];exact u1
 have v2:b1.buys=b.buys:=by rw[hb1];exact u2
 have v3:b1.sells=b.sells:=by rw[hb1];exact u3
 have v4:b1.spare=b.spare:=by rw[hb1];exact u4
 have v5:b1.at_=uI id b.at_:=by rw[hb1]
 have v6:∀s',s'=1∨s'=2→b1.topI s'=b.topI s'∧b1.hasF s'=if s'=s∧b.topI s=id then false else b.hasF s':=by
  intro s' hs'
  rw[hb1];exact u5 s' hs'
 have vr:∀s',b1.rungs s'=b.rungs s':=by intro s';rw[Book.rungs,Book.rungs,v2,v3]
 have vq:b1.qs=b.qs:=by rw[Book.qs,Book.qs,v2,v3,v4]
 have hord:∀s',s'=1∨s'=2→b1.sideL Q' s'=(b.sideL Q s').filter (fun o=> !decide (o.id=id))∧b1.plcs Q' s'=(b.plcs Q s').filter fun x=> !decide (x.1=id):=by
  intro s' hs'
  rw[Book.sideL,Book.sideL,Book.plcs,Book.plcs,vr,List.filter_flatMap,List.filter_flatMap]
  have key:∀r'∈b.rungs s',∀j∈yR Q r',((b.a.slotAt j).id=id↔j=k)∧(j≠k→kG a1 s' r'.price j=kG b.a s' r'.price j∧kQ a1 s' r'.price j=kQ b.a s' r'.price j):=by
   intro r' hr' j hj
   refine⟨h.only c hs' hr' hj,fun e=> ?_⟩
   have:=(t2 j e).1
   refine⟨by rw[kG,kG,this],?_⟩
   have:=congrArg Ent.id this
   rw[kQ,kQ]
   exact congrArg (fun i=>(i,(⟨s',r'.price,j⟩:Place))) this
  refine⟨yT fun r' hr'=> ?_,yT fun r' hr'=> ?_⟩
  ·rw[Book.rOrds,Book.rOrds,hqd s' r' hs' hr',aK (c.wf.nd _ _ (c.get hs' hr')),List.filter_map,v1]
   have e1:(yR Q r').filter ((fun o:zH=> !decide (o.id=id))∘kG b.a s' r'.price)=(yR Q r').filter fun j=> !decide (j=k):=by
    refine List.filter_congr fun j hj=> ?_
    show(!decide ((b.a.slotAt j).id=id))=_
    rw[decide_eq_decide.2 (key r' hr' j hj).1]
   rw[e1]
   refine List.map_congr_left fun j hj=> ?_
   rw[List.mem_filter]at hj
   exact((key r' hr' j hj.1).2 (by simpa using hj.2)).1
  ·rw[hqd s' r' hs' hr',aK (c.wf.nd _ _ (c.get hs' hr')),List.filter_map,v1]
   have e1:(yR Q r').filter ((fun x:Int×Place=> !decide (x.1=id))∘kQ b.a s' r'.price)=(yR Q r').filter fun j=> !decide (j=k):=by
    refine List.filter_congr fun j hj=> ?_
    show(!decide ((b.a.slotAt j).id=id))=_
    rw[decide_eq_decide.2 (key r' hr' j hj).1]
   rw[e1]
   refine List.map_congr_left fun j hj=> ?_
   rw[List.mem_filter]at hj
   exact((key r' hr' j hj.1).2 (by simpa using hj.2)).2
 have hflat:b1.flat Q'=(b.flat Q).filter fun o=> !decide (o.id=id):=by
  rw[Book.flat,(hord 1 (.inl rfl)).1,(hord 2 (.inr rfl)).1,Book.flat,List.filter_append]
 have hat:b1.at_.Perm (b1.plcs Q' 1++b1.plcs Q' 2):=by
  rw[v5,zMf c.keys,(hord 1 (.inl rfl)).2,(hord 2 (.inr rfl)).2,← List.filter_append]
  exact c.at_.filter _
 have hold:∀s' (r':y7),(s'=1∨s'=2)→r'∈b.rungs s'→yR Q r'≠[]:=fun s' r' hs' hr'=>c.ne s' hs' r' hr' fun e=>by
  have:=c.rng _ (jL hs' hr');omega
 have c1:b1.Core Q' r.queue:=by
  refine⟨by rw[v1];exact w,fun s' hs'=>by rw[vr];exact c.srt s' hs',by rw[vq,hQl];exact c.rng,by rw[vq];exact c.nd,by rw[vq,hQl];exact c.ql,fun s' hs' r' hr' hne=> ?_,fun q hq=> ?_,hat,?_,by rw[hQl];exact c.qb⟩
  ·rw[vr]at hr'
   have e:=hQo r'.queue (c.rng _ (jL hs' hr')).1 hne
   rw[yR,e];exact hold s' r' hs' hr'
  ·rw[v4]at hq
   have hqq:q∈b.qs:=List.mem_append_right _ hq
   rw[hQo q (c.rng q hqq).1 fun e=> ?_]
   ·exact c.sp q hq
   ·have hcn:=c.nd
    rw[Book.qs]at hcn
    refine(List.nodup_append.1 hcn).2.2 r.queue ?_ q hq e.symm
    rcases h.hs with rfl|rfl
    ·exact List.mem_append_left _ (List.mem_map_of_mem (f:=(·.queue)) h.hr)
    ·exact List.mem_append_right _ (List.mem_map_of_mem (f:=(·.queue)) h.hr)
  ·rw[hflat]
   exact c.ids.sublist (List.Sublist.map _ List.filter_sublist)
 have htk:yK (b.flat Q) id q=b1.flat Q':=by
  rw[hflat,← l7 c.ids h.has,h.get,hq.2];rfl
 have hm1:∀o,o∈b1.flat Q'↔o∈b.flat Q∧o.id≠id:=by
  intro o;rw[hflat,List.mem_filter];simp
 have ht1:∀b2:Book,(∀x,b2.hasF x=b1.hasF x∧b2.topI x=b1.topI x)→b2.Tops (b1.flat Q'):=by
  intro b2 hb2
  refine⟨fun o ho=> ?_,fun s' hs' hh=> ?_⟩
  ·rw[(hb2 _).1,(hb2 _).2]
   obtain⟨ho,hne⟩:=(hm1 o).1 ho
   have hs':=(u6 ho).1
   rw[(v6 _ hs').1,(v6 _ hs').2,ht.fl o ho]
   split
   ·rename_i e
    rw[e.1,e.2,decide_eq_false hne,Bool.and_false,Bool.and_false]
   ·rfl
  ·rw[(hb2 _).1,(v6 s' hs').2]at hh
   rw[(hb2 _).2,(v6 s' hs').1]
   split at hh
   ·cases hh
   ·rename_i e
    obtain⟨o,ho,o1,o2⟩:=ht.th s' hs' hh
    refine⟨o,(hm1 o).2 ⟨ho,fun e2=>e ?_⟩,o1,o2⟩
    have hg:=wS c.ids ho
    rw[e2,h.get]at hg
    have hsd:s'=s:=by rw[← o1,← hg];rfl
    exact⟨hsd,by rw[← hsd,← o2,e2]⟩
 obtain⟨R1,R2,hsplit⟩:=List.append_of_mem h.hr
 have hfn:=zWx (c.srt s h.hs) hsplit
 have hgd:(b.rungs s).getD (zQ s (b.rungs s) r.price) ⟨0,0⟩=r:=by
  rw[hfn,hsplit]
  refine zP ?_
  rw[List.getElem?_append_right (Nat.le_refl _),Nat.sub_self];rfl
 have hfl:zQ s (b.rungs s) r.price<(b.rungs s).length:=by rw[hfn,hsplit];simp
 have hQr:Q'[r.queue.toNat]? =some ((yR Q r).erase k):=by rw[← hQ'];exact j5 hnQ
 have hcount:(a1.qAt r.queue).count=((yR Q r).erase k).length:=by
  have:=w.q _ _ hQr
  have hql:=w.ql
  rw[zCd hrq.1 this]
 have er:yR Q' r=(yR Q r).erase k:=zP hQr
 have hru:({b with a:=a1}:Book).rungs s=b.rungs s:=rfl
 have hus:(a1.getF k).2=false:=by
  have:a1.usedAt k=false:=by
   have e:a1.slotAt k=slot0:=t4
   rw[Arena.slotAt]at e
   rw[Arena.usedAt,Int.toNat_natCast,e];simp[slot0]
  rw[Arena.getF,if_neg (by rw[this];decide)]
 refine⟨t1,?_,w.len,by rw[w.ql,c.wf.ql,hQl],hus,hfl⟩
 rw[Book.dropF,hru,hgd]
 by_cases hz:(a1.qAt r.queue).count=0
 ·rw[if_pos hz]
  have he:yR Q' r=[]:=by
   rw[er]
   refine List.eq_nil_of_length_eq_zero ?_
   omega
  obtain⟨k1,k2⟩:=Book.Core.close h.hs (by rw[vr];exact hsplit) c1 he rfl
  have ebk:(({({b with a:=a1}:Book).unhas s id with at_:=uI id b.at_,spare:=b.spare++[r.queue]}:Book).setR s ((b.rungs s).take (zQ s (b.rungs s) r.price)++(b.rungs s).drop (zQ s (b.rungs s) r.price+1)))=(({b1 with spare:=b1.spare++[r.queue]}:Book).setR s (R1++R2)):=by
   have e1:(b.rungs s).take (zQ s (b.rungs s) r.price)++(b.rungs s).drop (zQ s (b.rungs s) r.price+1)=R1++R2:=by
    rw[hfn,hsplit,List.take_left]
    congr 1
    rw[List.drop_append,List.drop_eq_nil_of_le (by omega),Nat.add_sub_cancel_left];rfl
   rw[e1,v4,hb1]
  refine⟨Q',?_,?_,?_⟩
  ·exact ebk▸k1
  ·rw[htk]
   refine ht1 _ fun x=> ?_
   show(Book.hasF (({({b with a:=a1}:Book).unhas s id with at_:=uI id b.at_,spare:=b.spare++[r.queue]}:Book).setR s ((b.rungs s).take (zQ s (b.rungs s) r.price)++(b.rungs s).drop (zQ s (b.rungs s) r.price+1))) x=_∧Book.topI (({({b with a:=a1}:Book).unhas s id with at_:=uI id b.at_,spare:=b.spare++[r.queue]}:Book).setR s ((b.rungs s).take (zQ s (b.rungs s) r.price)++(b.rungs s).drop (zQ s (b.rungs s) r.price+1))) x=_)
   rw[ebk]
   rcases h.hs with rfl|rfl<;>exact⟨rfl,rfl⟩
  ·rw[htk]
   show _=Book.flat (({({b with a:=a1}:Book).unhas s id with at_:=uI id b.at_,spare:=b.spare++[r.queue]}:Book).setR s ((b.rungs s).take (zQ s (b.rungs s) r.price)++(b.rungs s).drop (zQ s (b.rungs s) r.price+1))) Q'
   rw[ebk];exact k2.symm
 ·rw[if_neg hz]
  have c2:b1.Core Q' (-1):=⟨c1.wf,c1.srt,c1.rng,c1.nd,c1.ql,fun s' hs' r' hr' _=>by
   by_cases e:r'.queue=r.queue
   ·rw[yR,e]
    intro e2
    rw[yR]at er
    rw[er]at e2
    rw[hcount,e2]at hz
    exact hz rfl
   ·exact c1.ne s' hs' r' hr' e,c1.sp,c1.at_,c1.ids,c1.qb⟩
  have hh:({({b with a:=a1}:Book).unhas s id with at_:=uI id b.at_}:Book)=b1:=hb1.symm
  show Book.Rep {({b with a:=a1}:Book).unhas s id with at_:=uI id b.at_} _
  rw[hh,htk]
  exact⟨Q',c2,ht1 b1 fun _=>⟨rfl,rfl⟩,rfl⟩
open Go Cv Go.Proofs
theorem gK (k:Int):∀l,g9 (Value.int IntKind.i64 k) (atE l)=atE (uI k l)
 |[]=>rfl
 |(a,b)::l=>by
  have ih:=gK k l
  show(bif (keq .i64 .i64 && decide (k=a))then atE l else _::g9 _ (atE l))=_
  rw[ih,uI]
  by_cases h:k=a
  ·subst h;simp[keq]
  ·simp[h,atE]
theorem zMx:delRC.ok Tryz.prog 135:=
 delX_ok mixed Tryz.func135 rfl (by kernel_rfl) (by kernel_rfl) (by kernel_rfl) (by kernel_rfl) mU rfl (by decide) (fun s sn sk i j w R=>by kernel_rfl)
theorem dup {X:Prop} {n:Int} (h:X):X∧n=n∧True∧X:=⟨h,rfl,trivial,h⟩
theorem Book.Core.small {b:Book} {Q:List (List Nat)} (c:b.Core Q (-1)):b.small:=by
 have hq:=c.qb
 have h1:=c.ql
 have h2:=c.wf.ql
 have h3:=c.wf.len
 rw[Book.qs,List.length_append,List.length_append,List.length_map,List.length_map]at h1
 exact⟨⟨by omega,by omega⟩,by omega,by omega,by omega⟩
theorem z6p (i:DrI) (h:drop1C.cnd i):zKl i:=by
 obtain⟨hsm,hn⟩:i.ok 1:=h
 obtain⟨⟨ha1,ha2⟩,hb1,hb2,hsp⟩:=id hsm
 have hn:zQ 1 i.b.buys i.price<i.b.buys.length:=hn
 obtain⟨r,hr⟩:=z8 (l:=i.b.buys) hn
 have hgd:((i.b.rungs 1).getD (zQ 1 (i.b.rungs 1) i.price) ⟨0,0⟩)=r:=zP hr
 have hw:∀k:Int,IntKind.i64.wrap ((zQ 1 (i.b.rungs 1) i.price:Int)+1)=((zQ 1 (i.b.rungs 1) i.price+1:Nat):Int):=fun _=>by
  have:=aT 1 i.price (i.b.rungs 1)
  have hl:(i.b.rungs 1).length≤1000000:=by show i.b.buys.length≤_;omega
  rw[w64 (by omega)];rfl
 have hn2:((zQ 1 (i.b.rungs 1) i.price:Nat):Int)<((List.map zA i.b.buys).length:Int):=by
  rw[List.length_map]
  show((zQ 1 i.b.buys i.price:Nat):Int)<_
  omega
 unfold zKl sK
 refine⟨qT _ _,Cv.cnd.mk (fun c1=>Cv.cnd.mk (fun c2=> ?_) (fun c2=> ?_)) (fun c1=> ?_)⟩
 ·have c2:i.b.top1=i.id:=by simpa using c2
  have hu:i.b.unhas 1 i.id={i.b with has1:=false}:=by rw[Book.unhas,if_pos ⟨c1,c2⟩];rfl
  refine⟨⟨{i.b with has1:=false,at_:=uI i.id i.b.at_},i.price⟩,rfl,rfl,rfl,rfl,rfl,rfl,rfl,rfl,rfl,(gK _ _).symm,rfl,hsm,fun _ _=>⟨⟨by omega,hn2⟩,r.queue,elA hr (by simp[zA]) rfl,⟨i.b.a,r.queue⟩,rfl,rfl,trivial,fun _ _=>Cv.cnd.mk (fun e=>⟨by simp only[yX];omega,⟨i.b.buys.map zA,zQ 1 (i.b.rungs 1) i.price,zQ 1 (i.b.rungs 1) i.price+1⟩,rfl,(hw 0).symm,rfl,⟨Nat.lt_succ_self _,by rw[List.length_map];exact hn⟩,fun _ _=>⟨rfl,(),?_⟩⟩) (fun e=>⟨(),?_⟩)⟩⟩
  ·have e:(i.b.a.qAt r.queue).count=0:=by simpa using e
   rw[Book.dropF,hgd,if_pos e,hu]
   refine⟨rfl,rfl,rfl,rfl,rfl,rfl,?_,rfl,?_,trivial⟩
   ·show List.map zA (i.b.buys.take _++i.b.buys.drop _)=_
    rw[List.map_append,List.map_take,List.map_drop]
   ·show iE (i.b.spare++[r.queue])=_
    simp[iE]
  ·have e:¬(i.b.a.qAt r.queue).count=0:=by simpa using e
   rw[Book.dropF,hgd,if_neg e,hu]
   exact⟨rfl,rfl,rfl,rfl,rfl,rfl,rfl,rfl,rfl,trivial⟩
 ·have c2:¬i.b.top1=i.id:=by simpa using c2
  have hu:i.b.unhas 1 i.id={i.b with has1:=i.b.has1}:=by rw[Book.unhas,if_neg (fun e=>c2 e.2)]
  refine⟨⟨{i.b with has1:=i.b.has1,at_:=uI i.id i.b.at_},i.price⟩,rfl,rfl,rfl,rfl,rfl,rfl,rfl,rfl,rfl,(gK _ _).symm,rfl,hsm,fun _ _=>⟨⟨by omega,hn2⟩,r.queue,elA hr (by simp[zA]) rfl,⟨i.b.a,r.queue⟩,rfl,rfl,trivial,fun _ _=>Cv.cnd.mk (fun e=>⟨by simp only[yX];omega,⟨i.b.buys.map zA,zQ 1 (i.b.rungs 1) i.price,zQ 1 (i.b.rungs 1) i.price+1⟩,rfl,(hw 0).symm,rfl,⟨Nat.lt_succ_self _,by rw[List.length_map];exact hn⟩,fun _ _=>⟨rfl,(),?_⟩⟩) (fun e=>⟨(),?_⟩)⟩⟩
  ·have e:(i.b.a.qAt r.queue).count=0:=by simpa using e
   rw[Book.dropF,hgd,if_pos e,hu]
   refine⟨rfl,rfl,rfl,rfl,rfl,rfl,?_,rfl,?_,trivial⟩
   ·show List.map zA (i.b.buys.take _++i.b.buys.drop _)=_
    rw[List.map_append,List.map_take,List.map_drop]
   ·show iE (i.b.spare++[r.queue])=_
    simp[iE]
  ·have e:¬(i.b.a.qAt r.queue).count=0:=by simpa using e
   rw[Book.dropF,hgd,if_neg e,hu]
   exact⟨rfl,rfl,rfl,rfl,rfl,rfl,rfl,rfl,rfl,trivial⟩
 ·have hu:i.b.unhas 1 i.id={i.b with has1:=i.b.has1}:=by
   rw[Book.unhas,if_neg]
   rintro⟨e,_⟩
   exact absurd (show i.b.has1=true from e) (by rw[c1];decide)
  refine⟨⟨{i.b with has1:=i.b.has1,at_:=uI i.id i.b.at_},i.price⟩,rfl,rfl,rfl,rfl,rfl,rfl,rfl,rfl,rfl,(gK _ _).symm,rfl,hsm,fun _ _=>⟨⟨by omega,hn2⟩,r.queue,elA hr (by simp[zA]) rfl,⟨i.b.a,r.queue⟩,rfl,rfl,trivial,fun _ _=>Cv.cnd.mk (fun e=>⟨by simp only[yX];omega,⟨i.b.buys.map zA,zQ 1 (i.b.rungs 1) i.price,zQ 1 (i.b.rungs 1) i.price+1⟩,rfl,(hw 0).symm,rfl,⟨Nat.lt_succ_self _,by rw[List.length_map];exact hn⟩,fun _ _=>⟨rfl,(),?_⟩⟩) (fun e=>⟨(),?_⟩)⟩⟩
  ·have e:(i.b.a.qAt r.queue).count=0:=by simpa using e
   rw[Book.dropF,hgd,if_pos e,hu]
   refine⟨rfl,rfl,rfl,rfl,rfl,rfl,?_,rfl,?_,trivial⟩
   ·show List.map zA (i.b.buys.take _++i.b.buys.drop _)=_
    rw[List.map_append,List.map_take,List.map_drop]
   ·show iE (i.b.spare++[r.queue])=_
    simp[iE]
  ·have e:¬(i.b.a.qAt r.queue).count=0:=by simpa using e
   rw[Book.dropF,hgd,if_neg e,hu]
   exact⟨rfl,rfl,rfl,rfl,rfl,rfl,rfl,rfl,rfl,trivial⟩
theorem zSb:drop1C.ok Tryz.prog 113:=z0m (gokc sG (gokc mF (gokc zMx gok0))) z6p
theorem z7o (i:DrI) (h:drop2C.cnd i):zIs i:=by
 obtain⟨hsm,hn⟩:i.ok 2:=h
 obtain⟨⟨ha1,ha2⟩,hb1,hb2,hsp⟩:=id hsm
 have hn:zQ 2 i.b.sells i.price<i.b.sells.length:=hn
 obtain⟨r,hr⟩:=z8 (l:=i.b.sells) hn
 have hgd:((i.b.rungs 2).getD (zQ 2 (i.b.rungs 2) i.price) ⟨0,0⟩)=r:=zP hr
 have hw:∀k:Int,IntKind.i64.wrap ((zQ 2 (i.b.rungs 2) i.price:Int)+1)=((zQ 2 (i.b.rungs 2) i.price+1:Nat):Int):=fun _=>by
  have:=aT 2 i.price (i.b.rungs 2)
  have hl:(i.b.rungs 2).length≤1000000:=by show i.b.sells.length≤_;omega
  rw[w64 (by omega)];rfl
 have hn2:((zQ 2 (i.b.rungs 2) i.price:Nat):Int)<((List.map zA i.b.sells).length:Int):=by
  rw[List.length_map]
  show((zQ 2 i.b.sells i.price:Nat):Int)<_
  omega
 unfold zIs sY
 refine⟨qT _ _,Cv.cnd.mk (fun c1=>Cv.cnd.mk (fun c2=> ?_) (fun c2=> ?_)) (fun c1=> ?_)⟩
 ·have c2:i.b.top2=i.id:=by simpa using c2
  have hu:i.b.unhas 2 i.id={i.b with has2:=false}:=by rw[Book.unhas,if_pos ⟨c1,c2⟩];rfl
  refine⟨⟨{i.b with has2:=false,at_:=uI i.id i.b.at_},i.price⟩,rfl,rfl,rfl,rfl,rfl,rfl,rfl,rfl,rfl,(gK _ _).symm,rfl,hsm,fun _ _=>⟨⟨by omega,hn2⟩,r.queue,elA hr (by simp[zA]) rfl,⟨i.b.a,r.queue⟩,rfl,rfl,trivial,fun _ _=>Cv.cnd.mk (fun e=>⟨by simp only[yX];omega,⟨i.b.sells.map zA,zQ 2 (i.b.rungs 2) i.price,zQ 2 (i.b.rungs 2) i.price+1⟩,rfl,(hw 0).symm,rfl,⟨Nat.lt_succ_self _,by rw[List.length_map];exact hn⟩,fun _ _=>⟨rfl,(),?_⟩⟩) (fun e=>⟨(),?_⟩)⟩⟩
  ·have e:(i.b.a.qAt r.queue).count=0:=by simpa using e
   rw[Book.dropF,hgd,if_pos e,hu]
   refine⟨rfl,rfl,rfl,rfl,rfl,rfl,rfl,?_,?_,trivial⟩
   ·show List.map zA (i.b.sells.take _++i.b.sells.drop _)=_
    rw[List.map_append,List.map_take,List.map_drop]
   ·show iE (i.b.spare++[r.queue])=_
    simp[iE]
  ·have e:¬(i.b.a.qAt r.queue).count=0:=by simpa using e
   rw[Book.dropF,hgd,if_neg e,hu]
   exact⟨rfl,rfl,rfl,rfl,rfl,rfl,rfl,rfl,rfl,trivial⟩
 ·have c2:¬i.b.top2=i.id:=by simpa using c2
  have hu:i.b.unhas 2 i.id={i.b with has2:=i.b.has2}:=by rw[Book.unhas,if_neg (fun e=>c2 e.2)]
  refine⟨⟨{i.b with has2:=i.b.has2,at_:=uI i.id i.b.at_},i.price⟩,rfl,rfl,rfl,rfl,rfl,rfl,rfl,rfl,rfl,(gK _ _).symm,rfl,hsm,fun _ _=>⟨⟨by omega,hn2⟩,r.queue,elA hr (by simp[zA]) rfl,⟨i.b.a,r.queue⟩,rfl,rfl,trivial,fun _ _=>Cv.cnd.mk (fun e=>⟨by simp only[yX];omega,⟨i.b.sells.map zA,zQ 2 (i.b.rungs 2) i.price,zQ 2 (i.b.rungs 2) i.price+1⟩,rfl,(hw 0).symm,rfl,⟨Nat.lt_succ_self _,by rw[List.length_map];exact hn⟩,fun _ _=>⟨rfl,(),?_⟩⟩) (fun e=>⟨(),?_⟩)⟩⟩
  ·have e:(i.b.a.qAt r.queue).count=0:=by simpa using e
   rw[Book.dropF,hgd,if_pos e,hu]
   refine⟨rfl,rfl,rfl,rfl,rfl,rfl,rfl,?_,?_,trivial⟩
   ·show List.map zA (i.b.sells.take _++i.b.sells.drop _)=_
    rw[List.map_append,List.map_take,List.map_drop]
   ·show iE (i.b.spare++[r.queue])=_
    simp[iE]
  ·have e:¬(i.b.a.qAt r.queue).count=0:=by simpa using e
   rw[Book.dropF,hgd,if_neg e,hu]
   exact⟨rfl,rfl,rfl,rfl,rfl,rfl,rfl,rfl,rfl,trivial⟩
 ·have hu:i.b.unhas 2 i.id={i.b with has2:=i.b.has2}:=by
   rw[Book.unhas,if_neg]
   rintro⟨e,_⟩
   exact absurd (show i.b.has2=true from e) (by rw[c1];decide)
  refine⟨⟨{i.b with has2:=i.b.has2,at_:=uI i.id i.b.at_},i.price⟩,rfl,rfl,rfl,rfl,rfl,rfl,rfl,rfl,rfl,(gK _ _).symm,rfl,hsm,fun _ _=>⟨⟨by omega,hn2⟩,r.queue,elA hr (by simp[zA]) rfl,⟨i.b.a,r.queue⟩,rfl,rfl,trivial,fun _ _=>Cv.cnd.mk (fun e=>⟨by simp only[yX];omega,⟨i.b.sells.map zA,zQ 2 (i.b.rungs 2) i.price,zQ 2 (i.b.rungs 2) i.price+1⟩,rfl,(hw 0).symm,rfl,⟨Nat.lt_succ_self _,by rw[List.length_map];exact hn⟩,fun _ _=>⟨rfl,(),?_⟩⟩) (fun e=>⟨(),?_⟩)⟩⟩
  ·have e:(i.b.a.qAt r.queue).count=0:=by simpa using e
   rw[Book.dropF,hgd,if_pos e,hu]
   refine⟨rfl,rfl,rfl,rfl,rfl,rfl,rfl,?_,?_,trivial⟩
   ·show List.map zA (i.b.sells.take _++i.b.sells.drop _)=_
    rw[List.map_append,List.map_take,List.map_drop]
   ·show iE (i.b.spare++[r.queue])=_
    simp[iE]
  ·have e:¬(i.b.a.qAt r.queue).count=0:=by simpa using e
   rw[Book.dropF,hgd,if_neg e,hu]
   exact⟨rfl,rfl,rfl,rfl,rfl,rfl,rfl,rfl,rfl,trivial⟩
theorem zTx:drop2C.ok Tryz.prog 113:=zXy (gokc tC (gokc mF (gokc zMx gok0))) z7o
theorem zZc:dropC.ok Tryz.prog 113:=fun j=>match j with
 |⟨i,false⟩=>zSb i
 |⟨i,true⟩=>zTx i
theorem z0u {a:Arena} {k:Nat} {p t:Int} {m:Nat} (h:zCs (a.slotAt k) m k p t) (hl:k<a.slots.length):a.getF k=((a.slotAt k).ent,true):=by
 have:a.usedAt k=true:=by
  simp only[Arena.usedAt,Bool.and_eq_true,decide_eq_true_eq,Int.toNat_natCast]
  exact⟨by omega,by omega,h.used⟩
 rw[Arena.getF,if_pos this,Int.toNat_natCast]
theorem zFs {b:Book} {Q:List (List Nat)} (c:b.Core Q (-1)) {id s:Int} {r:y7} {k:Nat} (h:Told b Q id s r k):b.a.getF k=((b.a.slotAt k).ent,true)∧(b.a.slotAt k).qty≤1000000∧1≤(b.a.slotAt k).qty:=by
 obtain⟨h1,⟨p,t,h2⟩,h3⟩:=c.wf.toWf0.mem (c.get h.hs h.hr) h.hk
 exact⟨z0u h2 (by rw[c.wf.len];exact h1),h2.q2,c.wf.pos _ _ (c.get h.hs h.hr) _ h.hk⟩
theorem z3c (i:FlI) (h:bfindC.cnd i):zKk i:=by
 obtain⟨Q,c,ht,hL⟩:i.b.Rep i.L:=h
 unfold zKk sW
 rcases c.told i.id with⟨hg,hn⟩|⟨s,r,k,hT⟩
 ·refine⟨qT _ _,false,0,0,0,.inr ⟨?_,rfl,rfl⟩,Cv.cnd.mk (fun _=> ?_) (fun e=>absurd e (by decide))⟩
  ·rw[dZ,hg];rfl
  ·rw[← hL]at hn
   rw[z3n hn,hn]
   exact⟨(),by(repeat'(first|exact trivial|exact rfl|apply And.intro))⟩
 ·refine⟨qT _ _,true,s,r.price,k,.inl ⟨?_,rfl⟩,Cv.cnd.mk (fun e=>absurd e (by decide)) (fun _=>dup ⟨⟨i.b.a,k⟩,rfl,rfl,by dsimp only;rw[c.wf.len];decide,fun _ _=>⟨(),?_⟩⟩)⟩
  ·rw[dZ,hT.e];rfl
  ·have h1:=hT.get
   have h2:=hT.has
   rw[← hL]at h1 h2
   rw[h1,h2,(zFs c hT).1]
   exact⟨hT.ident,by(repeat'(first|exact trivial|exact rfl|apply And.intro))⟩
theorem zVf:bfindC.ok Tryz.prog 71:=zZs (gokc zLh gok0) z3c
theorem Book.Core.okAt {b:Book} {Q:List (List Nat)} (c:b.Core Q (-1)):b.a.okAt:=c.wf.toWf0.ok
theorem z9z (i:FlI) (h:fillC.cnd i):zTm i:=by
 have hR:i.b.Rep i.L:=h
 obtain⟨Q,c,ht,hL⟩:=id hR
 unfold zTm zCv
 rcases c.told i.id with⟨hg,hn⟩|⟨s,r,k,hT⟩
 ·refine⟨qT _ _,false,0,0,0,.inr ⟨?_,rfl,rfl⟩,Cv.cnd.mk (fun _=> ?_) (fun e=>absurd e (by simp))⟩
  ·rw[dZ,hg];rfl
  ·rw[← hL]at hn
   rw[yZ,if_pos hn]
   exact⟨i.b,rfl,rfl,rfl,rfl,rfl,rfl,rfl,rfl,rfl,rfl,hR⟩
 have hg:=hT.get
 have hh:=hT.has
 rw[← hL]at hg hh
 obtain⟨hsg,hq1,hq2⟩:=zFs c hT
 have hqq:(uK i.L i.id).qty=(i.b.a.slotAt k).qty:=by rw[hg];rfl
 refine⟨qT _ _,true,s,r.price,k,.inl ⟨?_,rfl⟩,Cv.cnd.mk (fun e=>absurd e (by simp)) (fun _=>⟨⟨i.b.a,k,i.qty⟩,rfl,rfl,rfl,c.okAt,fun _ _=> ?_⟩)⟩
 ·rw[dZ,hT.e];rfl
 dsimp only
 have hu:i.b.a.usedAt k=true:=by
  cases hu:i.b.a.usedAt k with
  |true=>rfl
  |false=>rw[Arena.getF,if_neg (by rw[hu];decide)]at hsg;exact absurd (congrArg Prod.snd hsg) (by simp)
 by_cases hb:i.qty<1∨(i.b.a.slotAt k).qty<i.qty
 ·have ht:i.b.a.takeF k i.qty=(i.b.a,24):=by rw[Arena.takeF,if_neg (by rw[hu];decide),Int.toNat_natCast,if_pos hb]
  rw[ht]
  refine Cv.cnd.mk (fun _=> ?_) (fun e=>absurd e (by simp))
  rw[yZ,if_neg (by rw[hh];decide),if_pos (by rw[hqq];exact hb)]
  exact⟨i.b,rfl,rfl,rfl,rfl,rfl,rfl,rfl,rfl,rfl,rfl,hR⟩
 have hfl:yZ i.L i.id i.qty=(yK i.L i.id i.qty,0):=by rw[yZ,if_neg (by rw[hh];decide),if_neg (by rw[hqq];exact hb)]
 by_cases hf:i.qty=(i.b.a.slotAt k).qty
 ·obtain⟨g1,g2,g3,g4,g5,g6⟩:=c.gone (by rw[← hL];exact ht) hT (q:=i.qty) ⟨by omega,hf⟩
  rw[← hL]at g2
  have hsm:=c.small
  rw[g1]
  refine Cv.cnd.mk (fun e=>absurd e (by simp)) (fun _=>dup ⟨⟨(i.b.a.takeF k i.qty).1,k⟩,rfl,rfl,by dsimp only;rw[g3];decide,fun _ _=> ?_⟩)
  dsimp only
  rw[g5]
  refine Cv.cnd.mk (fun _=> ?_) (fun e=>absurd e (by simp))
  rcases hT.hs with rfl|rfl
  ·refine⟨⟨⟨{i.b with a:=(i.b.a.takeF k i.qty).1},i.id,r.price,k⟩,false⟩,rfl,rfl,rfl,rfl,rfl,rfl,rfl,rfl,rfl,rfl,rfl,rfl,rfl,⟨⟨⟨by dsimp only;rw[g3];decide,by dsimp only;rw[g4];exact hsm.1.2⟩,hsm.2⟩,g6⟩,fun _ _=> ?_⟩
   refine⟨({i.b with a:=(i.b.a.takeF k i.qty).1}:Book).dropF 1 i.id r.price,by rw[hfl],rfl,rfl,rfl,rfl,rfl,rfl,rfl,rfl,rfl,by rw[hfl];exact g2⟩
  ·refine⟨⟨⟨{i.b with a:=(i.b.a.takeF k i.qty).1},i.id,r.price,k⟩,true⟩,rfl,rfl,rfl,rfl,rfl,rfl,rfl,rfl,rfl,rfl,rfl,rfl,rfl,⟨⟨⟨by dsimp only;rw[g3];decide,by dsimp only;rw[g4];exact hsm.1.2⟩,hsm.2⟩,g6⟩,fun _ _=> ?_⟩
   refine⟨({i.b with a:=(i.b.a.takeF k i.qty).1}:Book).dropF 2 i.id r.price,by rw[hfl],rfl,rfl,rfl,rfl,rfl,rfl,rfl,rfl,rfl,by rw[hfl];exact g2⟩
 ·obtain⟨g1,g2,g3,g4,g5⟩:=c.less (by rw[← hL];exact ht) hT (q:=i.qty) (by omega)
  rw[← hL]at g2
  rw[g1]
  refine Cv.cnd.mk (fun e=>absurd e (by simp)) (fun _=>dup ⟨⟨(i.b.a.takeF k i.qty).1,k⟩,rfl,rfl,by dsimp only;rw[g3];decide,fun _ _=> ?_⟩)
  dsimp only
  rw[g4]
  refine Cv.cnd.mk (fun e=>absurd e (by simp)) (fun _=>Cv.cnd.mk (fun e=> ?_) (fun _=> ?_))
  ·have e:¬((i.b.a.takeF k i.qty).1.slotAt k).ent.id=i.id:=by simpa using e
   exact absurd g5 e
  ·exact⟨{i.b with a:=(i.b.a.takeF k i.qty).1},by rw[hfl],rfl,rfl,rfl,rfl,rfl,rfl,rfl,rfl,rfl,by rw[hfl];exact g2⟩
theorem z0h:fillC.ok Tryz.prog 73:=z6n (gokc zXg (gokc zLh (gokc zZc gok0))) z9z
theorem zCf (A B:List zH) (s p:Int):atL (A++B) s p=atL A s p++atL B s p:=List.filter_append _ _
theorem zCi {A:List zH} {s p:Int} (h:∀o∈A,o.side=s→o.price≠p):atL A s p=[]:=by
 rw[atL,List.filter_eq_nil_iff]
 intro o ho
 by_cases e:o.side=s
 ·simp[h o ho e]
 ·simp[e]
theorem z1q {A:List zH} {s p:Int} (h:∀o∈A,o.side=s∧o.price=p):atL A s p=A:=by
 rw[atL,List.filter_eq_self]
 intro o ho
 simp[h o ho]
theorem sU {s x y:Int} (h:btr s x y=true):x≠y:=by
 rintro rfl;rw[gN]at h;cases h
theorem Book.Core.at_no {b:Book} {Q:List (List Nat)} (c:b.Core Q (-1)) {s p:Int} (hs:s=1∨s=2) (h:xM s (b.rungs s) p=false):atL (b.flat Q) s p=[]:=by
 have hsp:=cL (p:=p) (c.srt s hs)
 rw[if_neg (by rw[h];decide)]at hsp
 refine zCi fun o ho e=> ?_
 obtain⟨_,r,hr,_,hp⟩:=u6 ho
 rw[e]at hr
 rw[hp]
 rw[← List.take_append_drop (zQ s (b.rungs s) p) (b.rungs s)]at hr
 rcases List.mem_append.1 hr with hr|hr
 ·exact sU (hsp.1 r hr)
 ·exact(sU (hsp.2 r hr)).symm
theorem Book.Core.at_yes {b:Book} {Q:List (List Nat)} (c:b.Core Q (-1)) {s p:Int} (hs:s=1∨s=2) (h:xM s (b.rungs s) p=true):∃r,(b.rungs s)[zQ s (b.rungs s) p]? =some r∧r.price=p∧r∈b.rungs s∧atL (b.flat Q) s p=b.rOrds Q s r:=by
 have hsp:=cL (p:=p) (c.srt s hs)
 rw[if_pos h]at hsp
 obtain⟨h1,r,hr,hp,h2⟩:=hsp
 have hlt:=(List.getElem?_eq_some_iff.1 hr).1
 refine⟨r,hr,hp,List.mem_of_getElem? hr,?_⟩
 have hsplit:b.rungs s=(b.rungs s).take (zQ s (b.rungs s) p)++r::(b.rungs s).drop (zQ s (b.rungs s) p+1):=by
  conv=>lhs;rw[← List.take_append_drop (zQ s (b.rungs s) p) (b.rungs s)]
  rw[List.drop_eq_getElem_cons hlt,(List.getElem?_eq_some_iff.1 hr).2]
 have hside:atL (b.sideL Q s) s p=b.rOrds Q s r:=by
  rw[Book.sideL,hsplit,List.flatMap_append,List.flatMap_cons,zCf,zCf,zCi,z1q,zCi,List.append_nil,List.nil_append]
  ·intro o ho _
   obtain⟨r',hr',ho⟩:=List.mem_flatMap.1 ho
   rw[(xJ ho).2];exact(sU (h2 r' hr')).symm
  ·intro o ho
   rw[← hp];exact xJ ho
  ·intro o ho _
   obtain⟨r',hr',ho⟩:=List.mem_flatMap.1 ho
   rw[(xJ ho).2];exact sU (h1 r' hr')
 have hother:∀s',s'≠s→atL (b.sideL Q s') s p=[]:=fun s' hne=>zCi fun o ho e=>absurd ((vP ho).1.symm.trans e) hne
 rw[Book.flat,zCf]
 rcases hs with rfl|rfl
 ·rw[hside,hother 2 (by decide),List.append_nil]
 ·rw[hside,hother 1 (by decide),List.nil_append]
theorem Book.Core.listOk {b:Book} {Q:List (List Nat)} (c:b.Core Q (-1)) {s:Int} (hs:s=1∨s=2) {r:y7} (hr:r∈b.rungs s):b.a.listOk r.queue (yR Q r):=by
 have hg:=c.get hs hr
 have hrq:=c.rng _ (jL hs hr)
 refine⟨by have:=c.wf.toWf0.short hg;omega,?_⟩
 rw[if_pos ⟨hrq.1,by rw[c.wf.ql];exact hrq.2⟩,zP (c.wf.q _ _ hg)]
 exact lV (c.wf.sg _ _ hg)
theorem yBm (i:AtI) (h:at1C.cnd i):z5z i:=by
 obtain⟨Q,c,ht,hL⟩:i.b.Rep i.L:=h
 unfold z5z
 refine⟨1,rfl,trivial,fun _ _=>Cv.cnd.mk (fun e=>absurd e (by decide)) fun _=>⟨⟨i.b,i.price⟩,rfl,rfl,rfl,rfl,rfl,rfl,rfl,rfl,rfl,rfl,rfl,c.small,fun _ _=>Cv.cnd.mk (fun e=> ?_) (fun e=> ?_)⟩⟩
 ·have e:xM 1 (i.b.rungs 1) i.price=false:=by simpa using e
  have:=c.at_no (.inl rfl) e
  rw[← hL]at this
  refine⟨(),rfl,rfl,rfl,rfl,rfl,rfl,rfl,rfl,rfl,?_,trivial⟩
  show List.map qP (atL i.L 1 i.price)=[]
  rw[this];rfl
 ·have e:xM 1 (i.b.rungs 1) i.price=true:=by simpa using e
  obtain⟨r,hr,hp,hm,ha⟩:=c.at_yes (.inl rfl) e
  rw[← hL]at ha
  have hlt:=(List.getElem?_eq_some_iff.1 hr).1
  refine⟨⟨by omega,by rw[List.length_map];exact Int.ofNat_lt.2 hlt⟩,r.price,r.queue,elA hr (by simp[zA]) rfl,⟨i.b,1,r,yR Q r⟩,rfl,rfl,rfl,rfl,rfl,rfl,rfl,rfl,rfl,rfl,rfl,rfl,c.listOk (.inl rfl) hm,fun _ _=>⟨(),rfl,?_,trivial⟩⟩
  show List.map qP (atL i.L 1 i.price)=_
  rw[ha,BoI.ords,Book.rOrds,Arena.ents];simp only[List.map_map];rfl
theorem z7x:at1C.ok Tryz.prog 67:=z8i (gokc mX (gokc sG (gokc zAg gok0))) yBm
theorem yBh (i:AtI) (h:at2C.cnd i):z4i i:=by
 obtain⟨Q,c,ht,hL⟩:i.b.Rep i.L:=h
 unfold z4i
 refine⟨2,rfl,trivial,fun _ _=>Cv.cnd.mk (fun e=>absurd e (by decide)) fun _=>⟨⟨i.b,i.price⟩,rfl,rfl,rfl,rfl,rfl,rfl,rfl,rfl,rfl,rfl,rfl,c.small,fun _ _=>Cv.cnd.mk (fun e=> ?_) (fun e=> ?_)⟩⟩
 ·have e:xM 2 (i.b.rungs 2) i.price=false:=by simpa using e
  have:=c.at_no (.inr rfl) e
  rw[← hL]at this
  refine⟨(),rfl,rfl,rfl,rfl,rfl,rfl,rfl,rfl,rfl,?_,trivial⟩
  show List.map qP (atL i.L 2 i.price)=[]
  rw[this];rfl
 ·have e:xM 2 (i.b.rungs 2) i.price=true:=by simpa using e
  obtain⟨r,hr,hp,hm,ha⟩:=c.at_yes (.inr rfl) e
  rw[← hL]at ha
  have hlt:=(List.getElem?_eq_some_iff.1 hr).1
  refine⟨⟨by omega,by rw[List.length_map];exact Int.ofNat_lt.2 hlt⟩,r.price,r.queue,elA hr (by simp[zA]) rfl,⟨i.b,2,r,yR Q r⟩,rfl,rfl,rfl,rfl,rfl,rfl,rfl,rfl,rfl,rfl,rfl,rfl,c.listOk (.inr rfl) hm,fun _ _=>⟨(),rfl,?_,trivial⟩⟩
  show List.map qP (atL i.L 2 i.price)=_
  rw[ha,BoI.ords,Book.rOrds,Arena.ents];simp only[List.map_map];rfl
theorem z3d:at2C.ok Tryz.prog 67:=yAb (gokc mX (gokc tC (gokc zAg gok0))) yBh
theorem yAf:atC.ok Tryz.prog 67:=fun j=>match j with
 |⟨b,L,false,p⟩=>z7x ⟨b,L,false,p⟩
 |⟨b,L,true,p⟩=>z3d ⟨b,L,true,p⟩
open Go Cv Go.Proofs
def e8 (p:Int) (l:List zH):Lv:=⟨p,(l.map (·.qty)).sum,l.length⟩
theorem bT:∀{l:List zH} {v:Lv} {vs:List Lv},grp l=v::vs→∃o r,l=o::r∧o.price=v.price
 |[],v,vs,h=>by cases h
 |o::r,v,vs,h=>by
  refine⟨o,r,rfl,?_⟩
  rw[grp]at h
  split at h
  ·cases h;rfl
  ·split at h
   ·rename_i e;cases h;exact e.symm
   ·cases h;rfl
theorem zDn {p:Int}:∀{l:List zH} {m:List zH},l≠[]→(∀o∈l,o.price=p)→(∀o r,m=o::r→o.price≠p)→grp (l++m)=e8 p l::grp m
 |[],m,h,_,_=>absurd rfl h
 |[o],m,_,h,hm=>by
  have e:=h o List.mem_cons_self
  rw[List.singleton_append,grp]
  split
  ·rename_i g;simp[e8,e,g]
  ·rename_i v vs g
   obtain⟨o',r,e1,e2⟩:=bT g
   have:=hm o' r e1
   rw[if_neg (by omega)];simp[e8,e,g]
 |o::o'::l,m,_,h,hm=>by
  have e:=h o List.mem_cons_self
  have ih:=zDn (l:=o'::l) (m:=m) (by simp) (fun x hx=>h x (List.mem_cons_of_mem _ hx)) hm
  rw[List.cons_append,grp,ih]
  dsimp only
  rw[if_pos (show(e8 p (o'::l)).price=o.price from e.symm)]
  simp only[e8,List.map_cons,List.sum_cons,List.length_cons]
  rfl
theorem zEh {f:y7→List zH}:∀{R:List y7},(∀r∈R,f r≠[]∧∀o∈f r,o.price=r.price)→R.Pairwise (fun r r'=>r.price≠r'.price)→grp (R.flatMap f)=R.map fun r=>e8 r.price (f r)
 |[],_,_=>rfl
 |r::R,h,hp=>by
  rw[List.pairwise_cons]at hp
  have ih:=zEh (R:=R) (fun x hx=>h x (List.mem_cons_of_mem _ hx)) hp.2
  rw[List.flatMap_cons,zDn (h r List.mem_cons_self).1 (h r List.mem_cons_self).2,ih,List.map_cons]
  intro o l e
  cases R with
  |nil=>cases e
  |cons r' R'=>
   rw[List.flatMap_cons]at e
   obtain⟨h1,h2⟩:=h r' (List.mem_cons_of_mem _ List.mem_cons_self)
   cases hf:f r' with
   |nil=>exact absurd hf h1
   |cons x y=>
    rw[hf,List.cons_append]at e
    cases e
    rw[h2 o (by rw[hf];exact List.mem_cons_self)]
    exact(hp.1 r' List.mem_cons_self).symm
theorem zAq {b:Book} {Q:List (List Nat)} {s:Int} (hs:s=1∨s=2):(b.flat Q).filter (fun o=>decide (o.side=s))=b.sideL Q s:=by
 have h1:∀s',(b.sideL Q s').filter (fun o=>decide (o.side=s))=if s'=s then b.sideL Q s' else[]:=by
  intro s'
  split
  ·rename_i e
   rw[List.filter_eq_self]
   intro o ho
   rw[(vP ho).1,e];simp
  ·rename_i e
   rw[List.filter_eq_nil_iff]
   intro o ho
   rw[(vP ho).1];simp[e]
 rw[Book.flat,List.filter_append,h1,h1]
 rcases hs with rfl|rfl
 ·simp
 ·simp
theorem Book.Core.neL {b:Book} {Q:List (List Nat)} (c:b.Core Q (-1)) {s:Int} (hs:s=1∨s=2) {r:y7} (hr:r∈b.rungs s):yR Q r≠[]:=c.ne s hs r hr fun e=>by have:=c.rng _ (jL hs hr);omega
theorem Book.Core.toldL {b:Book} {Q:List (List Nat)} (c:b.Core Q (-1)) {s:Int} (hs:s=1∨s=2) {r:y7} (hr:r∈b.rungs s):b.told r=e8 r.price (b.rOrds Q s r):=by
 have hg:=c.get hs hr
 have hrq:=c.rng _ (jL hs hr)
 have hq:=c.wf.q _ _ hg
 have hql:=c.wf.ql
 rw[Book.told,zCd hrq.1 hq,e8,Book.rOrds,List.map_map,List.length_map]
 rfl
theorem Book.Core.lad {b:Book} {Q:List (List Nat)} (c:b.Core Q (-1)) {s:Int} (hs:s=1∨s=2):qY (b.flat Q) s=(b.rungs s).map b.told:=by
 rw[qY,zAq hs,Book.sideL,zEh]
 ·exact List.map_congr_left fun r hr=>(c.toldL hs hr).symm
 ·intro r hr
  refine⟨fun e=>c.neL hs hr (List.map_eq_nil_iff.1 e),fun o ho=>(xJ ho).2⟩
 ·exact(c.srt s hs).imp fun h=>sU h
theorem Book.Core.bestL {b:Book} {Q:List (List Nat)} (c:b.Core Q (-1)) {s:Int} (hs:s=1∨s=2):b.best (b.rungs s)=Sx.bestL (b.flat Q) s:=by
 rw[Sx.bestL,c.lad hs]
 cases b.rungs s<;>rfl
theorem Book.Core.cnt {b:Book} {Q:List (List Nat)} (c:b.Core Q (-1)):b.cntOk:=by
 intro q hq
 obtain⟨n,hn⟩:=List.mem_iff_getElem?.1 hq
 have hlt:=(List.getElem?_eq_some_iff.1 hn).1
 rw[c.wf.ql]at hlt
 obtain⟨l,hl⟩:=z8 hlt
 have:=c.wf.q n l hl
 rw[hn]at this
 cases this
 have:=c.wf.toWf0.short hl
 constructor<;>dsimp only<;>omega
def jI (L:List zH):Top:=(top0.buy (bestL L 1)).sell (bestL L 2)
theorem Book.Rep.top {b:Book} {L:List zH} (h:b.Rep L):b.top=jI L:=by
 obtain⟨Q,c,ht,rfl⟩:=h
 rw[Book.top,jI,← c.bestL (.inl rfl),← c.bestL (.inr rfl)];rfl
theorem Book.Rep.cnt {b:Book} {L:List zH} (h:b.Rep L):b.cntOk:=by
 obtain⟨Q,c,ht,rfl⟩:=h
 exact c.cnt
structure lX (o:zH):Prop where
 s:o.side=1∨o.side=2
 q:1≤o.qty∧o.qty≤1000000
theorem Book.Rep.ords {b:Book} {L:List zH} (h:b.Rep L):(∀o∈L,lX o)∧(L.map (·.id)).Nodup∧L.length≤250:=by
 obtain⟨Q,c,ht,rfl⟩:=h
 refine⟨fun o ho=> ?_,c.ids,?_⟩
 ·obtain⟨hs,r,hr,ho,hp⟩:=u6 ho
  refine⟨hs,?_⟩
  obtain⟨k,hk,e⟩:=List.mem_map.1 ho
  obtain⟨_,⟨_,_,h2⟩,_⟩:=c.wf.toWf0.mem (c.get hs hr) hk
  have eq:o.qty=(b.a.slotAt k).qty:=by rw[← e];rfl
  rw[eq]
  exact⟨c.wf.pos _ _ (c.get hs hr) _ hk,h2.q2⟩
 ·have hnd:(((b.rungs 1).flatMap (yR Q)++(b.rungs 2).flatMap (yR Q))).Nodup:=by
   have hm:((b.flat Q).map (·.id))=((b.rungs 1).flatMap (yR Q)++(b.rungs 2).flatMap (yR Q)).map fun k=>(b.a.slotAt k).id:=by
    rw[Book.flat,List.map_append,List.map_append,Book.sideL,Book.sideL,fM,fM,fM,fM]
    congr 1
    ·exact yT fun r _=>by rw[Book.rOrds,List.map_map];rfl
    ·exact yT fun r _=>by rw[Book.rOrds,List.map_map];rfl
   have:=c.ids
   rw[hm]at this
   exact List.Pairwise.of_map _ (fun a b hab e=>hab (by rw[e])) this
  have hl:(b.flat Q).length=((b.rungs 1).flatMap (yR Q)++(b.rungs 2).flatMap (yR Q)).length:=by
   rw[Book.flat,List.length_append,List.length_append,Book.sideL,Book.sideL,List.length_flatMap,List.length_flatMap,List.length_flatMap,List.length_flatMap]
   congr 1
   ·congr 1;exact List.map_congr_left fun r _=>by rw[Book.rOrds,List.length_map]
   ·congr 1;exact List.map_congr_left fun r _=>by rw[Book.rOrds,List.length_map]
  rw[hl]
  refine tK 250 hnd fun k hk=> ?_
  rcases List.mem_append.1 hk with hk|hk
  ·obtain⟨r,hr,hk⟩:=List.mem_flatMap.1 hk
   exact(c.wf.toWf0.mem (c.get (.inl rfl) hr) hk).1
  ·obtain⟨r,hr,hk⟩:=List.mem_flatMap.1 hk
   exact(c.wf.toWf0.mem (c.get (.inr rfl) hr) hk).1
theorem Book.Rep.fit {b:Book} {L:List zH} (h:b.Rep L):b.fit:=by
 obtain⟨Q,c,ht,rfl⟩:=h
 have hs:=c.small
 have h1:=c.ql
 have h2:=c.wf.ql
 have hqb:=c.qb
 rw[Book.qs,List.length_append,List.length_append,List.length_map,List.length_map]at h1
 refine⟨⟨hs.1.1,fun hf=> ?_,fun q hq=> ?_⟩,by omega,by omega,by omega,by omega⟩
 ·obtain⟨k,_,hk,hk1,hku,_⟩:=c.wf.toWf0.unused hf
  exact⟨_,List.mem_of_getElem? hk1,hku⟩
 ·obtain⟨n,hn⟩:=List.mem_iff_getElem?.1 hq
  have hlt:=(List.getElem?_eq_some_iff.1 hn).1
  rw[c.wf.ql]at hlt
  obtain⟨l,hl⟩:=z8 hlt
  have:=c.wf.q n l hl
  rw[hn]at this
  cases this
  dsimp only
  rcases kB l with e|⟨y,j,e,e2⟩
  ·exact .inl ((uO l).2 e)
  ·rw[e2]
   have:=(c.wf.toWf0.mem hl (k:=j) (by rw[e];simp)).1
   rw[c.wf.len]
   exact .inr ⟨by omega,by omega⟩
def whL:Nat→List (List zH)→List (Int×Int)
 |_,[]=>[]
 |k,L::B=>L.map (fun o=>(o.id,(k:Int)))++whL (k+1) B
theorem whL_mem:∀{B:List (List zH)} {n:Nat} {x:Int×Int},x∈whL n B↔∃(k:Nat) (L:List zH),B[k]? =some L∧x.1∈L.map (·.id)∧x.2=((n+k:Nat):Int)
 |[],n,x=>by simp[whL]
 |L::B,n,x=>by
  rw[whL,List.mem_append,whL_mem (B:=B)]
  constructor
  ·rintro(h|⟨k,L',h1,h2,h3⟩)
   ·obtain⟨o,ho,rfl⟩:=List.mem_map.1 h
    exact⟨0,L,rfl,List.mem_map_of_mem (f:=(·.id)) ho,rfl⟩
   ·exact⟨k+1,L',h1,h2,by rw[h3];omega⟩
  ·rintro⟨k,L',h1,h2,h3⟩
   cases k with
   |zero=>
    cases h1
    obtain⟨o,ho,e⟩:=List.mem_map.1 h2
    exact .inl (List.mem_map.2 ⟨o,ho,Prod.ext e h3.symm⟩)
   |succ k=>exact .inr ⟨k,L',h1,h2,by rw[h3];omega⟩
theorem pI:∀{B:List (List zH)} (n k:Nat),k<B.length→∃rest,∀X:List zH,(whL n (B.set k X)).Perm (X.map (fun o=>(o.id,((n+k:Nat):Int)))++rest)
 |[],n,k,h=>absurd h (by simp)
 |L::B,n,0,h=>⟨whL (n+1) B,fun X=> .refl _⟩
 |L::B,n,k+1,h=>by
  obtain⟨rest,hr⟩:=pI (B:=B) (n+1) k (by simpa using h)
  refine⟨L.map (fun o=>(o.id,(n:Int)))++rest,fun X=> ?_⟩
  rw[List.set_cons_succ,whL]
  refine((hr X).append_left _).trans ?_
  rw[← List.append_assoc,← List.append_assoc,show n+1+k=n+(k+1)by omega]
  exact List.perm_append_comm.append_right _
structure MSt.Rep (s:MSt) (p:Prd) (B:List (List zH)):Prop where
 ep:s.p=p
 bl:s.books.length=B.length
 bk:∀(k:Nat) (b:Book) (L:List zH),s.books[k]? =some b→B[k]? =some L→b.Rep L
 wh:s.wh.Perm (whL 0 B)
 ids:((whL 0 B).map (·.1)).Nodup
def vY (B:List (List zH)) (id:Int):Option Nat:=B.findIdx? fun L=>qF L id
theorem kZ {B:List (List zH)} {id:Int} {k:Nat} (h:vY B id=some k):∃L,B[k]? =some L∧qF L id=true:=by
 rw[vY,List.findIdx?_eq_some_iff_getElem]at h
 obtain⟨h1,h2,_⟩:=h
 exact⟨_,List.getElem?_eq_getElem h1,h2⟩
theorem sZ {B:List (List zH)} {id:Int} (h:vY B id=none):∀L∈B,qF L id=false:=by
 rw[vY,List.findIdx?_eq_none_iff]at h
 exact h
theorem zDz:∀{l:List (Int×Int)},(l.map (·.1)).Nodup→∀{k x:Int},(k,x)∈l→gP l k=some x
 |[],_,k,x,hx=>by cases hx
 |p::l,h,k,x,hx=>by
  rw[List.map_cons,List.nodup_cons]at h
  rw[gP,List.find?_cons]
  rcases List.mem_cons.1 hx with ex|hx
  ·subst ex;simp
  ·have:p.1≠k:=by rintro e;exact h.1 (e▸List.mem_map_of_mem (f:=(·.1)) hx)
   rw[decide_eq_false this]
   exact zDz h.2 hx
theorem zPz {l:List (Int×Int)} {k:Int} (h:k∉l.map (·.1)):gP l k=none:=by
 rw[gP,Option.map_eq_none_iff,List.find?_eq_none]
 intro x hx e
 have e:x.1=k:=by simpa using e
 exact h (e▸List.mem_map_of_mem (f:=(·.1)) hx)
theorem MSt.Rep.keys {s:MSt} {p:Prd} {B:List (List zH)} (h:s.Rep p B):(s.wh.map (·.1)).Nodup:=(h.wh.map (·.1)).nodup_iff.2 h.ids
theorem MSt.Rep.at_ {s:MSt} {p:Prd} {B:List (List zH)} (h:s.Rep p B) (id:Int):gP s.wh id=(vY B id).map (fun k:Nat=>(k:Int)):=by
 cases hi:vY B id with
 |none=>
  refine zPz fun hm=> ?_
  rw[(h.wh.map (·.1)).mem_iff]at hm
  obtain⟨x,hx,rfl⟩:=List.mem_map.1 hm
  obtain⟨k,L,h1,h2,_⟩:=whL_mem.1 hx
  have:=sZ hi L (List.mem_of_getElem? h1)
  rw[hasId_iff.2 h2]at this;cases this
 |some k=>
  obtain⟨L,h1,h2⟩:=kZ hi
  refine zDz h.keys (h.wh.mem_iff.2 (whL_mem.2 ⟨k,L,h1,hasId_iff.1 h2,by simp⟩))
theorem zVu {B:List (List zH)} (h:((whL 0 B).map (·.1)).Nodup) {id:Int} {k j:Nat} {L M:List zH} (hk:B[k]? =some L) (hj:B[j]? =some M) (h1:id∈L.map (·.id)) (h2:id∈M.map (·.id)):k=j:=by
 have a:=whL_mem (n:=0) (x:=(id,(k:Int)))|>.2 ⟨k,L,hk,h1,by simp⟩
 have b:=whL_mem (n:=0) (x:=(id,(j:Int)))|>.2 ⟨j,M,hj,h2,by simp⟩
 have:=bN h a b
 omega
open Go Cv Go.Proofs
def xN (B:List (List zH)) (id q:Int):List (List zH)×Int:=match vY B id with
 |none=>(B,26)
 |some k=>(B.set k (yZ (B.getD k []) id q).1,(yZ (B.getD k []) id q).2)
theorem r9 {L:List zH} (h:(L.map (·.id)).Nodup) (id q:Int):((yZ L id q).1.map (·.id)=L.map (·.id)∧qF (yZ L id q).1 id=qF L id)∨((yZ L id q).1=L.filter (fun o=> !decide (o.id=id))∧qF (yZ L id q).1 id=false):=by
 rw[yZ]
 by_cases h1:qF L id=false
 ·rw[if_pos h1];exact .inl ⟨rfl,rfl⟩
 have h1:qF L id=true:=by simpa using h1
 rw[if_neg (by rw[h1];decide)]
 by_cases h2:q<1∨(uK L id).qty<q
 ·rw[if_pos h2];exact .inl ⟨rfl,rfl⟩
 rw[if_neg h2]
 dsimp only
 by_cases h3:(uK L id).qty=q
 ·refine .inr ?_
  have e:yK L id q=L.filter fun o=> !decide (o.id=id):=by rw[← h3];exact l7 h h1
  refine⟨e,?_⟩
  rw[e,qF,List.any_eq_false]
  intro o ho
  rw[List.mem_filter]at ho
  simpa using ho.2
 ·refine .inl ?_
  have hm:(yK L id q).map (·.id)=L.map (·.id):=by
   have:yK L id q=L.map fun o=>if o.id=id then{o with qty:=o.qty-q}else o:=by
    rw[yK,← List.filterMap_eq_map]
    refine kY fun o ho=> ?_
    simp only[Function.comp]
    by_cases e:o.id=id
    ·have hg:=wS h ho
     rw[e]at hg
     rw[if_pos e,if_pos e,if_neg (fun e2=>h3 (by rw[hg];exact e2))]
    ·rw[if_neg e,if_neg e]
   rw[this,List.map_map]
   refine List.map_congr_left fun o _=> ?_
   simp only[Function.comp]
   split<;>rfl
  refine⟨hm,?_⟩
  rw[Bool.eq_iff_iff,hasId_iff,hasId_iff,hm]
theorem zLy:∀{l:List (Int×Int)} {k:Int},(l.map (·.1)).Nodup→zFa k l=l.filter fun x=> !decide (x.1=k)
 |[],k,_=>rfl
 |(a,b)::l,k,h=>by
  rw[List.map_cons,List.nodup_cons]at h
  rw[zFa]
  by_cases e:k=a
  ·subst e
   rw[if_pos rfl,List.filter_cons_of_neg (by simp)]
   symm
   rw[List.filter_eq_self]
   intro x hx
   have:x.1≠k:=fun e=>h.1 (e▸List.mem_map_of_mem (f:=(·.1)) hx)
   simp[this]
  ·rw[if_neg e,List.filter_cons_of_pos (by simp[Ne.symm e]),zLy h.2]
theorem zEv:∀{l:List (Int×Int)} {k x:Int},k∉l.map (·.1)→a9 k x l=l++[(k,x)]
 |[],k,x,_=>rfl
 |p::l,k,x,h=>by
  rw[List.map_cons,List.mem_cons,not_or]at h
  rw[a9,if_neg h.1,zEv h.2];rfl
theorem kM {α:Type} {l:List α} {k:Nat} {x:α} (h:l[k]? =some x):l.set k x=l:=by
 apply List.ext_getElem?
 intro i
 rw[List.getElem?_set]
 split
 ·rename_i e
  subst e
  rw[if_pos (List.getElem?_eq_some_iff.1 h).1,h]
 ·rfl
theorem MSt.Rep.set {s:MSt} {p:Prd} {B:List (List zH)} (h:s.Rep p B) {k:Nat} {L':List zH} {b':Book} (hb:b'.Rep L') (hk:k<B.length) {wh':List (Int×Int)} (hw:wh'.Perm (whL 0 (B.set k L'))) (hi:((whL 0 (B.set k L')).map (·.1)).Nodup):({s with books:=s.books.set k b',wh:=wh'}:MSt).Rep p (B.set k L'):=by
 refine⟨h.ep,by simpa using h.bl,fun j b L h1 h2=> ?_,hw,hi⟩
 by_cases e:k=j
 ·subst e
  have h1:(s.books.set k b')[k]? =some b:=h1
  rw[j5 (by rw[h.bl];exact hk)]at h1
  rw[j5 hk]at h2
  cases h1;cases h2;exact hb
 ·have h1:(s.books.set k b')[j]? =some b:=h1
  rw[kW e]at h1 h2
  exact h.bk j b L h1 h2
theorem MSt.Rep.take {s:MSt} {p:Prd} {B:List (List zH)} (h:s.Rep p B) {id q:Int} {k:Nat} (hi:vY B id=some k) {L:List zH} (hL:B[k]? =some L) (hn:(L.map (·.id)).Nodup) {b':Book} (hb:b'.Rep (yZ L id q).1):
 ({s with books:=s.books.set k b',wh:=if qF (yZ L id q).1 id=true then s.wh else zFa id s.wh}:MSt).Rep p (xN B id q).1:=by
 have hk:=(List.getElem?_eq_some_iff.1 hL).1
 have ht:(xN B id q).1=B.set k (yZ L id q).1:=by simp only[xN,hi,zP hL]
 obtain⟨L2,e1,hh⟩:=kZ hi
 rw[hL]at e1;cases e1
 obtain⟨rest,hr⟩:=pI (B:=B) 0 k hk
 have hL0:=hr L
 rw[kM hL]at hL0
 rw[ht]
 rcases r9 hn id q with⟨e1,e2⟩|⟨e1,e2⟩
 ·have hm:∀X Y:List zH,X.map (·.id)=Y.map (·.id)→X.map (fun o=>(o.id,((0+k:Nat):Int)))=Y.map (fun o=>(o.id,((0+k:Nat):Int))):=by
   intro X Y e
   have:=congrArg (List.map fun i:Int=>(i,((0+k:Nat):Int))) e
   rw[List.map_map,List.map_map]at this
   exact this
  have hp:(whL 0 (B.set k (yZ L id q).1)).Perm (whL 0 B):=by
   refine(hr _).trans ?_
   rw[hm _ _ e1]
   exact hL0.symm
  rw[e2,hh,if_pos rfl]
  exact h.set hb hk (h.wh.trans hp.symm) ((hp.map (·.1)).nodup_iff.2 h.ids)
 ·rw[e2,if_neg (by decide)]
  have hrest:∀x∈rest,x.1≠id:=by
   intro x hx e
   have hnd:=(hL0.map (·.1)).nodup_iff.1 h.ids
   rw[List.map_append,List.map_map]at hnd
   have h1:id∈L.map ((·.1)∘fun o:zH=>(o.id,((0+k:Nat):Int))):=hasId_iff.1 hh
   exact(List.nodup_append.1 hnd).2.2 id h1 x.1 (List.mem_map_of_mem (f:=(·.1)) hx) e.symm
  have hp:(whL 0 (B.set k (yZ L id q).1)).Perm ((whL 0 B).filter fun x=> !decide (x.1=id)):=by
   refine(hr _).trans (.trans ?_ (hL0.filter _).symm)
   rw[e1,List.filter_append,List.filter_map]
   have:rest.filter (fun x=> !decide (x.1=id))=rest:=by
    rw[List.filter_eq_self]
    intro x hx
    simp[hrest x hx]
   rw[this]
   exact .refl _
  refine h.set hb hk ?_ ((hp.map (·.1)).nodup_iff.2 (h.ids.sublist (List.Sublist.map _ List.filter_sublist)))
  rw[zLy h.keys]
  exact(h.wh.filter _).trans hp.symm
def mQ (p:Prd) (B:List (List zH)) (inst id:Int) (s price q:Int):List (List zH)×Int:=
 if inst<0∨B.length≤inst then(B,20)else if(vY B id).isSome=true then(B,25)else if 250≤(whL 0 B).length then(B,13)else if p.price inst price≠0 then(B,p.price inst price)
 else(B.set inst.toNat (nZ (B.getD inst.toNat []) s id price q).1,(nZ (B.getD inst.toNat []) s id price q).2)
theorem zXd (L:List zH) (s id p q:Int):((zDu L s id p q).map (·.id)).Perm (id::L.map (·.id)):=by
 have:∀X:List zH,((X.takeWhile (before s p)++⟨id,s,p,q,j4 L s p⟩::X.dropWhile (before s p)).map (·.id)).Perm (id::X.map (·.id)):=by
  intro X
  conv=>rhs;rw[← List.takeWhile_append_dropWhile (p:=before s p) (l:=X)]
  rw[List.map_append,List.map_cons,List.map_append]
  exact List.perm_middle
 rw[zDu]
 split
 ·refine(this _).trans ?_
  rw[zLm]
 ·exact this _
theorem MSt.Rep.add {s:MSt} {p:Prd} {B:List (List zH)} (h:s.Rep p B) (inst id:Int) (sd:Bool) (price q:Int):
 (MSt.addF ⟨s,inst,id,sd,price,q⟩).1.Rep p (mQ p B inst id (zB sd) price q).1∧(MSt.addF ⟨s,inst,id,sd,price,q⟩).2=(mQ p B inst id (zB sd) price q).2:=by
 have hsd:zB sd=1∨zB sd=2:=by cases sd;exact .inl rfl;exact .inr rfl
 rw[MSt.addF,mQ]
 dsimp only
 rw[h.bl,h.at_,h.wh.length_eq,show s.p.price inst price=p.price inst price by rw[h.ep],Option.isSome_map]
 by_cases c1:inst<0∨(B.length:Int)≤inst
 ·rw[if_pos c1,if_pos c1];exact⟨h,rfl⟩
 rw[if_neg c1,if_neg c1]
 by_cases c2:(vY B id).isSome=true
 ·rw[if_pos c2,if_pos c2];exact⟨h,rfl⟩
 rw[if_neg c2,if_neg c2]
 by_cases c3:250≤(whL 0 B).length
 ·rw[if_pos c3,if_pos c3];exact⟨h,rfl⟩
 rw[if_neg c3,if_neg c3]
 by_cases c4:p.price inst price≠0
 ·rw[if_pos c4,if_pos c4];exact⟨h,rfl⟩
 rw[if_neg c4,if_neg c4]
 obtain⟨k,hk⟩:∃k:Nat,inst=k:=⟨inst.toNat,by omega⟩
 subst hk
 rw[Int.toNat_natCast]
 have hkl:k<B.length:=by omega
 obtain⟨b,hb⟩:=z8 (l:=s.books) (i:=k) (by rw[h.bl];exact hkl)
 obtain⟨L,hL⟩:=z8 (l:=B) (i:=k) hkl
 have hba:s.bookAt k=b:=by rw[MSt.bookAt,Int.toNat_natCast];exact zP hb
 rw[hba,zP hL]
 obtain⟨r1,r2⟩:=(h.bk k b L hb hL).add hsd id price q
 refine⟨?_,r2⟩
 rw[r2]
 obtain⟨rest,hr⟩:=pI (B:=B) 0 k hkl
 have hL0:=hr L
 rw[kM hL]at hL0
 have hcase:(nZ L (zB sd) id price q).2≠0∧(nZ L (zB sd) id price q).1=L∨(nZ L (zB sd) id price q).2=0∧(nZ L (zB sd) id price q).1=zDu L (zB sd) id price q:=by
  rw[nZ]
  repeat' split
  ·exact .inl ⟨by simp,rfl⟩
  ·exact .inl ⟨by simp,rfl⟩
  ·exact .inl ⟨by simp,rfl⟩
  ·exact .inr ⟨rfl,rfl⟩
 rcases hcase with⟨e1,e2⟩|⟨e1,e2⟩
 ·rw[if_neg e1]
  refine h.set r1 hkl ?_ ?_
  ·rw[e2,kM hL];exact h.wh
  ·rw[e2,kM hL];exact h.ids
 ·rw[if_pos e1]
  have hnk:id∉s.wh.map (·.1):=by
   intro hm
   obtain⟨x,hx,rfl⟩:=List.mem_map.1 hm
   have:=zDz h.keys hx
   rw[h.at_]at this
   cases hq:vY B x.1 with
   |none=>rw[hq]at this;cases this
   |some j=>rw[hq]at c2;exact c2 rfl
  have hp:(whL 0 (B.set k (nZ L (zB sd) id price q).1)).Perm ((id,(k:Int))::whL 0 B):=by
   refine(hr _).trans (.trans ?_ (hL0.symm.cons _))
   rw[e2,← List.cons_append]
   refine List.Perm.append_right _ ?_
   have:=(zXd L (zB sd) id price q).map fun i:Int=>(i,(k:Int))
   rw[List.map_map,List.map_cons,List.map_map]at this
   rw[Nat.zero_add]
   exact this
  refine h.set r1 hkl ?_ ((hp.map (·.1)).nodup_iff.2 (List.nodup_cons.2 ⟨?_,h.ids⟩))
  ·rw[zEv hnk]
   exact(List.perm_append_singleton _ _).trans ((h.wh.cons _).trans hp.symm)
  ·rw[← (h.wh.map (·.1)).mem_iff];exact hnk
theorem zDs:∀(n k:Nat),whL k (List.replicate n [])=[]
 |0,_=>rfl
 |n+1,k=>by rw[List.replicate_succ,whL,zDs];rfl
theorem eN (p:Prd):(gX p).Rep p (List.replicate p.count []):=by
 refine⟨rfl,by simp[gX],fun k b L h1 h2=> ?_,?_,?_⟩
 ·have e1:b=book0:=List.eq_of_mem_replicate (List.mem_of_getElem? (show(List.replicate p.count book0)[k]? =some b from h1))
  have e2:L=[]:=List.eq_of_mem_replicate (List.mem_of_getElem? h2)
  rw[e1,e2];exact zOi
 ·rw[zDs];exact .refl _
 ·rw[zDs];exact List.nodup_nil
open Go Cv Go.Proofs
structure BkT where
 b:Book
 L:List zH
 s:Bool
@[reducible] def zXk (s:MSt):List AObj:=[z7 s 0,z7 s 1,z7 s 2,z7 s 3,z7 s 4]
def topsOC:Con:=con1 MSt (fun _=>[.nm 0 0]) (fun s=>zXk s) MSt.cntOk (fun s=> .own 5) (fun s=>zXk s++[.own 115 6 (s.tops.map zR)])
structure StI where
 s:MSt
 p:Prd
 B:List (List zH)
 id:Int
 q:Int
def stakeC:Con where
 ι:=StI
 pat:=fun i=>[.nm 0 0,zE i.id,zE i.q]
 pre:=fun i=>[zJ i.s]
 cnd:=fun i=>i.s.Rep i.p i.B∧i.B.length≤1000
 alts:=fun i=>[{o:=MSt,res:=fun _=>zE (xN i.B i.id i.q).2,post:=fun s=>[zJ s],rel:=fun s=>s.Rep i.p (xN i.B i.id i.q).1}]
open Go Cv Go.Proofs
@[reducible] def wV:AObj:=AObj.own (3:Nat) (1:Nat) [[D.v (.int .i64 1)],[D.v (.int .i64 2)]]
def zKw (s:MSt):Prop:=
 (0≤(↑s.books.length:Int)∧(↑s.books.length:Int)≤(↑s.books.length:Int)∧(↑s.books.length:Int)≤9223372036854775807∧(↑(40:Nat):Int)*(↑s.books.length:Int)≤2 ^ (48:Nat))∧∃(i0:Nat),(↑i0:Int)=0∧List.map zR (kH s i0)=List.replicate (↑s.books.length:Int).toNat [D.v (.bool false),D.v (.bool false),D.v (.int .i64 0),D.v (.int .i64 0),D.v (.int .i64 0),D.v (.int .i64 0)]∧∃(I:Nat→Prop),∃(μ:Nat→Nat),I i0∧∀(i:Nat),I i→cnd (decide ((↑i:Int)<(↑s.books.length:Int))) ((0≤(↑i:Int)∧(↑i:Int)<(↑s.books.length:Int))∧(↑i:Int).toNat<s.books.length∧∃(i0:Nat×Top),List.map zR (yL s i0.fst i0.snd)=List.map zR (kH s i)∧∃(I_1:Nat×Top→Prop),(((0:Int)≤(0:Int)∧0<(↑(2:Nat):Int))∧∃(n:Int),zI [[D.v (.int .i64 1)],[D.v (.int .i64 2)]] (Int.toNat 0) 0 1=some [D.v (.int .i64 n)]∧∃(x:Book),s.books[(↑i:Int).toNat]?=some x∧∃(i_1:BkS),zB i_1.side=n∧yA i_1.b=yA x∧(∀(q:qG),q∈i_1.b.a.queues→(-9223372036854775808)≤q.count∧q.count≤9223372036854775807)∧∀(o:Unit),True→∃(x:Book),yA i_1.b=yA x∧(↑i:Int).toNat=(↑i:Int).toNat∧(↑i:Int).toNat<s.books.length∧cnd (i_1.b.best (i_1.b.side i_1.side)).snd ((0≤(↑i:Int)∧(↑i:Int)<(↑(List.map zR (yL s i0.fst i0.snd)).length:Int))∧(0≤(↑i:Int)∧(↑i:Int)<(↑(List.map zR (yL s i0.fst i0.snd)).length:Int))∧(0≤(↑i:Int)∧(↑i:Int)<(↑(List.map zR (yL s i0.fst i0.snd)).length:Int))∧(↑i:Int).toNat<(List.map zR (yL s i0.fst i0.snd)).length∧((0≤(↑i:Int)∧(↑i:Int)<(↑(zK (List.map zR (yL s i0.fst i0.snd)) (↑i:Int).toNat ((0:Nat)+(0:Nat)+nat_lit 0*1) [D.v (.bool true)]).length:Int))∧(↑i:Int).toNat=(↑i:Int).toNat)∧((0≤(↑i:Int)∧(↑i:Int)<(↑(zK (List.map zR (yL s i0.fst i0.snd)) (↑i:Int).toNat ((0:Nat)+(0:Nat)+nat_lit 0*1) [D.v (.bool true)]).length:Int))∧(↑i:Int).toNat=(↑i:Int).toNat)∧(i_1.b.best (i_1.b.side i_1.side)).fst.qty=(i_1.b.best (i_1.b.side i_1.side)).fst.qty∧(i_1.b.best (i_1.b.side i_1.side)).fst.price=(i_1.b.best (i_1.b.side i_1.side)).fst.price∧(↑i:Int).toNat<(zK (List.map zR (yL s i0.fst i0.snd)) (↑i:Int).toNat ((0:Nat)+(0:Nat)+nat_lit 0*1) [D.v (.bool true)]).length∧((0≤(↑i:Int)∧(↑i:Int)<(↑(zK (zK (List.map zR (yL s i0.fst i0.snd)) (↑i:Int).toNat ((0:Nat)+(0:Nat)+nat_lit 0*1) [D.v (.bool true)]) (↑i:Int).toNat ((0:Nat)+(2:Nat)+nat_lit 0*1) [D.v (.int .i64 (i_1.b.best (i_1.b.side i_1.side)).fst.price)]).length:Int))∧(↑i:Int).toNat=(↑i:Int).toNat)∧(i_1.b.best (i_1.b.side i_1.side)).fst.qty=(i_1.b.best (i_1.b.side i_1.side)).fst.qty∧(↑i:Int).toNat<(zK (zK (List.map zR (yL s i0.fst i0.snd)) (↑i:Int).toNat ((0:Nat)+(0:Nat)+nat_lit 0*1) [D.v (.bool true)]) (↑i:Int).toNat ((0:Nat)+(2:Nat)+nat_lit 0*1) [D.v (.int .i64 (i_1.b.best (i_1.b.side i_1.side)).fst.price)]).length∧∃(i':Nat×Top),List.map zR (yL s i'.fst i'.snd)=zK (zK (zK (List.map zR (yL s i0.fst i0.snd)) (↑i:Int).toNat ((0:Nat)+(0:Nat)+nat_lit 0*1) [D.v (.bool true)]) (↑i:Int).toNat ((0:Nat)+(2:Nat)+nat_lit 0*1) [D.v (.int .i64 (i_1.b.best (i_1.b.side i_1.side)).fst.price)]) (↑i:Int).toNat ((0:Nat)+(4:Nat)+nat_lit 0*1) [D.v (.int .i64 (i_1.b.best (i_1.b.side i_1.side)).fst.qty)]∧I_1 i'∧wV=wV∧z7 s 0=z7 s 0∧AObj.objs 64 Book 6 zN (s.books.set (↑i:Int).toNat x) none=z7 s 1∧z7 s 2=z7 s 2∧z7 s 3=z7 s 3∧z7 s 4=z7 s 4) (∃(i':Nat×Top),List.map zR (yL s i'.fst i'.snd)=List.map zR (yL s i0.fst i0.snd)∧I_1 i'∧wV=wV∧z7 s 0=z7 s 0∧AObj.objs 64 Book 6 zN (s.books.set (↑i:Int).toNat x) none=z7 s 1∧z7 s 2=z7 s 2∧z7 s 3=z7 s 3∧z7 s 4=z7 s 4))∧∀(i_1:Nat×Top),I_1 i_1→∃(i0:Nat×Top),List.map zR (yL s i0.fst i0.snd)=List.map zR (yL s i_1.fst i_1.snd)∧∃(I_2:Nat×Top→Prop),((0≤IntKind.i64.wrap ((0:Int)+(1:Int))∧IntKind.i64.wrap ((0:Int)+(1:Int))<(↑(2:Nat):Int))∧∃(n:Int),zI [[D.v (.int .i64 1)],[D.v (.int .i64 2)]] (IntKind.i64.wrap ((0:Int)+(1:Int))).toNat 0 1=some [D.v (.int .i64 n)]∧∃(x:Book),s.books[(↑i:Int).toNat]?=some x∧∃(i_2:BkS),zB i_2.side=n∧yA i_2.b=yA x∧(∀(q:qG),q∈i_2.b.a.queues→(-9223372036854775808)≤q.count∧q.count≤9223372036854775807)∧∀(o:Unit),True→∃(x:Book),yA i_2.b=yA x∧(↑i:Int).toNat=(↑i:Int).toNat∧(↑i:Int).toNat<s.books.length∧cnd (i_2.b.best (i_2.b.side i_2.side)).snd ((0≤(↑i:Int)∧(↑i:Int)<(↑(List.map zR (yL s i0.fst i0.snd)).length:Int))∧(0≤(↑i:Int)∧(↑i:Int)<(↑(List.map zR (yL s i0.fst i0.snd)).length:Int))∧(0≤(↑i:Int)∧(↑i:Int)<(↑(List.map zR (yL s i0.fst i0.snd)).length:Int))∧(↑i:Int).toNat<(List.map zR (yL s i0.fst i0.snd)).length∧((0≤(↑i:Int)∧(↑i:Int)<(↑(zK (List.map zR (yL s i0.fst i0.snd)) (↑i:Int).toNat ((0:Nat)+(0:Nat)+(nat_lit 0+nat_lit 1) % ((2:Int) ^ IntKind.i64.bits).natAbs*1) [D.v (.bool true)]).length:Int))∧(↑i:Int).toNat=(↑i:Int).toNat)∧((0≤(↑i:Int)∧(↑i:Int)<(↑(zK (List.map zR (yL s i0.fst i0.snd)) (↑i:Int).toNat ((0:Nat)+(0:Nat)+(nat_lit 0+nat_lit 1) % ((2:Int) ^ IntKind.i64.bits).natAbs*1) [D.v (.bool true)]).length:Int))∧(↑i:Int).toNat=(↑i:Int).toNat)∧(i_2.b.best (i_2.b.side i_2.side)).fst.qty=(i_2.b.best (i_2.b.side i_2.side)).fst.qty∧(i_2.b.best (i_2.b.side i_2.side)).fst.price=(i_2.b.best (i_2.b.side i_2.side)).fst.price∧(↑i:Int).toNat<(zK (List.map zR (yL s i0.fst i0.snd)) (↑i:Int).toNat ((0:Nat)+(0:Nat)+(nat_lit 0+nat_lit 1) % ((2:Int) ^ IntKind.i64.bits).natAbs*1) [D.v (.bool true)]).length∧((0≤(↑i:Int)∧(↑i:Int)<(↑(zK (zK (List.map zR (yL s i0.fst i0.snd)) (↑i:Int).toNat ((0:Nat)+(0:Nat)+(nat_lit 0+nat_lit 1) % ((2:Int) ^ IntKind.i64.bits).natAbs*1) [D.v (.bool true)]) (↑i:Int).toNat ((0:Nat)+(2:Nat)+(nat_lit 0+nat_lit 1) % ((2:Int) ^ IntKind.i64.bits).natAbs*1) [D.v (.int .i64 (i_2.b.best (i_2.b.side i_2.side)).fst.price)]).length:Int))∧(↑i:Int).toNat=(↑i:Int).toNat)∧(i_2.b.best (i_2.b.side i_2.side)).fst.qty=(i_2.b.best (i_2.b.side i_2.side)).fst.qty∧(↑i:Int).toNat<(zK (zK (List.map zR (yL s i0.fst i0.snd)) (↑i:Int).toNat ((0:Nat)+(0:Nat)+(nat_lit 0+nat_lit 1) % ((2:Int) ^ IntKind.i64.bits).natAbs*1) [D.v (.bool true)]) (↑i:Int).toNat ((0:Nat)+(2:Nat)+(nat_lit 0+nat_lit 1) % ((2:Int) ^ IntKind.i64.bits).natAbs*1) [D.v (.int .i64 (i_2.b.best (i_2.b.side i_2.side)).fst.price)]).length∧∃(i':Nat×Top),List.map zR (yL s i'.fst i'.snd)=zK (zK (zK (List.map zR (yL s i0.fst i0.snd)) (↑i:Int).toNat ((0:Nat)+(0:Nat)+(nat_lit 0+nat_lit 1) % ((2:Int) ^ IntKind.i64.bits).natAbs*1) [D.v (.bool true)]) (↑i:Int).toNat ((0:Nat)+(2:Nat)+(nat_lit 0+nat_lit 1) % ((2:Int) ^ IntKind.i64.bits).natAbs*1) [D.v (.int .i64 (i_2.b.best (i_2.b.side i_2.side)).fst.price)]) (↑i:Int).toNat ((0:Nat)+(4:Nat)+(nat_lit 0+nat_lit 1) % ((2:Int) ^ IntKind.i64.bits).natAbs*1) [D.v (.int .i64 (i_2.b.best (i_2.b.side i_2.side)).fst.qty)]∧I_2 i'∧wV=wV∧z7 s 0=z7 s 0∧AObj.objs 64 Book 6 zN (s.books.set (↑i:Int).toNat x) none=z7 s 1∧z7 s 2=z7 s 2∧z7 s 3=z7 s 3∧z7 s 4=z7 s 4) (∃(i':Nat×Top),List.map zR (yL s i'.fst i'.snd)=List.map zR (yL s i0.fst i0.snd)∧I_2 i'∧wV=wV∧z7 s 0=z7 s 0∧AObj.objs 64 Book 6 zN (s.books.set (↑i:Int).toNat x) none=z7 s 1∧z7 s 2=z7 s 2∧z7 s 3=z7 s 3∧z7 s 4=z7 s 4))∧∀(i_2:Nat×Top),I_2 i_2→∃(i':Nat),(↑i':Int)=IntKind.i64.wrap ((↑i:Int)+1)∧List.map zR (kH s i')=List.map zR (yL s i_2.fst i_2.snd)∧I i'∧μ i'<μ i∧z7 s 0=z7 s 0∧z7 s 1=z7 s 1∧z7 s 2=z7 s 2∧z7 s 3=z7 s 3∧z7 s 4=z7 s 4) (∃(o:Unit),sb s.p.code=sb s.p.code∧s.p.tick=s.p.tick∧s.p.low=s.p.low∧s.p.high=s.p.high∧s.p.wide=s.p.wide∧s.p.rule=s.p.rule∧s.p.top=s.p.top∧s.p.least=s.p.least∧s.p.part=s.p.part∧AObj.objs 64 Book 6 zN s.books none=z7 s 1∧yE s.wh=yE s.wh∧AObj.fro 1 (iE s.p.months)=z7 s 3∧AObj.fro 1 (iE s.p.settle)=z7 s 4∧List.map zR s.tops=List.map zR (kH s i)∧True)
theorem z0q (hG:GOk Tryz.prog ([(66,bestC)])) (h:∀(s:MSt),topsOC.cnd s→zKw s):topsOC.ok Tryz.prog 44:=okw mixed hG 0 (fun s=>z8q s) (fun s=>z9n s) [] Tryz.func44 h
def zJo (i:StI):Prop:=
 (∀(p:Value×List D),p∈yE i.s.wh→like (Value.int IntKind.i64 i.id) p.fst=true)∧∃(b:Bool),∃(n:Int),(kV (Value.int IntKind.i64 i.id) (yE i.s.wh)=some [D.v (.int .i64 n)]∧b=true∨kV (Value.int IntKind.i64 i.id) (yE i.s.wh)=none∧[D.v (.int .i64 n)]=[D.v (.int .i64 0)]∧b=false)∧cnd (!b) (∃(o:MSt),(xN i.B i.id i.q).snd=26∧sb o.p.code=sb i.s.p.code∧o.p.tick=i.s.p.tick∧o.p.low=i.s.p.low∧o.p.high=i.s.p.high∧o.p.wide=i.s.p.wide∧o.p.rule=i.s.p.rule∧o.p.top=i.s.p.top∧o.p.least=i.s.p.least∧o.p.part=i.s.p.part∧AObj.objs 64 Book 6 zN o.books none=AObj.objs 64 Book 6 zN i.s.books none∧yE o.wh=yE i.s.wh∧AObj.fro 1 (iE o.p.months)=AObj.fro 1 (iE i.s.p.months)∧AObj.fro 1 (iE o.p.settle)=AObj.fro 1 (iE i.s.p.settle)∧o.Rep i.p (xN i.B i.id i.q).fst) ((0≤n∧n<(↑i.s.books.length:Int))∧n.toNat<i.s.books.length∧∃(x:Book),i.s.books[n.toNat]?=some x∧∃(i_1:FlI),i_1.id=i.id∧i_1.qty=i.q∧yA i_1.b=yA x∧i_1.b.Rep i_1.L∧∀(o:Book),o.Rep (yZ i_1.L i_1.id i_1.qty).fst→∃(x:Book),yA o=yA x∧n.toNat=n.toNat∧n.toNat<i.s.books.length∧(0≤n∧n<(↑(i.s.books.set n.toNat x).length:Int))∧n.toNat<(i.s.books.set n.toNat x).length∧∃(x_1:Book),(i.s.books.set n.toNat x)[n.toNat]?=some x_1∧∃(i_2:FlI),i_2.id=i.id∧yA i_2.b=yA x_1∧i_2.b.Rep i_2.L∧∀(o:Unit),True→∃(x_2:Book),yA i_2.b=yA x_2∧n.toNat=n.toNat∧n.toNat<(i.s.books.set n.toNat x).length∧cnd (!qF i_2.L i_2.id) ((∀(p:Value×List D),p∈yE i.s.wh→like (Value.int IntKind.i64 i.id) p.fst=true)∧∃(o:MSt),(xN i.B i.id i.q).snd=(yZ i_1.L i_1.id i_1.qty).snd∧sb o.p.code=sb i.s.p.code∧o.p.tick=i.s.p.tick∧o.p.low=i.s.p.low∧o.p.high=i.s.p.high∧o.p.wide=i.s.p.wide∧o.p.rule=i.s.p.rule∧o.p.top=i.s.p.top∧o.p.least=i.s.p.least∧o.p.part=i.s.p.part∧AObj.objs 64 Book 6 zN o.books none=AObj.objs 64 Book 6 zN ((i.s.books.set n.toNat x).set n.toNat x_2) none∧yE o.wh=g9 (Value.int IntKind.i64 i.id) (yE i.s.wh)∧AObj.fro 1 (iE o.p.months)=AObj.fro 1 (iE i.s.p.months)∧AObj.fro 1 (iE o.p.settle)=AObj.fro 1 (iE i.s.p.settle)∧o.Rep i.p (xN i.B i.id i.q).fst) (∃(o:MSt),(xN i.B i.id i.q).snd=(yZ i_1.L i_1.id i_1.qty).snd∧sb o.p.code=sb i.s.p.code∧o.p.tick=i.s.p.tick∧o.p.low=i.s.p.low∧o.p.high=i.s.p.high∧o.p.wide=i.s.p.wide∧o.p.rule=i.s.p.rule∧o.p.top=i.s.p.top∧o.p.least=i.s.p.least∧o.p.part=i.s.p.part∧AObj.objs 64 Book 6 zN o.books none=AObj.objs 64 Book 6 zN ((i.s.books.set n.toNat x).set n.toNat x_2) none∧yE o.wh=yE i.s.wh∧AObj.fro 1 (iE o.p.months)=AObj.fro 1 (iE i.s.p.months)∧AObj.fro 1 (iE o.p.settle)=AObj.fro 1 (iE i.s.p.settle)∧o.Rep i.p (xN i.B i.id i.q).fst))
theorem zZw (hG:GOk Tryz.prog ([(73,fillC),(71,bfindC)])) (h:∀(i:StI),stakeC.cnd i→zJo i):stakeC.ok Tryz.prog 39:=okw mixed hG 0 (fun _=>[]) (fun _=>[]) [0] Tryz.func39 h
end Sx
