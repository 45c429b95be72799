/- Texts of ours, one behind the other: a walk that the kernel reckons, and contracts of functions. No condition. -/
import Derived.Test.YtogkpgfggfbhaaaGreatX8
namespace Sx
set_option linter.unusedVariables false
set_option maxRecDepth 100000
open Go Cv Go.Proofs
def zLf (a:zJu→Nat) (b:zJu) (c:zJu) (d:RunI):Prop:=a b<a c∧AObj.fro 1 (iE d.s.p.months)=AObj.fro 1 (iE d.s.p.months)∧AObj.fro 1 (iE d.s.p.settle)=AObj.fro 1 (iE d.s.p.settle)
def zCm (a:TrI):Prop:=a.s.Rep a.p a.B∧BOk a.p a.B∧0≤a.inst∧a.inst<(↑a.B.length:Int)∧(-9223372036854775808)≤a.q∧a.q≤9223372036854775807
def zJk (a:RunI) (b:zJu) (c:NxI):Prop:=∃(d:MSt),a.r.left=b.q∧zE d=zE c.s∧List.map jZ a.r.steps=List.map jZ b.steps∧d.Rep a.p a.r.B
def rX (a:TrI):=(List.map yT (gJ a))
def z1d (a:RunI):Prop:=∃(b:zJu),b.q=a.q∧sb b.s.p.code=sb a.s.p.code∧b.s.p.tick=a.s.p.tick∧b.s.p.low=a.s.p.low∧b.s.p.high=a.s.p.high∧b.s.p.wide=a.s.p.wide∧b.s.p.rule=a.s.p.rule∧b.s.p.top=a.s.p.top∧b.s.p.least=a.s.p.least∧b.s.p.part=a.s.p.part∧AObj.objs 184 Book 6 zS b.s.books none=AObj.objs 184 Book 6 zS a.s.books none∧yU b.s.wh=yU a.s.wh∧AObj.fro 1 (iE b.s.p.months)=AObj.fro 1 (iE a.s.p.months)∧AObj.fro 1 (iE b.s.p.settle)=AObj.fro 1 (iE a.s.p.settle)∧List.map jZ b.steps=[]∧∃(c:zJu→Prop),∃(d:zJu→Nat),c b∧∀(e:zJu),c e→cnd (decide (e.q>0)) (∃(f:Bool),zB f=zB a.sd∧True∧∀(g:Unit),True→∃(h:NxI),h.inst=a.inst∧zB h.sd=zB !f∧zE h.s=zE e.s∧(h.s.Rep h.p h.B∧BOk h.p h.B∧0≤h.inst∧h.inst<(↑h.B.length:Int))∧∀(j:Unit),True→cnd (!(zY h).snd.snd) (zJk a e h) (∃(k:GoI),zB k.s=zB a.sd∧k.p=a.price∧k.x=(zY h).fst.price∧True∧∀(l:Unit),True→cnd (!cA k.s k.p k.x) (zJk a e h) (cnd (zY h).snd.fst (∃(m:TrI),m.inst=(zY h).fst.a.inst∧zB m.sd=(zY h).fst.a.side∧m.q=min e.q (zY h).fst.qty∧zE m.s=zE h.s∧(zCm m)∧∀(n:MSt),n.Rep m.p (dE m)→True∧(rX m).length*(48:Nat)≤(70368744177664:Nat)∧∃(p:TrI),p.inst=(zY h).fst.b.inst∧zB p.sd=(zY h).fst.b.side∧p.q=min e.q (zY h).fst.qty∧zE p.s=zE n∧(zCm p)∧∀(q:MSt),q.Rep p.p (dE p)→True∧((rX m).length+(rX p).length)*(48:Nat)≤(70368744177664:Nat)∧((List.map jZ e.steps).length+1)*(48:Nat)≤(70368744177664:Nat)∧∃(r:zJu),r.q=IntKind.i64.wrap (e.q-min e.q (zY h).fst.qty)∧zE r.s=zE q∧List.map jZ r.steps=List.map jZ e.steps++[[dI ((zY h).fst.price),dI (min e.q (zY h).fst.qty),D.v (.bool (zY h).snd.fst),D.ro 6 (List.map yT (gJ m)++List.map yT (gJ p))]]∧c r∧zLf d r e a) (∃(m:Bool),zB m=zB a.sd∧True∧∀(n:Unit),True→min e.q (zY h).fst.qty=min e.q (zY h).fst.qty∧∃(p:TrI),p.inst=a.inst∧zB p.sd=zB !m∧p.q=min e.q (zY h).fst.qty∧zE p.s=zE h.s∧(zCm p)∧∀(q:MSt),q.Rep p.p (dE p)→((List.map jZ e.steps).length+1)*(48:Nat)≤(70368744177664:Nat)∧∃(r:zJu),r.q=IntKind.i64.wrap (e.q-min e.q (zY h).fst.qty)∧zE r.s=zE q∧List.map jZ r.steps=List.map jZ e.steps++[[dI ((zY h).fst.price),dI (min e.q (zY h).fst.qty),D.v (.bool (zY h).snd.fst),D.ro 6 (rX p)]]∧c r∧zLf d r e a)))) (∃(f:MSt),a.r.left=e.q∧zE f=zE e.s∧List.map jZ a.r.steps=List.map jZ e.steps∧f.Rep a.p a.r.B)
def aM (a:RunI):Prop:=∃(b:MSt),a.r.left=a.q∧sb b.p.code=sb a.s.p.code∧b.p.tick=a.s.p.tick∧b.p.low=a.s.p.low∧b.p.high=a.s.p.high∧b.p.wide=a.s.p.wide∧b.p.rule=a.s.p.rule∧b.p.top=a.s.p.top∧b.p.least=a.s.p.least∧b.p.part=a.s.p.part∧AObj.objs 184 Book 6 zS b.books none=AObj.objs 184 Book 6 zS a.s.books none∧yU b.wh=yU a.s.wh∧AObj.fro 1 (iE b.p.months)=AObj.fro 1 (iE a.s.p.months)∧AObj.fro 1 (iE b.p.settle)=AObj.fro 1 (iE a.s.p.settle)∧List.map jZ a.r.steps=[]∧b.Rep a.p a.r.B
def yTb (i:RunI):Prop:=
 cnd (decide (i.inst≥0)) (cnd (decide (i.inst<(↑i.s.books.length:Int))) (cnd (zB i.sd==1) (cnd (decide (i.q≥1)) (cnd (!decide (i.q≤1000000)) (aM i) (z1d i)) (aM i)) (cnd (zB i.sd==2) (cnd (decide (i.q≥1)) (cnd (!decide (i.q≤1000000)) (aM i) (z1d i)) (aM i)) (aM i))) (aM i)) (aM i)
set_option linter.unusedSimpArgs false
open Go Cv Go.Proofs
structure QOk (T:List Top) (q:Quote):Prop where
 a:0≤q.a.inst∧q.a.inst<T.length
 b:0≤q.b.inst∧q.b.inst<T.length
 sa:q.a.side=1∨q.a.side=2
 sb:q.b.side=1∨q.b.side=2
 ne:q.a.inst≠q.b.inst
 ha:(T.getD q.a.inst.toNat top0).has q.a.side=true
 hb:(T.getD q.b.inst.toNat top0).has q.b.side=true
 qty:q.qty=min ((T.getD q.a.inst.toNat top0).qty q.a.side) ((T.getD q.b.inst.toNat top0).qty q.b.side)
theorem zLl {T:List Top} {a b:Leg} {less:Bool} {q:Quote} (h:q∈mkq T a b less) (h1:0≤a.inst∧a.inst<T.length) (h2:0≤b.inst∧b.inst<T.length) (h3:a.side=1∨a.side=2) (h4:b.side=1∨b.side=2) (hne:a.inst≠b.inst):QOk T q∧q.a=a∧q.b=b:=by
 cases less
 all_goals
  simp only[mkq,yXe,↓reduceIte]at h
  split at h
  ·rename_i hc
   simp only[yWz]at hc
   rw[yXz]at h
   subst h
   exact⟨⟨h1,h2,h3,h4,hne,hc.1.1,hc.1.2,rfl⟩,rfl,rfl⟩
  ·cases h
theorem yOv:∀n≤6,∀k<n+n*(n-1) / 2,n≤k→(kI n k n 0).1≠(kI n k n 0).2.1:=by decide
theorem zQp {p:Prd} (hc:p.check=0) {k:Nat} (hk:k<p.count) (hs:(p.legs k).2.2=true):(p.legs k).1≠(p.legs k).2.1:=by
 have m6:=(kP hc).m6
 have hk':=hk
 rw[Prd.count,yWm hc]at hk'
 by_cases h:k<p.months.length
 ·rw[Prd.legs,yWl (by omega),yWm (by omega)]at hs
  cases hs
 ·rw[Prd.legs,yWl (by omega),yWl (by omega)]
  exact yOv p.months.length m6 k hk' (by omega)
theorem z8h:∀n≤6,∀a<n,∀b<n,a<b→(yH n a:Int)+b-a-1≥n:=by decide
theorem eF {p:Prd} (hc:p.check=0) {a b:Nat} (hab:a<b) (hb:b<p.months.length):(p.months.length:Int)≤(p.spread a b).1:=by
 have m6:=(kP hc).m6
 have:=z8h p.months.length m6 a (by omega) b hb hab
 rw[Prd.spread,yWl (by omega)]
 simpa using this
theorem yJp {p:Prd} (hc:p.check=0) {T:List Top} (hT:T.length=p.count) {inst:Int} {s:Int} (hs:s=1∨s=2) {q:Quote} (h:q∈qW ⟨p,T,inst⟩ s):QOk T q∧0≤inst∧inst<p.count∧
 (((p.legs inst).2.2=true∧q.a=⟨(p.legs inst).1,s⟩∧q.b=⟨(p.legs inst).2.1,3-s⟩)∨(inst<p.months.length∧q.a.inst≠inst∧(p.months.length:Int)≤q.a.inst)):=by
 rw[qW]at h
 dsimp only at h
 split at h
 ·cases h
 ·rename_i hn
  have h0:0≤inst∧inst<p.count:=by omega
  obtain⟨k,rfl⟩:∃k:Nat,inst=k:=⟨inst.toNat,by omega⟩
  have hk:k<p.count:=by omega
  have hge:=sW hc
  split at h
  ·rename_i hl
   obtain⟨q',hq',rfl⟩:=yXl.1 h
   have hle:=wC hc hk
   rcases hle with⟨_,l1,l2,l3,l4⟩|⟨e,_⟩
   ·obtain⟨ok,e1,e2⟩:=zLl hq' (by dsimp only;omega) (by dsimp only;omega) (by dsimp only;omega) hs (fun e=>zQp hc hk hl e.symm)
    refine⟨⟨by dsimp only[dQ];omega,by dsimp only[dQ];omega,hs,by dsimp only[dQ];omega,zQp hc hk hl,?_,?_,?_⟩,h0.1,h0.2,.inl ⟨hl,rfl,rfl⟩⟩
    ·have:=ok.hb;rw[e2]at this;exact this
    ·have:=ok.ha;rw[e1]at this;exact this
    ·have:=ok.qty;rw[e1,e2]at this;dsimp only[dQ];rw[this];exact Int.min_comm _ _
   ·rw[e]at hl;cases hl
  ·rename_i hl
   have hm:k<p.months.length:=by
    rcases wC hc hk with⟨e,_⟩|⟨_,e⟩
    ·exact absurd e hl
    ·exact e
   rcases yXo.1 h with h|h
   ·obtain⟨j,hj,h⟩:=yYt.1 h
    have hj:=yZg.1 hj
    rw[yXc]at hj
    have s1:=gV hc (a:=k) (b:=k+1+j) (by omega) (by omega)
    have s2:=eF hc (a:=k) (b:=k+1+j) (by omega) (by omega)
    have ec:((k:Int)+1+j)=((k+1+j:Nat):Int):=by omega
    rw[ec]at h
    obtain⟨ok,e1,e2⟩:=zLl h (by dsimp only;omega) (by dsimp only;omega) hs hs (by dsimp only;omega)
    exact⟨ok,h0.1,h0.2,.inr ⟨by omega,by rw[e1];dsimp only;omega,by rw[e1];exact s2⟩⟩
   ·obtain⟨j,hj,h⟩:=yYt.1 h
    have hj:=yZg.1 hj
    rw[yXc]at hj
    have s1:=gV hc (a:=j) (b:=k) (by omega) (by omega)
    have s2:=eF hc (a:=j) (b:=k) (by omega) (by omega)
    obtain⟨ok,e1,e2⟩:=zLl h (by dsimp only;omega) (by dsimp only;omega) (by dsimp only;omega) hs (by dsimp only;omega)
    exact⟨ok,h0.1,h0.2,.inr ⟨by omega,by rw[e1];dsimp only;omega,by rw[e1];exact s2⟩⟩
theorem zNn {s:Int}:∀(r:List Quote) (q:Quote),r.foldl (fun b q=>if btr s q.price b.price then q else b) q∈q::r
 |[],q=>yWq
 |x::r,q=>by
  rw[y0n]
  have:=zNn (s:=s) r (if btr s x.price q.price then x else q)
  rcases yXd.1 this with e|h
  ·rw[e];split
   ·exact yWr _ yWq
   ·exact yWq
  ·exact yWr _ (yWr _ h)
theorem zPi {l:List Quote} {s:Int} (h:(y9 l s).2=true):(y9 l s).1∈l:=by
 cases l with
 |nil=>cases h
 |cons q r=>exact zNn r q
def yJi (B:List (List zD)):Prop:=∀(k:Nat) (L:List zD),B[k]?=some L→(∀o∈L,zIh o)∧(L.map (·.id)).Nodup∧L.length≤250
theorem MSt.Rep.ords {s:MSt} {p:Prd} {B:List (List zD)} (h:s.Rep p B):yJi B:=by
 intro k L hL
 obtain⟨b,hb⟩:=yA (l:=s.books) (i:=k) (by rw[h.bl];exact(yWn.1 hL).1)
 exact(h.bk k b L hb hL).ords
theorem yLv:∀{l:List zD} {v:Lv},(∀o∈l,zIh o)→v∈grp l→1≤v.qty∧v.qty≤1000000*l.length
 |[],v,_,h=>by cases h
 |o::l,v,ho,h=>by
  have h0:=(ho o yWq).q
  have ih:∀v∈grp l,1≤v.qty∧v.qty≤1000000*l.length:=fun v hv=>yLv (fun x hx=>ho x (yWr _ hx)) hv
  rw[grp]at h
  rw[yXa]
  split at h
  ·rw[yXz]at h
   subst h;dsimp only;omega
  ·rename_i w ws e
   rw[e]at ih
   have hw:=ih w yWq
   split at h
   ·rcases yXd.1 h with rfl|h
    ·dsimp only;omega
    ·have:=ih v (yWr _ h);omega
   ·rcases yXd.1 h with rfl|h
    ·dsimp only;omega
    ·have:=ih v h;omega
theorem zZl {L:List zD} {s:Int} (h:∀o∈L,zIh o) (hl:L.length≤250) (hb:(bestL L s).2=true):1≤(bestL L s).1.qty∧(bestL L s).1.qty≤250000000:=by
 rw[bestL]at hb ⊢
 cases hl2:vA L s with
 |nil=>rw[hl2]at hb;cases hb
 |cons v vs=>
  dsimp only
  have hm:v∈grp (L.filter fun o=>decide (o.side=s)):=by rw[← vA,hl2];exact yWq
  have:=yLv (fun o ho=>h o (yXt.1 ho).1) hm
  have:=yZy (fun o:zD=>decide (o.side=s)) L
  omega
theorem zAm {B:List (List zD)} {k:Nat} {L:List zD} (hL:B[k]? =some L):(B.map u7).getD k top0=u7 L:=zK (by rw[yYj,hL];rfl)
theorem uB (L:List zD) {s:Int} (hs:s=1∨s=2):(u7 L).has s=(bestL L s).2∧(u7 L).qty s=(bestL L s).1.qty∧(u7 L).price s=(bestL L s).1.price:=by
 obtain⟨e1,e2,e3,e4,e5,e6⟩:=zRk L
 rcases hs with rfl|rfl
 ·exact⟨e3,e2,e1⟩
 ·exact⟨e6,e5,e4⟩
theorem eM {p:Prd} {B:List (List zD)} (h:BOk p B) (ho:yJi B) {inst:Int} (hi:0≤inst∧inst<B.length) {s:Int} (hs:s=1∨s=2) (hn:(zW p B inst s).2.2=true):
 (1≤(zW p B inst s).1.qty∧(zW p B inst s).1.qty≤250000000)∧((zW p B inst s).2.1=true→(zW p B inst s).1∈qW ⟨p,B.map u7,inst⟩ s∧QOk (B.map u7) (zW p B inst s).1)∧
 ((zW p B inst s).2.1=false→(bestL (B.getD inst.toNat []) s).2=true∧(zW p B inst s).1.price=(bestL (B.getD inst.toNat []) s).1.price∧(zW p B inst s).1.qty=(bestL (B.getD inst.toNat []) s).1.qty):=by
 obtain⟨k,rfl⟩:∃k:Nat,inst=k:=⟨inst.toNat,by omega⟩
 obtain⟨L,hL⟩:=yA (l:=B) (i:=k) (by omega)
 have hLo:=ho k L hL
 rw[zW]at hn ⊢
 rw[yXc,zK hL]at hn ⊢
 split
 ·rename_i c
  simp only[yWz]at c
  exact⟨zZl hLo.1 hLo.2.2 c.1,⟨fun e=>(by cases e),fun _=>⟨c.1,rfl,rfl⟩⟩⟩
 ·rename_i c
  rw[yWl c]at hn
  dsimp only at hn ⊢
  have hm:=zPi hn
  have ha:(y9 (vD ⟨p,B.map u7,k⟩ s) s).1∈qW ⟨p,B.map u7,k⟩ s:=(yXt.1 hm).1
  obtain⟨ok,_⟩:=yJp h.pc (by rw[yWo];exact h.bl) hs ha
  refine⟨?_,fun _=>⟨ha,ok⟩,fun e=>by rw[hn]at e;cases e⟩
  generalize (y9 (vD ⟨p,B.map u7,k⟩ s) s).1=q at ok
  have a:=ok.a
  have b:=ok.b
  rw[yWo]at a b
  obtain⟨La,hLa⟩:=yA (l:=B) (i:=q.a.inst.toNat) (by omega)
  obtain⟨Lb,hLb⟩:=yA (l:=B) (i:=q.b.inst.toNat) (by omega)
  have e1:=ok.ha
  have e2:=ok.hb
  have e3:=ok.qty
  rw[zAm hLa]at e1 e3
  rw[zAm hLb]at e2 e3
  rw[(uB La ok.sa).1]at e1
  rw[(uB Lb ok.sb).1]at e2
  rw[(uB La ok.sa).2.1,(uB Lb ok.sb).2.1]at e3
  have:=zZl (ho _ _ hLa).1 (ho _ _ hLa).2.2 e1
  have:=zZl (ho _ _ hLb).1 (ho _ _ hLb).2.2 e2
  omega
theorem zLq {L:List zD} {id q:Int} {o:zD} (h:o∈(xS L id q).1):∃o'∈L,o.price=o'.price∧o.side=o'.side∧o.id=o'.id:=by
 rw[xS]at h
 split at h
 ·exact⟨o,h,rfl,rfl,rfl⟩
 split at h
 ·exact⟨o,h,rfl,rfl,rfl⟩
 obtain⟨o',ho',e⟩:=yZz.1 h
 refine⟨o',ho',?_⟩
 split at e
 ·split at e
  ·cases e
  ·cases e;exact⟨rfl,rfl,rfl⟩
 ·cases e;exact⟨rfl,rfl,rfl⟩
theorem BOk.take {p:Prd} {B:List (List zD)} (h:BOk p B) (id q:Int):BOk p (yX B id q).1:=by
 refine⟨h.pc,h.ps,by rw[mN];exact h.bl,fun k L hL o ho=> ?_⟩
 rw[yX]at hL
 split at hL
 ·exact h.pr k L hL o ho
 ·rename_i j hj
  dsimp only at hL
  rcases uH hL with⟨rfl,rfl⟩|⟨_,hL⟩
  ·obtain⟨o',ho',e,_⟩:=zLq ho
   obtain⟨L',hL',_⟩:=xO hj
   rw[zK hL']at ho'
   rw[e];exact h.pr k L' hL' o' ho'
  ·exact h.pr k L hL o ho
theorem BOk.takes {p:Prd}:∀{fs:List vL} {B:List (List zD)},BOk p B→BOk p (y6 B fs)
 |[],B,h=>h
 |f::fs,B,h=>BOk.takes (fs:=fs) (h.take f.id f.qty)
theorem zUp (inst s:Int):∀(os:List zD) (sh:List Int),(yI inst s os sh).length≤os.length
 |[],sh=>yXn 0
 |o::os,[]=>yYe _
 |o::os,k::sh=>by
  have:=zUp inst s os sh
  rw[yI]
  split
  ·simp only[yXa];omega
  ·simp only[yXa];omega
theorem mH {p:Prd} {B:List (List zD)} (ho:yJi B) (inst s q:Int):(y4 p B inst s q).length≤250:=by
 refine yYw (zUp _ _ _ _) (yYw (yZy _ _) ?_)
 by_cases h:inst.toNat<B.length
 ·obtain⟨L,hL⟩:=yA h
  rw[zK hL];exact(ho _ _ hL).2.2
 ·rw[yWt,yXm (by omega)];exact yYe _
theorem sB {p:Prd} {B:List (List zD)} {inst:Int} {sd:Bool} {price q:Int} {t:qZ} {B':List (List zD)} (hq:1≤q) (h:jW p B inst sd price q=some (t,B')):1≤t.qty∧t.qty≤q:=by
 rw[jW]at h
 dsimp only at h
 split at h
 ·rename_i c
  simp only[yWz,yXy]at c
  split at h
  ·cases h;dsimp only;omega
  ·cases h;dsimp only;omega
 ·cases h
theorem zTu {p:Prd} {inst:Int} {sd:Bool} {price:Int}:∀(m n:Nat) (B:List (List zD)) (q:Int),q.toNat≤m→q.toNat≤n→zHh p inst sd price m B q=zHh p inst sd price n B q
 |0,0,B,q,_,_=>rfl
 |0,n+1,B,q,h,_=>by rw[zHh,zHh,yWm (by omega)]
 |m+1,0,B,q,_,h=>by rw[zHh,zHh,yWm (by omega)]
 |m+1,n+1,B,q,h1,h2=>by
  rw[zHh,zHh]
  split
  ·rfl
  ·rename_i hq
   cases hs:jW p B inst sd price q with
   |none=>rfl
   |some x=>
    obtain⟨t,B'⟩:=x
    have:=sB (by omega) hs
    dsimp only
    rw[zTu m n B' (q-t.qty) (by omega) (by omega)]
theorem vV {p:Prd} {B:List (List zD)} {inst:Int} {sd:Bool} {price q:Int} (h:q≤0∨jW p B inst sd price q=none):qG p B inst sd price q=⟨[],q,B⟩:=by
 rw[qG]
 cases hn:q.toNat with
 |zero=>rfl
 |succ n=>
  rw[zHh]
  rcases h with h|h
  ·rw[yWm h]
  ·rw[yWl (by omega),h]
theorem a8 {p:Prd} {B:List (List zD)} {inst:Int} {sd:Bool} {price q:Int} {t:qZ} {B':List (List zD)} (hq:1≤q) (h:jW p B inst sd price q=some (t,B')):
 qG p B inst sd price q=⟨t::(qG p B' inst sd price (q-t.qty)).steps,(qG p B' inst sd price (q-t.qty)).left,(qG p B' inst sd price (q-t.qty)).B⟩:=by
 have ht:=sB hq h
 rw[qG]
 cases hn:q.toNat with
 |zero=>omega
 |succ n=>
  rw[zHh,yWl (by omega),h]
  dsimp only
  rw[zTu n (q-t.qty).toNat B' (q-t.qty) (by omega) (yXn _)]
  rfl
open Go Cv Go.Proofs
theorem gU {s:Int} (h:s=1∨s=2):zB (decide (s=2))=s:=by
 rcases h with rfl|rfl<;>rfl
theorem yVx (i:RunI) (h:runC.cnd i):yTb i:=by
 obtain⟨hR,hB,⟨h0,h1⟩,hq1,hq2⟩:i.s.Rep i.p i.B∧BOk i.p i.B∧(0≤i.inst∧i.inst<i.B.length)∧1≤i.q∧i.q≤1000000:=h
 have hbl:=hR.bl
 have hcl:=xV i.p
 have hbB:=hB.bl
 unfold yTb aM z1d dE rX gJ zJk zCm zLf zY dI
 refine(fun hT=>zJ (fun c=>zJ (fun c2=>Cv.cnd.mk (fun _=>zJ (fun _=>Cv.cnd.mk (fun e=>absurd hq2 (by simpa using e)) (fun _=>hT)) (fun e=>absurd hq1 e)) (fun e1=>Cv.cnd.mk (fun _=>zJ (fun _=>Cv.cnd.mk (fun e=>absurd hq2 (by simpa using e)) (fun _=>hT)) (fun e=>absurd hq1 e)) (fun e2=>by
  rcases cN i.sd with e|e
  ·rw[e]at e1;cases e1
  ·rw[e]at e2;cases e2))) (fun c2=>absurd (by omega) c2)) (fun c=>absurd h0 c)) ?_
 refine⟨⟨i.s,i.B,[],i.q⟩,rfl,rfl,rfl,rfl,rfl,rfl,rfl,rfl,rfl,rfl,rfl,rfl,rfl,rfl,rfl,fun j=>j.s.Rep i.p j.B∧BOk i.p j.B∧j.B.length=i.B.length∧(0≤j.q∧j.q≤i.q)∧(j.steps.length:Int)≤i.q-j.q∧i.r=⟨j.steps++(qG i.p j.B i.inst i.sd i.price j.q).steps,(qG i.p j.B i.inst i.sd i.price j.q).left,(qG i.p j.B i.inst i.sd i.price j.q).B⟩,fun j=>j.q.toNat,⟨hR,hB,rfl,⟨by dsimp only;omega,y2l _⟩,by dsimp only;simp,rfl⟩,?_⟩
 rintro⟨s,B,st,q⟩ ⟨r1,r2,r3,⟨r4,r4'⟩,r5,r6⟩
 dsimp only at r1 r2 r3 r4 r4' r5 r6 ⊢
 have hno (hn:q≤0∨jW i.p B i.inst i.sd i.price q=none):∃(o:MSt),i.r.left=q∧AObj.adt MSt (5:Nat) xR o=AObj.adt MSt (5:Nat) xR s∧List.map jZ i.r.steps=List.map jZ st∧o.Rep i.p i.r.B:=by
  rw[vV hn,yXk]at r6
  rw[r6];exact⟨s,rfl,rfl,rfl,r1⟩
 refine zJ (fun c=> ?_) (fun c=>hno (.inl (by omega)))
 have c:0<q:=c
 refine⟨i.sd,rfl,trivial,fun _ _=>⟨⟨s,i.p,B,i.inst,!i.sd⟩,rfl,rfl,rfl,⟨r1,r2,h0,by dsimp only;omega⟩,fun _ _=> ?_⟩⟩
 dsimp only
 have hni:=eM r2 r1.ords (inst:=i.inst) ⟨h0,by omega⟩ (cN (!i.sd))
 have hsb:jW i.p B i.inst i.sd i.price q=(if((zW i.p B i.inst (zB (!i.sd))).2.2 && (cA i.sd i.price (zW i.p B i.inst (zB (!i.sd))).1.price && decide (1≤(zW i.p B i.inst (zB (!i.sd))).1.qty)))=true then
  if(zW i.p B i.inst (zB (!i.sd))).2.1=true then
   some (⟨(zW i.p B i.inst (zB (!i.sd))).1.price,min q (zW i.p B i.inst (zB (!i.sd))).1.qty,true,y4 i.p B (zW i.p B i.inst (zB (!i.sd))).1.a.inst (zW i.p B i.inst (zB (!i.sd))).1.a.side (min q (zW i.p B i.inst (zB (!i.sd))).1.qty)++y4 i.p (y6 B (y4 i.p B (zW i.p B i.inst (zB (!i.sd))).1.a.inst (zW i.p B i.inst (zB (!i.sd))).1.a.side (min q (zW i.p B i.inst (zB (!i.sd))).1.qty))) (zW i.p B i.inst (zB (!i.sd))).1.b.inst (zW i.p B i.inst (zB (!i.sd))).1.b.side (min q (zW i.p B i.inst (zB (!i.sd))).1.qty)⟩,y6 (y6 B (y4 i.p B (zW i.p B i.inst (zB (!i.sd))).1.a.inst (zW i.p B i.inst (zB (!i.sd))).1.a.side (min q (zW i.p B i.inst (zB (!i.sd))).1.qty))) (y4 i.p (y6 B (y4 i.p B (zW i.p B i.inst (zB (!i.sd))).1.a.inst (zW i.p B i.inst (zB (!i.sd))).1.a.side (min q (zW i.p B i.inst (zB (!i.sd))).1.qty))) (zW i.p B i.inst (zB (!i.sd))).1.b.inst (zW i.p B i.inst (zB (!i.sd))).1.b.side (min q (zW i.p B i.inst (zB (!i.sd))).1.qty)))
  else some (⟨(zW i.p B i.inst (zB (!i.sd))).1.price,min q (zW i.p B i.inst (zB (!i.sd))).1.qty,false,y4 i.p B i.inst (zB (!i.sd)) (min q (zW i.p B i.inst (zB (!i.sd))).1.qty)⟩,y6 B (y4 i.p B i.inst (zB (!i.sd)) (min q (zW i.p B i.inst (zB (!i.sd))).1.qty)))else none):=rfl
 generalize zW i.p B i.inst (zB (!i.sd))=nb at hni hsb ⊢
 refine Cv.cnd.mk (fun n1=> ?_) (fun n1=>⟨⟨i.sd,i.price,nb.1.price⟩,rfl,rfl,rfl,trivial,fun _ _=>Cv.cnd.mk (fun n2=> ?_) (fun n2=> ?_)⟩)
 ·have n1:nb.2.2=false:=by simpa using n1
  rw[n1,yWl (by simp)]at hsb
  exact hno (.inr hsb)
 ·have n2:cA i.sd i.price nb.1.price=false:=by simpa using n2
  rw[n2,yWl (by simp)]at hsb
  exact hno (.inr hsb)
 have n1:nb.2.2=true:=by simpa using n1
 have n2:cA i.sd i.price nb.1.price=true:=by simpa using n2
 obtain⟨⟨b1,b2⟩,hi,hr⟩:=hni n1
 rw[n1,n2,yXf b1,yWm (by rfl)]at hsb
 have hk:yV (min q nb.1.qty):=by constructor<;>omega
 have hsl:(st.length+1)*48≤70368744177664:=by omega
 have beh:∀(t:qZ) (B':List (List zD)) (s':MSt),jW i.p B i.inst i.sd i.price q=some (t,B')→s'.Rep i.p B'→BOk i.p B'→B'.length=B.length→
  (s'.Rep i.p B'∧BOk i.p B'∧B'.length=i.B.length∧(0≤q-t.qty∧q-t.qty≤i.q)∧((st++[t]).length:Int)≤i.q-(q-t.qty)∧i.r=⟨(st++[t])++(qG i.p B' i.inst i.sd i.price (q-t.qty)).steps,(qG i.p B' i.inst i.sd i.price (q-t.qty)).left,(qG i.p B' i.inst i.sd i.price (q-t.qty)).B⟩)∧(q-t.qty).toNat<q.toNat:=by
  intro t B' s' h1 h2 h3 h4
  have ht:=sB (by omega) h1
  refine⟨⟨h2,h3,by omega,⟨by omega,by omega⟩,by rw[yWs,y0f];omega,?_⟩,by omega⟩
  rw[a8 (by omega) h1]at r6
  rw[r6,yWx];rfl
 refine Cv.cnd.mk (fun n3=> ?_) (fun n3=> ?_)
 ·obtain⟨_,ok⟩:=hi n3
  rw[n3,yWm rfl]at hsb
  have oka:=ok.a
  have okb:=ok.b
  rw[yWo]at oka okb
  have ea:=gU ok.sa
  have eb:=gU ok.sb
  refine⟨⟨s,i.p,B,nb.1.a.inst,decide (nb.1.a.side=2),min q nb.1.qty⟩,rfl,ea,rfl,rfl,⟨r1,r2,oka.1,oka.2,hk⟩,fun s1 hs1=> ?_⟩
  dsimp only at hs1 ⊢
  rw[ea]at hs1 ⊢
  have l1:=mH (p:=i.p) r1.ords nb.1.a.inst nb.1.a.side (min q nb.1.qty)
  have hB1:=r2.takes (fs:=y4 i.p B nb.1.a.inst nb.1.a.side (min q nb.1.qty))
  have l2:=mH (p:=i.p) hs1.ords nb.1.b.inst nb.1.b.side (min q nb.1.qty)
  refine⟨trivial,by rw[yWo];omega,⟨s1,i.p,y6 B (y4 i.p B nb.1.a.inst nb.1.a.side (min q nb.1.qty)),nb.1.b.inst,decide (nb.1.b.side=2),min q nb.1.qty⟩,rfl,eb,rfl,rfl,⟨hs1,hB1,okb.1,by dsimp only;rw[qI];exact okb.2,hk⟩,fun s2 hs2=> ?_⟩
  dsimp only at hs2 ⊢
  rw[eb]at hs2 ⊢
  obtain⟨g1,g2⟩:=beh _ _ s2 hsb hs2 hB1.takes (by rw[qI,qI])
  refine⟨trivial,by rw[yWo,yWo];omega,by rw[yWo];exact hsl,⟨s2,_,st++[_],_⟩,?_,rfl,?_,g1,g2,by(repeat'(first|exact trivial|exact rfl|apply And.intro))⟩
  ·dsimp only;rw[w64 (by omega)]
  ·dsimp only
   rw[yWw,n3]
   simp[jZ]
 ·rw[n3,yWl (by decide)]at hsb
  refine⟨i.sd,rfl,trivial,fun _ _=>⟨rfl,⟨s,i.p,B,i.inst,!i.sd,min q nb.1.qty⟩,rfl,rfl,rfl,rfl,⟨r1,r2,h0,by dsimp only;omega,hk⟩,fun s1 hs1=> ?_⟩⟩
  dsimp only at hs1 ⊢
  obtain⟨g1,g2⟩:=beh _ _ s1 hsb hs1 r2.takes (by rw[qI])
  refine⟨by rw[yWo];exact hsl,⟨s1,_,st++[_],_⟩,?_,rfl,?_,g1,g2,by(repeat'(first|exact trivial|exact rfl|apply And.intro))⟩
  ·dsimp only;rw[w64 (by omega)]
  ·dsimp only
   rw[yWw,n3]
   simp[jZ]
theorem z0q:runC.ok Tryz.prog 151:=okw mixed (gokc yKe (gokc zPe (gokc zVb (gokc z9m gok0)))) 2 (fun _=>[]) (fun _=>yUn) [0] Tryz.func151 yVx
open Go Cv Go.Proofs
open Go Cv Go.Proofs
open Go Cv Go.Proofs
theorem yAe {L:List zD} {s id p q:Int} {o:zD} (h:o∈zEp L s id p q):o.price=p∨∃o'∈L,o.price=o'.price:=by
 have key:∀X:List zD,(o∈X.takeWhile (before s p)++⟨id,s,p,q,uX L s p⟩::X.dropWhile (before s p))→o.price=p∨o∈X:=by
  intro X hX
  rcases yXo.1 hX with hX|hX
  ·exact .inr (List.takeWhile_sublist _|>.subset hX)
  ·rcases yXd.1 hX with rfl|hX
   ·exact .inl rfl
   ·exact .inr (List.dropWhile_sublist _|>.subset hX)
 rw[zEp]at h
 split at h
 ·rcases key _ h with h|h
  ·exact .inl h
  ·obtain⟨o',ho',_,_,e,_⟩:=z3i h
   exact .inr ⟨o',ho',e⟩
 ·rcases key _ h with h|h
  ·exact .inl h
  ·exact .inr ⟨o,h,rfl⟩
theorem BOk.add {p:Prd} {B:List (List zD)} (h:BOk p B) (inst id s price q:Int):BOk p (zCx p B inst id s price q).1:=by
 rw[zCx]
 split
 ·exact h
 split
 ·exact h
 split
 ·exact h
 split
 ·exact h
 rename_i c1 _ _ c4
 have c4:p.price inst price=0:=by simpa using c4
 refine⟨h.pc,h.ps,by simpa using h.bl,fun k L hL o ho=> ?_⟩
 dsimp only at hL
 rcases uH hL with⟨rfl,rfl⟩|⟨_,hL⟩
 ·obtain⟨L',hL'⟩:=yA (l:=B) (i:=inst.toNat) (by omega)
  rw[zK hL',rM]at ho
  have e:((inst.toNat:Nat):Int)=inst:=by omega
  repeat' split at ho
  ·exact h.pr _ L' hL' o ho
  ·exact h.pr _ L' hL' o ho
  ·exact h.pr _ L' hL' o ho
  ·rcases yAe ho with h1|⟨o',ho',h1⟩
   ·rw[h1,e];exact c4
   ·rw[h1];exact h.pr _ L' hL' o' ho'
 ·exact h.pr k L hL o ho
theorem BOk.new {p:Prd} (hc:p.check=0) (hp:p.small):BOk p (List.replicate p.count []):=by
 refine⟨hc,hp,by simp,fun k L hL o ho=> ?_⟩
 rw[yZr (yWv hL)]at ho
 cases ho
theorem MSt.Rep.fit {s:MSt} {p:Prd} {B:List (List zD)} (h:s.Rep p B) (hb:BOk p B):s.fit:=by
 have:=xV p
 refine⟨by rw[h.ep];exact hb.ps,by rw[h.bl,hb.bl];omega,fun b hm=> ?_⟩
 obtain⟨k,hk⟩:=yYi.1 hm
 have hlt:=(yWn.1 hk).1
 rw[h.bl]at hlt
 obtain⟨L,hL⟩:=yA hlt
 exact(h.bk k b L hk hL).fit
open Go Cv Go.Proofs
def zMv (r:Nat):Bool:=decide (32≤r) && decide (r≠127) && decide (r≠65533)
def fD (s:List UInt8):Bool:=(kL s).all zMv && decide (1≤(kL s).length) && decide ((kL s).length≤12)
def labC:Con:=con1 (List UInt8) (fun s=>[sV s]) (fun _=>[]) (fun s=>s.length≤140737488355328) (fun s=>yL (fD s)) (fun _=>[])
def yWe (s:List UInt8):List SAnn:=[{ι:=Nat×Nat,slots:=fun x=>[(3,zA x.2),(7,.nm 0 0)],rows:=fun x=>[.iter (sb s) x.1]}]
def vC (n:Int):Bool:=decide (-2000000≤n) && decide (n≤2000000)
def kC (n:Int):Bool:=decide (1≤n) && decide (n≤1000000)
def Cmd.orderE (c:Cmd):Int:=
 if c.side≠1∧c.side≠2 then 21 else if c.time<1∨3<c.time then 27 else if kC c.qty=false then 24 else if c.least<0∨c.qty<c.least then 28
 else if c.label≠[]∧fD c.label=false then 29 else if vC c.price=false then 23 else if c.inst<0∨255<c.inst then 20 else 0
def Cmd.right (c:Cmd):Int:=
 if c.kind<1∨4<c.kind then 31 else if c.id<1∨1099511627776<c.id then 1 else if c.kind=1 then c.orderE
 else if c.kind≠2∧kC c.qty=false then 24 else if c.kind=4∧vC c.price=false then 23 else 0
def cmdOrdC:Con:=con1 Cmd (fun c=>[zCy c]) (fun _=>[]) (fun c=>c.label.length≤140737488355328) (fun c=>zA c.orderE) (fun _=>[])
def cmdRtC:Con:=con1 Cmd (fun c=>[zCy c]) (fun _=>[]) (fun c=>c.label.length≤140737488355328) (fun c=>zA c.right) (fun _=>[])
open Go Cv Go.Proofs
def RB.text (r:RB):List UInt8×RB:=((r.byte.2.n r.byte.1.toNat).got,⟨(r.byte.2.n r.byte.1.toNat).left,(r.byte.2.n r.byte.1.toNat).bad⟩)
def sU (s:List UInt8):List UInt8:=lob (s.take 255).length::s.take 255
def Cmd.tail (c:Cmd):List UInt8:=
 if c.kind=1 then lob c.inst::lob c.side::lob c.time::(le c.price 8++(le c.qty 8++(le c.least 8++sU c.label)))
 else if c.kind=3 then le c.qty 8 else if c.kind=4 then le c.price 8++le c.qty 8 else[]
def Cmd.enc (c:Cmd):List UInt8:=if c.right≠0 then[]else lob c.kind::(le c.id 8++c.tail)
def x0 (k id:Int) (r:RB):Cmd×RB:=
 if k=1 then
  let a:=r.byte;let b:=a.2.byte;let t:=b.2.byte;let x:=t.2.long;let y:=x.2.long;let z:=y.2.long;let w:=z.2.text
  (⟨k,id,a.1,b.1,x.1,y.1,z.1,t.1,w.1⟩,w.2)
 else if k=3 then(⟨k,id,0,0,0,r.long.1,0,0,[]⟩,r.long.2)
 else if k=4 then(⟨k,id,0,0,r.long.1,r.long.2.long.1,0,0,[]⟩,r.long.2.long.2)
 else(⟨k,id,0,0,0,0,0,0,[]⟩,r)
def xL (b:List UInt8):Cmd×Int:=
 let k:=(RB.mk b false).byte
 if k.1<1∨4<k.1 then(zNa,31)else
 let x:=x0 k.1 k.2.long.1 k.2.long.2
 if x.2.endOf≠0 then(zNa,12)else if x.1.right≠0 then(zNa,x.1.right)else(x.1,0)
def Cmd.asks (c:Cmd):Cmd:=if c.kind=1 then c else if c.kind=2 then⟨2,c.id,0,0,0,0,0,0,[]⟩else if c.kind=3 then⟨3,c.id,0,0,0,c.qty,0,0,[]⟩else if c.kind=4 then⟨4,c.id,0,0,c.price,c.qty,0,0,[]⟩else zNa
theorem yPk (n:Int):((lob n).toNat:Int)=n % 256:=(zSk n).symm
theorem mJ (x:UInt8) (l:List UInt8):RB.byte ⟨x::l,false⟩=((x.toNat:Int),⟨l,false⟩):=by
 simp[RB.byte,RB.n,RN.got,RN.left,RN.bad,qV]
theorem z4x (a l:List UInt8):(RN.mk (a++l) false a.length).got=a∧(RN.mk (a++l) false a.length).left=l∧(RN.mk (a++l) false a.length).bad=false:=by
 have h:(RN.mk (a++l) false a.length).bad=false:=by simp[RN.bad]
 simp[RN.got,RN.left,h]
theorem yDx (n:Int):qV (le n 8)=n % 18446744073709551616:=by
 simp only[le,qV,yPk];omega
theorem tR {n:Int} (h:yV n) (l:List UInt8):RB.long ⟨le n 8++l,false⟩=(n,⟨l,false⟩):=by
 have e:(RB.mk (le n 8++l) false).n 8=RN.mk (le n 8++l) false (le n 8).length:=by rw[vZ];rfl
 obtain⟨h1,h2,h3⟩:=z4x (le n 8) l
 rw[RB.long,e,h1,h2,h3,yDx]
 obtain⟨ha,hb⟩:=h
 have:IntKind.i64.wrap (n % 18446744073709551616)=n:=by
  have e:=Cv.wrap_i64 ha hb
  by_cases hn:0≤n
  ·rw[show n % 18446744073709551616=n by omega];exact e
  ·have:n % 18446744073709551616=n+18446744073709551616:=by omega
   rw[this]
   rw[IntKind.wrap]at e ⊢
   simp only[IntKind.wrap,IntKind.bits,IntKind.signed]at e ⊢
   simp at e ⊢
   omega
 rw[this]
theorem yBd {s:List UInt8} (h:s.length≤255) (l:List UInt8):RB.text ⟨sU s++l,false⟩=(s,⟨l,false⟩):=by
 have ht:s.take 255=s:=yXg h
 have e:((lob (s.length:Int)).toNat:Int)=s.length:=by rw[yPk];omega
 rw[sU,ht,yXx,RB.text,mJ]
 dsimp only
 rw[e]
 have e:(RB.mk (s++l) false).n ((s.length:Int)).toNat=RN.mk (s++l) false s.length:=rfl
 obtain⟨h1,h2,h3⟩:=z4x s l
 rw[e,h1,h2,h3]
theorem z2m {n:Int} (h:0≤n∧n≤255):((lob n).toNat:Int)=n:=by rw[yPk];omega
theorem z2t (s:List UInt8):∀(k p:Nat),s.length-p≤k→s.length-p≤4*(uV s p).length
 |0,p,h=>by rw[vO (by omega)];simp;omega
 |k+1,p,h=>by
  by_cases hp:p<s.length
  ·have hw:=cC s hp
   have h4:(Utf8.decode (sb s) p).2≤4:=by
    unfold Utf8.decode
    simp only[zHy,yWz,yXy]
    repeat' split
    all_goals simp
   rw[jD hp,yXa]
   have:=z2t s k (p+(Utf8.decode (sb s) p).2) (by omega)
   omega
  ·rw[vO (by omega)];simp;omega
theorem z5i {s:List UInt8} (h:s=[]∨fD s=true):s.length≤48:=by
 obtain rfl|h:=h
 ·simp
 ·simp only[fD,yWz,yXy]at h
  have:=z2t s s.length 0 (by omega)
  rw[kL,yWo]at h
  omega
theorem fK {c:Cmd} (h:c.right=0):(1≤c.kind∧c.kind≤4)∧(1≤c.id∧c.id≤1099511627776)∧
 (c.kind≠2→1≤c.qty∧c.qty≤1000000)∧(c.kind=1∨c.kind=4→-2000000≤c.price∧c.price≤2000000)∧
 (c.kind=1→(c.side=1∨c.side=2)∧(1≤c.time∧c.time≤3)∧(0≤c.least∧c.least≤c.qty)∧(0≤c.inst∧c.inst≤255)∧c.label.length≤48):=by
 rw[Cmd.right]at h
 split at h;·cases h
 split at h;·cases h
 rename_i h1 h2
 refine⟨by omega,by omega,?_⟩
 split at h
 ·rename_i hk
  rw[Cmd.orderE]at h
  iterate 7 (split at h;·cases h)
  rename_i a1 a2 a3 a4 a5 a6 a7
  simp only[kC,Bool.not_eq_false,yWz,yXy]at a3
  simp only[vC,Bool.not_eq_false,yWz,yXy]at a6
  refine⟨fun _=>a3,fun _=>a6,fun _=>⟨by omega,by omega,by omega,by omega,z5i ?_⟩⟩
  by_cases hl:c.label=[]
  ·exact .inl hl
  ·exact .inr (by simpa[hl]using a5)
 ·rename_i hk
  split at h;·cases h
  split at h;·cases h
  rename_i a1 a2
  refine⟨fun h2=> ?_,fun h2=> ?_,fun h2=>absurd h2 hk⟩
  ·simpa[h2,kC]using a1
  ·simpa[show c.kind=4 by omega,vC]using a2
theorem yCj {n:Int} (h:yV n):RB.long ⟨le n 8,false⟩=(n,⟨[],false⟩):=by
 have:=tR h []
 rwa [yXk]at this
theorem yDt {s:List UInt8} (h:s.length≤255):RB.text ⟨sU s,false⟩=(s,⟨[],false⟩):=by
 have:=yBd h []
 rwa [yXk]at this
theorem yHp {c:Cmd} (h:c.right=0):x0 c.kind c.id ⟨c.tail,false⟩=(c.asks,⟨[],false⟩):=by
 obtain⟨hk,hi,hq,hp,ho⟩:=fK h
 rw[x0,Cmd.tail,Cmd.asks]
 by_cases h1:c.kind=1
 ·obtain⟨hs,ht,hl,hn,hb⟩:=ho h1
  have hq:=hq (by omega)
  have hp:=hp (.inl h1)
  simp only[yWm h1]
  rw[mJ];dsimp only
  rw[mJ];dsimp only
  rw[mJ];dsimp only
  rw[tR ⟨by omega,by omega⟩];dsimp only
  rw[tR ⟨by omega,by omega⟩];dsimp only
  rw[tR ⟨by omega,by omega⟩];dsimp only
  rw[yDt (by omega),z2m (by omega),z2m (by omega),z2m (by omega)]
 ·by_cases h3:c.kind=3
  ·have hq:=hq (by omega)
   simp only[h3,yWm,yWl,show ¬((3:Int)=1)by decide,show ¬((3:Int)=2)by decide,if_false,if_true]
   rw[yCj ⟨by omega,by omega⟩]
  ·by_cases h4:c.kind=4
   ·have hq:=hq (by omega)
    have hp:=hp (.inr h4)
    simp only[h4,show ¬((4:Int)=1)by decide,show ¬((4:Int)=2)by decide,show ¬((4:Int)=3)by decide,if_false,if_true]
    rw[tR ⟨by omega,by omega⟩];dsimp only
    rw[yCj ⟨by omega,by omega⟩]
   ·have h2:c.kind=2:=by omega
    simp only[h2,show ¬((2:Int)=1)by decide,show ¬((2:Int)=4)by decide,show ¬((2:Int)=3)by decide,if_false,if_true]
theorem zXu {c:Cmd} (h:c.right=0):c.asks.right=0:=by
 obtain⟨hk,hi,hq,hp,ho⟩:=fK h
 rw[Cmd.asks]
 split
 ·exact h
 split
 ·rw[Cmd.right];simp only[];repeat (first|rw[yWl (by omega)]|rw[yWl (by decide)]|rw[yWl (by simp)])
 split
 ·have:=hq (by omega)
  rw[Cmd.right];simp only[]
  rw[yWl (by decide),yWl (by omega),yWl (by decide),yWl (by simp[kC];omega),yWl (by simp)]
 split
 ·have:=hq (by omega)
  have:=hp (.inr (by omega))
  rw[Cmd.right];simp only[]
  rw[yWl (by decide),yWl (by omega),yWl (by decide),yWl (by simp[kC];omega),yWl (by simp[vC];omega)]
 ·omega
theorem z5q {c:Cmd} (h:c.right=0):c.asks.kind=c.kind∧c.asks.id=c.id:=by
 obtain⟨hk,_⟩:=fK h
 rw[Cmd.asks]
 repeat' split
 all_goals first|exact⟨rfl,rfl⟩|exact⟨by simp only[];omega,rfl⟩|omega
theorem yKf {c:Cmd} (h:c.right=0):xL c.enc=(c.asks,0):=by
 obtain⟨hk,hi,_⟩:=fK h
 have e:c.enc=lob c.kind::(le c.id 8++c.tail):=by rw[Cmd.enc,yWl (by simp[h])]
 rw[xL,e,mJ]
 dsimp only
 rw[z2m (by omega),yWl (by omega),tR ⟨by omega,by omega⟩]
 dsimp only
 rw[yHp h]
 dsimp only
 rw[yWl (by simp[RB.endOf]),yWl (by rw[zXu h];simp)]
open Go Cv Go.Proofs
def yTo (s:List UInt8):Prop:=
 ∃(a:Nat×Nat),(↑a.snd:Int)=0∧sb s=sb s∧a.fst=0∧∃(b:Nat×Nat→Prop),∃(c:Nat×Nat→Nat),b a∧∀(d:Nat×Nat),b d→cnd (d.fst.blt (sb s).size) (cnd (decide ((qA s d)<32)) (∃(e:Unit),fD s=false∧True) (cnd ((qA s d)==127) (∃(e:Unit),fD s=false∧True) (cnd ((qA s d)==65533) (∃(e:Unit),fD s=false∧True) (dH d s b c)))) (cnd (decide ((↑d.snd:Int)≥1)) (∃(e:Unit),fD s=decide ((↑d.snd:Int)≤12)∧True) (∃(e:Unit),fD s=false∧True))
def zDq (a:Cmd):Prop:=∃(b:List UInt8),sb b=sb a.label∧b.length≤140737488355328∧∀(c:Unit),True→cnd (!fD b) (∃(d:Unit),a.orderE=29∧True) (cnd (decide (a.price≥(-2000000))) (cnd (!decide (a.price≤2000000)) (∃(d:Unit),a.orderE=23∧True) (cnd (decide (a.inst<0)) (∃(d:Unit),a.orderE=20∧True) (cnd (decide (a.inst>255)) (∃(d:Unit),a.orderE=20∧True) (∃(d:Unit),a.orderE=0∧True)))) (∃(d:Unit),a.orderE=23∧True))
def mE (a:Cmd):=(!(sb a.label).toList==(ByteArray.mk #[]).toList)
def yKv (c:Cmd):Prop:=
 cnd (c.side !=1) (cnd (c.side !=2) (∃(a:Unit),c.orderE=21∧True) (cnd (decide (c.time<1)) (∃(a:Unit),c.orderE=27∧True) (cnd (decide (c.time>3)) (∃(a:Unit),c.orderE=27∧True) (cnd (decide (c.qty≥1)) (cnd (!decide (c.qty≤1000000)) (∃(a:Unit),c.orderE=24∧True) (cnd (decide (c.least<0)) (∃(a:Unit),c.orderE=28∧True) (cnd (decide (c.least>c.qty)) (∃(a:Unit),c.orderE=28∧True) (cnd (mE c) (zDq c) (cnd (decide (c.price≥(-2000000))) (cnd (!decide (c.price≤2000000)) (∃(a:Unit),c.orderE=23∧True) (cnd (decide (c.inst<0)) (∃(a:Unit),c.orderE=20∧True) (cnd (decide (c.inst>255)) (∃(a:Unit),c.orderE=20∧True) (∃(a:Unit),c.orderE=0∧True)))) (∃(a:Unit),c.orderE=23∧True)))))) (∃(a:Unit),c.orderE=24∧True))))) (cnd (decide (c.time<1)) (∃(a:Unit),c.orderE=27∧True) (cnd (decide (c.time>3)) (∃(a:Unit),c.orderE=27∧True) (cnd (decide (c.qty≥1)) (cnd (!decide (c.qty≤1000000)) (∃(a:Unit),c.orderE=24∧True) (cnd (decide (c.least<0)) (∃(a:Unit),c.orderE=28∧True) (cnd (decide (c.least>c.qty)) (∃(a:Unit),c.orderE=28∧True) (cnd (mE c) (zDq c) (cnd (decide (c.price≥(-2000000))) (cnd (!decide (c.price≤2000000)) (∃(a:Unit),c.orderE=23∧True) (cnd (decide (c.inst<0)) (∃(a:Unit),c.orderE=20∧True) (cnd (decide (c.inst>255)) (∃(a:Unit),c.orderE=20∧True) (∃(a:Unit),c.orderE=0∧True)))) (∃(a:Unit),c.orderE=23∧True)))))) (∃(a:Unit),c.orderE=24∧True))))
def z9r (c:Cmd):Prop:=
 cnd (decide (c.kind<1)) (∃(a:Unit),c.right=31∧True) (cnd (decide (c.kind>4)) (∃(a:Unit),c.right=31∧True) (cnd (decide (c.id<1)) (∃(a:Unit),c.right=1∧True) (cnd (decide (c.id>1099511627776)) (∃(a:Unit),c.right=1∧True) (cnd (c.kind==1) (∃(a:Cmd),a.kind=c.kind∧a.id=c.id∧a.inst=c.inst∧a.side=c.side∧a.price=c.price∧a.qty=c.qty∧a.least=c.least∧a.time=c.time∧sb a.label=sb c.label∧a.label.length≤140737488355328∧∀(b:Unit),True→∃(d:Unit),c.right=a.orderE∧True) (cnd (c.kind !=2) (cnd (decide (c.qty≥1)) (cnd (!decide (c.qty≤1000000)) (∃(a:Unit),c.right=24∧True) (cnd (c.kind==4) (cnd (decide (c.price≥(-2000000))) (cnd (!decide (c.price≤2000000)) (∃(a:Unit),c.right=23∧True) (∃(a:Unit),c.right=0∧True)) (∃(a:Unit),c.right=23∧True)) (∃(a:Unit),c.right=0∧True))) (∃(a:Unit),c.right=24∧True)) (cnd (c.kind==4) (cnd (decide (c.price≥(-2000000))) (cnd (!decide (c.price≤2000000)) (∃(a:Unit),c.right=23∧True) (∃(a:Unit),c.right=0∧True)) (∃(a:Unit),c.right=23∧True)) (∃(a:Unit),c.right=0∧True)))))))
open Go Cv Go.Proofs
theorem yVm (s:List UInt8) (h:labC.cnd s):yTo s:=by
 have h:s.length≤140737488355328:=h
 have hr:=zEc s
 unfold yTo qA dH
 refine⟨(0,0),rfl,rfl,rfl,fun x=>x.1≤s.length∧x.2+(uV s x.1).length=(kL s).length∧(kL s).all zMv=(uV s x.1).all fun x=>zMv x.2,fun x=>s.length-x.1,⟨by omega,by rw[kL,yWo];simp,by rw[kL,List.all_map];rfl⟩,?_⟩
 rintro⟨p,n⟩ ⟨h1,h2,h3⟩
 dsimp only at h1 h2 h3 ⊢
 refine Cv.cnd.mk (fun hp=> ?_) (fun hp=> ?_)
 ·have hp:p<s.length:=by simpa[yZl]using hp
  have hw:=cC s hp
  rw[jD hp,yXa]at h2
  rw[jD hp,List.all_cons]at h3
  generalize hc:(Utf8.decode (sb s) p).1=c at h2 h3 ⊢
  generalize hww:(Utf8.decode (sb s) p).2=w at h2 h3 hw ⊢
  dsimp only at h3
  have bad:zMv c=false→∃(o:Unit),fD s=false∧True:=fun e=>⟨(),by rw[fD,h3,e];rfl,trivial⟩
  refine zJ (fun c1=>bad ?_) (fun c1=>Cv.cnd.mk (fun c2=>bad ?_) (fun c2=>Cv.cnd.mk (fun c3=>bad ?_) (fun c3=> ?_)))
  ·simp[zMv];omega
  ·have c2:(c:Int)=127:=by simpa using c2
   simp[zMv];omega
  ·have c3:(c:Int)=65533:=by simpa using c3
   simp[zMv];omega
  ·have c2:¬(c:Int)=127:=by simpa using c2
   have c3:¬(c:Int)=65533:=by simpa using c3
   have e:zMv c=true:=by simp[zMv];omega
   refine⟨(p+w,n+1),?_,rfl,rfl,⟨hw.2,by(first|omega|(dsimp only;omega)),by rw[h3,e];rfl⟩,by(first|omega|(dsimp only;omega)),trivial⟩
   rw[w64 (by omega)];rfl
 ·have hp:s.length≤p:=by have:=z1i hp;simpa using this
  rw[vO hp]at h2 h3
  have h2:n=(kL s).length:=h2
  have h3:(kL s).all zMv=true:=h3
  refine zJ (fun c=>⟨(),?_,trivial⟩) (fun c=>⟨(),?_,trivial⟩)
  ·rw[fD,h3,← h2,yXf (show 1≤n by omega)]
   simp only[yZd]
   congr 1
   simp only[eq_iff_iff];omega
  ·rw[fD,← h2,yWy (show ¬1≤n by omega)];simp
theorem yPh:labC.ok Tryz.prog 149:=okw mixed gok0 0 (fun _=>[]) (fun s=>yWe s) [] Tryz.func149 yVm
theorem yVv (a b:Int):(a==b)=decide (a=b):=by
 by_cases h:a=b
 ·subst h;simp
 ·simp[h]
theorem yTi (a b:Int):(a !=b)=decide (a≠b):=by
 by_cases h:a=b
 ·subst h;simp
 ·simp[h]
theorem eqB (a b:List UInt8):((sb a).toList==(sb b).toList)=decide (a=b):=by
 rw[mQ,mQ]
 by_cases h:a=b
 ·subst h;simp
 ·simp[h]
theorem yMr:ByteArray.mk #[]=sb []:=rfl
theorem ySj (c:Cmd) (h:cmdOrdC.cnd c):yKv c:=by
 have h:c.label.length≤140737488355328:=h
 unfold yKv mE zDq
 simp only[yMr,eqB,yTi]
 have tail:¬(c.side≠1∧c.side≠2)→cnd (decide (c.time<1)) (∃(o:Unit),c.orderE=27∧True) (cnd (decide (c.time>3)) (∃(o:Unit),c.orderE=27∧True) (cnd (decide (c.qty≥1)) (cnd (!decide (c.qty≤1000000)) (∃(o:Unit),c.orderE=24∧True) (cnd (decide (c.least<0)) (∃(o:Unit),c.orderE=28∧True) (cnd (decide (c.least>c.qty)) (∃(o:Unit),c.orderE=28∧True) (cnd (!decide (c.label=[])) (∃(i:List UInt8),sb i=sb c.label∧i.length≤140737488355328∧∀(o:Unit),True→cnd (!fD i) (∃(o:Unit),c.orderE=29∧True) (cnd (decide (c.price≥-2000000)) (cnd (!decide (c.price≤2000000)) (∃(o:Unit),c.orderE=23∧True) (cnd (decide (c.inst<0)) (∃(o:Unit),c.orderE=20∧True) (cnd (decide (c.inst>255)) (∃(o:Unit),c.orderE=20∧True) (∃(o:Unit),c.orderE=0∧True)))) (∃(o:Unit),c.orderE=23∧True))) (cnd (decide (c.price≥-2000000)) (cnd (!decide (c.price≤2000000)) (∃(o:Unit),c.orderE=23∧True) (cnd (decide (c.inst<0)) (∃(o:Unit),c.orderE=20∧True) (cnd (decide (c.inst>255)) (∃(o:Unit),c.orderE=20∧True) (∃(o:Unit),c.orderE=0∧True)))) (∃(o:Unit),c.orderE=23∧True)))))) (∃(o:Unit),c.orderE=24∧True))):=by
  intro hs
  have e1:c.orderE=if c.time<1∨3<c.time then 27 else if kC c.qty=false then 24 else if c.least<0∨c.qty<c.least then 28
   else if c.label≠[]∧fD c.label=false then 29 else if vC c.price=false then 23 else if c.inst<0∨255<c.inst then 20 else 0:=by rw[Cmd.orderE,yWl hs]
  refine zJ (fun d1=>⟨(),by rw[e1,yWm (.inl d1)],trivial⟩) fun d1=>zJ (fun d2=>⟨(),by rw[e1,yWm (.inr d2)],trivial⟩) fun d2=> ?_
  rw[yWl (by omega)]at e1
  have q (hq:kC c.qty=false):∃(o:Unit),c.orderE=24∧True:=⟨(),by rw[e1,yWm hq],trivial⟩
  refine zJ (fun d3=>Cv.cnd.mk (fun d4=>q ?_) fun d4=> ?_) fun d3=>q ?_
  ·have d4:¬c.qty≤1000000:=by simpa using d4
   simp[kC,d4]
  ·have d4:c.qty≤1000000:=by simpa using d4
   have hq:¬kC c.qty=false:=by simp[kC,d4];omega
   rw[yWl hq]at e1
   refine zJ (fun d5=>⟨(),by rw[e1,yWm (.inl d5)],trivial⟩) fun d5=>zJ (fun d6=>⟨(),by rw[e1,yWm (.inr d6)],trivial⟩) fun d6=> ?_
   rw[yWl (by omega)]at e1
   have last:¬(c.label≠[]∧fD c.label=false)→cnd (decide (c.price≥-2000000)) (cnd (!decide (c.price≤2000000)) (∃(o:Unit),c.orderE=23∧True) (cnd (decide (c.inst<0)) (∃(o:Unit),c.orderE=20∧True) (cnd (decide (c.inst>255)) (∃(o:Unit),c.orderE=20∧True) (∃(o:Unit),c.orderE=0∧True)))) (∃(o:Unit),c.orderE=23∧True):=by
    intro hl
    rw[yWl hl]at e1
    have pr (hq:vC c.price=false):∃(o:Unit),c.orderE=23∧True:=⟨(),by rw[e1,yWm hq],trivial⟩
    refine zJ (fun g1=>Cv.cnd.mk (fun g2=>pr ?_) fun g2=> ?_) fun g1=>pr ?_
    ·have g2:¬c.price≤2000000:=by simpa using g2
     simp[vC,g2]
    ·have g2:c.price≤2000000:=by simpa using g2
     have hp:¬vC c.price=false:=by simp[vC,g2];omega
     rw[yWl hp]at e1
     refine zJ (fun g3=>⟨(),by rw[e1,yWm (.inl g3)],trivial⟩) fun g3=>zJ (fun g4=>⟨(),by rw[e1,yWm (.inr g4)],trivial⟩) fun g4=>⟨(),by rw[e1,yWl (by omega)],trivial⟩
    ·simp[vC];omega
   refine Cv.cnd.mk (fun d7=>⟨c.label,rfl,h,fun _ _=>Cv.cnd.mk (fun d8=> ?_) fun d8=>last ?_⟩) fun d7=>last ?_
   ·have d7:¬c.label=[]:=by simpa using d7
    have d8:fD c.label=false:=by simpa using d8
    exact⟨(),by rw[e1,yWm ⟨d7,d8⟩],trivial⟩
   ·have d8:fD c.label=true:=by simpa using d8
    simp[d8]
   ·have d7:c.label=[]:=by simpa using d7
    simp[d7]
  ·simp[kC];omega
 refine zJ (fun c1=>zJ (fun c2=>⟨(),by rw[Cmd.orderE,yWm ⟨c1,c2⟩],trivial⟩) fun c2=>tail ?_) fun c1=>tail ?_
 ·omega
 ·omega
theorem yHj:cmdOrdC.ok Tryz.prog 106:=okw mixed (gokc yPh gok0) 1 (fun _=>[]) (fun _=>[]) [] Tryz.func106 ySj
theorem yPb (c:Cmd) (h:cmdRtC.cnd c):z9r c:=by
 have h:c.label.length≤140737488355328:=h
 unfold z9r
 simp only[yVv,yTi]
 refine zJ (fun c1=>⟨(),by rw[Cmd.right,yWm (.inl c1)],trivial⟩) fun c1=>zJ (fun c2=>⟨(),by rw[Cmd.right,yWm (.inr c2)],trivial⟩) fun c2=> ?_
 refine zJ (fun c3=>⟨(),by rw[Cmd.right,yWl (by omega),yWm (.inl c3)],trivial⟩) fun c3=>zJ (fun c4=>⟨(),by rw[Cmd.right,yWl (by omega),yWm (.inr c4)],trivial⟩) fun c4=> ?_
 have e0:c.right=if c.kind=1 then c.orderE else if c.kind≠2∧kC c.qty=false then 24 else if c.kind=4∧vC c.price=false then 23 else 0:=by rw[Cmd.right,yWl (by omega),yWl (by omega)]
 refine zJ (fun c5=>⟨c,?_⟩) fun c5=> ?_
 ·rw[yWm c5]at e0
  exact kp
 rw[yWl c5]at e0
 have last (hn:¬(c.kind≠2∧kC c.qty=false)):cnd (decide (c.kind=4)) (cnd (decide (c.price≥-2000000)) (cnd (!decide (c.price≤2000000)) (∃(o:Unit),c.right=23∧True) (∃(o:Unit),c.right=0∧True)) (∃(o:Unit),c.right=23∧True)) (∃(o:Unit),c.right=0∧True):=by
  rw[yWl hn]at e0
  refine zJ (fun d1=>zJ (fun d2=>Cv.cnd.mk (fun d3=> ?_) fun d3=> ?_) fun d2=> ?_) fun d1=> ?_
  ·have d3:¬c.price≤2000000:=by simpa using d3
   exact⟨(),by rw[e0,yWm ⟨d1,by simp[vC,d3]⟩],trivial⟩
  ·have d3:c.price≤2000000:=by simpa using d3
   exact⟨(),by rw[e0,yWl (by simp[vC,d3];omega)],trivial⟩
  ·exact⟨(),by rw[e0,yWm ⟨d1,by simp[vC];omega⟩],trivial⟩
  ·exact⟨(),by rw[e0,yWl (by simp[d1])],trivial⟩
 refine zJ (fun d1=>zJ (fun d2=>Cv.cnd.mk (fun d3=> ?_) fun d3=>last ?_) fun d2=> ?_) fun d1=>last ?_
 ·have d3:¬c.qty≤1000000:=by simpa using d3
  exact⟨(),by rw[e0,yWm ⟨d1,by simp[kC,d3]⟩],trivial⟩
 ·have d3:c.qty≤1000000:=by simpa using d3
  simp[kC,d3];omega
 ·exact⟨(),by rw[e0,yWm ⟨d1,by simp[kC];omega⟩],trivial⟩
 ·omega
theorem zVo:cmdRtC.ok Tryz.prog 57:=okw mixed (gokc yHj gok0) 1 (fun _=>[]) (fun _=>[]) [] Tryz.func57 yPb
open Go Cv Go.Proofs
def rtextC:Con:=con1 RB (fun i=>[.nm 0 0]) (fun i=>[RdB i]) RB.ok (fun i=>sV i.text.1) (fun i=>[RdB i.text.2])
structure TxB where
 l:List UInt8
 s:List UInt8
def ftextC:Con:=con1 TxB (fun i=>[roV 1 (bE i.l),sV i.s]) (fun _=>[]) (fun i=>i.l.length+300≤1099511627776∧i.s.length≤255) (fun _=> .own 0) (fun i=>[.own tU8 1 (bE (i.l++sU i.s))])
def r6rightC:Con:=con1 Cmd (fun c=>[zCy c]) (fun _=>[]) (fun c=>c.label=[]∧c.right=0) (fun c=>zA 0) (fun _=>[])
def unJ:SAnn:={ι:=Unit,slots:=fun _=>[],rows:=fun _=>[]}
def yEd:List (Nat×SAnn):=[(4,bj 10),(12,bj 18),(22,unJ),(40,bj 50),(50,unJ),(68,bj 90),(76,bj 103)]
def r6encC:Con:=con1 Cmd (fun c=>[zCy c]) (fun _=>[]) (fun c=>c.label=[]∧c.right=0) (fun c=> .tup [roV 1 (bE c.enc),zA 0]) (fun _=>[])
def cdecC:Con:=con1 (List UInt8) (fun b=>[roV 1 (bE b)]) (fun _=>[]) (fun b=>b.length≤1099511627776) (fun b=> .tup [zCy (xL b).1,zA (xL b).2]) (fun _=>[])
def yRr:List (Nat×SAnn):=[(12,bj 19),(26,{ι:=Cmd×RB,slots:=fun _=>[(4,.nm 0 0),(5,.nm 1 0)],rows:=fun x=>[RdB x.2,.cells x.1.cells 36],slots0:=fun _=>[(4,.nm 0 0),(5,.nm 1 0)],rows0:=fun x=>[RdB x.2,.cells x.1.cells 36]})]
open Go Cv Go.Proofs
def yMn (i:RB):Prop:=
 ∃(i_1:RB),AObj.adt (List UInt8×Bool) 1 RdU (i_1.l,i_1.b)=RdB i∧i_1.l.length≤1099511627776∧∀(o:Unit),True→∃(i_2:RN),(↑i_2.n:Int)=qV (i_1.n 1).got∧AObj.adt (List UInt8×Bool) 1 RdU (i_2.l,i_2.b)=AObj.adt (List UInt8×Bool) 1 RdU ((i_1.n 1).left,(i_1.n 1).bad)∧(i_2.n≤255∧i_2.l.length≤1099511627776)∧∀(o:Unit),True→∃(b:ByteArray),(1:Nat)=(1:Nat)∧bE i_2.got=jR b∧∃(o:Unit),sb ((RB.mk (i.n 1).left (i.n 1).bad).n (qV (i.n 1).got).toNat).got=b∧AObj.adt (List UInt8×Bool) 1 RdU (((RB.mk (i.n 1).left (i.n 1).bad).n (qV (i.n 1).got).toNat).left,((RB.mk (i.n 1).left (i.n 1).bad).n (qV (i.n 1).got).toNat).bad)=AObj.adt (List UInt8×Bool) 1 RdU (i_2.left,i_2.bad)∧True
def yOo (i:TxB):Prop:=
 cnd (decide ((↑(sb i.s).size:Int)>255)) (((0:Int)≤(255:Int)∧255≤(↑(sb i.s).size:Int))∧∃(i_1:WN),bE i_1.l=bE i.l∧i_1.n=(↑((sb i.s).extract 0 (Int.toNat 255)).size:Int)∧i_1.ok∧∀(o:Unit),True→((bE (i_1.l++[lob i_1.n])).length+(jR ((sb i.s).extract 0 (Int.toNat 255))).length)*(1:Nat)≤(70368744177664:Nat)∧∃(o:Unit),bE (i.l++sU i.s)=bE (i_1.l++[lob i_1.n])++jR ((sb i.s).extract 0 (Int.toNat 255))∧True) (∃(i_1:WN),bE i_1.l=bE i.l∧i_1.n=(↑(sb i.s).size:Int)∧i_1.ok∧∀(o:Unit),True→((bE (i_1.l++[lob i_1.n])).length+(jR (sb i.s)).length)*(1:Nat)≤(70368744177664:Nat)∧∃(o:Unit),bE (i.l++sU i.s)=bE (i_1.l++[lob i_1.n])++jR (sb i.s)∧True)
def nO (a:Cmd):Prop:=Sx.AObj.cells [V.d (dI a.kind),V.d (dI a.id),V.d (dI a.inst),V.d (dI a.side),V.d (dI a.price),V.d (dI a.qty),V.d (dI a.least),V.d (dI a.time),V.d (D.v (Value.string (sb a.label)))] 36=Sx.AObj.cells [V.d (dI a.kind),V.d (dI a.id),V.d (dI a.inst),V.d (dI a.side),V.d (dI a.price),V.d (dI a.qty),V.d (dI a.least),V.d (dI a.time),V.d (D.v (Value.string (sb a.label)))] 36
def jM (a:Bool→Prop) (b:Bool) (c:Cmd):Prop:=a b∧nO c
def nH (a:Cmd) (b:Bool→Prop):Prop:=∃(c:Bool),c=decide (a.price>2000000)∧jM b c a
def cS (a:Bool→Prop) (b:Cmd):Prop:=∃(c:Bool),c=false∧jM a c b
def wH (a:Bool→Prop) (b:Cmd):Prop:=∃(c:Bool),c=true∧jM a c b
def uI (a:Unit→Prop) (b:Cmd):Prop:=∃(c:Unit),a c∧nO b
def zVl (c:Cmd):Prop:=
 ∃(a:Bool),∃(b:Bool→Prop),cnd (decide (c.kind<1)) (wH b c) (∃(d:Bool),d=decide (c.kind>4)∧jM b d c)∧∀(d:Bool),b d→cnd d (∃(e:Unit),(0:Int)=(31:Int)∧True) (∃(e:Bool),∃(f:Bool→Prop),cnd (decide (c.id<1)) (wH f c) (∃(g:Bool),g=decide (c.id>1099511627776)∧jM f g c)∧∀(g:Bool),f g→cnd g (∃(h:Unit),(0:Int)=(1:Int)∧True) (∃(h:Unit),∃(j:Unit→Prop),cnd (c.kind==1) (cnd (c.side !=1) (cnd (c.side !=2) (∃(k:Unit),(0:Int)=(21:Int)∧True) (cnd (decide (c.time<1)) (∃(k:Unit),(0:Int)=(27:Int)∧True) (cnd (decide (c.time>3)) (∃(k:Unit),(0:Int)=(27:Int)∧True) (uI j c)))) (cnd (decide (c.time<1)) (∃(k:Unit),(0:Int)=(27:Int)∧True) (cnd (decide (c.time>3)) (∃(k:Unit),(0:Int)=(27:Int)∧True) (uI j c)))) (uI j c)∧∀(k:Unit),j k→∃(l:Bool),∃(m:Bool→Prop),cnd (c.kind !=2) (cnd (decide (c.qty<1)) (wH m c) (∃(n:Bool),n=decide (c.qty>1000000)∧jM m n c)) (cS m c)∧∀(n:Bool),m n→cnd n (∃(p:Unit),(0:Int)=(24:Int)∧True) (∃(p:Unit),∃(q:Unit→Prop),cnd (c.kind==1) (cnd (decide (c.least<0)) (∃(r:Unit),(0:Int)=(28:Int)∧True) (cnd (decide (c.least>c.qty)) (∃(r:Unit),(0:Int)=(28:Int)∧True) (cnd (mE c) False (uI q c)))) (uI q c)∧∀(r:Unit),q r→∃(s:Bool),∃(t:Bool→Prop),cnd (c.kind==1) (cnd (decide (c.price<(-2000000))) (wH t c) (nH c t)) (cnd (c.kind==4) (cnd (decide (c.price<(-2000000))) (wH t c) (nH c t)) (cS t c))∧∀(u:Bool),t u→cnd u (∃(v:Unit),(0:Int)=(23:Int)∧True) (∃(v:Bool),∃(w:Bool→Prop),cnd (c.kind==1) (cnd (decide (c.inst<0)) (wH w c) (∃(x:Bool),x=decide (c.inst>255)∧jM w x c)) (cS w c)∧∀(x:Bool),w x→cnd x (∃(y:Unit),(0:Int)=(20:Int)∧True) (∃(y:Unit),(0:Int)=(0:Int)∧True)))))
def lX (a:WN) (b:Cmd):Prop:=∃(c:WN),bE c.l=bE (a.l++le a.n 8)∧c.n=b.qty∧c.ok∧∀(d:Unit),True→∃(e:Unit),bE b.enc=bE (c.l++le c.n 8)∧(0:Int)=(0:Int)∧True
def yFu (c:Cmd):Prop:=
 ∃(a:Cmd),a.kind=c.kind∧a.id=c.id∧a.inst=c.inst∧a.side=c.side∧a.price=c.price∧a.qty=c.qty∧a.least=c.least∧a.time=c.time∧sb a.label=sb c.label∧(a.label=[]∧a.right=0)∧∀(b:Unit),True→∃(d:WN),bE d.l=[]∧d.n=c.kind∧d.ok∧∀(e:Unit),True→c.id=c.id∧∃(f:WN),bE f.l=bE (d.l++[lob d.n])∧f.n=c.id∧f.ok∧∀(g:Unit),True→cnd (c.kind==1) (∃(h:WN),bE h.l=bE (f.l++le f.n 8)∧h.n=c.inst∧h.ok∧∀(j:Unit),True→c.time=c.time∧c.side=c.side∧∃(k:WN),bE k.l=bE (h.l++[lob h.n])∧k.n=c.side∧k.ok∧∀(l:Unit),True→c.time=c.time∧∃(m:WN),bE m.l=bE (k.l++[lob k.n])∧m.n=c.time∧m.ok∧∀(n:Unit),True→∃(p:WN),bE p.l=bE (m.l++[lob m.n])∧p.n=c.price∧p.ok∧∀(q:Unit),True→c.least=c.least∧c.qty=c.qty∧∃(r:WN),bE r.l=bE (p.l++le p.n 8)∧r.n=c.qty∧r.ok∧∀(s:Unit),True→c.least=c.least∧∃(t:WN),bE t.l=bE (r.l++le r.n 8)∧t.n=c.least∧t.ok∧∀(u:Unit),True→∃(v:TxB),bE v.l=bE (t.l++le t.n 8)∧sb v.s=sb c.label∧(v.l.length+(300:Nat)≤(1099511627776:Nat)∧v.s.length≤255)∧∀(w:Unit),True→∃(x:Unit),bE c.enc=bE (v.l++sU v.s)∧(0:Int)=(0:Int)∧True) (cnd (c.kind==3) (lX f c) (cnd (c.kind==4) (∃(h:WN),bE h.l=bE (f.l++le f.n 8)∧h.n=c.price∧h.ok∧∀(j:Unit),True→c.qty=c.qty∧lX h c) (∃(h:Unit),bE c.enc=bE (f.l++le f.n 8)∧(0:Int)=(0:Int)∧True)))
def zEx:Prop:=Sx.AObj.cells (Sx.V.agg [V.d (dI 0),V.d (dI 0),V.d (dI 0),V.d (dI 0),V.d (dI 0),V.d (dI 0),V.d (dI 0),V.d (dI 0),V.d kR]).cl 36=Sx.AObj.cells (Sx.V.agg [V.d (dI 0),V.d (dI 0),V.d (dI 0),V.d (dI 0),V.d (dI 0),V.d (dI 0),V.d (dI 0),V.d (dI 0),V.d kR]).cl 36
def zJm (a:Bool→Prop) (b:Bool) (c:RB):Prop:=a b∧Sx.AObj.cells [V.d (dI (qV (c.n 1).got)),V.d (dI 0),V.d (dI 0),V.d (dI 0),V.d (dI 0),V.d (dI 0),V.d (dI 0),V.d (dI 0),V.d kR] 36=Sx.AObj.cells [V.d (dI (qV (c.n 1).got)),V.d (dI 0),V.d (dI 0),V.d (dI 0),V.d (dI 0),V.d (dI 0),V.d (dI 0),V.d (dI 0),V.d kR] 36∧AObj.adt (List UInt8×Bool) 1 RdU ((c.n 1).left,(c.n 1).bad)=AObj.adt (List UInt8×Bool) 1 RdU ((c.n 1).left,(c.n 1).bad)∧zEx
def zFv (a:Cmd×RB→Prop) (b:Cmd×RB):Prop:=a b∧zEx
def zEy (a:Cmd×RB) (b:Cmd×RB) (c:Cmd×RB→Prop):Prop:=a.fst.least=b.fst.least∧a.fst.time=b.fst.time∧sb a.fst.label=sb b.fst.label∧zFv c a
def zEa (a:Cmd×RB) (b:RB) (c:Cmd×RB) (d:Cmd×RB→Prop):Prop:=a.fst.qty=IntKind.i64.wrap (qV (b.n 8).got)∧zEy a c d
def eH (a:RB):=((RB.mk (a.n 1).left (a.n 1).bad).n (qV (a.n 1).got).toNat)
def yLt (b:List UInt8):Prop:=
 ∃(a:List UInt8),bE a=bE b∧a.length≤1099511627776∧∀(c:Unit),True→∃(d:RB),AObj.adt (List UInt8×Bool) 1 RdU (d.l,d.b)=AObj.adt (List UInt8×Bool) 1 RdU (a,false)∧d.l.length≤1099511627776∧∀(e:Unit),True→∃(f:Bool),∃(g:Bool→Prop),cnd (decide (qV (d.n 1).got<1)) (∃(h:Bool),h=true∧zJm g h d) (∃(h:Bool),h=decide (qV (d.n 1).got>4)∧zJm g h d)∧∀(h:Bool),g h→cnd h (∃(j:Unit),(xL b).fst.kind=0∧(xL b).fst.id=0∧(xL b).fst.inst=0∧(xL b).fst.side=0∧(xL b).fst.price=0∧(xL b).fst.qty=0∧(xL b).fst.least=0∧(xL b).fst.time=0∧sb (xL b).fst.label=ByteArray.mk #[]∧(xL b).snd=31∧True) (∃(j:RB),AObj.adt (List UInt8×Bool) 1 RdU (j.l,j.b)=AObj.adt (List UInt8×Bool) 1 RdU ((d.n 1).left,(d.n 1).bad)∧j.l.length≤1099511627776∧∀(k:Unit),True→∃(l:Cmd×RB),AObj.adt (List UInt8×Bool) 1 RdU (l.snd.l,l.snd.b)=AObj.adt (List UInt8×Bool) 1 RdU ((j.n 8).left,(j.n 8).bad)∧l.fst.kind=qV (d.n 1).got∧l.fst.id=IntKind.i64.wrap (qV (j.n 8).got)∧l.fst.inst=0∧l.fst.side=0∧l.fst.price=0∧l.fst.qty=0∧l.fst.least=0∧l.fst.time=0∧sb l.fst.label=ByteArray.mk #[]∧∃(m:Cmd×RB→Prop),cnd (l.fst.kind==1) (∃(n:RB),AObj.adt (List UInt8×Bool) 1 RdU (n.l,n.b)=AObj.adt (List UInt8×Bool) 1 RdU (l.snd.l,l.snd.b)∧n.l.length≤1099511627776∧∀(p:Unit),True→∃(q:RB),AObj.adt (List UInt8×Bool) 1 RdU (q.l,q.b)=AObj.adt (List UInt8×Bool) 1 RdU ((n.n 1).left,(n.n 1).bad)∧q.l.length≤1099511627776∧∀(r:Unit),True→∃(s:RB),AObj.adt (List UInt8×Bool) 1 RdU (s.l,s.b)=AObj.adt (List UInt8×Bool) 1 RdU ((q.n 1).left,(q.n 1).bad)∧s.l.length≤1099511627776∧∀(t:Unit),True→∃(u:RB),AObj.adt (List UInt8×Bool) 1 RdU (u.l,u.b)=AObj.adt (List UInt8×Bool) 1 RdU ((s.n 1).left,(s.n 1).bad)∧u.l.length≤1099511627776∧∀(v:Unit),True→∃(w:RB),AObj.adt (List UInt8×Bool) 1 RdU (w.l,w.b)=AObj.adt (List UInt8×Bool) 1 RdU ((u.n 8).left,(u.n 8).bad)∧w.l.length≤1099511627776∧∀(x:Unit),True→∃(y:RB),AObj.adt (List UInt8×Bool) 1 RdU (y.l,y.b)=AObj.adt (List UInt8×Bool) 1 RdU ((w.n 8).left,(w.n 8).bad)∧y.l.length≤1099511627776∧∀(z:Unit),True→∃(a_1:RB),AObj.adt (List UInt8×Bool) 1 RdU (a_1.l,a_1.b)=AObj.adt (List UInt8×Bool) 1 RdU ((y.n 8).left,(y.n 8).bad)∧a_1.ok∧∀(a_2:Unit),True→∃(a_3:Cmd×RB),AObj.adt (List UInt8×Bool) 1 RdU (a_3.snd.l,a_3.snd.b)=AObj.adt (List UInt8×Bool) 1 RdU ((eH a_1).left,(eH a_1).bad)∧a_3.fst.kind=l.fst.kind∧a_3.fst.id=l.fst.id∧a_3.fst.inst=qV (n.n 1).got∧a_3.fst.side=qV (q.n 1).got∧a_3.fst.price=IntKind.i64.wrap (qV (u.n 8).got)∧a_3.fst.qty=IntKind.i64.wrap (qV (w.n 8).got)∧a_3.fst.least=IntKind.i64.wrap (qV (y.n 8).got)∧a_3.fst.time=qV (s.n 1).got∧sb a_3.fst.label=sb (eH a_1).got∧zFv m a_3) (cnd (l.fst.kind==3) (∃(n:RB),AObj.adt (List UInt8×Bool) 1 RdU (n.l,n.b)=AObj.adt (List UInt8×Bool) 1 RdU (l.snd.l,l.snd.b)∧n.l.length≤1099511627776∧∀(p:Unit),True→∃(q:Cmd×RB),AObj.adt (List UInt8×Bool) 1 RdU (q.snd.l,q.snd.b)=AObj.adt (List UInt8×Bool) 1 RdU ((n.n 8).left,(n.n 8).bad)∧q.fst.kind=l.fst.kind∧q.fst.id=l.fst.id∧q.fst.inst=l.fst.inst∧q.fst.side=l.fst.side∧q.fst.price=l.fst.price∧zEa q n l m) (cnd (l.fst.kind==4) (∃(n:RB),AObj.adt (List UInt8×Bool) 1 RdU (n.l,n.b)=AObj.adt (List UInt8×Bool) 1 RdU (l.snd.l,l.snd.b)∧n.l.length≤1099511627776∧∀(p:Unit),True→∃(q:RB),AObj.adt (List UInt8×Bool) 1 RdU (q.l,q.b)=AObj.adt (List UInt8×Bool) 1 RdU ((n.n 8).left,(n.n 8).bad)∧q.l.length≤1099511627776∧∀(r:Unit),True→∃(s:Cmd×RB),AObj.adt (List UInt8×Bool) 1 RdU (s.snd.l,s.snd.b)=AObj.adt (List UInt8×Bool) 1 RdU ((q.n 8).left,(q.n 8).bad)∧s.fst.kind=l.fst.kind∧s.fst.id=l.fst.id∧s.fst.inst=l.fst.inst∧s.fst.side=l.fst.side∧s.fst.price=IntKind.i64.wrap (qV (n.n 8).got)∧zEa s q l m) (∃(n:Cmd×RB),AObj.adt (List UInt8×Bool) 1 RdU (n.snd.l,n.snd.b)=AObj.adt (List UInt8×Bool) 1 RdU (l.snd.l,l.snd.b)∧n.fst.kind=l.fst.kind∧n.fst.id=l.fst.id∧n.fst.inst=l.fst.inst∧n.fst.side=l.fst.side∧n.fst.price=l.fst.price∧n.fst.qty=l.fst.qty∧zEy n l m)))∧∀(n:Cmd×RB),m n→∃(p:RB),AObj.adt (List UInt8×Bool) 1 RdU (p.l,p.b)=AObj.adt (List UInt8×Bool) 1 RdU (n.snd.l,n.snd.b)∧p.l.length≤1099511627776∧∀(q:Unit),True→cnd ((if p.b=true then(10:Int)else if 0<p.l.length then(15:Int)else(0:Int)) !=0) (∃(r:Unit),(xL b).fst.kind=0∧(xL b).fst.id=0∧(xL b).fst.inst=0∧(xL b).fst.side=0∧(xL b).fst.price=0∧(xL b).fst.qty=0∧(xL b).fst.least=0∧(xL b).fst.time=0∧sb (xL b).fst.label=ByteArray.mk #[]∧(xL b).snd=12∧True) (∃(r:Cmd),r.kind=n.fst.kind∧r.id=n.fst.id∧r.inst=n.fst.inst∧r.side=n.fst.side∧r.price=n.fst.price∧r.qty=n.fst.qty∧r.least=n.fst.least∧r.time=n.fst.time∧sb r.label=sb n.fst.label∧r.label.length≤140737488355328∧∀(s:Unit),True→cnd (r.right !=0) (∃(t:Unit),(xL b).fst.kind=0∧(xL b).fst.id=0∧(xL b).fst.inst=0∧(xL b).fst.side=0∧(xL b).fst.price=0∧(xL b).fst.qty=0∧(xL b).fst.least=0∧(xL b).fst.time=0∧sb (xL b).fst.label=ByteArray.mk #[]∧(xL b).snd=r.right∧True) (∃(t:Unit),(xL b).fst.kind=n.fst.kind∧(xL b).fst.id=n.fst.id∧(xL b).fst.inst=n.fst.inst∧(xL b).fst.side=n.fst.side∧(xL b).fst.price=n.fst.price∧(xL b).fst.qty=n.fst.qty∧(xL b).fst.least=n.fst.least∧(xL b).fst.time=n.fst.time∧sb (xL b).fst.label=sb n.fst.label∧(xL b).snd=0∧True)))
open Go Cv Go.Proofs
theorem zTd (r:RB):0≤r.byte.1∧r.byte.1≤255:=by
 have h:=pF (r.n 1).got
 have hl:(r.n 1).got.length≤1:=zHu (r.n 1)
 show 0≤qV (r.n 1).got∧qV (r.n 1).got≤255
 obtain e|e:(r.n 1).got.length=0∨(r.n 1).got.length=1:=by omega
 ·rw[e]at h;omega
 ·rw[e]at h;omega
theorem yJg {r:RB} (h:r.ok):r.text.2.ok:=yYw (rV _) (yYw (rV _) h)
theorem yDz:rtextC.ok Tryz.prog 143:=okw (V:=yMn) mixed (gokc zWc (gokc z4t gok0)) 0 (fun _=>[]) (fun _=>[]) [] Tryz.func143 fun(i:RB) h=>by
 have h:i.l.length≤1099511627776:=h
 have hb:=zTd i
 exact⟨i,rfl,h,fun _ _=>⟨⟨(i.n 1).left,(i.n 1).bad,i.byte.1.toNat⟩,by dsimp only;exact Int.toNat_of_nonneg hb.1,rfl,⟨by dsimp only;omega,yYw (rV _) h⟩,fun _ _=>⟨_,rfl,z5x _,(),rfl,rfl,trivial⟩⟩⟩
theorem z9h:ftextC.ok Tryz.prog 48:=okw (V:=yOo) mixed (gokc zTj gok0) 0 (fun _=>[]) (fun _=>[]) [] Tryz.func48 fun(i:TxB) h=>by
 obtain⟨l,s⟩:=i
 obtain⟨h,hl⟩:l.length+300≤1099511627776∧s.length≤255:=h
 have hs:(sb s).size=s.length:=zHy s
 refine zJ (fun e=> ?_) (fun e=> ?_)
 ·have e:((sb s).size:Int)>255:=e
  omega
 ·have et:s.take 255=s:=yXg (by omega)
  refine⟨⟨l,s.length⟩,rfl,by dsimp only;rw[hs],by dsimp only[WN.ok];omega,fun _ _=>⟨?_,(),?_,trivial⟩⟩
  ·dsimp only
   rw[zOj,u0,u0,yWs]
   simp[sb];omega
  ·dsimp only
   rw[zOj,← zYj,sU,et]
   simp[sb]
theorem yCq (c:Cmd) (h:r6rightC.cnd c):zVl c:=by
 obtain⟨hl,hr⟩:c.label=[]∧c.right=0:=h
 obtain⟨hk,hi,hq,hp,ho⟩:=fK hr
 unfold zVl uI wH cS nH jM nO mE dI
 refine⟨false,fun b=>b=false,zJ (fun e=>absurd e (by omega)) (fun _=>⟨_,rfl,yWy (by omega),by(repeat'(first|exact trivial|exact rfl|apply And.intro))⟩),?_⟩
 rintro _ rfl
 refine Cv.cnd.mk (fun e=>absurd e (by decide)) (fun _=> ?_)
 refine⟨false,fun b=>b=false,zJ (fun e=>absurd e (by omega)) (fun _=>⟨_,rfl,yWy (by omega),by(repeat'(first|exact trivial|exact rfl|apply And.intro))⟩),?_⟩
 rintro _ rfl
 refine Cv.cnd.mk (fun e=>absurd e (by decide)) (fun _=> ?_)
 refine⟨(),fun _=>True,Cv.cnd.mk (fun e=> ?_) (fun _=>⟨(),trivial,by(repeat'(first|exact trivial|exact rfl|apply And.intro))⟩),fun _ _=> ?_⟩
 ·obtain⟨s1,s2,s3,s4,s5⟩:=ho (by simpa using e)
  refine Cv.cnd.mk (fun e1=>Cv.cnd.mk (fun e2=> ?_) (fun _=> ?_)) (fun _=> ?_)
  ·have e1:c.side≠1:=by simpa using e1
   have e2:c.side≠2:=by simpa using e2
   omega
  all_goals exact zJ (fun e=>absurd e (by omega)) (fun _=>zJ (fun e=>absurd e (by omega)) (fun _=>⟨(),trivial,by(repeat'(first|exact trivial|exact rfl|apply And.intro))⟩))
 refine⟨false,fun b=>b=false,Cv.cnd.mk (fun e=> ?_) (fun _=>⟨_,rfl,rfl,by(repeat'(first|exact trivial|exact rfl|apply And.intro))⟩),?_⟩
 ·have hq:=hq (by simpa using e)
  exact zJ (fun e=>absurd e (by omega)) (fun _=>⟨_,rfl,yWy (by omega),by(repeat'(first|exact trivial|exact rfl|apply And.intro))⟩)
 rintro _ rfl
 refine Cv.cnd.mk (fun e=>absurd e (by decide)) (fun _=> ?_)
 refine⟨(),fun _=>True,Cv.cnd.mk (fun e=> ?_) (fun _=>⟨(),trivial,by(repeat'(first|exact trivial|exact rfl|apply And.intro))⟩),fun _ _=> ?_⟩
 ·obtain⟨s1,s2,s3,s4,s5⟩:=ho (by simpa using e)
  refine zJ (fun e=>absurd e (by omega)) (fun _=>zJ (fun e=>absurd e (by omega)) (fun _=>Cv.cnd.mk (fun e=> ?_) (fun _=>⟨(),trivial,by(repeat'(first|exact trivial|exact rfl|apply And.intro))⟩)))
  rw[hl]at e
  exact absurd e (by decide+kernel)
 have hpr:∀{Q:Prop},Q→(c.kind=1∨c.kind=4)→cnd (decide (c.price< -2000000)) (∃i':Bool,i'=true∧i'=false∧Q) (∃i':Bool,i'=decide (c.price>2000000)∧i'=false∧Q):=fun hQ hk=>by
  have:=hp hk
  exact zJ (fun e=>absurd e (by omega)) (fun _=>⟨_,rfl,yWy (by omega),hQ⟩)
 refine⟨false,fun b=>b=false,Cv.cnd.mk (fun e=>hpr (by(repeat'(first|exact trivial|exact rfl|apply And.intro))) (.inl (by simpa using e))) (fun _=>Cv.cnd.mk (fun e=>hpr (by(repeat'(first|exact trivial|exact rfl|apply And.intro))) (.inr (by simpa using e))) (fun _=>⟨_,rfl,rfl,by(repeat'(first|exact trivial|exact rfl|apply And.intro))⟩)),?_⟩
 rintro _ rfl
 refine Cv.cnd.mk (fun e=>absurd e (by decide)) (fun _=> ?_)
 refine⟨false,fun b=>b=false,Cv.cnd.mk (fun e=> ?_) (fun _=>⟨_,rfl,rfl,by(repeat'(first|exact trivial|exact rfl|apply And.intro))⟩),?_⟩
 ·obtain⟨s1,s2,s3,s4,s5⟩:=ho (by simpa using e)
  exact zJ (fun e=>absurd e (by omega)) (fun _=>⟨_,rfl,yWy (by omega),by(repeat'(first|exact trivial|exact rfl|apply And.intro))⟩)
 rintro _ rfl
 exact Cv.cnd.mk (fun e=>absurd e (by decide)) (fun _=>⟨(),rfl,trivial⟩)
theorem zZv:r6rightC.ok Tryz.prog 45:=okw mixed gok0 0 (fun _=>yEd) (fun _=>[]) [] Tryz.func45 yCq
theorem yNp (c:Cmd) (h:r6encC.cnd c):yFu c:=by
 obtain⟨hl,hr⟩:c.label=[]∧c.right=0:=h
 have he:c.enc=lob c.kind::(le c.id 8++c.tail):=by rw[Cmd.enc,yWl (by simp[hr])]
 unfold yFu lX
 refine⟨c,rfl,rfl,rfl,rfl,rfl,rfl,rfl,rfl,rfl,⟨hl,hr⟩,fun _ _=>⟨⟨[],c.kind⟩,rfl,rfl,by simp[WN.ok],fun _ _=>⟨rfl,⟨[lob c.kind],c.id⟩,rfl,rfl,by simp[WN.ok],fun _ _=> ?_⟩⟩⟩
 dsimp only
 refine Cv.cnd.mk (fun e=> ?_) (fun e=>Cv.cnd.mk (fun e3=> ?_) (fun e3=>Cv.cnd.mk (fun e4=> ?_) (fun e4=> ?_)))
 ·have e:c.kind=1:=by simpa using e
  have ht:c.tail=lob c.inst::lob c.side::lob c.time::(le c.price 8++(le c.qty 8++(le c.least 8++sU c.label))):=by rw[Cmd.tail,yWm e]
  refine⟨⟨[lob c.kind]++le c.id 8,c.inst⟩,rfl,rfl,by simp[WN.ok,vZ],fun _ _=>⟨rfl,rfl,⟨_,c.side⟩,rfl,rfl,by simp[WN.ok,vZ],fun _ _=>⟨rfl,⟨_,c.time⟩,rfl,rfl,by simp[WN.ok,vZ],fun _ _=>⟨⟨_,c.price⟩,rfl,rfl,by simp[WN.ok,vZ],fun _ _=>⟨rfl,rfl,⟨_,c.qty⟩,rfl,rfl,by simp[WN.ok,vZ],fun _ _=>⟨rfl,⟨_,c.least⟩,rfl,rfl,by simp[WN.ok,vZ],fun _ _=>⟨⟨_,c.label⟩,rfl,rfl,⟨by simp[vZ],by show c.label.length≤255;rw[hl];decide⟩,fun _ _=>⟨(),?_,rfl,trivial⟩⟩⟩⟩⟩⟩⟩⟩
  dsimp only
  rw[he,ht];simp
 ·have e3:c.kind=3:=by simpa using e3
  have ht:c.tail=le c.qty 8:=by rw[Cmd.tail,yWl (by omega),yWm e3]
  refine⟨⟨[lob c.kind]++le c.id 8,c.qty⟩,rfl,rfl,by simp[WN.ok,vZ],fun _ _=>⟨(),?_,rfl,trivial⟩⟩
  dsimp only
  rw[he,ht];simp
 ·have e4:c.kind=4:=by simpa using e4
  have ht:c.tail=le c.price 8++le c.qty 8:=by rw[Cmd.tail,yWl (by omega),yWl (by omega),yWm e4]
  refine⟨⟨[lob c.kind]++le c.id 8,c.price⟩,rfl,rfl,by simp[WN.ok,vZ],fun _ _=>⟨rfl,⟨_,c.qty⟩,rfl,rfl,by simp[WN.ok,vZ],fun _ _=>⟨(),?_,rfl,trivial⟩⟩⟩
  dsimp only
  rw[he,ht];simp
 ·have e:¬c.kind=1:=by simpa using e
  have e3:¬c.kind=3:=by simpa using e3
  have e4:¬c.kind=4:=by simpa using e4
  have ht:c.tail=[]:=by rw[Cmd.tail,yWl e,yWl e3,yWl e4]
  refine⟨(),?_,rfl,trivial⟩
  rw[he,ht];simp
theorem r6enc_ok:r6encC.ok Tryz.prog 15:=okw mixed (gokc zZv (gokc zTj (gokc yCg (gokc z9h gok0)))) 0 (fun _=>[]) (fun _=>[]) [] Tryz.func15 yNp
theorem yLa {k id:Int} {r:RB} (h:r.ok):(x0 k id r).2.ok∧(x0 k id r).1.label.length≤255:=by
 rw[x0]
 split
 ·have h6:=gF (gF (gF (aI (aI (aI h)))))
  refine⟨yJg h6,?_⟩
  show(RB.text (r.byte.2.byte.2.byte.2.long.2.long.2.long.2)).1.length≤255
  generalize r.byte.2.byte.2.byte.2.long.2.long.2.long.2=q
  have:=zTd q
  have:(q.text.1).length≤q.byte.1.toNat:=zHu _
  omega
 split
 ·exact⟨gF h,yYe _⟩
 split
 ·exact⟨gF (gF h),yYe _⟩
 ·exact⟨h,yYe _⟩
theorem ySk (b:List UInt8) (h:cdecC.cnd b):yLt b:=by
 have h:b.length≤1099511627776:=h
 obtain⟨r0,hr⟩:∃r0,r0=RB.mk b false:=⟨_,rfl⟩
 have hr0:r0.ok:=by rw[hr];exact h
 have hk2:=aI hr0
 have hk3:=gF hk2
 have hdec:xL b=if r0.byte.1<1∨4<r0.byte.1 then(zNa,31)else if(x0 r0.byte.1 r0.byte.2.long.1 r0.byte.2.long.2).2.endOf≠0 then(zNa,12)else if(x0 r0.byte.1 r0.byte.2.long.1 r0.byte.2.long.2).1.right≠0 then(zNa,(x0 r0.byte.1 r0.byte.2.long.1 r0.byte.2.long.2).1.right)else((x0 r0.byte.1 r0.byte.2.long.1 r0.byte.2.long.2).1,0):=by
  rw[hr];rfl
 unfold yLt zJm eH zEa zEy zFv zEx kR dI
 generalize xL b=X at hdec ⊢
 refine⟨b,rfl,h,fun _ _=>⟨r0,by rw[hr],hr0,fun _ _=>⟨true,fun x=>x=decide (r0.byte.1<1∨4<r0.byte.1),zJ (fun e=>⟨true,rfl,(yXf (.inl e)).symm,by(repeat'(first|exact trivial|exact rfl|apply And.intro))⟩) (fun e=>⟨_,rfl,decide_eq_decide.2 ⟨.inr,fun x=>x.resolve_left e⟩,by(repeat'(first|exact trivial|exact rfl|apply And.intro))⟩),?_⟩⟩⟩
 rintro _ rfl
 refine zJ (fun e=> ?_) (fun e=> ?_)
 ·rw[hdec,yWm e]
  exact⟨(),rfl,rfl,rfl,rfl,rfl,rfl,rfl,rfl,rfl,rfl,trivial⟩
 rw[yWl e]at hdec
 generalize hk:r0.byte.1=k at hdec
 refine⟨r0.byte.2,rfl,hk2,fun _ _=>⟨(⟨r0.byte.1,r0.byte.2.long.1,0,0,0,0,0,0,[]⟩,r0.byte.2.long.2),rfl,rfl,rfl,rfl,rfl,rfl,rfl,rfl,rfl,rfl,fun x=>x=x0 r0.byte.1 r0.byte.2.long.1 r0.byte.2.long.2,?_,?_⟩⟩
 ·generalize r0.byte.2.long.2=r2 at*
  generalize r0.byte.2.long.1=id at*
  rw[hk]
  refine Cv.cnd.mk (fun e=> ?_) (fun e1=>Cv.cnd.mk (fun e=> ?_) (fun e3=>Cv.cnd.mk (fun e=> ?_) (fun e4=> ?_)))
  ·have e:k=1:=by simpa using e
   have h1:=aI hk3
   have h2:=aI h1
   have h3:=aI h2
   have h4:=gF h3
   have h5:=gF h4
   have h6:=gF h5
   exact⟨r2,rfl,hk3,fun _ _=>⟨_,rfl,h1,fun _ _=>⟨_,rfl,h2,fun _ _=>⟨_,rfl,h3,fun _ _=>⟨_,rfl,h4,fun _ _=>⟨_,rfl,h5,fun _ _=>⟨_,rfl,h6,fun _ _=>⟨x0 k id r2,by rw[x0,yWm e];rfl,by rw[x0,yWm e],by rw[x0,yWm e],by rw[x0,yWm e];rfl,by rw[x0,yWm e];rfl,by rw[x0,yWm e];rfl,by rw[x0,yWm e];rfl,by rw[x0,yWm e];rfl,by rw[x0,yWm e];rfl,by rw[x0,yWm e];rfl,rfl,by(repeat'(first|exact trivial|exact rfl|apply And.intro))⟩⟩⟩⟩⟩⟩⟩⟩
  ·have e1:¬k=1:=by simpa using e1
   have e:k=3:=by simpa using e
   have hd:x0 k id r2=(⟨k,id,0,0,0,r2.long.1,0,0,[]⟩,r2.long.2):=by rw[x0,yWl e1,yWm e]
   exact⟨r2,rfl,hk3,fun _ _=>⟨(⟨k,id,0,0,0,r2.long.1,0,0,[]⟩,r2.long.2),rfl,rfl,rfl,rfl,rfl,rfl,rfl,rfl,rfl,rfl,hd.symm,by(repeat'(first|exact trivial|exact rfl|apply And.intro))⟩⟩
  ·have e1:¬k=1:=by simpa using e1
   have e3:¬k=3:=by simpa using e3
   have e:k=4:=by simpa using e
   have hd:x0 k id r2=(⟨k,id,0,0,r2.long.1,r2.long.2.long.1,0,0,[]⟩,r2.long.2.long.2):=by rw[x0,yWl e1,yWl e3,yWm e]
   exact⟨r2,rfl,hk3,fun _ _=>⟨_,rfl,gF hk3,fun _ _=>⟨(⟨k,id,0,0,r2.long.1,r2.long.2.long.1,0,0,[]⟩,r2.long.2.long.2),rfl,rfl,rfl,rfl,rfl,rfl,rfl,rfl,rfl,rfl,hd.symm,by(repeat'(first|exact trivial|exact rfl|apply And.intro))⟩⟩⟩
  ·have e1:¬k=1:=by simpa using e1
   have e3:¬k=3:=by simpa using e3
   have e4:¬k=4:=by simpa using e4
   have hd:x0 k id r2=(⟨k,id,0,0,0,0,0,0,[]⟩,r2):=by rw[x0,yWl e1,yWl e3,yWl e4]
   exact⟨(⟨k,id,0,0,0,0,0,0,[]⟩,r2),rfl,rfl,rfl,rfl,rfl,rfl,rfl,rfl,rfl,rfl,hd.symm,by(repeat'(first|exact trivial|exact rfl|apply And.intro))⟩
 ·rintro x hx
  obtain⟨o1,o2⟩:=yLa (k:=r0.byte.1) (id:=r0.byte.2.long.1) hk3
  rw[← hx]at o1 o2
  rw[← hk,← hx]at hdec
  obtain⟨c,q⟩:=x
  refine⟨q,rfl,o1,fun _ _=>Cv.cnd.mk (fun e=> ?_) (fun e=>⟨c,rfl,rfl,rfl,rfl,rfl,rfl,rfl,rfl,rfl,yYw o2 (by decide),fun _ _=>Cv.cnd.mk (fun e2=> ?_) (fun e2=> ?_)⟩)⟩
  ·have e:q.endOf≠0:=by simpa[RB.endOf]using e
   rw[hdec,yWm e]
   exact⟨(),rfl,rfl,rfl,rfl,rfl,rfl,rfl,rfl,rfl,rfl,trivial⟩
  ·have e:¬q.endOf≠0:=by simpa[RB.endOf]using e
   have e2:c.right≠0:=by simpa using e2
   rw[hdec,yWl e,yWm e2]
   exact⟨(),rfl,rfl,rfl,rfl,rfl,rfl,rfl,rfl,rfl,rfl,trivial⟩
  ·have e:¬q.endOf≠0:=by simpa[RB.endOf]using e
   have e2:¬c.right≠0:=by simpa using e2
   rw[hdec,yWl e,yWl e2]
   exact⟨(),rfl,rfl,rfl,rfl,rfl,rfl,rfl,rfl,rfl,rfl,trivial⟩
theorem yGv:cdecC.ok Tryz.prog 100:=okw mixed (gokc yIv (gokc zWc (gokc yEn (gokc yDz (gokc yGd (gokc zVo gok0)))))) 0 (fun _=>yRr) (fun _=>[]) [] Tryz.func100 ySk
open Go Cv Go.Proofs
structure SoI where
 s:MSt
 p:Prd
 B:List (List zD)
 inst:Int
 sd:Bool
@[reducible] def SoI.ok (i:SoI):Prop:=i.s.Rep i.p i.B∧i.B.length≤1000
open Go Cv Go.Proofs
open Go Cv Go.Proofs
open Go Cv Go.Proofs
def zHj (s:Int) (F:List zD):Prop:=F.Pairwise fun o o'=>btr s o'.price o.price=false
def u9 (L:List zD) (s:Int):List zD:=L.filter fun o=>decide (o.side=s)
structure BWf (p:Prd) (B:List (List zD)):Prop where
 ok:BOk p B
 od:yJi B
 ub:((whL 0 B).map (·.1)).Nodup
 srt:∀(k:Nat) (L:List zD),B[k]? =some L→∀s,s=1∨s=2→zHj s (u9 L s)
theorem z8w {s x y:Int} (h:btr s y x=false) (h2:btr s x y=false):x=y:=by
 rw[btr]at h h2
 split at h
 ·rename_i e;rw[yWm e]at h2;have:=y0a h;have:=y0a h2;omega
 ·rename_i e;rw[yWl e]at h2;have:=y0a h;have:=y0a h2;omega
theorem zVx {s:Int} {b:Book} {Q:List (List Nat)}:∀{R:List xM},(R.Pairwise fun r r'=>btr s r.price r'.price=true)→zHj s (R.flatMap (b.rOrds Q s))
 |[],_=>List.Pairwise.nil
 |r::R,h=>by
  rw[y1a]at h
  rw[yYc,zHj,List.pairwise_append]
  refine⟨List.pairwise_of_forall_mem_list fun o ho o' ho'=> ?_,zVx h.2,fun o ho o' ho'=> ?_⟩
  ·rw[(qH ho).2,(qH ho').2];exact nG _ _
  ·obtain⟨r',hr',ho'⟩:=yYt.1 ho'
   rw[(qH ho).2,(qH ho').2];exact zUw (h.1 r' hr')
theorem Book.Rep.srt {b:Book} {L:List zD} (h:b.Rep L) {s:Int} (hs:s=1∨s=2):zHj s (u9 L s):=by
 obtain⟨Q,c,ht,rfl⟩:=h
 rw[u9,zNu hs]
 exact zVx (c.srt s hs)
theorem MSt.Rep.wf {s:MSt} {p:Prd} {B:List (List zD)} (h:s.Rep p B) (hb:BOk p B):BWf p B:=by
 refine⟨hb,h.ords,h.ids,fun k L hL=> ?_⟩
 obtain⟨b,hb⟩:=yA (l:=s.books) (i:=k) (by rw[h.bl];exact(yWn.1 hL).1)
 exact fun s hs=>(h.bk k b L hb hL).srt hs
theorem z8s {L:List zD} (h:∀o∈L,zIh o) (hn:(L.map (·.id)).Nodup) (id q:Int):∀o∈(xS L id q).1,zIh o:=by
 intro o ho
 rw[xS]at ho
 split at ho
 ·exact h o ho
 split at ho
 ·exact h o ho
 rename_i hb
 obtain⟨o',ho',e⟩:=yZz.1 ho
 have h0:=h o' ho'
 split at e
 ·rename_i e1
  have hg:=uA hn ho'
  rw[e1]at hg
  rw[hg]at hb
  split at e
  ·cases e
  ·rename_i e2
   cases e
   have:=h0.q
   exact⟨h0.s,by dsimp only;omega⟩
 ·cases e;exact h0
theorem z9w (L:List zD) (id q:Int):(xS L id q).1.length≤L.length:=by
 rw[xS]
 split
 ·exact yXn _
 split
 ·exact yXn _
 exact List.length_filterMap_le _ _
theorem yDb {L:List zD} {s:Int} (h:zHj s (u9 L s)) (id q:Int):zHj s (u9 (xS L id q).1 s):=by
 rw[xS]
 split
 ·exact h
 split
 ·exact h
 have e:u9 (yO L id q) s=yO (u9 L s) id q:=by
  rw[u9,u9,yO,yO,List.filter_filterMap,List.filterMap_filter]
  refine vI fun o _=> ?_
  by_cases e1:o.id=id
  ·rw[yWm e1]
   by_cases e2:o.qty=q
   ·rw[yWm e2];simp
   ·rw[yWl e2];by_cases e3:o.side=s<;>simp[Option.filter,e3]
  ·rw[yWl e1];by_cases e3:o.side=s<;>simp[Option.filter,e3]
 rw[e,yO]
 refine List.Pairwise.filterMap _ (fun a a' haa b hb b' hb'=> ?_) h
 have g:∀{a b:zD},(if a.id=id then(if a.qty=q then none else some {a with qty:=a.qty-q})else some a)=some b→b.price=a.price:=by
  intro a b e
  split at e
  ·split at e
   ·cases e
   ·cases e;rfl
  ·cases e;rfl
 rw[g hb,g hb'];exact haa
theorem yGl {B:List (List zD)} (h:((whL 0 B).map (·.1)).Nodup) {k:Nat} {L L':List zD} (hL:B[k]? =some L) (hs:(L'.map (·.id)).Sublist (L.map (·.id))):((whL 0 (B.set k L')).map (·.1)).Nodup:=by
 have hk:=(yWn.1 hL).1
 obtain⟨rest,hr⟩:=zHt (B:=B) 0 k hk
 have h0:=hr L
 rw[jC hL]at h0
 have h1:=(h0.map (·.1)).nodup_iff.1 h
 refine((hr L').map (·.1)).nodup_iff.2 ?_
 rw[yWw,yYx]at h1 ⊢
 exact h1.sublist (List.Sublist.append hs (List.Sublist.refl _))
theorem BWf.take {p:Prd} {B:List (List zD)} (h:BWf p B) (id q:Int):BWf p (yX B id q).1:=by
 refine⟨h.ok.take id q,?_,?_,?_⟩
 all_goals
  rw[yX]
  cases hi:fF B id with
  |none=>first|exact h.od|exact h.ub|exact h.srt
  |some k=>
   obtain⟨L,hL,hh⟩:=xO hi
   have ho:=h.od k L hL
   dsimp only
   rw[zK hL]
   first
   |(intro j M hM
     rcases uH hM with⟨rfl,rfl⟩|⟨_,hM⟩
     ·refine⟨z8s ho.1 ho.2.1 id q,?_,yYw (z9w L id q) ho.2.2⟩
      rcases zMq ho.2.1 id q with⟨e,_⟩|⟨e,_⟩
      ·rw[e];exact ho.2.1
      ·rw[e];exact ho.2.1.sublist (List.Sublist.map _ yZv)
     ·exact h.od j M hM)
   |(refine yGl h.ub hL ?_
     rcases zMq ho.2.1 id q with⟨e,_⟩|⟨e,_⟩
     ·rw[e];exact List.Sublist.refl _
     ·rw[e];exact List.Sublist.map _ yZv)
   |(intro j M hM s hs
     rcases uH hM with⟨rfl,rfl⟩|⟨_,hM⟩
     ·exact yDb (h.srt _ L hL s hs) id q
     ·exact h.srt j M hM s hs)
theorem BWf.takes {p:Prd}:∀{fs:List vL} {B:List (List zD)},BWf p B→BWf p (y6 B fs)
 |[],B,h=>h
 |f::fs,B,h=>BWf.takes (fs:=fs) (h.take f.id f.qty)
theorem BWf.inst {p:Prd} {B:List (List zD)} (h:BWf p B) {k:Nat} {L:List zD} (hL:B[k]? =some L) {id:Int} (hid:id∈L.map (·.id)):fF B id=some k:=by
 cases hi:fF B id with
 |none=>
  have:=zLi hi L (yWv hL)
  rw[hasId_iff.2 hid]at this;cases this
 |some j=>
  obtain⟨M,hM,hh⟩:=xO hi
  rw[zJw h.ub hM hL (hasId_iff.1 hh) hid]
theorem zDy {s:Int} {F:List zD} (hs:zHj s F) {v:Lv} {vs:List Lv} (h:grp F=v::vs):
 v=zNd v.price (F.filter fun o=>decide (o.price=v.price))∧vs=grp (F.filter fun o=> !decide (o.price=v.price))∧∀o∈F,btr s o.price v.price=false:=by
 obtain⟨o,r,rfl,he⟩:=zCk h
 rw[zHj,y1a]at hs
 have key:∀(r:List zD),(∀x∈r,btr s x.price o.price=false)→zHj s r→r=r.filter (fun x=>decide (x.price=o.price))++r.filter fun x=> !decide (x.price=o.price):=by
  intro r
  induction r with
  |nil=>intro _ _;rfl
  |cons x r ih=>
   intro h1 h2
   rw[zHj,y1a]at h2
   by_cases e:x.price=o.price
   ·rw[yZs (by simpa using e),yZt (by simpa using e),yXx,← ih (fun y hy=>h1 y (yWr _ hy)) h2.2]
   ·have h3:∀y∈r,¬y.price=o.price:=by
     intro y hy e2
     have a:=h2.1 y hy
     have b:=h1 x yWq
     rw[e2]at a
     exact e (z8w a b)
    rw[yZt (by simpa using e),yZs (by simpa using e)]
    have e1:r.filter (fun x=>decide (x.price=o.price))=[]:=by
     rw[y1v];intro y hy;simpa using h3 y hy
    have e2:r.filter (fun x=> !decide (x.price=o.price))=r:=by
     rw[y0p];intro y hy;simpa using h3 y hy
    rw[e1,e2,yYu]
 have hk:=key r hs.1 hs.2
 rw[← he]
 have hf1:(o::r).filter (fun x=>decide (x.price=o.price))=o::r.filter fun x=>decide (x.price=o.price):=yZs (by simp)
 have hf2:(o::r).filter (fun x=> !decide (x.price=o.price))=r.filter fun x=> !decide (x.price=o.price):=yZt (by simp)
 rw[hf1,hf2]
 have hg:grp (o::r)=zNd o.price (o::r.filter fun x=>decide (x.price=o.price))::grp (r.filter fun x=> !decide (x.price=o.price)):=by
  conv=>lhs;rw[hk]
  refine zRw (l:=o::r.filter fun x=>decide (x.price=o.price)) (by simp) (fun x hx=> ?_) (fun x y e=> ?_)
  ·rcases yXd.1 hx with rfl|hx
   ·rfl
   ·simpa using(yXt.1 hx).2
  ·have:x∈r.filter fun x=> !decide (x.price=o.price):=by rw[e];exact yWq
   simpa using(yXt.1 this).2
 rw[h]at hg
 cases hg
 refine⟨rfl,rfl,fun x hx=> ?_⟩
 rcases yXd.1 hx with rfl|hx
 ·exact nG _ _
 ·exact hs.1 x hx
theorem yFi (L:List zD) (s p:Int):atL L s p=(u9 L s).filter fun o=>decide (o.price=p):=by
 rw[atL,u9,List.filter_filter]
 refine List.filter_congr fun o _=> ?_
 exact Bool.and_comm _ _
open Go Cv Go.Proofs
theorem zEo {p:Prd} {B:List (List zD)} (h:BWf p B) {inst:Int} {sd:Bool} {price q:Int} {t:qZ} {B':List (List zD)} (e:jW p B inst sd price q=some (t,B')):BWf p B'∧B'.length=B.length:=by
 rw[jW]at e
 dsimp only at e
 split at e
 ·split at e
  ·cases e;exact⟨h.takes.takes,by rw[qI,qI]⟩
  ·cases e;exact⟨h.takes,by rw[qI]⟩
 ·cases e
theorem bY {p:Prd} {inst:Int} {sd:Bool} {price:Int}:∀(m:Nat) (q:Int) (B:List (List zD)),q.toNat≤m→BWf p B→BWf p (qG p B inst sd price q).B∧(qG p B inst sd price q).B.length=B.length∧(0≤q→0≤(qG p B inst sd price q).left∧(qG p B inst sd price q).left≤q)
 |m,q,B,hm,h=>by
  by_cases hq:q≤0
  ·rw[vV (.inl hq)]
   exact⟨h,rfl,fun x=>⟨x,y2l _⟩⟩
  cases hs:jW p B inst sd price q with
  |none=>
   rw[vV (.inr hs)]
   exact⟨h,rfl,fun x=>⟨x,y2l _⟩⟩
  |some x=>
   obtain⟨t,C⟩:=x
   obtain⟨k1,k2⟩:=zEo h hs
   have hq2:=sB (by omega) hs
   cases m with
   |zero=>omega
   |succ m=>
   obtain⟨i1,i2,i3⟩:=bY (p:=p) (inst:=inst) (sd:=sd) (price:=price) m (q-t.qty) C (by omega) k1
   rw[a8 (by omega) hs]
   exact⟨i1,i2.trans k2,fun _=>⟨(i3 (by omega)).1,by dsimp only;have:=(i3 (by omega)).2;omega⟩⟩
open Go Cv Go.Proofs
@[reducible] def RunI.ok (i:RunI):Prop:=i.s.Rep i.p i.B∧BOk i.p i.B∧(0≤i.inst∧i.inst<i.B.length)∧1≤i.q∧i.q≤1000000
def scouldC:Con:=con1 RunI (fun i=>[.nm 0 0,zA i.inst,zA (zB i.sd),zA i.price,zA i.q]) (fun i=>[zE i.s]) (fun i=>i.ok) (fun i=>zA (i.q-i.r.left)) (fun i=>[zE i.s])
def bR (p:Prd) (B:List (List zD)) (inst:Int) (sd:Bool) (price q:Int):Bool:=
 decide ((qG p B inst sd price q).left≠0) && (qW ⟨p,(qG p B inst sd price q).B.map u7,inst⟩ (zB (!sd))).any fun x=>cA sd price x.price
def stuckC:Con:=con1 RunI (fun i=>[.nm 0 0,zA i.inst,zA (zB i.sd),zA i.price,zA i.q]) (fun i=>[zE i.s]) (fun i=>i.ok) (fun i=>yL (bR i.p i.B i.inst i.sd i.price i.q)) (fun i=>[zE i.s])
def zDx (B:List (List zD)):Nat:=(whL 0 B).length
def countC16:Con:=con1 SoI (fun i=>[.nm 0 0]) (fun i=>[zE i.s]) (fun i=>i.ok) (fun i=>zA (zDx i.B)) (fun i=>[zE i.s])
def fG (p:Prd) (inst price:Int):Int×Int×Int:=
 if(p.legs inst).2.2=false then(0,0,20)else if p.price inst price≠0 then(0,0,p.price inst price)else
 let far:=p.settle.getD (p.legs inst).2.1.toNat 0
 let a:=if p.high<far+price then(p.high,p.high-price)else(far+price,far)
 if a.1<p.low then(p.low,p.low-price,0)else(a.1,a.2,0)
structure LpI where
 p:Prd
 inst:Int
 price:Int
def lpricesC:Con:=con1 LpI (fun i=>[prdV i.p,zA i.inst,zA i.price]) (fun _=>[]) (fun i=>i.p.check=0∧i.p.small∧yV i.price) (fun i=> .tup [zA (fG i.p i.inst i.price).1,zA (fG i.p i.inst i.price).2.1,zA (fG i.p i.inst i.price).2.2]) (fun _=>[])
def ijj (t u:Nat):SAnn:={ι:=Int×Int,slots:=fun n=>[(t,zA n.1),(u,zA n.2)],rows:=fun _=>[]}
def lpJ:List (Nat×SAnn):=[(50,ijj 15 14),(58,ijj 15 14)]
def yPr:List SAnn:=[{ι:=Nat,slots:=fun j=>[(40,zA j)],rows:=fun _=>[]}]
def yMw:List (Nat×SAnn):=[(8,{ι:=Unit,slots:=fun _=>[],rows:=fun _=>[],opn:=[11]})]
open Go Cv Go.Proofs
def gT (a:MSt):Prop:=a.books.length≤1000000∧∀(b:Book),b∈a.books→(b.a.slots.length≤1000000∧b.a.queues.length≤1000000)∧b.buys.length≤1000000∧b.sells.length≤1000000∧b.spare.length≤1000000
def qO (a:RunI):Prop:=a.s.Rep a.p a.B∧BOk a.p a.B∧(0≤a.inst∧a.inst<(↑a.B.length:Int))∧1≤a.q∧a.q≤1000000
def zAe (a:RunI):Prop:=∃(b:MSt),sb b.p.code=sb a.s.p.code∧b.p.tick=a.s.p.tick∧b.p.low=a.s.p.low∧b.p.high=a.s.p.high∧b.p.wide=a.s.p.wide∧b.p.rule=a.s.p.rule∧b.p.top=a.s.p.top∧b.p.least=a.s.p.least∧b.p.part=a.s.p.part∧AObj.objs 184 Book 6 zS b.books none=AObj.objs 184 Book 6 zS a.s.books none∧yU b.wh=yU a.s.wh∧AObj.fro 1 (iE b.p.months)=AObj.fro 1 (iE a.s.p.months)∧AObj.fro 1 (iE b.p.settle)=AObj.fro 1 (iE a.s.p.settle)∧(gT b)∧∀(c:Unit),True→∃(d:RunI),d.inst=a.inst∧zB d.sd=zB a.sd∧d.price=a.price∧d.q=a.q∧zE d.s=zE b∧(qO d)∧∀(e:MSt),e.Rep d.p d.r.B→∃(f:Unit),a.q-a.r.left=IntKind.i64.wrap (a.q-d.r.left)∧zE a.s=zE b∧True
def vY (a:RunI):Prop:=∃(b:Unit),a.q-a.r.left=0∧sb a.s.p.code=sb a.s.p.code∧a.s.p.tick=a.s.p.tick∧a.s.p.low=a.s.p.low∧a.s.p.high=a.s.p.high∧a.s.p.wide=a.s.p.wide∧a.s.p.rule=a.s.p.rule∧a.s.p.top=a.s.p.top∧a.s.p.least=a.s.p.least∧a.s.p.part=a.s.p.part∧AObj.objs 184 Book 6 zS a.s.books none=AObj.objs 184 Book 6 zS a.s.books none∧yU a.s.wh=yU a.s.wh∧AObj.fro 1 (iE a.s.p.months)=AObj.fro 1 (iE a.s.p.months)∧AObj.fro 1 (iE a.s.p.settle)=AObj.fro 1 (iE a.s.p.settle)∧True
def z3f (i:RunI):Prop:=
 cnd (decide (i.inst≥0)) (cnd (decide (i.inst<(↑i.s.books.length:Int))) (cnd (zB i.sd==1) (cnd (decide (i.q≥1)) (cnd (!decide (i.q≤1000000)) (vY i) (zAe i)) (vY i)) (cnd (zB i.sd==2) (cnd (decide (i.q≥1)) (cnd (!decide (i.q≤1000000)) (vY i) (zAe i)) (vY i)) (vY i))) (vY i)) (vY i)
def zTt (i:SoI):Prop:=
 ∃(a:Unit),(↑(zDx i.B):Int)=(↑(yU i.s.wh).length:Int)∧sb i.s.p.code=sb i.s.p.code∧i.s.p.tick=i.s.p.tick∧i.s.p.low=i.s.p.low∧i.s.p.high=i.s.p.high∧i.s.p.wide=i.s.p.wide∧i.s.p.rule=i.s.p.rule∧i.s.p.top=i.s.p.top∧i.s.p.least=i.s.p.least∧i.s.p.part=i.s.p.part∧AObj.objs 184 Book 6 zS i.s.books none=AObj.objs 184 Book 6 zS i.s.books none∧yU i.s.wh=yU i.s.wh∧AObj.fro 1 (iE i.s.p.months)=AObj.fro 1 (iE i.s.p.months)∧AObj.fro 1 (iE i.s.p.settle)=AObj.fro 1 (iE i.s.p.settle)∧True
def dU (a:Int×Int→Prop) (b:Int×Int) (c:LpI):Prop:=a b∧Sx.AObj.cells [V.d (D.v (Value.string (sb c.p.code))),V.own 0,V.d (dI c.p.tick),V.d (dI c.p.low),V.d (dI c.p.high),V.d (dI c.p.wide),V.d (dI c.p.rule),V.d (dI c.p.top),V.d (dI c.p.least),V.d (dI c.p.part),V.own ((0:Nat)+(1:Nat))] 26=Sx.AObj.cells [V.d (D.v (Value.string (sb c.p.code))),V.own 0,V.d (dI c.p.tick),V.d (dI c.p.low),V.d (dI c.p.high),V.d (dI c.p.wide),V.d (dI c.p.rule),V.d (dI c.p.top),V.d (dI c.p.least),V.d (dI c.p.part),V.own ((0:Nat)+(1:Nat))] 26∧AObj.fro 1 (iE c.p.settle)=AObj.fro 1 (iE c.p.settle)∧AObj.fro 1 (iE c.p.months)=AObj.fro 1 (iE c.p.months)
def y3 (a:LpI):=(fG a.p a.inst a.price)
def zUq (i:LpI):Prop:=
 ∃(a:Prd),sb a.code=sb i.p.code∧iE a.months=iE i.p.months∧a.tick=i.p.tick∧a.low=i.p.low∧a.high=i.p.high∧a.wide=i.p.wide∧a.rule=i.p.rule∧a.top=i.p.top∧a.least=i.p.least∧a.part=i.p.part∧iE a.settle=iE i.p.settle∧(z8 a)∧∀(b:Unit),True→cnd (a.check !=0) (∃(c:Unit),(y3 i).fst=0∧(y3 i).snd.fst=0∧(y3 i).snd.snd=1∧True) (∃(c:dZ),sb c.p.code=sb i.p.code∧iE c.p.months=iE i.p.months∧c.p.tick=i.p.tick∧c.p.low=i.p.low∧c.p.high=i.p.high∧c.p.wide=i.p.wide∧c.p.rule=i.p.rule∧c.p.top=i.p.top∧c.p.least=i.p.least∧c.p.part=i.p.part∧iE c.p.settle=iE i.p.settle∧c.n=i.inst∧(kZ c)∧∀(d:Unit),True→cnd (!(c.p.legs c.n).snd.snd) (∃(e:Unit),(y3 i).fst=0∧(y3 i).snd.fst=0∧(y3 i).snd.snd=20∧True) (∃(e:rJ),sb e.p.code=sb i.p.code∧iE e.p.months=iE i.p.months∧e.p.tick=i.p.tick∧e.p.low=i.p.low∧e.p.high=i.p.high∧e.p.wide=i.p.wide∧e.p.rule=i.p.rule∧e.p.top=i.p.top∧e.p.least=i.p.least∧e.p.part=i.p.part∧iE e.p.settle=iE i.p.settle∧e.a=i.inst∧e.b=i.price∧(x7 e)∧∀(f:Unit),True→cnd (e.p.price e.a e.b !=0) (∃(g:Unit),(y3 i).fst=0∧(y3 i).snd.fst=0∧(y3 i).snd.snd=e.p.price e.a e.b∧True) ((0≤(c.p.legs c.n).snd.fst∧(c.p.legs c.n).snd.fst<(↑(iE i.p.settle).length:Int))∧∃(g:Int),zF (iE i.p.settle) (c.p.legs c.n).snd.fst.toNat 0 1=some [dI g]∧∃(h:Int×Int),∃(j:Int×Int→Prop),cnd (decide (IntKind.i64.wrap (g+i.price)>i.p.high)) (∃(k:Int×Int),k.fst=i.p.high∧k.snd=IntKind.i64.wrap (i.p.high-i.price)∧dU j k i) (∃(k:Int×Int),k.fst=IntKind.i64.wrap (g+i.price)∧k.snd=g∧dU j k i)∧∀(k:Int×Int),j k→∃(l:Int×Int),∃(m:Int×Int→Prop),cnd (decide (k.fst<i.p.low)) (∃(n:Int×Int),n.fst=i.p.low∧n.snd=IntKind.i64.wrap (i.p.low-i.price)∧dU m n i) (∃(n:Int×Int),n.fst=k.fst∧n.snd=k.snd∧dU m n i)∧∀(n:Int×Int),m n→∃(p:Unit),(y3 i).fst=n.fst∧(y3 i).snd.fst=n.snd∧(y3 i).snd.snd=0∧True)))
def zAw (a:MSt) (b:MSt):Prop:=sb a.p.code=sb b.p.code∧True∧a.p.tick=b.p.tick∧a.p.low=b.p.low∧a.p.high=b.p.high∧a.p.wide=b.p.wide∧a.p.rule=b.p.rule∧a.p.top=b.p.top∧a.p.least=b.p.least∧a.p.part=b.p.part∧True∧True
def yDq (i:RunI):Prop:=
 ∃(a:MSt),zE a=zE i.s∧(gT a)∧∀(b:Unit),True→∃(c:RunI),c.inst=i.inst∧zB c.sd=zB i.sd∧c.price=i.price∧c.q=i.q∧zE c.s=zE a∧(qO c)∧∀(d:MSt),d.Rep c.p c.r.B→cnd (c.r.left==0) (∃(e:Unit),bR i.p i.B i.inst i.sd i.price i.q=false∧zE i.s=zE a∧True) (∃(e:MSt),sb e.p.code=sb d.p.code∧e.p.tick=d.p.tick∧e.p.low=d.p.low∧e.p.high=d.p.high∧e.p.wide=d.p.wide∧e.p.rule=d.p.rule∧e.p.top=d.p.top∧e.p.least=d.p.least∧e.p.part=d.p.part∧AObj.objs 184 Book 6 zS e.books none=AObj.objs 184 Book 6 zS d.books none∧yU e.wh=yU d.wh∧AObj.fro 1 (iE e.p.months)=AObj.fro 1 (iE d.p.months)∧AObj.fro 1 (iE e.p.settle)=AObj.fro 1 (iE d.p.settle)∧(mW e)∧∀(f:Unit),True→(zAw e d)∧∃(g:Bool),zB g=zB i.sd∧True∧∀(h:Unit),True→(zAw e d)∧∃(j:lG),sb j.i.p.code=sb d.p.code∧iE j.i.p.months=iE e.p.months∧j.i.p.tick=d.p.tick∧j.i.p.low=d.p.low∧j.i.p.high=d.p.high∧j.i.p.wide=d.p.wide∧j.i.p.rule=d.p.rule∧j.i.p.top=d.p.top∧j.i.p.least=d.p.least∧j.i.p.part=d.p.part∧iE j.i.p.settle=iE e.p.settle∧List.map z7 j.i.tops=List.map z7 e.tops∧j.i.inst=i.inst∧zB j.s=zB !g∧(vX j)∧∀(k:Unit),True→∃(l:Nat),(↑l:Int)=0∧∃(m:Nat→Prop),∃(n:Nat→Nat),m l∧∀(p:Nat),m p→cnd (decide ((↑p:Int)<(gY j))) ((0≤(↑p:Int)∧(↑p:Int)<(gY j))∧∃(q:Int),∃(r:Int),∃(s:Int),∃(t:Int),∃(u:Int),∃(v:Int),zF (jN j) (↑p:Int).toNat 0 6=some [dI q,dI r,dI s,dI t,dI u,dI v]∧∃(w:GoI),zB w.s=zB i.sd∧w.p=i.price∧w.x=q∧True∧∀(x:Unit),True→cnd (cA w.s w.p w.x) (∃(y:Unit),bR i.p i.B i.inst i.sd i.price i.q=true∧zE i.s=zE a∧True) (∃(y:Nat),(↑y:Int)=IntKind.i64.wrap ((↑p:Int)+1)∧m y∧n y<n p∧AObj.own 257 6 (jN j)=AObj.own 257 6 (jN j)∧Sx.AObj.cells (jT (cJ 5 (1+((2:Nat)-(1:Nat))+((2:Nat)-(1:Nat))+((5:Nat)-(1:Nat))) ((6:Nat)-(5:Nat)) [((2:Nat),1+((2:Nat)-(1:Nat))+((2:Nat)-(1:Nat))+nat_lit 1),((1:Nat),1+((2:Nat)-(1:Nat))+((2:Nat)-(1:Nat))+nat_lit 0),((4:Nat),1+((2:Nat)-(1:Nat))+((2:Nat)-(1:Nat))+nat_lit 3),((3:Nat),1+((2:Nat)-(1:Nat))+((2:Nat)-(1:Nat))+nat_lit 2),((0:Nat),1+nat_lit 0)]) [sV e.p.code,V.own 3,zA e.p.tick,zA e.p.low,zA e.p.high,zA e.p.wide,zA e.p.rule,zA e.p.top,zA e.p.least,zA e.p.part,V.own 4,V.own 1,V.mp 2]) (182:TypeId)=Sx.AObj.cells (jT (cJ 5 (1+((2:Nat)-(1:Nat))+((2:Nat)-(1:Nat))+((5:Nat)-(1:Nat))) ((6:Nat)-(5:Nat)) [((2:Nat),1+((2:Nat)-(1:Nat))+((2:Nat)-(1:Nat))+nat_lit 1),((1:Nat),1+((2:Nat)-(1:Nat))+((2:Nat)-(1:Nat))+nat_lit 0),((4:Nat),1+((2:Nat)-(1:Nat))+((2:Nat)-(1:Nat))+nat_lit 3),((3:Nat),1+((2:Nat)-(1:Nat))+((2:Nat)-(1:Nat))+nat_lit 2),((0:Nat),1+nat_lit 0)]) [sV e.p.code,V.own 3,zA e.p.tick,zA e.p.low,zA e.p.high,zA e.p.wide,zA e.p.rule,zA e.p.top,zA e.p.least,zA e.p.part,V.own 4,V.own 1,V.mp 2]) (182:TypeId)∧AObj.objs 184 Book 6 zS e.books none=AObj.objs 184 Book 6 zS e.books none∧Sx.AObj.map (yU e.wh)=Sx.AObj.map (yU e.wh)∧AObj.fro 1 (iE e.p.months)=AObj.fro 1 (iE e.p.months)∧AObj.fro 1 (iE e.p.settle)=AObj.fro 1 (iE e.p.settle)∧AObj.fro 6 (List.map z7 e.tops)=AObj.fro 6 (List.map z7 e.tops)∧AObj.fro 1 (iE d.p.months)=AObj.fro 1 (iE d.p.months)∧AObj.fro 1 (iE d.p.settle)=AObj.fro 1 (iE d.p.settle)∧AObj.own 260 4 (List.map jZ c.r.steps)=AObj.own 260 4 (List.map jZ c.r.steps)∧zE a=zE a)) (∃(q:Unit),bR i.p i.B i.inst i.sd i.price i.q=false∧zE i.s=zE a∧True))
open Go Cv Go.Proofs
theorem MSt.Rep.small {s:MSt} {p:Prd} {B:List (List zD)} (h:s.Rep p B) (hb:BOk p B):s.small:=by
 have:=xV p
 refine⟨by rw[h.bl,hb.bl];omega,fun b hm=> ?_⟩
 obtain⟨k,hk⟩:=yYi.1 hm
 have hlt:=(yWn.1 hk).1
 rw[h.bl]at hlt
 obtain⟨L,hL⟩:=yA hlt
 obtain⟨Q,c,_⟩:=h.bk k b L hk hL
 exact c.small
theorem yKb (i:RunI) (h:scouldC.cnd i):z3f i:=by
 have h':i.ok:=h
 obtain⟨hR,hB,⟨h0,h1⟩,hq1,hq2⟩:=h'
 have hbl:=hR.bl
 have hl:=(bY (inst:=i.inst) (sd:=i.sd) (price:=i.price) _ i.q i.B (yXn _) (hR.wf hB)).2.2 (by omega)
 have er:i.r=qG i.p i.B i.inst i.sd i.price i.q:=rfl
 unfold z3f vY zAe qO gT
 refine(fun hT=>zJ (fun c=>zJ (fun c2=>Cv.cnd.mk (fun _=>zJ (fun _=>Cv.cnd.mk (fun e=>absurd hq2 (by simpa using e)) (fun _=>hT)) (fun e=>absurd hq1 e)) (fun e1=>Cv.cnd.mk (fun _=>zJ (fun _=>Cv.cnd.mk (fun e=>absurd hq2 (by simpa using e)) (fun _=>hT)) (fun e=>absurd hq1 e)) (fun e2=>by
  rcases cN i.sd with e|e
  ·rw[e]at e1;cases e1
  ·rw[e]at e2;cases e2))) (fun c2=>absurd (by omega) c2)) (fun c=>absurd h0 c)) ?_
 refine⟨i.s,rfl,rfl,rfl,rfl,rfl,rfl,rfl,rfl,rfl,rfl,rfl,rfl,rfl,hR.small hB,fun _ _=>⟨i,rfl,rfl,rfl,rfl,rfl,h,fun o ho=>⟨(),?_,rfl,trivial⟩⟩⟩
 rw[w64 (by rw[er];omega)]
theorem z6g:scouldC.ok Tryz.prog 110:=okw mixed (gokc zDh (gokc z0q gok0)) 2 (fun _=>[]) (fun _=>[]) [0] Tryz.func110 yKb
theorem yAc (i:SoI) (h:countC16.cnd i):zTt i:=by
 obtain⟨hR,hB⟩:i.s.Rep i.p i.B∧i.B.length≤1000:=h
 unfold zTt
 have e:(yU i.s.wh).length=zDx i.B:=by rw[yU,yWo,hR.wh.length_eq,zDx]
 exact⟨(),by rw[e],by(repeat'(first|exact trivial|exact rfl|apply And.intro))⟩
theorem zJq:countC16.ok Tryz.prog 56:=okw mixed gok0 0 (fun _=>[]) (fun _=>[]) [0] Tryz.func56 yAc
theorem zJr {p:Prd} {i n:Int} (h:p.price i n=0):0≤i∧i<p.count:=by
 rw[Prd.price]at h
 split at h
 ·cases h
 split at h
 ·cases h
 omega
theorem z8v (i:LpI) (h:lpricesC.cnd i):zUq i:=by
 obtain⟨hc,hp,hpr⟩:i.p.check=0∧i.p.small∧yV i.price:=h
 unfold zUq dU y3 z8 kZ x7 dI
 refine⟨i.p,rfl,rfl,rfl,rfl,rfl,rfl,rfl,rfl,rfl,rfl,rfl,hp,fun _ _=>Cv.cnd.mk (fun e=>by rw[hc]at e;cases e) (fun _=> ?_)⟩
 refine⟨⟨i.p,i.inst⟩,rfl,rfl,rfl,rfl,rfl,rfl,rfl,rfl,rfl,rfl,rfl,rfl,hp,fun _ _=>Cv.cnd.mk (fun e=> ?_) (fun e=> ?_)⟩
 ·have e:(i.p.legs i.inst).2.2=false:=by simpa using e
  have h0:fG i.p i.inst i.price=(0,0,20):=by rw[fG,yWm e]
  rw[h0];exact⟨(),rfl,rfl,rfl,trivial⟩
 have e:(i.p.legs i.inst).2.2=true:=by simpa using e
 refine⟨⟨i.p,i.inst,i.price⟩,rfl,rfl,rfl,rfl,rfl,rfl,rfl,rfl,rfl,rfl,rfl,rfl,rfl,hp,fun _ _=>Cv.cnd.mk (fun e2=> ?_) (fun e2=> ?_)⟩
 ·have e2:¬i.p.price i.inst i.price=0:=by simpa using e2
  have h0:fG i.p i.inst i.price=(0,0,i.p.price i.inst i.price):=by rw[fG,yWl (by rw[e];decide),yWm e2]
  rw[h0];exact⟨(),rfl,rfl,rfl,trivial⟩
 have e2:i.p.price i.inst i.price=0:=by simpa using e2
 have hin:=zJr e2
 have hbd:=zDk hc e2
 have ok:=kP hc
 have b1:=ok.b1
 have b2:=ok.b2
 have b3:=ok.b3
 have s1:=ok.s1
 have s2:=ok.s2
 have s3:=ok.s3
 obtain⟨k,hk⟩:∃k:Nat,i.inst=k:=⟨i.inst.toNat,by omega⟩
 have hl:=wC hc (k:=k) (by omega)
 rw[← hk]at hl
 rcases hl with⟨_,_,_,l3,l4⟩|⟨x,_⟩
 rotate_left
 ·rw[e]at x;cases x
 have hsl:(iE i.p.settle).length=i.p.settle.length:=y5 _
 obtain⟨n,hn⟩:=yA (l:=i.p.settle) (i:=(i.p.legs i.inst).2.1.toNat) (by omega)
 have hm:=yWv hn
 have m1:=z2z hm
 have m2:=z4v hm
 have hg:i.p.settle.getD (i.p.legs i.inst).2.1.toNat 0=n:=zK hn
 have h0:fG i.p i.inst i.price=(if(if i.p.high<n+i.price then(i.p.high,i.p.high-i.price)else(n+i.price,n)).1<i.p.low then(i.p.low,i.p.low-i.price,0)else((if i.p.high<n+i.price then(i.p.high,i.p.high-i.price)else(n+i.price,n)).1,(if i.p.high<n+i.price then(i.p.high,i.p.high-i.price)else(n+i.price,n)).2,0)):=by
  rw[fG,yWl (by rw[e];decide),yWl (by rw[e2];decide)]
  dsimp only
  rw[hg]
 dsimp only
 refine⟨⟨l3,by omega⟩,n,elI hn,(0,0),fun a=>a=if i.p.high<n+i.price then(i.p.high,i.p.high-i.price)else(n+i.price,n),zJ (fun c=>⟨(i.p.high,i.p.high-i.price),rfl,(w64 (by omega)).symm,?_,by(repeat'(first|exact trivial|exact rfl|apply And.intro))⟩) (fun c=>⟨(n+i.price,n),(w64 (by omega)).symm,rfl,?_,by(repeat'(first|exact trivial|exact rfl|apply And.intro))⟩),?_⟩
 ·rw[w64 (by omega)]at c;rw[yWm c]
 ·rw[w64 (by omega)]at c;rw[yWl c]
 rintro _ rfl
 generalize (if i.p.high<n+i.price then(i.p.high,i.p.high-i.price)else(n+i.price,n))=a at h0 ⊢
 refine⟨(0,0),fun b=>b=if a.1<i.p.low then(i.p.low,i.p.low-i.price)else a,zJ (fun c=>⟨(i.p.low,i.p.low-i.price),rfl,(w64 (by omega)).symm,by rw[yWm c],by(repeat'(first|exact trivial|exact rfl|apply And.intro))⟩) (fun c=>⟨a,rfl,rfl,by rw[yWl c],by(repeat'(first|exact trivial|exact rfl|apply And.intro))⟩),?_⟩
 rintro _ rfl
 rw[h0]
 by_cases c:a.1<i.p.low
 ·rw[yWm c,yWm c];exact⟨(),rfl,rfl,rfl,trivial⟩
 ·rw[yWl c,yWl c];exact⟨(),rfl,rfl,rfl,trivial⟩
theorem zYm:lpricesC.ok Tryz.prog 222:=okw mixed (gokc zBj (gokc tU (gokc sR gok0))) 0 (fun _=>lpJ) (fun _=>[]) [] Tryz.func222 z8v
theorem yGx {l:List Quote} {k:Nat} {q:Quote} (h:l[k]? =some q):zF (l.map zL) k 0 6=some [D.v (.int .i64 q.price),D.v (.int .i64 q.qty),D.v (.int .i64 q.a.inst),D.v (.int .i64 q.a.side),D.v (.int .i64 q.b.inst),D.v (.int .i64 q.b.side)]:=elA h (by simp[zL]) rfl
theorem yQc (i:RunI) (h:stuckC.cnd i):yDq i:=by
 have h':i.ok:=h
 obtain⟨hR,hB,⟨h0,h1⟩,hq1,hq2⟩:=h'
 have hwf:=hR.wf hB
 obtain⟨k1,k2,k3⟩:=bY (inst:=i.inst) (sd:=i.sd) (price:=i.price) _ i.q i.B (yXn _) hwf
 have hcl:=xV i.p
 unfold yDq zAw qO gT gY jN vX fZ mW dI
 refine⟨i.s,rfl,hR.small hB,fun _ _=>⟨i,rfl,rfl,rfl,rfl,rfl,h,fun o ho=> ?_⟩⟩
 have er:i.r=qG i.p i.B i.inst i.sd i.price i.q:=rfl
 have es:bR i.p i.B i.inst i.sd i.price i.q=(decide ((qG i.p i.B i.inst i.sd i.price i.q).left≠0) && (qW ⟨i.p,(qG i.p i.B i.inst i.sd i.price i.q).B.map u7,i.inst⟩ (zB (!i.sd))).any fun x=>cA i.sd i.price x.price):=rfl
 rw[er]at ho ⊢
 rw[es]
 generalize qG i.p i.B i.inst i.sd i.price i.q=R at*
 obtain⟨ts,lf,RB⟩:=R
 dsimp only at*
 refine Cv.cnd.mk (fun e=>⟨(),?_,rfl,trivial⟩) (fun e=> ?_)
 ·have e:lf=0:=by simpa using e
  rw[e];rfl
 have e:lf≠0:=by simpa using e
 rw[yXf e,yZd]
 have ep:=ho.ep
 have hB':=k1.ok
 have hbl:=hB'.bl
 have hcnt:o.cntOk:=ho.cnt (by omega)
 have hps:o.p.small:=by rw[ep];exact hB'.ps
 have hto:vP (RB.map u7):=hB'.tops
 have hle:=zLz ⟨o.p,RB.map u7,i.inst⟩ (zB (!i.sd))
 refine⟨o,rfl,rfl,rfl,rfl,rfl,rfl,rfl,rfl,rfl,rfl,rfl,rfl,rfl,hcnt,fun _ _=>⟨⟨rfl,trivial,rfl,rfl,rfl,rfl,rfl,rfl,rfl,rfl,trivial,trivial⟩,i.sd,rfl,trivial,fun _ _=>⟨⟨rfl,trivial,rfl,rfl,rfl,rfl,rfl,rfl,rfl,rfl,trivial,trivial⟩,⟨⟨o.p,RB.map u7,i.inst⟩,!i.sd⟩,rfl,rfl,rfl,rfl,rfl,rfl,rfl,rfl,rfl,rfl,rfl,by rw[ho.tops],rfl,rfl,⟨hps,hto⟩,fun _ _=> ?_⟩⟩⟩
 dsimp only
 rw[← ep]
 generalize qW ⟨o.p,RB.map u7,i.inst⟩ (zB (!i.sd))=Q at*
 have e4:(Q.map zL).length=Q.length:=yWo ..
 refine⟨0,rfl,fun j=>j≤Q.length∧(Q.take j).any (fun x=>cA i.sd i.price x.price)=false,fun j=>Q.length-j,⟨yYe _,rfl⟩,?_⟩
 rintro j ⟨j1,j2⟩
 refine zJ (fun c=> ?_) (fun c=>⟨(),?_,rfl,trivial⟩)
 ·obtain⟨q,hq⟩:=yA (l:=Q) (i:=j) (by omega)
  refine⟨⟨by omega,by omega⟩,_,_,_,_,_,_,yGx hq,⟨i.sd,i.price,q.price⟩,rfl,rfl,rfl,trivial,fun _ _=>Cv.cnd.mk (fun g=>⟨(),?_,rfl,trivial⟩) (fun g=>⟨j+1,wjn (by omega),⟨by omega,?_⟩,by dsimp only;omega,by(repeat'(first|exact trivial|exact rfl|apply And.intro))⟩)⟩
  ·rw[List.any_eq_true];exact⟨q,yWv hq,g⟩
  ·rw[yYm,hq,List.any_append,j2]
   show(false||([q].any fun x=>cA i.sd i.price x.price))=false
   simp only[List.any_cons,List.any_nil,Bool.or_false,y2i]
   exact g
 ·have:j=Q.length:=by omega
  rw[this,yXg (yXn _)]at j2
  exact j2
theorem zWg:stuckC.ok Tryz.prog 111:=okw mixed (gokc zDh (gokc z0q (gokc zWa (gokc yCb (gokc zPe (gokc zVb gok0)))))) 0 (fun _=>yMw) (fun _=>yPr) [] Tryz.func111 yQc
open Go Cv Go.Proofs
def cE (c:Cmd) (why:Int):List Rep:=[⟨2,c.id,0,0,0,0,0,why⟩]
def ofF (x:qZ) (k:Int):Int:=match x.fills.find? fun f=>decide (f.inst=k)with
 |some f=>f.price
 |none=>x.price
def qM (p:Prd) (inst:Int) (x:qZ):Int×Int:=if x.implied=false then((fG p inst x.price).1,(fG p inst x.price).2.1)else(ofF x (p.legs inst).1,ofF x (p.legs inst).2.1)
def tT (p:Prd) (r:Rep) (near far:Int):List Rep:=[{r with inst:=(p.legs r.inst).1,price:=near},{r with inst:=(p.legs r.inst).2.1,side:=3-r.side,price:=far}]
def kQ (p:Prd) (x:qZ) (r:Rep):List Rep:=r::if(p.legs r.inst).2.2=true then tT p r (qM p r.inst x).1 (qM p r.inst x).2 else[]
def fS (f:vL):Rep:=⟨3,f.id,f.inst,f.side,f.price,f.qty,f.left,0⟩
def fV (p:Prd) (c:Cmd) (x:qZ) (left:Int):List Rep:=x.fills.flatMap (fun f=>kQ p x (fS f))++kQ p x ⟨3,c.id,c.inst,c.side,x.price,x.qty,left,0⟩
def j6 (p:Prd) (c:Cmd):List qZ→Int→List Rep
 |[],_=>[]
 |x::l,left=>fV p c x (left-x.qty)++j6 p c l (left-x.qty)
structure MkX where
 B:List (List zD)
 U:List Int
 R:List Rep
def zDg (U:List Int) (id:Int):List Int:=if id∈U then U else U++[id]
def wI (p:Prd) (B:List (List zD)) (U:List Int) (c:Cmd):MkX:=match qG p B c.inst (decide (c.side=2)) c.price c.qty with
 |⟨ts,left,B'⟩=>⟨if left≠0∧c.time=1 then(zCx p B' c.inst c.id c.side c.price left).1 else B',zDg U c.id,
  (⟨1,c.id,c.inst,c.side,c.price,c.qty,c.qty,0⟩::j6 p c ts c.qty)++if left≠0∧c.time≠1 then[⟨4,c.id,c.inst,c.side,c.price,left,0,0⟩]else[]⟩
def Cmd.lst (c:Cmd):Int:=if c.time=3 then c.qty else c.least
def cF (p:Prd) (B:List (List zD)) (U:List Int) (c:Cmd):MkX:=
 if p.price c.inst c.price≠0 then⟨B,U,cE c (p.price c.inst c.price)⟩
 else if c.id∈U then⟨B,U,cE c 25⟩
 else if 250≤zDx B then⟨B,U,cE c 13⟩
 else if 0<c.lst∧c.qty-(qG p B c.inst (decide (c.side=2)) c.price c.qty).left<c.lst then⟨B,U,cE c 28⟩
 else if c.time=1∧bR p B c.inst (decide (c.side=2)) c.price c.qty=true then⟨B,U,cE c 23⟩
 else wI p B U c
def kT (B:List (List zD)) (U:List Int) (id inst:Int) (o:zD):MkX:=⟨(yX B id o.qty).1,U,[⟨4,id,inst,o.side,o.price,o.qty,0,0⟩]⟩
def vF (B:List (List zD)) (U:List Int) (id q inst:Int) (o:zD):MkX:=⟨(yX B id q).1,U,[⟨5,id,inst,o.side,o.price,q,o.qty-q,0⟩]⟩
def vT (p:Prd) (B:List (List zD)) (U:List Int) (c:Cmd) (inst:Int) (o:zD):MkX:=
 if p.price inst c.price≠0 then⟨B,U,cE c (p.price inst c.price)⟩
 else if c.price=o.price∧c.qty≤o.qty then vF B U c.id (o.qty-c.qty) inst o
 else if bR p (yX B c.id o.qty).1 inst (decide (o.side=2)) c.price c.qty=true then⟨B,U,cE c 23⟩
 else
  let x:=kT B U c.id inst o
  let y:=wI p x.B U ⟨1,c.id,inst,o.side,c.price,c.qty,0,1,[]⟩
  ⟨y.B,y.U,x.R++y.R⟩
def doF (p:Prd) (B:List (List zD)) (U:List Int) (c:Cmd):MkX:=
 if c.right≠0 then⟨B,U,cE c c.right⟩
 else if c.kind=1 then cF p B U c
 else if(zI B c.id).2.2=false then⟨B,U,cE c 26⟩
 else if c.kind=4 then vT p B U c (zI B c.id).1 (zI B c.id).2.1
 else if c.kind=2∨(zI B c.id).2.1.qty≤c.qty then kT B U c.id (zI B c.id).1 (zI B c.id).2.1
 else vF B U c.id c.qty (zI B c.id).1 (zI B c.id).2.1
structure Mkt.Rep (m:Mkt) (p:Prd) (B:List (List zD)) (U:List Int):Prop where
 ep:m.p=p
 s:m.s.Rep p B
 u:m.used=U
@[reducible] def zBo (m:Mkt):List AObj:=[yP m 0,yP m 1,yP m 2,yP m 3,yP m 4]
@[reducible] def yLs (x:qZ):V:= .agg [zA x.price,zA x.qty,yL x.implied,roV 6 (x.fills.map yT)]
@[reducible] def tRp:Nat:=40
@[reducible] def zZn (l:List Rep):AObj:= .own tRp 8 (l.map xN)
structure RjI where
 c:Cmd
 why:Int
def rejC:Con:=con1 RjI (fun i=>[zCy i.c,zA i.why]) (fun _=>[]) (fun _=>True) (fun _=> .own 0) (fun i=>[zZn (cE i.c i.why)])
structure MsI where
 m:Mkt
 r:Rep
 near:Int
 far:Int
@[reducible] def Mkt.fine (m:Mkt):Prop:=m.p.check=0∧m.p.small
def mspreadC:Con:=con1 MsI (fun i=>[.nm 0 0,yWd i.r,zA i.near,zA i.far]) (fun i=>zBo i.m) (fun i=>i.m.fine∧(i.r.side=1∨i.r.side=2)) (fun _=> .own 5) (fun i=>zBo i.m++[zZn (tT i.m.p i.r i.near i.far)])
structure MiN where
 m:Mkt
 inst:Int
def misC:Con:=con1 MiN (fun i=>[.nm 0 0,zA i.inst]) (fun i=>zBo i.m) (fun i=>i.m.fine) (fun i=>yL (i.m.p.legs i.inst).2.2) (fun i=>zBo i.m)
structure OfI where
 x:qZ
 k:Int
@[reducible] def zTo (x:qZ) (n:Nat):List AObj:=[.cells [zA x.price,zA x.qty,yL x.implied,.own n] 260,.fro 6 (x.fills.map yT)]
def ofC:Con:=con1 OfI (fun i=>[zA i.k,.nm 0 0]) (fun i=>zTo i.x 1) (fun i=>i.x.fills.length≤1000000) (fun i=>zA (ofF i.x i.k)) (fun i=>zTo i.x 1)
def ofA:List SAnn:=[{ι:=Nat,slots:=fun j=>[(9,zA j)],rows:=fun _=>[]}]
structure MpI where
 m:Mkt
 inst:Int
 x:qZ
def mpricesC:Con:=con1 MpI (fun i=>[.nm 0 0,zA i.inst,yLs i.x]) (fun i=>zBo i.m) (fun i=>i.m.fine∧yV i.x.price∧i.x.fills.length≤1000000) (fun i=> .tup [zA (qM i.m.p i.inst i.x).1,zA (qM i.m.p i.inst i.x).2]) (fun i=>zBo i.m)
structure StI' where
 m:Mkt
 c:Cmd
 x:qZ
 left:Int
def StI'.out (i:StI') (j:Nat):List Rep:=(i.x.fills.take j).flatMap fun f=>kQ i.m.p i.x (fS f)
def mstepC:Con:=con1 StI' (fun i=>[.nm 0 0,zCy i.c,yLs i.x,zA i.left]) (fun i=>zBo i.m) (fun i=>i.m.fine∧yV i.x.price∧i.x.fills.length≤1000000∧(i.c.side=1∨i.c.side=2)∧∀f∈i.x.fills,f.side=1∨f.side=2) (fun _=> .own 5) (fun i=>zBo i.m++[zZn (fV i.m.p i.c i.x i.left)])
def yNs (i:StI'):List SAnn:=[{ι:=Nat,slots:=fun j=>[(9,.nm 0 0),(17,zA j)],rows:=fun j=>[.cells [.own 1] 61,zZn (i.out j)]}]
open Go Cv Go.Proofs
def yVt (i:RjI):Prop:=
 ∃(o:Unit),[xN (Rep.mk 2 i.c.id 0 0 0 0 0 i.why)]=[[D.v (.int .i64 2),D.v (.int .i64 i.c.id),D.v (.int .i64 0),D.v (.int .i64 0),D.v (.int .i64 0),D.v (.int .i64 0),D.v (.int .i64 0),D.v (.int .i64 i.why)]]∧True
def uG (a:MsI):Prop:=a.r.kind=a.r.kind∧a.r.id=a.r.id∧a.r.inst=a.r.inst∧a.r.side=a.r.side∧a.r.price=a.r.price∧a.r.qty=a.r.qty∧a.r.left=a.r.left∧a.r.why=a.r.why∧True
def fL (a:MsI):=(Rep.mk a.r.kind a.r.id (a.m.p.legs a.r.inst).snd.fst (3-a.r.side) a.far a.r.qty a.r.left a.r.why)
def fC (a:MsI):=(Rep.mk a.r.kind a.r.id (a.m.p.legs a.r.inst).fst a.r.side a.near a.r.qty a.r.left a.r.why)
def sF (a:MsI) (b:dZ):Prop:=(uG a)∧(uG a)∧(uG a)∧(uG a)∧(uG a)∧a.r.side=a.r.side∧∃(c:Unit),sb a.m.p.code=sb a.m.p.code∧a.m.p.tick=a.m.p.tick∧a.m.p.low=a.m.p.low∧a.m.p.high=a.m.p.high∧a.m.p.wide=a.m.p.wide∧a.m.p.rule=a.m.p.rule∧a.m.p.top=a.m.p.top∧a.m.p.least=a.m.p.least∧a.m.p.part=a.m.p.part∧zE a.m.s=yP a.m 1∧zX a.m.used=zX a.m.used∧AObj.fro 1 (iE a.m.p.months)=yP a.m 3∧AObj.fro 1 (iE a.m.p.settle)=yP a.m 4∧[xN (fC a),xN (fL a)]=[[dI a.r.kind,dI a.r.id,dI ((b.p.legs b.n).fst),dI a.r.side,dI a.near,dI a.r.qty,dI a.r.left,dI a.r.why],[dI a.r.kind,dI a.r.id,dI (wW b),dI (IntKind.i64.wrap (3-a.r.side)),dI a.far,dI a.r.qty,dI a.r.left,dI a.r.why]]∧True
def zXh (i:MsI):Prop:=
 ∃(a:dZ),sb a.p.code=sb i.m.p.code∧iE a.p.months=iE i.m.p.months∧a.p.tick=i.m.p.tick∧a.p.low=i.m.p.low∧a.p.high=i.m.p.high∧a.p.wide=i.m.p.wide∧a.p.rule=i.m.p.rule∧a.p.top=i.m.p.top∧a.p.least=i.m.p.least∧a.p.part=i.m.p.part∧iE a.p.settle=iE i.m.p.settle∧a.n=i.r.inst∧(kZ a)∧∀(b:Unit),True→(sF i a)∧sF i a
def yVz (i:MiN):Prop:=
 ∃(i_1:dZ),sb i_1.p.code=sb i.m.p.code∧iE i_1.p.months=iE i.m.p.months∧i_1.p.tick=i.m.p.tick∧i_1.p.low=i.m.p.low∧i_1.p.high=i.m.p.high∧i_1.p.wide=i.m.p.wide∧i_1.p.rule=i.m.p.rule∧i_1.p.top=i.m.p.top∧i_1.p.least=i.m.p.least∧i_1.p.part=i.m.p.part∧iE i_1.p.settle=iE i.m.p.settle∧i_1.n=i.inst∧(i_1.p.code.length≤1099511627776∧i_1.p.months.length≤1099511627776∧i_1.p.settle.length≤1099511627776)∧∀(o:Unit),True→∃(o:Unit),(i.m.p.legs i.inst).snd.snd=(i_1.p.legs i_1.n).snd.snd∧sb i.m.p.code=sb i.m.p.code∧i.m.p.tick=i.m.p.tick∧i.m.p.low=i.m.p.low∧i.m.p.high=i.m.p.high∧i.m.p.wide=i.m.p.wide∧i.m.p.rule=i.m.p.rule∧i.m.p.top=i.m.p.top∧i.m.p.least=i.m.p.least∧i.m.p.part=i.m.p.part∧zE i.m.s=yP i.m 1∧zX i.m.used=zX i.m.used∧AObj.fro 1 (iE i.m.p.months)=yP i.m 3∧AObj.fro 1 (iE i.m.p.settle)=yP i.m 4∧True
def zSe (a:OfI):Prop:=a.x.price=a.x.price∧a.x.qty=a.x.qty∧a.x.implied=a.x.implied∧AObj.fro 6 (List.map yT a.x.fills)=AObj.fro 6 (List.map yT a.x.fills)∧True
def Vof (i:OfI):Prop:=
 ∃(a:Nat),(↑a:Int)=0∧∃(b:Nat→Prop),∃(c:Nat→Nat),b a∧∀(d:Nat),b d→cnd (decide ((↑d:Int)<(↑(List.map yT i.x.fills).length:Int))) ((0≤(↑d:Int)∧(↑d:Int)<(↑(List.map yT i.x.fills).length:Int))∧∃(e:Int),∃(f:Int),∃(g:Int),∃(h:Int),∃(j:Int),∃(k:Int),zF (List.map yT i.x.fills) (↑d:Int).toNat 0 6=some [dI e,dI f,dI g,dI h,dI j,dI k]∧cnd (f==i.k) (∃(l:Unit),ofF i.x i.k=h∧zSe i) (∃(l:Nat),(↑l:Int)=IntKind.i64.wrap ((↑d:Int)+1)∧b l∧c l<c d∧Sx.AObj.cells [zA i.x.price,zA i.x.qty,yL i.x.implied,V.own 1] (260:TypeId)=Sx.AObj.cells [zA i.x.price,zA i.x.qty,yL i.x.implied,V.own 1] (260:TypeId)∧AObj.fro 6 (List.map yT i.x.fills)=AObj.fro 6 (List.map yT i.x.fills))) (∃(e:Unit),ofF i.x i.k=i.x.price∧zSe i)
def pO (a:MpI):Prop:=sb a.m.p.code=sb a.m.p.code∧a.m.p.tick=a.m.p.tick∧a.m.p.low=a.m.p.low∧a.m.p.high=a.m.p.high∧a.m.p.wide=a.m.p.wide∧a.m.p.rule=a.m.p.rule∧a.m.p.top=a.m.p.top∧a.m.p.least=a.m.p.least∧a.m.p.part=a.m.p.part∧zE a.m.s=yP a.m 1∧zX a.m.used=zX a.m.used∧AObj.fro 1 (iE a.m.p.months)=yP a.m 3∧AObj.fro 1 (iE a.m.p.settle)=yP a.m 4∧True
def qN (a:MpI):=(qM a.m.p a.inst a.x)
def zUt (i:MpI):Prop:=
 cnd (!i.x.implied) (∃(a:LpI),sb a.p.code=sb i.m.p.code∧iE a.p.months=iE i.m.p.months∧a.p.tick=i.m.p.tick∧a.p.low=i.m.p.low∧a.p.high=i.m.p.high∧a.p.wide=i.m.p.wide∧a.p.rule=i.m.p.rule∧a.p.top=i.m.p.top∧a.p.least=i.m.p.least∧a.p.part=i.m.p.part∧iE a.p.settle=iE i.m.p.settle∧a.inst=i.inst∧a.price=i.x.price∧(a.p.check=0∧(a.p.code.length≤1099511627776∧a.p.months.length≤1099511627776∧a.p.settle.length≤1099511627776)∧(-9223372036854775808)≤a.price∧a.price≤9223372036854775807)∧∀(b:Unit),True→∃(c:Unit),(qN i).fst=(y3 a).fst∧(qN i).snd=(y3 a).snd.fst∧pO i) (∃(a:dZ),sb a.p.code=sb i.m.p.code∧iE a.p.months=iE i.m.p.months∧a.p.tick=i.m.p.tick∧a.p.low=i.m.p.low∧a.p.high=i.m.p.high∧a.p.wide=i.m.p.wide∧a.p.rule=i.m.p.rule∧a.p.top=i.m.p.top∧a.p.least=i.m.p.least∧a.p.part=i.m.p.part∧iE a.p.settle=iE i.m.p.settle∧a.n=i.inst∧(kZ a)∧∀(b:Unit),True→∃(c:OfI),c.k=(a.p.legs a.n).fst∧c.x.price=i.x.price∧c.x.qty=i.x.qty∧c.x.implied=i.x.implied∧AObj.fro 6 (List.map yT c.x.fills)=AObj.fro 6 (List.map yT i.x.fills)∧c.x.fills.length≤1000000∧∀(d:Unit),True→∃(e:OfI),e.k=(a.p.legs a.n).snd.fst∧e.x.price=c.x.price∧e.x.qty=c.x.qty∧e.x.implied=c.x.implied∧AObj.fro 6 (List.map yT e.x.fills)=AObj.fro 6 (List.map yT c.x.fills)∧e.x.fills.length≤1000000∧∀(f:Unit),True→∃(g:Unit),(qN i).fst=ofF c.x c.k∧(qN i).snd=ofF e.x e.k∧pO i)
def lM (a:MpI):Prop:=(a.m.p.check=0∧a.m.p.code.length≤1099511627776∧a.m.p.months.length≤1099511627776∧a.m.p.settle.length≤1099511627776)∧((-9223372036854775808)≤a.x.price∧a.x.price≤9223372036854775807)∧a.x.fills.length≤1000000
def zAf (a:MsI):Prop:=(a.m.p.check=0∧a.m.p.code.length≤1099511627776∧a.m.p.months.length≤1099511627776∧a.m.p.settle.length≤1099511627776)∧(a.r.side=1∨a.r.side=2)
def lN (a:MiN):Prop:=a.m.p.check=0∧a.m.p.code.length≤1099511627776∧a.m.p.months.length≤1099511627776∧a.m.p.settle.length≤1099511627776
def b8 (a:StI'):=(D.v (Value.string (sb a.c.label)))
def yAa (i:StI'):Prop:=
 ∃(a:Nat),(↑a:Int)=0∧List.map xN (i.out a)=[]∧∃(b:Nat→Prop),∃(c:Nat→Nat),b a∧∀(d:Nat),b d→cnd (decide ((↑d:Int)<(↑(List.map yT i.x.fills).length:Int))) ((0≤(↑d:Int)∧(↑d:Int)<(↑(List.map yT i.x.fills).length:Int))∧∃(e:Int),∃(f:Int),∃(g:Int),∃(h:Int),∃(j:Int),∃(k:Int),zF (List.map yT i.x.fills) (↑d:Int).toNat 0 6=some [dI e,dI f,dI g,dI h,dI j,dI k]∧((List.map xN (i.out d)).length+1)*(64:Nat)≤(70368744177664:Nat)∧∃(l:MiN),l.inst=f∧sb l.m.p.code=sb i.m.p.code∧l.m.p.tick=i.m.p.tick∧l.m.p.low=i.m.p.low∧l.m.p.high=i.m.p.high∧l.m.p.wide=i.m.p.wide∧l.m.p.rule=i.m.p.rule∧l.m.p.top=i.m.p.top∧l.m.p.least=i.m.p.least∧l.m.p.part=i.m.p.part∧zE l.m.s=yP i.m 1∧zX l.m.used=zX i.m.used∧AObj.fro 1 (iE l.m.p.months)=yP i.m 3∧AObj.fro 1 (iE l.m.p.settle)=yP i.m 4∧(lN l)∧∀(m:Unit),True→cnd (l.m.p.legs l.inst).snd.snd (∃(n:MpI),n.inst=f∧n.x.price=i.x.price∧n.x.qty=i.x.qty∧n.x.implied=i.x.implied∧List.map yT n.x.fills=List.map yT i.x.fills∧sb n.m.p.code=sb l.m.p.code∧n.m.p.tick=l.m.p.tick∧n.m.p.low=l.m.p.low∧n.m.p.high=l.m.p.high∧n.m.p.wide=l.m.p.wide∧n.m.p.rule=l.m.p.rule∧n.m.p.top=l.m.p.top∧n.m.p.least=l.m.p.least∧n.m.p.part=l.m.p.part∧zE n.m.s=zE l.m.s∧zX n.m.used=zX l.m.used∧AObj.fro 1 (iE n.m.p.months)=AObj.fro 1 (iE l.m.p.months)∧AObj.fro 1 (iE n.m.p.settle)=AObj.fro 1 (iE l.m.p.settle)∧(lM n)∧∀(p:Unit),True→∃(q:MsI),q.r.kind=3∧q.r.id=e∧q.r.inst=f∧q.r.side=g∧q.r.price=h∧q.r.qty=j∧q.r.left=k∧q.r.why=0∧q.near=(qN n).fst∧q.far=(qN n).snd∧sb q.m.p.code=sb n.m.p.code∧q.m.p.tick=n.m.p.tick∧q.m.p.low=n.m.p.low∧q.m.p.high=n.m.p.high∧q.m.p.wide=n.m.p.wide∧q.m.p.rule=n.m.p.rule∧q.m.p.top=n.m.p.top∧q.m.p.least=n.m.p.least∧q.m.p.part=n.m.p.part∧zE q.m.s=zE n.m.s∧zX q.m.used=zX n.m.used∧AObj.fro 1 (iE q.m.p.months)=AObj.fro 1 (iE n.m.p.months)∧AObj.fro 1 (iE q.m.p.settle)=AObj.fro 1 (iE n.m.p.settle)∧(zAf q)∧∀(r:Unit),True→True∧((List.map xN (i.out d)++[[dI 3,dI e,dI f,dI g,dI h,dI j,dI k,dI 0]]).length+2)*(64:Nat)≤(70368744177664:Nat)∧∃(s:Nat),(↑s:Int)=IntKind.i64.wrap ((↑d:Int)+1)∧List.map xN (i.out s)=List.map xN (i.out d)++[[dI 3,dI e,dI f,dI g,dI h,dI j,dI k,dI 0]]++[xN (fC q),xN (fL q)]∧b s∧c s<c d∧Sx.AObj.cells [V.d (dI i.x.price),V.d (dI i.x.qty),V.d (D.v (.bool i.x.implied)),V.own ((5:Nat)+(1:Nat)+1)] 260=Sx.AObj.cells [V.d (dI i.x.price),V.d (dI i.x.qty),V.d (D.v (.bool i.x.implied)),V.own ((5:Nat)+(1:Nat)+1)] 260∧AObj.fro 6 (List.map yT i.x.fills)=AObj.fro 6 (List.map yT i.x.fills)∧Sx.AObj.cells [V.d (dI i.c.kind),V.d (dI i.c.id),V.d (dI i.c.inst),V.d (dI i.c.side),V.d (dI i.c.price),V.d (dI i.c.qty),V.d (dI i.c.least),V.d (dI i.c.time),V.d (b8 i)] 36=Sx.AObj.cells [V.d (dI i.c.kind),V.d (dI i.c.id),V.d (dI i.c.inst),V.d (dI i.c.side),V.d (dI i.c.price),V.d (dI i.c.qty),V.d (dI i.c.least),V.d (dI i.c.time),V.d (b8 i)] 36∧Sx.AObj.cells [V.nm 0 0] 53=Sx.AObj.cells [V.nm 0 0] 53∧Sx.AObj.cells (jT (cJ 5 ((5:Nat)+(1:Nat)+(1:Nat)+(1:Nat)+(1:Nat)+(1:Nat)+(1:Nat)+(2:Nat)+(1:Nat)+(1:Nat)+(1:Nat)+(1:Nat)+((5:Nat)-(5:Nat))+((5:Nat)-(5:Nat))) ((6:Nat)-(5:Nat)) [((2:Nat),(2:Nat)),((1:Nat),(1:Nat)),((4:Nat),(4:Nat)),((3:Nat),(3:Nat)),((0:Nat),(0:Nat))]) [sV q.m.p.code,V.own 3,zA q.m.p.tick,zA q.m.p.low,zA q.m.p.high,zA q.m.p.wide,zA q.m.p.rule,zA q.m.p.top,zA q.m.p.least,zA q.m.p.part,V.own 4,V.nm 1 0,V.mp 2]) (121:TypeId)=yP i.m 0∧zE q.m.s=yP i.m 1∧Sx.AObj.map (zX q.m.used)=yP i.m 2∧AObj.fro 1 (iE q.m.p.months)=yP i.m 3∧AObj.fro 1 (iE q.m.p.settle)=yP i.m 4) (∃(n:Nat),(↑n:Int)=IntKind.i64.wrap ((↑d:Int)+1)∧List.map xN (i.out n)=List.map xN (i.out d)++[[dI 3,dI e,dI f,dI g,dI h,dI j,dI k,dI 0]]∧b n∧c n<c d∧Sx.AObj.cells [V.d (dI i.x.price),V.d (dI i.x.qty),V.d (D.v (.bool i.x.implied)),V.own ((5:Nat)+(1:Nat)+1)] 260=Sx.AObj.cells [V.d (dI i.x.price),V.d (dI i.x.qty),V.d (D.v (.bool i.x.implied)),V.own ((5:Nat)+(1:Nat)+1)] 260∧AObj.fro 6 (List.map yT i.x.fills)=AObj.fro 6 (List.map yT i.x.fills)∧Sx.AObj.cells [V.d (dI i.c.kind),V.d (dI i.c.id),V.d (dI i.c.inst),V.d (dI i.c.side),V.d (dI i.c.price),V.d (dI i.c.qty),V.d (dI i.c.least),V.d (dI i.c.time),V.d (b8 i)] 36=Sx.AObj.cells [V.d (dI i.c.kind),V.d (dI i.c.id),V.d (dI i.c.inst),V.d (dI i.c.side),V.d (dI i.c.price),V.d (dI i.c.qty),V.d (dI i.c.least),V.d (dI i.c.time),V.d (b8 i)] 36∧Sx.AObj.cells [V.nm 0 0] 53=Sx.AObj.cells [V.nm 0 0] 53∧Sx.AObj.cells (jT (cJ 5 ((5:Nat)+(1:Nat)+(1:Nat)+(1:Nat)+(1:Nat)+(1:Nat)+(1:Nat)+(2:Nat)+(1:Nat)+(1:Nat)+(1:Nat)+(1:Nat)) ((5:Nat)-(5:Nat)) [((2:Nat),(2:Nat)),((1:Nat),(1:Nat)),((4:Nat),(4:Nat)),((3:Nat),(3:Nat)),((0:Nat),(0:Nat))]) [sV l.m.p.code,V.own 3,zA l.m.p.tick,zA l.m.p.low,zA l.m.p.high,zA l.m.p.wide,zA l.m.p.rule,zA l.m.p.top,zA l.m.p.least,zA l.m.p.part,V.own 4,V.nm 1 0,V.mp 2]) (121:TypeId)=yP i.m 0∧zE l.m.s=yP i.m 1∧Sx.AObj.map (zX l.m.used)=yP i.m 2∧AObj.fro 1 (iE l.m.p.months)=yP i.m 3∧AObj.fro 1 (iE l.m.p.settle)=yP i.m 4)) (((List.map xN (i.out d)).length+1)*(64:Nat)≤(70368744177664:Nat)∧∃(e:MiN),e.inst=i.c.inst∧sb e.m.p.code=sb i.m.p.code∧e.m.p.tick=i.m.p.tick∧e.m.p.low=i.m.p.low∧e.m.p.high=i.m.p.high∧e.m.p.wide=i.m.p.wide∧e.m.p.rule=i.m.p.rule∧e.m.p.top=i.m.p.top∧e.m.p.least=i.m.p.least∧e.m.p.part=i.m.p.part∧zE e.m.s=yP i.m 1∧zX e.m.used=zX i.m.used∧AObj.fro 1 (iE e.m.p.months)=yP i.m 3∧AObj.fro 1 (iE e.m.p.settle)=yP i.m 4∧(lN e)∧∀(f:Unit),True→cnd (e.m.p.legs e.inst).snd.snd (∃(g:MpI),g.inst=i.c.inst∧g.x.price=i.x.price∧g.x.qty=i.x.qty∧g.x.implied=i.x.implied∧List.map yT g.x.fills=List.map yT i.x.fills∧sb g.m.p.code=sb e.m.p.code∧g.m.p.tick=e.m.p.tick∧g.m.p.low=e.m.p.low∧g.m.p.high=e.m.p.high∧g.m.p.wide=e.m.p.wide∧g.m.p.rule=e.m.p.rule∧g.m.p.top=e.m.p.top∧g.m.p.least=e.m.p.least∧g.m.p.part=e.m.p.part∧zE g.m.s=zE e.m.s∧zX g.m.used=zX e.m.used∧AObj.fro 1 (iE g.m.p.months)=AObj.fro 1 (iE e.m.p.months)∧AObj.fro 1 (iE g.m.p.settle)=AObj.fro 1 (iE e.m.p.settle)∧(lM g)∧∀(h:Unit),True→∃(j:MsI),j.r.kind=3∧j.r.id=i.c.id∧j.r.inst=i.c.inst∧j.r.side=i.c.side∧j.r.price=i.x.price∧j.r.qty=i.x.qty∧j.r.left=i.left∧j.r.why=0∧j.near=(qN g).fst∧j.far=(qN g).snd∧sb j.m.p.code=sb g.m.p.code∧j.m.p.tick=g.m.p.tick∧j.m.p.low=g.m.p.low∧j.m.p.high=g.m.p.high∧j.m.p.wide=g.m.p.wide∧j.m.p.rule=g.m.p.rule∧j.m.p.top=g.m.p.top∧j.m.p.least=g.m.p.least∧j.m.p.part=g.m.p.part∧zE j.m.s=zE g.m.s∧zX j.m.used=zX g.m.used∧AObj.fro 1 (iE j.m.p.months)=AObj.fro 1 (iE g.m.p.months)∧AObj.fro 1 (iE j.m.p.settle)=AObj.fro 1 (iE g.m.p.settle)∧(zAf j)∧∀(k:Unit),True→True∧((List.map xN (i.out d)++[[dI 3,dI i.c.id,dI i.c.inst,dI i.c.side,dI i.x.price,dI i.x.qty,dI i.left,dI 0]]).length+2)*(64:Nat)≤(70368744177664:Nat)∧∃(l:Unit),sb i.m.p.code=sb j.m.p.code∧i.m.p.tick=j.m.p.tick∧i.m.p.low=j.m.p.low∧i.m.p.high=j.m.p.high∧i.m.p.wide=j.m.p.wide∧i.m.p.rule=j.m.p.rule∧i.m.p.top=j.m.p.top∧i.m.p.least=j.m.p.least∧i.m.p.part=j.m.p.part∧zE i.m.s=zE j.m.s∧zX i.m.used=zX j.m.used∧AObj.fro 1 (iE i.m.p.months)=AObj.fro 1 (iE j.m.p.months)∧AObj.fro 1 (iE i.m.p.settle)=AObj.fro 1 (iE j.m.p.settle)∧List.map xN (fV i.m.p i.c i.x i.left)=List.map xN (i.out d)++[[dI 3,dI i.c.id,dI i.c.inst,dI i.c.side,dI i.x.price,dI i.x.qty,dI i.left,dI 0]]++[xN (fC j),xN (fL j)]∧True) (∃(g:Unit),sb i.m.p.code=sb e.m.p.code∧i.m.p.tick=e.m.p.tick∧i.m.p.low=e.m.p.low∧i.m.p.high=e.m.p.high∧i.m.p.wide=e.m.p.wide∧i.m.p.rule=e.m.p.rule∧i.m.p.top=e.m.p.top∧i.m.p.least=e.m.p.least∧i.m.p.part=e.m.p.part∧zE i.m.s=zE e.m.s∧zX i.m.used=zX e.m.used∧AObj.fro 1 (iE i.m.p.months)=AObj.fro 1 (iE e.m.p.months)∧AObj.fro 1 (iE i.m.p.settle)=AObj.fro 1 (iE e.m.p.settle)∧List.map xN (fV i.m.p i.c i.x i.left)=List.map xN (i.out d)++[[dI 3,dI i.c.id,dI i.c.inst,dI i.c.side,dI i.x.price,dI i.x.qty,dI i.left,dI 0]]∧True))
open Go Cv Go.Proofs
theorem z0e:rejC.ok Tryz.prog 58:=okw (V:=yVt) mixed gok0 0 (fun _=>[]) (fun _=>[]) [] Tryz.func58 fun(i:RjI) _=>⟨(),rfl,trivial⟩
theorem yAt (i:MsI) (h:mspreadC.cnd i):zXh i:=by
 obtain⟨⟨hc,hp⟩,hs⟩:i.m.fine∧(i.r.side=1∨i.r.side=2):=h
 have hw:IntKind.i64.wrap (3-i.r.side)=3-i.r.side:=w64 (by omega)
 unfold zXh sF fC fL uG wW kZ dI
 rw[hw]
 refine⟨⟨i.m.p,i.r.inst⟩,rfl,rfl,rfl,rfl,rfl,rfl,rfl,rfl,rfl,rfl,rfl,rfl,hp,fun _ _=> ?_⟩
 exact kp
theorem zYd:mspreadC.ok Tryz.prog 193:=okw mixed (gokc tU gok0) 0 (fun _=>[]) (fun _=>[]) [] Tryz.func193 yAt
theorem yPc:misC.ok Tryz.prog 191:=okw (V:=yVz) mixed (gokc tU gok0) 0 (fun _=>[]) (fun _=>[]) [] Tryz.func191 fun(i:MiN) h=>by
 obtain⟨hc,hp⟩:i.m.fine:=h
 exact⟨⟨i.m.p,i.inst⟩,rfl,rfl,rfl,rfl,rfl,rfl,rfl,rfl,rfl,rfl,rfl,rfl,hp,fun _ _=>kp⟩
theorem ySy {l:List vL} {k:Nat} {f:vL} (h:l[k]? =some f):zF (l.map yT) k 0 6=some [D.v (.int .i64 f.id),D.v (.int .i64 f.inst),D.v (.int .i64 f.side),D.v (.int .i64 f.price),D.v (.int .i64 f.qty),D.v (.int .i64 f.left)]:=elA h (by simp[yT]) rfl
theorem vof (i:OfI) (h:ofC.cnd i):Vof i:=by
 have hl:i.x.fills.length≤1000000:=h
 have e4:(i.x.fills.map yT).length=i.x.fills.length:=yWo ..
 unfold Vof zSe dI
 refine⟨0,rfl,fun j=>j≤i.x.fills.length∧(i.x.fills.take j).find? (fun f=>decide (f.inst=i.k))=none,fun j=>i.x.fills.length-j,⟨yYe _,rfl⟩,?_⟩
 rintro j ⟨j1,j2⟩
 refine zJ (fun c=> ?_) (fun c=> ?_)
 ·obtain⟨f,hf⟩:=yA (l:=i.x.fills) (i:=j) (by omega)
  refine⟨⟨by omega,by omega⟩,_,_,_,_,_,_,ySy hf,Cv.cnd.mk (fun g=>⟨(),?_,by(repeat'(first|exact trivial|exact rfl|apply And.intro))⟩) (fun g=>⟨j+1,wjn (by omega),⟨by omega,?_⟩,by dsimp only;omega,by(repeat'(first|exact trivial|exact rfl|apply And.intro))⟩)⟩
  ·have g:f.inst=i.k:=by simpa using g
   have e:i.x.fills.find? (fun f=>decide (f.inst=i.k))=some f:=by
    rw[← yZc j i.x.fills,List.find?_append,j2,yZb (by omega),(yWn.1 hf).2,List.find?_cons_of_pos (by simpa using g)]
    rfl
   rw[ofF,e]
  ·have g:¬f.inst=i.k:=by simpa using g
   rw[yYm,hf,List.find?_append,j2]
   simp[g]
 ·have:j=i.x.fills.length:=by omega
  rw[this,yXg (yXn _)]at j2
  exact⟨(),by rw[ofF,j2],by(repeat'(first|exact trivial|exact rfl|apply And.intro))⟩
theorem ySf:ofC.ok Tryz.prog 223:=okw mixed gok0 0 (fun _=>[]) (fun _=>ofA) [] Tryz.func223 vof
theorem yCm (i:MpI) (h:mpricesC.cnd i):zUt i:=by
 obtain⟨⟨hc,hp⟩,hpr,hl⟩:i.m.fine∧yV i.x.price∧i.x.fills.length≤1000000:=h
 unfold zUt qN pO y3 kZ
 refine Cv.cnd.mk (fun e=> ?_) (fun e=> ?_)
 ·have e:i.x.implied=false:=by simpa using e
  have h0:qM i.m.p i.inst i.x=((fG i.m.p i.inst i.x.price).1,(fG i.m.p i.inst i.x.price).2.1):=by rw[qM,yWm e]
  rw[h0]
  exact⟨⟨i.m.p,i.inst,i.x.price⟩,rfl,rfl,rfl,rfl,rfl,rfl,rfl,rfl,rfl,rfl,rfl,rfl,rfl,⟨hc,hp,hpr⟩,fun _ _=>kp⟩
 ·have e:¬i.x.implied=false:=by simpa using e
  have h0:qM i.m.p i.inst i.x=(ofF i.x (i.m.p.legs i.inst).1,ofF i.x (i.m.p.legs i.inst).2.1):=by rw[qM,yWl e]
  rw[h0]
  exact⟨⟨i.m.p,i.inst⟩,rfl,rfl,rfl,rfl,rfl,rfl,rfl,rfl,rfl,rfl,rfl,rfl,hp,fun _ _=>⟨⟨i.x,(i.m.p.legs i.inst).1⟩,rfl,rfl,rfl,rfl,rfl,hl,fun _ _=>⟨⟨i.x,(i.m.p.legs i.inst).2.1⟩,rfl,rfl,rfl,rfl,rfl,hl,fun _ _=>kp⟩⟩⟩
theorem zYs:mpricesC.ok Tryz.prog 192:=okw mixed (gokc tU (gokc zYm (gokc ySf gok0))) 0 (fun _=>[]) (fun _=>[]) [] Tryz.func192 yCm
theorem zIg (p:Prd) (x:qZ) (r:Rep):(kQ p x r).length≤3:=by
 rw[kQ,yXa]
 split
 ·rw[tT];simp
 ·simp
theorem z1p {p:Prd} {x:qZ} {r:Rep} (h:(p.legs r.inst).2.2=false):kQ p x r=[r]:=by
 rw[kQ,yWl (by rw[h];decide)]
theorem zVv {p:Prd} {x:qZ} {r:Rep} (h:(p.legs r.inst).2.2=true):kQ p x r=r::tT p r (qM p r.inst x).1 (qM p r.inst x).2:=by
 rw[kQ,yWm h]
theorem StI'.out_len (i:StI'):∀j,(i.out j).length≤3*j
 |0=>yXn _
 |j+1=>by
  have ih:=StI'.out_len i j
  rw[StI'.out]at ih ⊢
  rw[yYm,yYh,yWs]
  cases e:i.x.fills[j]? with
  |none=>simp only[Option.toList_none,y1t,yZe];omega
  |some f=>
   have:=zIg i.m.p i.x (fS f)
   simp only[y0z,yYc,y1t,yXk]
   omega
theorem StI'.out_succ (i:StI') {j:Nat} {f:vL} (h:i.x.fills[j]? =some f):i.out (j+1)=i.out j++kQ i.m.p i.x (fS f):=by
 rw[StI'.out,StI'.out,yYm,yYh,h]
 simp
theorem yOr (i:StI') (h:mstepC.cnd i):yAa i:=by
 obtain⟨hf,hpr,hl,hcs,hfs⟩:i.m.fine∧yV i.x.price∧i.x.fills.length≤1000000∧(i.c.side=1∨i.c.side=2)∧∀f∈i.x.fills,f.side=1∨f.side=2:=h
 have e4:(i.x.fills.map yT).length=i.x.fills.length:=yWo ..
 unfold yAa b8 lN zAf lM fC fL qN dI
 refine⟨0,rfl,rfl,fun j=>j≤i.x.fills.length,fun j=>i.x.fills.length-j,yYe _,?_⟩
 intro j hj
 have ho:=i.out_len j
 have e5:((i.out j).map xN).length=(i.out j).length:=yWo ..
 refine zJ (fun c=> ?_) (fun c=> ?_)
 ·obtain⟨f,hfj⟩:=yA (l:=i.x.fills) (i:=j) (by omega)
  have hos:=i.out_succ hfj
  have hfj2:=hfs f (yWv hfj)
  refine⟨⟨by omega,by omega⟩,_,_,_,_,_,_,ySy hfj,by omega,⟨i.m,f.inst⟩,rfl,rfl,rfl,rfl,rfl,rfl,rfl,rfl,rfl,rfl,rfl,rfl,rfl,rfl,hf,fun _ _=>Cv.cnd.mk (fun e=> ?_) (fun e=> ?_)⟩
  ·have e:(i.m.p.legs (fS f).inst).2.2=true:=e
   rw[zVv e]at hos
   refine⟨⟨i.m,f.inst,i.x⟩,rfl,rfl,rfl,rfl,rfl,rfl,rfl,rfl,rfl,rfl,rfl,rfl,rfl,rfl,rfl,rfl,rfl,rfl,⟨hf,hpr,hl⟩,fun _ _=>⟨⟨i.m,fS f,(qM i.m.p f.inst i.x).1,(qM i.m.p f.inst i.x).2⟩,rfl,rfl,rfl,rfl,rfl,rfl,rfl,rfl,rfl,rfl,rfl,rfl,rfl,rfl,rfl,rfl,rfl,rfl,rfl,rfl,rfl,rfl,rfl,⟨hf,hfj2⟩,fun _ _=>⟨trivial,by rw[yWs,e5];simp only[yXa,yZe];omega,j+1,wjn (by omega),?_,by omega,by dsimp only;omega,by(repeat'(first|exact trivial|exact rfl|apply And.intro))⟩⟩⟩
   rw[hos,yWw,yWx]
   rfl
  ·have e:(i.m.p.legs (fS f).inst).2.2=false:=e
   rw[z1p e]at hos
   refine⟨j+1,wjn (by omega),?_,by omega,by dsimp only;omega,by(repeat'(first|exact trivial|exact rfl|apply And.intro))⟩
   rw[hos,yWw];rfl
 ·have hj:j=i.x.fills.length:=by omega
  have ho2:i.x.fills.flatMap (fun f=>kQ i.m.p i.x (fS f))=i.out j:=by rw[StI'.out,hj,yXg (yXn _)]
  have hR:fV i.m.p i.c i.x i.left=i.out j++kQ i.m.p i.x ⟨3,i.c.id,i.c.inst,i.c.side,i.x.price,i.x.qty,i.left,0⟩:=by rw[fV,ho2]
  refine⟨by omega,⟨i.m,i.c.inst⟩,rfl,rfl,rfl,rfl,rfl,rfl,rfl,rfl,rfl,rfl,rfl,rfl,rfl,rfl,hf,fun _ _=>Cv.cnd.mk (fun e=> ?_) (fun e=> ?_)⟩
  ·have e:(i.m.p.legs (⟨3,i.c.id,i.c.inst,i.c.side,i.x.price,i.x.qty,i.left,0⟩:Rep).inst).2.2=true:=e
   rw[zVv e]at hR
   refine⟨⟨i.m,i.c.inst,i.x⟩,rfl,rfl,rfl,rfl,rfl,rfl,rfl,rfl,rfl,rfl,rfl,rfl,rfl,rfl,rfl,rfl,rfl,rfl,⟨hf,hpr,hl⟩,fun _ _=>⟨⟨i.m,⟨3,i.c.id,i.c.inst,i.c.side,i.x.price,i.x.qty,i.left,0⟩,(qM i.m.p i.c.inst i.x).1,(qM i.m.p i.c.inst i.x).2⟩,rfl,rfl,rfl,rfl,rfl,rfl,rfl,rfl,rfl,rfl,rfl,rfl,rfl,rfl,rfl,rfl,rfl,rfl,rfl,rfl,rfl,rfl,rfl,⟨hf,hcs⟩,fun _ _=>⟨trivial,by rw[yWs,e5];simp only[yXa,yZe];omega,?_⟩⟩⟩
   rw[hR,yWw,yWx]
   exact kp
  ·have e:(i.m.p.legs (⟨3,i.c.id,i.c.inst,i.c.side,i.x.price,i.x.qty,i.left,0⟩:Rep).inst).2.2=false:=e
   rw[z1p e]at hR
   rw[hR,yWw]
   exact kp
theorem yCy:mstepC.ok Tryz.prog 155:=okw mixed (gokc yPc (gokc zYs (gokc zYd gok0))) 1 (fun _=>[]) (fun i=>yNs i) [] Tryz.func155 yOr
open Go Cv Go.Proofs
structure EnI where
 m:Mkt
 p:Prd
 B:List (List zD)
 U:List Int
 c:Cmd
 X:MkX
@[reducible] def EnI.std (i:EnI):Prop:=i.m.Rep i.p i.B i.U∧BOk i.p i.B
@[reducible] def EnI.good (i:EnI):Prop:=(0≤i.c.inst∧i.c.inst<i.B.length)∧(1≤i.c.qty∧i.c.qty≤1000000)∧(i.c.side=1∨i.c.side=2)
@[reducible] def zXj (X:MkX) (p:Prd):Alt:={o:=Mkt,res:=fun _=> .own 5,post:=fun o=>zBo o++[zZn X.R],rel:=fun o=>o.Rep p X.B X.U}
def enterC:Con where
 ι:=EnI
 pat:=fun i=>[.nm 0 0,zCy i.c]
 pre:=fun i=>zBo i.m
 cnd:=fun i=>i.std∧i.good∧i.p.price i.c.inst i.c.price=0∧i.X=wI i.p i.B i.U i.c
 alts:=fun i=>[zXj i.X i.p]
structure EnJ where
 left:Int
 k:Nat
 out:List Rep
def yPt (i:EnI):List SAnn:=[{ι:=EnJ,slots:=fun j=>[(5,.own 0),(8,zA j.left),(51,zA j.k)],rows:=fun j=>[zZn j.out]}]
def orderC:Con where
 ι:=EnI
 pat:=fun i=>[.nm 0 0,zCy i.c]
 pre:=fun i=>zBo i.m
 cnd:=fun i=>i.std∧i.c.right=0∧i.c.kind=1∧i.X=cF i.p i.B i.U i.c
 alts:=fun i=>[zXj i.X i.p]
def yOj:List (Nat×SAnn):=[(22,ij 6),(44,bj 47),(52,bj 69)]
structure CaI where
 m:Mkt
 p:Prd
 B:List (List zD)
 U:List Int
 id:Int
 q:Int
 inst:Int
 o:zD
 X:MkX
@[reducible] def CaI.std (i:CaI):Prop:=i.m.Rep i.p i.B i.U∧BOk i.p i.B
def cancelC:Con where
 ι:=CaI
 pat:=fun i=>[.nm 0 0,zA i.id,zA i.inst,zQj i.o]
 pre:=fun i=>zBo i.m
 cnd:=fun i=>i.std∧i.X=kT i.B i.U i.id i.inst i.o
 alts:=fun i=>[zXj i.X i.p]
def reduceC:Con where
 ι:=CaI
 pat:=fun i=>[.nm 0 0,zA i.id,zA i.q,zA i.inst,zQj i.o]
 pre:=fun i=>zBo i.m
 cnd:=fun i=>i.std∧yV (i.o.qty-i.q)∧i.X=vF i.B i.U i.id i.q i.inst i.o
 alts:=fun i=>[zXj i.X i.p]
structure z7q where
 m:Mkt
 p:Prd
 B:List (List zD)
 U:List Int
 c:Cmd
 inst:Int
 o:zD
 X:MkX
def replaceC:Con where
 ι:=z7q
 pat:=fun i=>[.nm 0 0,zCy i.c,zA i.inst,zQj i.o]
 pre:=fun i=>zBo i.m
 cnd:=fun i=>i.m.Rep i.p i.B i.U∧BOk i.p i.B∧zI i.B i.c.id=(i.inst,i.o,true)∧(1≤i.c.qty∧i.c.qty≤1000000)∧i.X=vT i.p i.B i.U i.c i.inst i.o
 alts:=fun i=>[zXj i.X i.p]
def doC:Con where
 ι:=EnI
 pat:=fun i=>[.nm 0 0,zCy i.c]
 pre:=fun i=>[qC i.m]
 cnd:=fun i=>i.std∧i.c.label.length≤140737488355328∧yV i.c.qty∧i.X=doF i.p i.B i.U i.c
 alts:=fun i=>[{o:=Mkt,res:=fun _=> .own 1,post:=fun o=>[qC o,zZn i.X.R],rel:=fun o=>o.Rep i.p i.X.B i.X.U}]
structure MfI where
 m:Mkt
 p:Prd
 B:List (List zD)
 U:List Int
 id:Int
def mfindC:Con:=con1 MfI (fun i=>[.nm 0 0,zA i.id]) (fun i=>[qC i.m]) (fun i=>i.m.Rep i.p i.B i.U∧BOk i.p i.B) (fun i=> .tup [zA (zI i.B i.id).1,zQj (zI i.B i.id).2.1,yL (zI i.B i.id).2.2]) (fun i=>[qC i.m])
def mcountC:Con:=con1 MfI (fun i=>[.nm 0 0]) (fun i=>[qC i.m]) (fun i=>i.m.Rep i.p i.B i.U∧BOk i.p i.B) (fun i=>zA (zDx i.B)) (fun i=>[qC i.m])
end Sx
