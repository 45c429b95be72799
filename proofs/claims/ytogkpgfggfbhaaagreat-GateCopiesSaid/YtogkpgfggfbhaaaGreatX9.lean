/- Texts of ours, one behind the other: a walk that the kernel reckons, and contracts of functions. No condition. -/
import Derived.Test.YtogkpgfggfbhaaaGreatX8
namespace Sx
set_option linter.unusedVariables false
set_option maxRecDepth 100000
open Go Cv Go.Proofs
def zHe (a:zJy→Nat) (b:zJy) (c:zJy) (d:RunI):Prop:=a b<a c∧AObj.fro 1 (iE d.s.p.months)=AObj.fro 1 (iE d.s.p.months)∧AObj.fro 1 (iE d.s.p.settle)=AObj.fro 1 (iE d.s.p.settle)
def zBi (a:TrI):Prop:=a.s.Rep a.p a.B∧BOk a.p a.B∧0≤a.inst∧a.inst<(↑a.B.length:Int)∧(-9223372036854775808)≤a.q∧a.q≤9223372036854775807
def zHc (a:RunI) (b:zJy) (c:NxI):Prop:=∃(d:MSt),a.r.left=b.q∧zD d=zD c.s∧List.map jL a.r.steps=List.map jL b.steps∧d.Rep a.p a.r.B
def rF (a:TrI):=(List.map yR (uT a))
def zXp (a:RunI):Prop:=∃(b:zJy),b.q=a.q∧sb b.s.p.code=sb a.s.p.code∧b.s.p.tick=a.s.p.tick∧b.s.p.low=a.s.p.low∧b.s.p.high=a.s.p.high∧b.s.p.wide=a.s.p.wide∧b.s.p.rule=a.s.p.rule∧b.s.p.top=a.s.p.top∧b.s.p.least=a.s.p.least∧b.s.p.part=a.s.p.part∧AObj.objs 184 Book 6 zQ b.s.books none=AObj.objs 184 Book 6 zQ a.s.books none∧yS b.s.wh=yS a.s.wh∧AObj.fro 1 (iE b.s.p.months)=AObj.fro 1 (iE a.s.p.months)∧AObj.fro 1 (iE b.s.p.settle)=AObj.fro 1 (iE a.s.p.settle)∧List.map jL b.steps=[]∧∃(c:zJy→Prop),∃(d:zJy→Nat),c b∧∀(e:zJy),c e→cnd (decide (e.q>0)) (∃(f:Bool),zC f=zC a.sd∧True∧∀(g:Unit),True→∃(h:NxI),h.inst=a.inst∧zC h.sd=zC !f∧zD h.s=zD e.s∧(h.s.Rep h.p h.B∧BOk h.p h.B∧0≤h.inst∧h.inst<(↑h.B.length:Int))∧∀(j:Unit),True→cnd (!(zX h).snd.snd) (zHc a e h) (∃(k:GoI),zC k.s=zC a.sd∧k.p=a.price∧k.x=(zX h).fst.price∧True∧∀(l:Unit),True→cnd (!dB k.s k.p k.x) (zHc a e h) (cnd (zX h).snd.fst (∃(m:TrI),m.inst=(zX h).fst.a.inst∧zC m.sd=(zX h).fst.a.side∧m.q=min e.q (zX h).fst.qty∧zD m.s=zD h.s∧(zBi m)∧∀(n:MSt),n.Rep m.p (g7 m)→True∧(rF m).length*(48:Nat)≤(70368744177664:Nat)∧∃(p:TrI),p.inst=(zX h).fst.b.inst∧zC p.sd=(zX h).fst.b.side∧p.q=min e.q (zX h).fst.qty∧zD p.s=zD n∧(zBi p)∧∀(q:MSt),q.Rep p.p (g7 p)→True∧((rF m).length+(rF p).length)*(48:Nat)≤(70368744177664:Nat)∧((List.map jL e.steps).length+1)*(48:Nat)≤(70368744177664:Nat)∧∃(r:zJy),r.q=IntKind.i64.wrap (e.q-min e.q (zX h).fst.qty)∧zD r.s=zD q∧List.map jL r.steps=List.map jL e.steps++[[dI ((zX h).fst.price),dI (min e.q (zX h).fst.qty),D.v (.bool (zX h).snd.fst),D.ro 6 (List.map yR (uT m)++List.map yR (uT p))]]∧c r∧zHe d r e a) (∃(m:Bool),zC m=zC a.sd∧True∧∀(n:Unit),True→min e.q (zX h).fst.qty=min e.q (zX h).fst.qty∧∃(p:TrI),p.inst=a.inst∧zC p.sd=zC !m∧p.q=min e.q (zX h).fst.qty∧zD p.s=zD h.s∧(zBi p)∧∀(q:MSt),q.Rep p.p (g7 p)→((List.map jL e.steps).length+1)*(48:Nat)≤(70368744177664:Nat)∧∃(r:zJy),r.q=IntKind.i64.wrap (e.q-min e.q (zX h).fst.qty)∧zD r.s=zD q∧List.map jL r.steps=List.map jL e.steps++[[dI ((zX h).fst.price),dI (min e.q (zX h).fst.qty),D.v (.bool (zX h).snd.fst),D.ro 6 (rF p)]]∧c r∧zHe d r e a)))) (∃(f:MSt),a.r.left=e.q∧zD f=zD e.s∧List.map jL a.r.steps=List.map jL e.steps∧f.Rep a.p a.r.B)
def bC (a:RunI):Prop:=∃(b:MSt),a.r.left=a.q∧sb b.p.code=sb a.s.p.code∧b.p.tick=a.s.p.tick∧b.p.low=a.s.p.low∧b.p.high=a.s.p.high∧b.p.wide=a.s.p.wide∧b.p.rule=a.s.p.rule∧b.p.top=a.s.p.top∧b.p.least=a.s.p.least∧b.p.part=a.s.p.part∧AObj.objs 184 Book 6 zQ b.books none=AObj.objs 184 Book 6 zQ a.s.books none∧yS b.wh=yS a.s.wh∧AObj.fro 1 (iE b.p.months)=AObj.fro 1 (iE a.s.p.months)∧AObj.fro 1 (iE b.p.settle)=AObj.fro 1 (iE a.s.p.settle)∧List.map jL a.r.steps=[]∧b.Rep a.p a.r.B
def yNy (i:RunI):Prop:=
 cnd (decide (i.inst≥0)) (cnd (decide (i.inst<(↑i.s.books.length:Int))) (cnd (zC i.sd==1) (cnd (decide (i.q≥1)) (cnd (!decide (i.q≤1000000)) (bC i) (zXp i)) (bC i)) (cnd (zC i.sd==2) (cnd (decide (i.q≥1)) (cnd (!decide (i.q≤1000000)) (bC i) (zXp i)) (bC i)) (bC i))) (bC i)) (bC i)
set_option linter.unusedSimpArgs false
open Go Cv Go.Proofs
structure QOk (T:List Top) (q:Quote):Prop where
 a:0≤q.a.inst∧q.a.inst<T.length
 b:0≤q.b.inst∧q.b.inst<T.length
 sa:q.a.side=1∨q.a.side=2
 sb:q.b.side=1∨q.b.side=2
 ne:q.a.inst≠q.b.inst
 ha:(T.getD q.a.inst.toNat top0).has q.a.side=true
 hb:(T.getD q.b.inst.toNat top0).has q.b.side=true
 qty:q.qty=min ((T.getD q.a.inst.toNat top0).qty q.a.side) ((T.getD q.b.inst.toNat top0).qty q.b.side)
theorem zWi {T:List Top} {a b:Leg} {less:Bool} {q:Quote} (h:q∈mkq T a b less) (h1:0≤a.inst∧a.inst<T.length) (h2:0≤b.inst∧b.inst<T.length) (h3:a.side=1∨a.side=2) (h4:b.side=1∨b.side=2) (hne:a.inst≠b.inst):QOk T q∧q.a=a∧q.b=b:=by
 cases less
 all_goals
  simp only[mkq,yRv,↓reduceIte]at h
  split at h
  ·rename_i hc
   simp only[yRq]at hc
   rw[yTa]at h
   subst h
   exact⟨⟨h1,h2,h3,h4,hne,hc.1.1,hc.1.2,rfl⟩,rfl,rfl⟩
  ·cases h
theorem yLg:∀n≤6,∀k<n+n*(n-1) / 2,n≤k→(kC n k n 0).1≠(kC n k n 0).2.1:=by decide
theorem zZq {p:Prd} (hc:p.check=0) {k:Nat} (hk:k<p.count) (hs:(p.legs k).2.2=true):(p.legs k).1≠(p.legs k).2.1:=by
 have m6:=(kI hc).m6
 have hk':=hk
 rw[Prd.count,yRe hc]at hk'
 by_cases h:k<p.months.length
 ·rw[Prd.legs,yRd (by omega),yRe (by omega)]at hs
  cases hs
 ·rw[Prd.legs,yRd (by omega),yRd (by omega)]
  exact yLg p.months.length m6 k hk' (by omega)
theorem z3y:∀n≤6,∀a<n,∀b<n,a<b→(yH n a:Int)+b-a-1≥n:=by decide
theorem zMl {p:Prd} (hc:p.check=0) {a b:Nat} (hab:a<b) (hb:b<p.months.length):(p.months.length:Int)≤(p.spread a b).1:=by
 have m6:=(kI hc).m6
 have:=z3y p.months.length m6 a (by omega) b hb hab
 rw[Prd.spread,yRd (by omega)]
 simpa using this
theorem yDl {p:Prd} (hc:p.check=0) {T:List Top} (hT:T.length=p.count) {inst:Int} {s:Int} (hs:s=1∨s=2) {q:Quote} (h:q∈qU ⟨p,T,inst⟩ s):QOk T q∧0≤inst∧inst<p.count∧
 (((p.legs inst).2.2=true∧q.a=⟨(p.legs inst).1,s⟩∧q.b=⟨(p.legs inst).2.1,3-s⟩)∨(inst<p.months.length∧q.a.inst≠inst∧(p.months.length:Int)≤q.a.inst)):=by
 rw[qU]at h
 dsimp only at h
 split at h
 ·cases h
 ·rename_i hn
  have h0:0≤inst∧inst<p.count:=by omega
  obtain⟨k,rfl⟩:∃k:Nat,inst=k:=⟨inst.toNat,by omega⟩
  have hk:k<p.count:=by omega
  have hge:=zBt hc
  split at h
  ·rename_i hl
   obtain⟨q',hq',rfl⟩:=ySm.1 h
   have hle:=uZ hc hk
   rcases hle with⟨_,l1,l2,l3,l4⟩|⟨e,_⟩
   ·obtain⟨ok,e1,e2⟩:=zWi hq' (by dsimp only;omega) (by dsimp only;omega) (by dsimp only;omega) hs (fun e=>zZq hc hk hl e.symm)
    refine⟨⟨by dsimp only[f9];omega,by dsimp only[f9];omega,hs,by dsimp only[f9];omega,zZq hc hk hl,?_,?_,?_⟩,h0.1,h0.2,.inl ⟨hl,rfl,rfl⟩⟩
    ·have:=ok.hb;rw[e2]at this;exact this
    ·have:=ok.ha;rw[e1]at this;exact this
    ·have:=ok.qty;rw[e1,e2]at this;dsimp only[f9];rw[this];exact Int.min_comm _ _
   ·rw[e]at hl;cases hl
  ·rename_i hl
   have hm:k<p.months.length:=by
    rcases uZ hc hk with⟨e,_⟩|⟨_,e⟩
    ·exact absurd e hl
    ·exact e
   rcases ySg.1 h with h|h
   ·obtain⟨j,hj,h⟩:=yTr.1 h
    have hj:=yUg.1 hj
    rw[yRx]at hj
    have s1:=dO hc (a:=k) (b:=k+1+j) (by omega) (by omega)
    have s2:=zMl hc (a:=k) (b:=k+1+j) (by omega) (by omega)
    have ec:((k:Int)+1+j)=((k+1+j:Nat):Int):=by omega
    rw[ec]at h
    obtain⟨ok,e1,e2⟩:=zWi h (by dsimp only;omega) (by dsimp only;omega) hs hs (by dsimp only;omega)
    exact⟨ok,h0.1,h0.2,.inr ⟨by omega,by rw[e1];dsimp only;omega,by rw[e1];exact s2⟩⟩
   ·obtain⟨j,hj,h⟩:=yTr.1 h
    have hj:=yUg.1 hj
    rw[yRx]at hj
    have s1:=dO hc (a:=j) (b:=k) (by omega) (by omega)
    have s2:=zMl hc (a:=j) (b:=k) (by omega) (by omega)
    obtain⟨ok,e1,e2⟩:=zWi h (by dsimp only;omega) (by dsimp only;omega) (by dsimp only;omega) hs (by dsimp only;omega)
    exact⟨ok,h0.1,h0.2,.inr ⟨by omega,by rw[e1];dsimp only;omega,by rw[e1];exact s2⟩⟩
theorem zMh {s:Int}:∀(r:List Quote) (q:Quote),r.foldl (fun b q=>if btr s q.price b.price then q else b) q∈q::r
 |[],q=>yRj
 |x::r,q=>by
  rw[yUy]
  have:=zMh (s:=s) r (if btr s x.price q.price then x else q)
  rcases yRy.1 this with e|h
  ·rw[e];split
   ·exact yRk _ yRj
   ·exact yRj
  ·exact yRk _ (yRk _ h)
theorem zLz {l:List Quote} {s:Int} (h:(y4 l s).2=true):(y4 l s).1∈l:=by
 cases l with
 |nil=>cases h
 |cons q r=>exact zMh r q
def yCi (B:List (List zH)):Prop:=∀(k:Nat) (L:List zH),B[k]?=some L→(∀o∈L,zHm o)∧(L.map (·.id)).Nodup∧L.length≤250
theorem MSt.Rep.ords {s:MSt} {p:Prd} {B:List (List zH)} (h:s.Rep p B):yCi B:=by
 intro k L hL
 obtain⟨b,hb⟩:=yD (l:=s.books) (i:=k) (by rw[h.bl];exact(yRf.1 hL).1)
 exact(h.bk k b L hb hL).ords
theorem yGs:∀{l:List zH} {v:Lv},(∀o∈l,zHm o)→v∈grp l→1≤v.qty∧v.qty≤1000000*l.length
 |[],v,_,h=>by cases h
 |o::l,v,ho,h=>by
  have h0:=(ho o yRj).q
  have ih:∀v∈grp l,1≤v.qty∧v.qty≤1000000*l.length:=fun v hv=>yGs (fun x hx=>ho x (yRk _ hx)) hv
  rw[grp]at h
  rw[yRt]
  split at h
  ·rw[yTa]at h
   subst h;dsimp only;omega
  ·rename_i w ws e
   rw[e]at ih
   have hw:=ih w yRj
   split at h
   ·rcases yRy.1 h with rfl|h
    ·dsimp only;omega
    ·have:=ih v (yRk _ h);omega
   ·rcases yRy.1 h with rfl|h
    ·dsimp only;omega
    ·have:=ih v h;omega
theorem zWt {L:List zH} {s:Int} (h:∀o∈L,zHm o) (hl:L.length≤250) (hb:(bestL L s).2=true):1≤(bestL L s).1.qty∧(bestL L s).1.qty≤250000000:=by
 rw[bestL]at hb ⊢
 cases hl2:zQm L s with
 |nil=>rw[hl2]at hb;cases hb
 |cons v vs=>
  dsimp only
  have hm:v∈grp (L.filter fun o=>decide (o.side=s)):=by rw[← zQm,hl2];exact yRj
  have:=yGs (fun o ho=>h o (yTf.1 ho).1) hm
  have:=yUp (fun o:zH=>decide (o.side=s)) L
  omega
theorem z9o {B:List (List zH)} {k:Nat} {L:List zH} (hL:B[k]? =some L):(B.map gP).getD k top0=gP L:=zR (by rw[yTb,hL];rfl)
theorem zFt (L:List zH) {s:Int} (hs:s=1∨s=2):(gP L).has s=(bestL L s).2∧(gP L).qty s=(bestL L s).1.qty∧(gP L).price s=(bestL L s).1.price:=by
 obtain⟨e1,e2,e3,e4,e5,e6⟩:=zNy L
 rcases hs with rfl|rfl
 ·exact⟨e3,e2,e1⟩
 ·exact⟨e6,e5,e4⟩
theorem zZk {p:Prd} {B:List (List zH)} (h:BOk p B) (ho:yCi B) {inst:Int} (hi:0≤inst∧inst<B.length) {s:Int} (hs:s=1∨s=2) (hn:(yO p B inst s).2.2=true):
 (1≤(yO p B inst s).1.qty∧(yO p B inst s).1.qty≤250000000)∧((yO p B inst s).2.1=true→(yO p B inst s).1∈qU ⟨p,B.map gP,inst⟩ s∧QOk (B.map gP) (yO p B inst s).1)∧
 ((yO p B inst s).2.1=false→(bestL (B.getD inst.toNat []) s).2=true∧(yO p B inst s).1.price=(bestL (B.getD inst.toNat []) s).1.price∧(yO p B inst s).1.qty=(bestL (B.getD inst.toNat []) s).1.qty):=by
 obtain⟨k,rfl⟩:∃k:Nat,inst=k:=⟨inst.toNat,by omega⟩
 obtain⟨L,hL⟩:=yD (l:=B) (i:=k) (by omega)
 have hLo:=ho k L hL
 rw[yO]at hn ⊢
 rw[yRx,zR hL]at hn ⊢
 split
 ·rename_i c
  simp only[yRq]at c
  exact⟨zWt hLo.1 hLo.2.2 c.1,⟨fun e=>(by cases e),fun _=>⟨c.1,rfl,rfl⟩⟩⟩
 ·rename_i c
  rw[yRd c]at hn
  dsimp only at hn ⊢
  have hm:=zLz hn
  have ha:(y4 (wM ⟨p,B.map gP,k⟩ s) s).1∈qU ⟨p,B.map gP,k⟩ s:=(yTf.1 hm).1
  obtain⟨ok,_⟩:=yDl h.pc (by rw[yRg];exact h.bl) hs ha
  refine⟨?_,fun _=>⟨ha,ok⟩,fun e=>by rw[hn]at e;cases e⟩
  generalize (y4 (wM ⟨p,B.map gP,k⟩ s) s).1=q at ok
  have a:=ok.a
  have b:=ok.b
  rw[yRg]at a b
  obtain⟨La,hLa⟩:=yD (l:=B) (i:=q.a.inst.toNat) (by omega)
  obtain⟨Lb,hLb⟩:=yD (l:=B) (i:=q.b.inst.toNat) (by omega)
  have e1:=ok.ha
  have e2:=ok.hb
  have e3:=ok.qty
  rw[z9o hLa]at e1 e3
  rw[z9o hLb]at e2 e3
  rw[(zFt La ok.sa).1]at e1
  rw[(zFt Lb ok.sb).1]at e2
  rw[(zFt La ok.sa).2.1,(zFt Lb ok.sb).2.1]at e3
  have:=zWt (ho _ _ hLa).1 (ho _ _ hLa).2.2 e1
  have:=zWt (ho _ _ hLb).1 (ho _ _ hLb).2.2 e2
  omega
theorem z9v {L:List zH} {id q:Int} {o:zH} (h:o∈(xU L id q).1):∃o'∈L,o.price=o'.price∧o.side=o'.side∧o.id=o'.id:=by
 rw[xU]at h
 split at h
 ·exact⟨o,h,rfl,rfl,rfl⟩
 split at h
 ·exact⟨o,h,rfl,rfl,rfl⟩
 obtain⟨o',ho',e⟩:=yWb.1 h
 refine⟨o',ho',?_⟩
 split at e
 ·split at e
  ·cases e
  ·cases e;exact⟨rfl,rfl,rfl⟩
 ·cases e;exact⟨rfl,rfl,rfl⟩
theorem BOk.take {p:Prd} {B:List (List zH)} (h:BOk p B) (id q:Int):BOk p (qS B id q).1:=by
 refine⟨h.pc,h.ps,by rw[aU];exact h.bl,fun k L hL o ho=> ?_⟩
 rw[qS]at hL
 split at hL
 ·exact h.pr k L hL o ho
 ·rename_i j hj
  dsimp only at hL
  rcases dK hL with⟨rfl,rfl⟩|⟨_,hL⟩
  ·obtain⟨o',ho',e,_⟩:=z9v ho
   obtain⟨L',hL',_⟩:=uU hj
   rw[zR hL']at ho'
   rw[e];exact h.pr k L' hL' o' ho'
  ·exact h.pr k L hL o ho
theorem BOk.takes {p:Prd}:∀{fs:List fW} {B:List (List zH)},BOk p B→BOk p (kB B fs)
 |[],B,h=>h
 |f::fs,B,h=>BOk.takes (fs:=fs) (h.take f.id f.qty)
theorem zRb (inst s:Int):∀(os:List zH) (sh:List Int),(xR inst s os sh).length≤os.length
 |[],sh=>ySk 0
 |o::os,[]=>ySr _
 |o::os,k::sh=>by
  have:=zRb inst s os sh
  rw[xR]
  split
  ·simp only[yRt];omega
  ·simp only[yRt];omega
theorem aT {p:Prd} {B:List (List zH)} (ho:yCi B) (inst s q:Int):(qG p B inst s q).length≤250:=by
 refine yTv (zRb _ _ _ _) (yTv (yUp _ _) ?_)
 by_cases h:inst.toNat<B.length
 ·obtain⟨L,hL⟩:=yD h
  rw[zR hL];exact(ho _ _ hL).2.2
 ·rw[yRl,ySi (by omega)];exact ySr _
theorem zGj {p:Prd} {B:List (List zH)} {inst:Int} {sd:Bool} {price q:Int} {t:jU} {B':List (List zH)} (hq:1≤q) (h:cU p B inst sd price q=some (t,B')):1≤t.qty∧t.qty≤q:=by
 rw[cU]at h
 dsimp only at h
 split at h
 ·rename_i c
  simp only[yRq,ySs]at c
  split at h
  ·cases h;dsimp only;omega
  ·cases h;dsimp only;omega
 ·cases h
theorem zSd {p:Prd} {inst:Int} {sd:Bool} {price:Int}:∀(m n:Nat) (B:List (List zH)) (q:Int),q.toNat≤m→q.toNat≤n→zFg p inst sd price m B q=zFg p inst sd price n B q
 |0,0,B,q,_,_=>rfl
 |0,n+1,B,q,h,_=>by rw[zFg,zFg,yRe (by omega)]
 |m+1,0,B,q,_,h=>by rw[zFg,zFg,yRe (by omega)]
 |m+1,n+1,B,q,h1,h2=>by
  rw[zFg,zFg]
  split
  ·rfl
  ·rename_i hq
   cases hs:cU p B inst sd price q with
   |none=>rfl
   |some x=>
    obtain⟨t,B'⟩:=x
    have:=zGj (by omega) hs
    dsimp only
    rw[zSd m n B' (q-t.qty) (by omega) (by omega)]
theorem rI {p:Prd} {B:List (List zH)} {inst:Int} {sd:Bool} {price q:Int} (h:q≤0∨cU p B inst sd price q=none):jQ p B inst sd price q=⟨[],q,B⟩:=by
 rw[jQ]
 cases hn:q.toNat with
 |zero=>rfl
 |succ n=>
  rw[zFg]
  rcases h with h|h
  ·rw[yRe h]
  ·rw[yRd (by omega),h]
theorem zIq {p:Prd} {B:List (List zH)} {inst:Int} {sd:Bool} {price q:Int} {t:jU} {B':List (List zH)} (hq:1≤q) (h:cU p B inst sd price q=some (t,B')):
 jQ p B inst sd price q=⟨t::(jQ p B' inst sd price (q-t.qty)).steps,(jQ p B' inst sd price (q-t.qty)).left,(jQ p B' inst sd price (q-t.qty)).B⟩:=by
 have ht:=zGj hq h
 rw[jQ]
 cases hn:q.toNat with
 |zero=>omega
 |succ n=>
  rw[zFg,yRd (by omega),h]
  dsimp only
  rw[zSd n (q-t.qty).toNat B' (q-t.qty) (by omega) (ySk _)]
  rfl
open Go Cv Go.Proofs
theorem uV {s:Int} (h:s=1∨s=2):zC (decide (s=2))=s:=by
 rcases h with rfl|rfl<;>rfl
theorem yQi (i:RunI) (h:runC.cnd i):yNy i:=by
 obtain⟨hR,hB,⟨h0,h1⟩,hq1,hq2⟩:i.s.Rep i.p i.B∧BOk i.p i.B∧(0≤i.inst∧i.inst<i.B.length)∧1≤i.q∧i.q≤1000000:=h
 have hbl:=hR.bl
 have hcl:=xQ i.p
 have hbB:=hB.bl
 unfold yNy bC zXp g7 rF uT zHc zBi zHe zX dI
 refine(fun hT=>zI (fun c=>zI (fun c2=>Cv.cnd.mk (fun _=>zI (fun _=>Cv.cnd.mk (fun e=>absurd hq2 (by simpa using e)) (fun _=>hT)) (fun e=>absurd hq1 e)) (fun e1=>Cv.cnd.mk (fun _=>zI (fun _=>Cv.cnd.mk (fun e=>absurd hq2 (by simpa using e)) (fun _=>hT)) (fun e=>absurd hq1 e)) (fun e2=>by
  rcases l7 i.sd with e|e
  ·rw[e]at e1;cases e1
  ·rw[e]at e2;cases e2))) (fun c2=>absurd (by omega) c2)) (fun c=>absurd h0 c)) ?_
 refine⟨⟨i.s,i.B,[],i.q⟩,rfl,rfl,rfl,rfl,rfl,rfl,rfl,rfl,rfl,rfl,rfl,rfl,rfl,rfl,rfl,fun j=>j.s.Rep i.p j.B∧BOk i.p j.B∧j.B.length=i.B.length∧(0≤j.q∧j.q≤i.q)∧(j.steps.length:Int)≤i.q-j.q∧i.r=⟨j.steps++(jQ i.p j.B i.inst i.sd i.price j.q).steps,(jQ i.p j.B i.inst i.sd i.price j.q).left,(jQ i.p j.B i.inst i.sd i.price j.q).B⟩,fun j=>j.q.toNat,⟨hR,hB,rfl,⟨by dsimp only;omega,yWy _⟩,by dsimp only;simp,rfl⟩,?_⟩
 rintro⟨s,B,st,q⟩ ⟨r1,r2,r3,⟨r4,r4'⟩,r5,r6⟩
 dsimp only at r1 r2 r3 r4 r4' r5 r6 ⊢
 have hno (hn:q≤0∨cU i.p B i.inst i.sd i.price q=none):∃(o:MSt),i.r.left=q∧AObj.adt MSt (5:Nat) xL o=AObj.adt MSt (5:Nat) xL s∧List.map jL i.r.steps=List.map jL st∧o.Rep i.p i.r.B:=by
  rw[rI hn,ySa]at r6
  rw[r6];exact⟨s,rfl,rfl,rfl,r1⟩
 refine zI (fun c=> ?_) (fun c=>hno (.inl (by omega)))
 have c:0<q:=c
 refine⟨i.sd,rfl,trivial,fun _ _=>⟨⟨s,i.p,B,i.inst,!i.sd⟩,rfl,rfl,rfl,⟨r1,r2,h0,by dsimp only;omega⟩,fun _ _=> ?_⟩⟩
 dsimp only
 have hni:=zZk r2 r1.ords (inst:=i.inst) ⟨h0,by omega⟩ (l7 (!i.sd))
 have hsb:cU i.p B i.inst i.sd i.price q=(if((yO i.p B i.inst (zC (!i.sd))).2.2 && (dB i.sd i.price (yO i.p B i.inst (zC (!i.sd))).1.price && decide (1≤(yO i.p B i.inst (zC (!i.sd))).1.qty)))=true then
  if(yO i.p B i.inst (zC (!i.sd))).2.1=true then
   some (⟨(yO i.p B i.inst (zC (!i.sd))).1.price,min q (yO i.p B i.inst (zC (!i.sd))).1.qty,true,qG i.p B (yO i.p B i.inst (zC (!i.sd))).1.a.inst (yO i.p B i.inst (zC (!i.sd))).1.a.side (min q (yO i.p B i.inst (zC (!i.sd))).1.qty)++qG i.p (kB B (qG i.p B (yO i.p B i.inst (zC (!i.sd))).1.a.inst (yO i.p B i.inst (zC (!i.sd))).1.a.side (min q (yO i.p B i.inst (zC (!i.sd))).1.qty))) (yO i.p B i.inst (zC (!i.sd))).1.b.inst (yO i.p B i.inst (zC (!i.sd))).1.b.side (min q (yO i.p B i.inst (zC (!i.sd))).1.qty)⟩,kB (kB B (qG i.p B (yO i.p B i.inst (zC (!i.sd))).1.a.inst (yO i.p B i.inst (zC (!i.sd))).1.a.side (min q (yO i.p B i.inst (zC (!i.sd))).1.qty))) (qG i.p (kB B (qG i.p B (yO i.p B i.inst (zC (!i.sd))).1.a.inst (yO i.p B i.inst (zC (!i.sd))).1.a.side (min q (yO i.p B i.inst (zC (!i.sd))).1.qty))) (yO i.p B i.inst (zC (!i.sd))).1.b.inst (yO i.p B i.inst (zC (!i.sd))).1.b.side (min q (yO i.p B i.inst (zC (!i.sd))).1.qty)))
  else some (⟨(yO i.p B i.inst (zC (!i.sd))).1.price,min q (yO i.p B i.inst (zC (!i.sd))).1.qty,false,qG i.p B i.inst (zC (!i.sd)) (min q (yO i.p B i.inst (zC (!i.sd))).1.qty)⟩,kB B (qG i.p B i.inst (zC (!i.sd)) (min q (yO i.p B i.inst (zC (!i.sd))).1.qty)))else none):=rfl
 generalize yO i.p B i.inst (zC (!i.sd))=nb at hni hsb ⊢
 refine Cv.cnd.mk (fun n1=> ?_) (fun n1=>⟨⟨i.sd,i.price,nb.1.price⟩,rfl,rfl,rfl,trivial,fun _ _=>Cv.cnd.mk (fun n2=> ?_) (fun n2=> ?_)⟩)
 ·have n1:nb.2.2=false:=by simpa using n1
  rw[n1,yRd (by simp)]at hsb
  exact hno (.inr hsb)
 ·have n2:dB i.sd i.price nb.1.price=false:=by simpa using n2
  rw[n2,yRd (by simp)]at hsb
  exact hno (.inr hsb)
 have n1:nb.2.2=true:=by simpa using n1
 have n2:dB i.sd i.price nb.1.price=true:=by simpa using n2
 obtain⟨⟨b1,b2⟩,hi,hr⟩:=hni n1
 rw[n1,n2,yRu b1,yRe (by rfl)]at hsb
 have hk:yU (min q nb.1.qty):=by constructor<;>omega
 have hsl:(st.length+1)*48≤70368744177664:=by omega
 have beh:∀(t:jU) (B':List (List zH)) (s':MSt),cU i.p B i.inst i.sd i.price q=some (t,B')→s'.Rep i.p B'→BOk i.p B'→B'.length=B.length→
  (s'.Rep i.p B'∧BOk i.p B'∧B'.length=i.B.length∧(0≤q-t.qty∧q-t.qty≤i.q)∧((st++[t]).length:Int)≤i.q-(q-t.qty)∧i.r=⟨(st++[t])++(jQ i.p B' i.inst i.sd i.price (q-t.qty)).steps,(jQ i.p B' i.inst i.sd i.price (q-t.qty)).left,(jQ i.p B' i.inst i.sd i.price (q-t.qty)).B⟩)∧(q-t.qty).toNat<q.toNat:=by
  intro t B' s' h1 h2 h3 h4
  have ht:=zGj (by omega) h1
  refine⟨⟨h2,h3,by omega,⟨by omega,by omega⟩,by rw[yRi,yUq];omega,?_⟩,by omega⟩
  rw[zIq (by omega) h1]at r6
  rw[r6,yRn];rfl
 refine Cv.cnd.mk (fun n3=> ?_) (fun n3=> ?_)
 ·obtain⟨_,ok⟩:=hi n3
  rw[n3,yRe rfl]at hsb
  have oka:=ok.a
  have okb:=ok.b
  rw[yRg]at oka okb
  have ea:=uV ok.sa
  have eb:=uV ok.sb
  refine⟨⟨s,i.p,B,nb.1.a.inst,decide (nb.1.a.side=2),min q nb.1.qty⟩,rfl,ea,rfl,rfl,⟨r1,r2,oka.1,oka.2,hk⟩,fun s1 hs1=> ?_⟩
  dsimp only at hs1 ⊢
  rw[ea]at hs1 ⊢
  have l1:=aT (p:=i.p) r1.ords nb.1.a.inst nb.1.a.side (min q nb.1.qty)
  have hB1:=r2.takes (fs:=qG i.p B nb.1.a.inst nb.1.a.side (min q nb.1.qty))
  have l2:=aT (p:=i.p) hs1.ords nb.1.b.inst nb.1.b.side (min q nb.1.qty)
  refine⟨trivial,by rw[yRg];omega,⟨s1,i.p,kB B (qG i.p B nb.1.a.inst nb.1.a.side (min q nb.1.qty)),nb.1.b.inst,decide (nb.1.b.side=2),min q nb.1.qty⟩,rfl,eb,rfl,rfl,⟨hs1,hB1,okb.1,by dsimp only;rw[vF];exact okb.2,hk⟩,fun s2 hs2=> ?_⟩
  dsimp only at hs2 ⊢
  rw[eb]at hs2 ⊢
  obtain⟨g1,g2⟩:=beh _ _ s2 hsb hs2 hB1.takes (by rw[vF,vF])
  refine⟨trivial,by rw[yRg,yRg];omega,by rw[yRg];exact hsl,⟨s2,_,st++[_],_⟩,?_,rfl,?_,g1,g2,by(repeat'(first|exact trivial|exact rfl|apply And.intro))⟩
  ·dsimp only;rw[w64 (by omega)]
  ·dsimp only
   rw[yRm,n3]
   simp[jL]
 ·rw[n3,yRd (by decide)]at hsb
  refine⟨i.sd,rfl,trivial,fun _ _=>⟨rfl,⟨s,i.p,B,i.inst,!i.sd,min q nb.1.qty⟩,rfl,rfl,rfl,rfl,⟨r1,r2,h0,by dsimp only;omega,hk⟩,fun s1 hs1=> ?_⟩⟩
  dsimp only at hs1 ⊢
  obtain⟨g1,g2⟩:=beh _ _ s1 hsb hs1 r2.takes (by rw[vF])
  refine⟨by rw[yRg];exact hsl,⟨s1,_,st++[_],_⟩,?_,rfl,?_,g1,g2,by(repeat'(first|exact trivial|exact rfl|apply And.intro))⟩
  ·dsimp only;rw[w64 (by omega)]
  ·dsimp only
   rw[yRm,n3]
   simp[jL]
theorem zVd:runC.ok Tryz.prog 151:=okw mixed (gokc yEc (gokc zLq (gokc zRm (gokc z7p gok0)))) 2 (fun _=>[]) (fun _=>yPk) [0] Tryz.func151 yQi
open Go Cv Go.Proofs
open Go Cv Go.Proofs
open Go Cv Go.Proofs
theorem z6s {L:List zH} {s id p q:Int} {o:zH} (h:o∈zOg L s id p q):o.price=p∨∃o'∈L,o.price=o'.price:=by
 have key:∀X:List zH,(o∈X.takeWhile (before s p)++⟨id,s,p,q,uQ L s p⟩::X.dropWhile (before s p))→o.price=p∨o∈X:=by
  intro X hX
  rcases ySg.1 hX with hX|hX
  ·exact .inr (List.takeWhile_sublist _|>.subset hX)
  ·rcases yRy.1 hX with rfl|hX
   ·exact .inl rfl
   ·exact .inr (List.dropWhile_sublist _|>.subset hX)
 rw[zOg]at h
 split at h
 ·rcases key _ h with h|h
  ·exact .inl h
  ·obtain⟨o',ho',_,_,e,_⟩:=z1e h
   exact .inr ⟨o',ho',e⟩
 ·rcases key _ h with h|h
  ·exact .inl h
  ·exact .inr ⟨o,h,rfl⟩
theorem BOk.add {p:Prd} {B:List (List zH)} (h:BOk p B) (inst id s price q:Int):BOk p (zUw p B inst id s price q).1:=by
 rw[zUw]
 split
 ·exact h
 split
 ·exact h
 split
 ·exact h
 split
 ·exact h
 rename_i c1 _ _ c4
 have c4:p.price inst price=0:=by simpa using c4
 refine⟨h.pc,h.ps,by simpa using h.bl,fun k L hL o ho=> ?_⟩
 dsimp only at hL
 rcases dK hL with⟨rfl,rfl⟩|⟨_,hL⟩
 ·obtain⟨L',hL'⟩:=yD (l:=B) (i:=inst.toNat) (by omega)
  rw[zR hL',zFi]at ho
  have e:((inst.toNat:Nat):Int)=inst:=by omega
  repeat' split at ho
  ·exact h.pr _ L' hL' o ho
  ·exact h.pr _ L' hL' o ho
  ·exact h.pr _ L' hL' o ho
  ·rcases z6s ho with h1|⟨o',ho',h1⟩
   ·rw[h1,e];exact c4
   ·rw[h1];exact h.pr _ L' hL' o' ho'
 ·exact h.pr k L hL o ho
theorem BOk.new {p:Prd} (hc:p.check=0) (hp:p.small):BOk p (List.replicate p.count []):=by
 refine⟨hc,hp,by simp,fun k L hL o ho=> ?_⟩
 rw[yWm (yRp hL)]at ho
 cases ho
theorem MSt.Rep.fit {s:MSt} {p:Prd} {B:List (List zH)} (h:s.Rep p B) (hb:BOk p B):s.fit:=by
 have:=xQ p
 refine⟨by rw[h.ep];exact hb.ps,by rw[h.bl,hb.bl];omega,fun b hm=> ?_⟩
 obtain⟨k,hk⟩:=yTo.1 hm
 have hlt:=(yRf.1 hk).1
 rw[h.bl]at hlt
 obtain⟨L,hL⟩:=yD hlt
 exact(h.bk k b L hk hL).fit
open Go Cv Go.Proofs
def zKh (r:Nat):Bool:=decide (32≤r) && decide (r≠127) && decide (r≠65533)
def gE (s:List UInt8):Bool:=(qY s).all zKh && decide (1≤(qY s).length) && decide ((qY s).length≤12)
def labC:Con:=con1 (List UInt8) (fun s=>[sV s]) (fun _=>[]) (fun s=>s.length≤140737488355328) (fun s=>yM (gE s)) (fun _=>[])
def yPg (s:List UInt8):List SAnn:=[{ι:=Nat×Nat,slots:=fun x=>[(3,zA x.2),(7,.nm 0 0)],rows:=fun x=>[.iter (sb s) x.1]}]
def vB (n:Int):Bool:=decide (-2000000≤n) && decide (n≤2000000)
def kF (n:Int):Bool:=decide (1≤n) && decide (n≤1000000)
def Cmd.orderE (c:Cmd):Int:=
 if c.side≠1∧c.side≠2 then 21 else if c.time<1∨3<c.time then 27 else if kF c.qty=false then 24 else if c.least<0∨c.qty<c.least then 28
 else if c.label≠[]∧gE c.label=false then 29 else if vB c.price=false then 23 else if c.inst<0∨255<c.inst then 20 else 0
def Cmd.right (c:Cmd):Int:=
 if c.kind<1∨4<c.kind then 31 else if c.id<1∨1099511627776<c.id then 1 else if c.kind=1 then c.orderE
 else if c.kind≠2∧kF c.qty=false then 24 else if c.kind=4∧vB c.price=false then 23 else 0
def cmdOrdC:Con:=con1 Cmd (fun c=>[zAa c]) (fun _=>[]) (fun c=>c.label.length≤140737488355328) (fun c=>zA c.orderE) (fun _=>[])
def cmdRtC:Con:=con1 Cmd (fun c=>[zAa c]) (fun _=>[]) (fun c=>c.label.length≤140737488355328) (fun c=>zA c.right) (fun _=>[])
open Go Cv Go.Proofs
def RB.text (r:RB):List UInt8×RB:=((r.byte.2.n r.byte.1.toNat).got,⟨(r.byte.2.n r.byte.1.toNat).left,(r.byte.2.n r.byte.1.toNat).bad⟩)
def zEq (s:List UInt8):List UInt8:=lob (s.take 255).length::s.take 255
def Cmd.tail (c:Cmd):List UInt8:=
 if c.kind=1 then lob c.inst::lob c.side::lob c.time::(le c.price 8++(le c.qty 8++(le c.least 8++zEq c.label)))
 else if c.kind=3 then le c.qty 8 else if c.kind=4 then le c.price 8++le c.qty 8 else[]
def Cmd.enc (c:Cmd):List UInt8:=if c.right≠0 then[]else lob c.kind::(le c.id 8++c.tail)
def x4 (k id:Int) (r:RB):Cmd×RB:=
 if k=1 then
  let a:=r.byte;let b:=a.2.byte;let t:=b.2.byte;let x:=t.2.long;let y:=x.2.long;let z:=y.2.long;let w:=z.2.text
  (⟨k,id,a.1,b.1,x.1,y.1,z.1,t.1,w.1⟩,w.2)
 else if k=3 then(⟨k,id,0,0,0,r.long.1,0,0,[]⟩,r.long.2)
 else if k=4 then(⟨k,id,0,0,r.long.1,r.long.2.long.1,0,0,[]⟩,r.long.2.long.2)
 else(⟨k,id,0,0,0,0,0,0,[]⟩,r)
def xG (b:List UInt8):Cmd×Int:=
 let k:=(RB.mk b false).byte
 if k.1<1∨4<k.1 then(zTm,31)else
 let x:=x4 k.1 k.2.long.1 k.2.long.2
 if x.2.endOf≠0 then(zTm,12)else if x.1.right≠0 then(zTm,x.1.right)else(x.1,0)
theorem zYo (s:List UInt8):∀(k p:Nat),s.length-p≤k→s.length-p≤4*(v7 s p).length
 |0,p,h=>by rw[wZ (by omega)];simp;omega
 |k+1,p,h=>by
  by_cases hp:p<s.length
  ·have hw:=fZ s hp
   have h4:(Utf8.decode (sb s) p).2≤4:=by
    unfold Utf8.decode
    simp only[zGc,yRq,ySs]
    repeat' split
    all_goals simp
   rw[kQ hp,yRt]
   have:=zYo s k (p+(Utf8.decode (sb s) p).2) (by omega)
   omega
  ·rw[wZ (by omega)];simp;omega
theorem z3g {s:List UInt8} (h:s=[]∨gE s=true):s.length≤48:=by
 obtain rfl|h:=h
 ·simp
 ·simp only[gE,yRq,ySs]at h
  have:=zYo s s.length 0 (by omega)
  rw[qY,yRg]at h
  omega
theorem zQb {c:Cmd} (h:c.right=0):(1≤c.kind∧c.kind≤4)∧(1≤c.id∧c.id≤1099511627776)∧
 (c.kind≠2→1≤c.qty∧c.qty≤1000000)∧(c.kind=1∨c.kind=4→-2000000≤c.price∧c.price≤2000000)∧
 (c.kind=1→(c.side=1∨c.side=2)∧(1≤c.time∧c.time≤3)∧(0≤c.least∧c.least≤c.qty)∧(0≤c.inst∧c.inst≤255)∧c.label.length≤48):=by
 rw[Cmd.right]at h
 split at h;·cases h
 split at h;·cases h
 rename_i h1 h2
 refine⟨by omega,by omega,?_⟩
 split at h
 ·rename_i hk
  rw[Cmd.orderE]at h
  iterate 7 (split at h;·cases h)
  rename_i a1 a2 a3 a4 a5 a6 a7
  simp only[kF,Bool.not_eq_false,yRq,ySs]at a3
  simp only[vB,Bool.not_eq_false,yRq,ySs]at a6
  refine⟨fun _=>a3,fun _=>a6,fun _=>⟨by omega,by omega,by omega,by omega,z3g ?_⟩⟩
  by_cases hl:c.label=[]
  ·exact .inl hl
  ·exact .inr (by simpa[hl]using a5)
 ·rename_i hk
  split at h;·cases h
  split at h;·cases h
  rename_i a1 a2
  refine⟨fun h2=> ?_,fun h2=> ?_,fun h2=>absurd h2 hk⟩
  ·simpa[h2,kF]using a1
  ·simpa[show c.kind=4 by omega,vB]using a2
open Go Cv Go.Proofs
def yNr (s:List UInt8):Prop:=
 ∃(a:Nat×Nat),(↑a.snd:Int)=0∧sb s=sb s∧a.fst=0∧∃(b:Nat×Nat→Prop),∃(c:Nat×Nat→Nat),b a∧∀(d:Nat×Nat),b d→cnd (d.fst.blt (sb s).size) (cnd (decide ((x0 s d)<32)) (∃(e:Unit),gE s=false∧True) (cnd ((x0 s d)==127) (∃(e:Unit),gE s=false∧True) (cnd ((x0 s d)==65533) (∃(e:Unit),gE s=false∧True) (gS d s b c)))) (cnd (decide ((↑d.snd:Int)≥1)) (∃(e:Unit),gE s=decide ((↑d.snd:Int)≤12)∧True) (∃(e:Unit),gE s=false∧True))
def zHn (a:Cmd):Prop:=∃(b:List UInt8),sb b=sb a.label∧b.length≤140737488355328∧∀(c:Unit),True→cnd (!gE b) (∃(d:Unit),a.orderE=29∧True) (cnd (decide (a.price≥(-2000000))) (cnd (!decide (a.price≤2000000)) (∃(d:Unit),a.orderE=23∧True) (cnd (decide (a.inst<0)) (∃(d:Unit),a.orderE=20∧True) (cnd (decide (a.inst>255)) (∃(d:Unit),a.orderE=20∧True) (∃(d:Unit),a.orderE=0∧True)))) (∃(d:Unit),a.orderE=23∧True))
def bZ (a:Cmd):=(!(sb a.label).toList==(ByteArray.mk #[]).toList)
def yGm (c:Cmd):Prop:=
 cnd (c.side !=1) (cnd (c.side !=2) (∃(a:Unit),c.orderE=21∧True) (cnd (decide (c.time<1)) (∃(a:Unit),c.orderE=27∧True) (cnd (decide (c.time>3)) (∃(a:Unit),c.orderE=27∧True) (cnd (decide (c.qty≥1)) (cnd (!decide (c.qty≤1000000)) (∃(a:Unit),c.orderE=24∧True) (cnd (decide (c.least<0)) (∃(a:Unit),c.orderE=28∧True) (cnd (decide (c.least>c.qty)) (∃(a:Unit),c.orderE=28∧True) (cnd (bZ c) (zHn c) (cnd (decide (c.price≥(-2000000))) (cnd (!decide (c.price≤2000000)) (∃(a:Unit),c.orderE=23∧True) (cnd (decide (c.inst<0)) (∃(a:Unit),c.orderE=20∧True) (cnd (decide (c.inst>255)) (∃(a:Unit),c.orderE=20∧True) (∃(a:Unit),c.orderE=0∧True)))) (∃(a:Unit),c.orderE=23∧True)))))) (∃(a:Unit),c.orderE=24∧True))))) (cnd (decide (c.time<1)) (∃(a:Unit),c.orderE=27∧True) (cnd (decide (c.time>3)) (∃(a:Unit),c.orderE=27∧True) (cnd (decide (c.qty≥1)) (cnd (!decide (c.qty≤1000000)) (∃(a:Unit),c.orderE=24∧True) (cnd (decide (c.least<0)) (∃(a:Unit),c.orderE=28∧True) (cnd (decide (c.least>c.qty)) (∃(a:Unit),c.orderE=28∧True) (cnd (bZ c) (zHn c) (cnd (decide (c.price≥(-2000000))) (cnd (!decide (c.price≤2000000)) (∃(a:Unit),c.orderE=23∧True) (cnd (decide (c.inst<0)) (∃(a:Unit),c.orderE=20∧True) (cnd (decide (c.inst>255)) (∃(a:Unit),c.orderE=20∧True) (∃(a:Unit),c.orderE=0∧True)))) (∃(a:Unit),c.orderE=23∧True)))))) (∃(a:Unit),c.orderE=24∧True))))
def z6b (c:Cmd):Prop:=
 cnd (decide (c.kind<1)) (∃(a:Unit),c.right=31∧True) (cnd (decide (c.kind>4)) (∃(a:Unit),c.right=31∧True) (cnd (decide (c.id<1)) (∃(a:Unit),c.right=1∧True) (cnd (decide (c.id>1099511627776)) (∃(a:Unit),c.right=1∧True) (cnd (c.kind==1) (∃(a:Cmd),a.kind=c.kind∧a.id=c.id∧a.inst=c.inst∧a.side=c.side∧a.price=c.price∧a.qty=c.qty∧a.least=c.least∧a.time=c.time∧sb a.label=sb c.label∧a.label.length≤140737488355328∧∀(b:Unit),True→∃(d:Unit),c.right=a.orderE∧True) (cnd (c.kind !=2) (cnd (decide (c.qty≥1)) (cnd (!decide (c.qty≤1000000)) (∃(a:Unit),c.right=24∧True) (cnd (c.kind==4) (cnd (decide (c.price≥(-2000000))) (cnd (!decide (c.price≤2000000)) (∃(a:Unit),c.right=23∧True) (∃(a:Unit),c.right=0∧True)) (∃(a:Unit),c.right=23∧True)) (∃(a:Unit),c.right=0∧True))) (∃(a:Unit),c.right=24∧True)) (cnd (c.kind==4) (cnd (decide (c.price≥(-2000000))) (cnd (!decide (c.price≤2000000)) (∃(a:Unit),c.right=23∧True) (∃(a:Unit),c.right=0∧True)) (∃(a:Unit),c.right=23∧True)) (∃(a:Unit),c.right=0∧True)))))))
open Go Cv Go.Proofs
theorem yQb (s:List UInt8) (h:labC.cnd s):yNr s:=by
 have h:s.length≤140737488355328:=h
 have hr:=zCz s
 unfold yNr x0 gS
 refine⟨(0,0),rfl,rfl,rfl,fun x=>x.1≤s.length∧x.2+(v7 s x.1).length=(qY s).length∧(qY s).all zKh=(v7 s x.1).all fun x=>zKh x.2,fun x=>s.length-x.1,⟨by omega,by rw[qY,yRg];simp,by rw[qY,List.all_map];rfl⟩,?_⟩
 rintro⟨p,n⟩ ⟨h1,h2,h3⟩
 dsimp only at h1 h2 h3 ⊢
 refine Cv.cnd.mk (fun hp=> ?_) (fun hp=> ?_)
 ·have hp:p<s.length:=by simpa[yUb]using hp
  have hw:=fZ s hp
  rw[kQ hp,yRt]at h2
  rw[kQ hp,List.all_cons]at h3
  generalize hc:(Utf8.decode (sb s) p).1=c at h2 h3 ⊢
  generalize hww:(Utf8.decode (sb s) p).2=w at h2 h3 hw ⊢
  dsimp only at h3
  have bad:zKh c=false→∃(o:Unit),gE s=false∧True:=fun e=>⟨(),by rw[gE,h3,e];rfl,trivial⟩
  refine zI (fun c1=>bad ?_) (fun c1=>Cv.cnd.mk (fun c2=>bad ?_) (fun c2=>Cv.cnd.mk (fun c3=>bad ?_) (fun c3=> ?_)))
  ·simp[zKh];omega
  ·have c2:(c:Int)=127:=by simpa using c2
   simp[zKh];omega
  ·have c3:(c:Int)=65533:=by simpa using c3
   simp[zKh];omega
  ·have c2:¬(c:Int)=127:=by simpa using c2
   have c3:¬(c:Int)=65533:=by simpa using c3
   have e:zKh c=true:=by simp[zKh];omega
   refine⟨(p+w,n+1),?_,rfl,rfl,⟨hw.2,by(first|omega|(dsimp only;omega)),by rw[h3,e];rfl⟩,by(first|omega|(dsimp only;omega)),trivial⟩
   rw[w64 (by omega)];rfl
 ·have hp:s.length≤p:=by have:=z0d hp;simpa using this
  rw[wZ hp]at h2 h3
  have h2:n=(qY s).length:=h2
  have h3:(qY s).all zKh=true:=h3
  refine zI (fun c=>⟨(),?_,trivial⟩) (fun c=>⟨(),?_,trivial⟩)
  ·rw[gE,h3,← h2,yRu (show 1≤n by omega)]
   simp only[yTu]
   congr 1
   simp only[eq_iff_iff];omega
  ·rw[gE,← h2,yRo (show ¬1≤n by omega)];simp
theorem yIw:labC.ok Tryz.prog 149:=okw mixed gok0 0 (fun _=>[]) (fun s=>yPg s) [] Tryz.func149 yQb
theorem yQk (a b:Int):(a==b)=decide (a=b):=by
 by_cases h:a=b
 ·subst h;simp
 ·simp[h]
theorem yPa (a b:Int):(a !=b)=decide (a≠b):=by
 by_cases h:a=b
 ·subst h;simp
 ·simp[h]
theorem eqB (a b:List UInt8):((sb a).toList==(sb b).toList)=decide (a=b):=by
 rw[aH,aH]
 by_cases h:a=b
 ·subst h;simp
 ·simp[h]
theorem yJm:ByteArray.mk #[]=sb []:=rfl
theorem yNh (c:Cmd) (h:cmdOrdC.cnd c):yGm c:=by
 have h:c.label.length≤140737488355328:=h
 unfold yGm zHn bZ
 simp only[yJm,eqB,yPa]
 have tail:¬(c.side≠1∧c.side≠2)→cnd (decide (c.time<1)) (∃(o:Unit),c.orderE=27∧True) (cnd (decide (c.time>3)) (∃(o:Unit),c.orderE=27∧True) (cnd (decide (c.qty≥1)) (cnd (!decide (c.qty≤1000000)) (∃(o:Unit),c.orderE=24∧True) (cnd (decide (c.least<0)) (∃(o:Unit),c.orderE=28∧True) (cnd (decide (c.least>c.qty)) (∃(o:Unit),c.orderE=28∧True) (cnd (!decide (c.label=[])) (∃(i:List UInt8),sb i=sb c.label∧i.length≤140737488355328∧∀(o:Unit),True→cnd (!gE i) (∃(o:Unit),c.orderE=29∧True) (cnd (decide (c.price≥-2000000)) (cnd (!decide (c.price≤2000000)) (∃(o:Unit),c.orderE=23∧True) (cnd (decide (c.inst<0)) (∃(o:Unit),c.orderE=20∧True) (cnd (decide (c.inst>255)) (∃(o:Unit),c.orderE=20∧True) (∃(o:Unit),c.orderE=0∧True)))) (∃(o:Unit),c.orderE=23∧True))) (cnd (decide (c.price≥-2000000)) (cnd (!decide (c.price≤2000000)) (∃(o:Unit),c.orderE=23∧True) (cnd (decide (c.inst<0)) (∃(o:Unit),c.orderE=20∧True) (cnd (decide (c.inst>255)) (∃(o:Unit),c.orderE=20∧True) (∃(o:Unit),c.orderE=0∧True)))) (∃(o:Unit),c.orderE=23∧True)))))) (∃(o:Unit),c.orderE=24∧True))):=by
  intro hs
  have e1:c.orderE=if c.time<1∨3<c.time then 27 else if kF c.qty=false then 24 else if c.least<0∨c.qty<c.least then 28
   else if c.label≠[]∧gE c.label=false then 29 else if vB c.price=false then 23 else if c.inst<0∨255<c.inst then 20 else 0:=by rw[Cmd.orderE,yRd hs]
  refine zI (fun d1=>⟨(),by rw[e1,yRe (.inl d1)],trivial⟩) fun d1=>zI (fun d2=>⟨(),by rw[e1,yRe (.inr d2)],trivial⟩) fun d2=> ?_
  rw[yRd (by omega)]at e1
  have q (hq:kF c.qty=false):∃(o:Unit),c.orderE=24∧True:=⟨(),by rw[e1,yRe hq],trivial⟩
  refine zI (fun d3=>Cv.cnd.mk (fun d4=>q ?_) fun d4=> ?_) fun d3=>q ?_
  ·have d4:¬c.qty≤1000000:=by simpa using d4
   simp[kF,d4]
  ·have d4:c.qty≤1000000:=by simpa using d4
   have hq:¬kF c.qty=false:=by simp[kF,d4];omega
   rw[yRd hq]at e1
   refine zI (fun d5=>⟨(),by rw[e1,yRe (.inl d5)],trivial⟩) fun d5=>zI (fun d6=>⟨(),by rw[e1,yRe (.inr d6)],trivial⟩) fun d6=> ?_
   rw[yRd (by omega)]at e1
   have last:¬(c.label≠[]∧gE c.label=false)→cnd (decide (c.price≥-2000000)) (cnd (!decide (c.price≤2000000)) (∃(o:Unit),c.orderE=23∧True) (cnd (decide (c.inst<0)) (∃(o:Unit),c.orderE=20∧True) (cnd (decide (c.inst>255)) (∃(o:Unit),c.orderE=20∧True) (∃(o:Unit),c.orderE=0∧True)))) (∃(o:Unit),c.orderE=23∧True):=by
    intro hl
    rw[yRd hl]at e1
    have pr (hq:vB c.price=false):∃(o:Unit),c.orderE=23∧True:=⟨(),by rw[e1,yRe hq],trivial⟩
    refine zI (fun g1=>Cv.cnd.mk (fun g2=>pr ?_) fun g2=> ?_) fun g1=>pr ?_
    ·have g2:¬c.price≤2000000:=by simpa using g2
     simp[vB,g2]
    ·have g2:c.price≤2000000:=by simpa using g2
     have hp:¬vB c.price=false:=by simp[vB,g2];omega
     rw[yRd hp]at e1
     refine zI (fun g3=>⟨(),by rw[e1,yRe (.inl g3)],trivial⟩) fun g3=>zI (fun g4=>⟨(),by rw[e1,yRe (.inr g4)],trivial⟩) fun g4=>⟨(),by rw[e1,yRd (by omega)],trivial⟩
    ·simp[vB];omega
   refine Cv.cnd.mk (fun d7=>⟨c.label,rfl,h,fun _ _=>Cv.cnd.mk (fun d8=> ?_) fun d8=>last ?_⟩) fun d7=>last ?_
   ·have d7:¬c.label=[]:=by simpa using d7
    have d8:gE c.label=false:=by simpa using d8
    exact⟨(),by rw[e1,yRe ⟨d7,d8⟩],trivial⟩
   ·have d8:gE c.label=true:=by simpa using d8
    simp[d8]
   ·have d7:c.label=[]:=by simpa using d7
    simp[d7]
  ·simp[kF];omega
 refine zI (fun c1=>zI (fun c2=>⟨(),by rw[Cmd.orderE,yRe ⟨c1,c2⟩],trivial⟩) fun c2=>tail ?_) fun c1=>tail ?_
 ·omega
 ·omega
theorem yEj:cmdOrdC.ok Tryz.prog 106:=okw mixed (gokc yIw gok0) 1 (fun _=>[]) (fun _=>[]) [] Tryz.func106 yNh
theorem yLm (c:Cmd) (h:cmdRtC.cnd c):z6b c:=by
 have h:c.label.length≤140737488355328:=h
 unfold z6b
 simp only[yQk,yPa]
 refine zI (fun c1=>⟨(),by rw[Cmd.right,yRe (.inl c1)],trivial⟩) fun c1=>zI (fun c2=>⟨(),by rw[Cmd.right,yRe (.inr c2)],trivial⟩) fun c2=> ?_
 refine zI (fun c3=>⟨(),by rw[Cmd.right,yRd (by omega),yRe (.inl c3)],trivial⟩) fun c3=>zI (fun c4=>⟨(),by rw[Cmd.right,yRd (by omega),yRe (.inr c4)],trivial⟩) fun c4=> ?_
 have e0:c.right=if c.kind=1 then c.orderE else if c.kind≠2∧kF c.qty=false then 24 else if c.kind=4∧vB c.price=false then 23 else 0:=by rw[Cmd.right,yRd (by omega),yRd (by omega)]
 refine zI (fun c5=>⟨c,?_⟩) fun c5=> ?_
 ·rw[yRe c5]at e0
  exact kp
 rw[yRd c5]at e0
 have last (hn:¬(c.kind≠2∧kF c.qty=false)):cnd (decide (c.kind=4)) (cnd (decide (c.price≥-2000000)) (cnd (!decide (c.price≤2000000)) (∃(o:Unit),c.right=23∧True) (∃(o:Unit),c.right=0∧True)) (∃(o:Unit),c.right=23∧True)) (∃(o:Unit),c.right=0∧True):=by
  rw[yRd hn]at e0
  refine zI (fun d1=>zI (fun d2=>Cv.cnd.mk (fun d3=> ?_) fun d3=> ?_) fun d2=> ?_) fun d1=> ?_
  ·have d3:¬c.price≤2000000:=by simpa using d3
   exact⟨(),by rw[e0,yRe ⟨d1,by simp[vB,d3]⟩],trivial⟩
  ·have d3:c.price≤2000000:=by simpa using d3
   exact⟨(),by rw[e0,yRd (by simp[vB,d3];omega)],trivial⟩
  ·exact⟨(),by rw[e0,yRe ⟨d1,by simp[vB];omega⟩],trivial⟩
  ·exact⟨(),by rw[e0,yRd (by simp[d1])],trivial⟩
 refine zI (fun d1=>zI (fun d2=>Cv.cnd.mk (fun d3=> ?_) fun d3=>last ?_) fun d2=> ?_) fun d1=>last ?_
 ·have d3:¬c.qty≤1000000:=by simpa using d3
  exact⟨(),by rw[e0,yRe ⟨d1,by simp[kF,d3]⟩],trivial⟩
 ·have d3:c.qty≤1000000:=by simpa using d3
  simp[kF,d3];omega
 ·exact⟨(),by rw[e0,yRe ⟨d1,by simp[kF];omega⟩],trivial⟩
 ·omega
theorem zSn:cmdRtC.ok Tryz.prog 57:=okw mixed (gokc yEj gok0) 1 (fun _=>[]) (fun _=>[]) [] Tryz.func57 yLm
open Go Cv Go.Proofs
def rtextC:Con:=con1 RB (fun i=>[.nm 0 0]) (fun i=>[RdB i]) RB.ok (fun i=>sV i.text.1) (fun i=>[RdB i.text.2])
structure TxB where
 l:List UInt8
 s:List UInt8
def ftextC:Con:=con1 TxB (fun i=>[roV 1 (bE i.l),sV i.s]) (fun _=>[]) (fun i=>i.l.length+300≤1099511627776∧i.s.length≤255) (fun _=> .own 0) (fun i=>[.own tU8 1 (bE (i.l++zEq i.s))])
def r6rightC:Con:=con1 Cmd (fun c=>[zAa c]) (fun _=>[]) (fun c=>c.label=[]∧c.right=0) (fun c=>zA 0) (fun _=>[])
def unJ:SAnn:={ι:=Unit,slots:=fun _=>[],rows:=fun _=>[]}
def yAa:List (Nat×SAnn):=[(4,bj 10),(12,bj 18),(22,unJ),(40,bj 50),(50,unJ),(68,bj 90),(76,bj 103)]
def r6encC:Con:=con1 Cmd (fun c=>[zAa c]) (fun _=>[]) (fun c=>c.label=[]∧c.right=0) (fun c=> .tup [roV 1 (bE c.enc),zA 0]) (fun _=>[])
def cdecC:Con:=con1 (List UInt8) (fun b=>[roV 1 (bE b)]) (fun _=>[]) (fun b=>b.length≤1099511627776) (fun b=> .tup [zAa (xG b).1,zA (xG b).2]) (fun _=>[])
def yNv:List (Nat×SAnn):=[(12,bj 19),(26,{ι:=Cmd×RB,slots:=fun _=>[(4,.nm 0 0),(5,.nm 1 0)],rows:=fun x=>[RdB x.2,.cells x.1.cells 36],slots0:=fun _=>[(4,.nm 0 0),(5,.nm 1 0)],rows0:=fun x=>[RdB x.2,.cells x.1.cells 36]})]
open Go Cv Go.Proofs
def yKo (i:RB):Prop:=
 ∃(i_1:RB),AObj.adt (List UInt8×Bool) 1 RdU (i_1.l,i_1.b)=RdB i∧i_1.l.length≤1099511627776∧∀(o:Unit),True→∃(i_2:RN),(↑i_2.n:Int)=kA (i_1.n 1).got∧AObj.adt (List UInt8×Bool) 1 RdU (i_2.l,i_2.b)=AObj.adt (List UInt8×Bool) 1 RdU ((i_1.n 1).left,(i_1.n 1).bad)∧(i_2.n≤255∧i_2.l.length≤1099511627776)∧∀(o:Unit),True→∃(b:ByteArray),(1:Nat)=(1:Nat)∧bE i_2.got=k0 b∧∃(o:Unit),sb ((RB.mk (i.n 1).left (i.n 1).bad).n (kA (i.n 1).got).toNat).got=b∧AObj.adt (List UInt8×Bool) 1 RdU (((RB.mk (i.n 1).left (i.n 1).bad).n (kA (i.n 1).got).toNat).left,((RB.mk (i.n 1).left (i.n 1).bad).n (kA (i.n 1).got).toNat).bad)=AObj.adt (List UInt8×Bool) 1 RdU (i_2.left,i_2.bad)∧True
def yIa (i:TxB):Prop:=
 cnd (decide ((↑(sb i.s).size:Int)>255)) (((0:Int)≤(255:Int)∧255≤(↑(sb i.s).size:Int))∧∃(i_1:WN),bE i_1.l=bE i.l∧i_1.n=(↑((sb i.s).extract 0 (Int.toNat 255)).size:Int)∧i_1.ok∧∀(o:Unit),True→((bE (i_1.l++[lob i_1.n])).length+(k0 ((sb i.s).extract 0 (Int.toNat 255))).length)*(1:Nat)≤(70368744177664:Nat)∧∃(o:Unit),bE (i.l++zEq i.s)=bE (i_1.l++[lob i_1.n])++k0 ((sb i.s).extract 0 (Int.toNat 255))∧True) (∃(i_1:WN),bE i_1.l=bE i.l∧i_1.n=(↑(sb i.s).size:Int)∧i_1.ok∧∀(o:Unit),True→((bE (i_1.l++[lob i_1.n])).length+(k0 (sb i.s)).length)*(1:Nat)≤(70368744177664:Nat)∧∃(o:Unit),bE (i.l++zEq i.s)=bE (i_1.l++[lob i_1.n])++k0 (sb i.s)∧True)
def mQ (a:Cmd):Prop:=Sx.AObj.cells [V.d (dI a.kind),V.d (dI a.id),V.d (dI a.inst),V.d (dI a.side),V.d (dI a.price),V.d (dI a.qty),V.d (dI a.least),V.d (dI a.time),V.d (D.v (Value.string (sb a.label)))] 36=Sx.AObj.cells [V.d (dI a.kind),V.d (dI a.id),V.d (dI a.inst),V.d (dI a.side),V.d (dI a.price),V.d (dI a.qty),V.d (dI a.least),V.d (dI a.time),V.d (D.v (Value.string (sb a.label)))] 36
def kU (a:Bool→Prop) (b:Bool) (c:Cmd):Prop:=a b∧mQ c
def pZ (a:Cmd) (b:Bool→Prop):Prop:=∃(c:Bool),c=decide (a.price>2000000)∧kU b c a
def dH (a:Bool→Prop) (b:Cmd):Prop:=∃(c:Bool),c=false∧kU a c b
def jZ (a:Bool→Prop) (b:Cmd):Prop:=∃(c:Bool),c=true∧kU a c b
def vQ (a:Unit→Prop) (b:Cmd):Prop:=∃(c:Unit),a c∧mQ b
def zTx (c:Cmd):Prop:=
 ∃(a:Bool),∃(b:Bool→Prop),cnd (decide (c.kind<1)) (jZ b c) (∃(d:Bool),d=decide (c.kind>4)∧kU b d c)∧∀(d:Bool),b d→cnd d (∃(e:Unit),(0:Int)=(31:Int)∧True) (∃(e:Bool),∃(f:Bool→Prop),cnd (decide (c.id<1)) (jZ f c) (∃(g:Bool),g=decide (c.id>1099511627776)∧kU f g c)∧∀(g:Bool),f g→cnd g (∃(h:Unit),(0:Int)=(1:Int)∧True) (∃(h:Unit),∃(j:Unit→Prop),cnd (c.kind==1) (cnd (c.side !=1) (cnd (c.side !=2) (∃(k:Unit),(0:Int)=(21:Int)∧True) (cnd (decide (c.time<1)) (∃(k:Unit),(0:Int)=(27:Int)∧True) (cnd (decide (c.time>3)) (∃(k:Unit),(0:Int)=(27:Int)∧True) (vQ j c)))) (cnd (decide (c.time<1)) (∃(k:Unit),(0:Int)=(27:Int)∧True) (cnd (decide (c.time>3)) (∃(k:Unit),(0:Int)=(27:Int)∧True) (vQ j c)))) (vQ j c)∧∀(k:Unit),j k→∃(l:Bool),∃(m:Bool→Prop),cnd (c.kind !=2) (cnd (decide (c.qty<1)) (jZ m c) (∃(n:Bool),n=decide (c.qty>1000000)∧kU m n c)) (dH m c)∧∀(n:Bool),m n→cnd n (∃(p:Unit),(0:Int)=(24:Int)∧True) (∃(p:Unit),∃(q:Unit→Prop),cnd (c.kind==1) (cnd (decide (c.least<0)) (∃(r:Unit),(0:Int)=(28:Int)∧True) (cnd (decide (c.least>c.qty)) (∃(r:Unit),(0:Int)=(28:Int)∧True) (cnd (bZ c) False (vQ q c)))) (vQ q c)∧∀(r:Unit),q r→∃(s:Bool),∃(t:Bool→Prop),cnd (c.kind==1) (cnd (decide (c.price<(-2000000))) (jZ t c) (pZ c t)) (cnd (c.kind==4) (cnd (decide (c.price<(-2000000))) (jZ t c) (pZ c t)) (dH t c))∧∀(u:Bool),t u→cnd u (∃(v:Unit),(0:Int)=(23:Int)∧True) (∃(v:Bool),∃(w:Bool→Prop),cnd (c.kind==1) (cnd (decide (c.inst<0)) (jZ w c) (∃(x:Bool),x=decide (c.inst>255)∧kU w x c)) (dH w c)∧∀(x:Bool),w x→cnd x (∃(y:Unit),(0:Int)=(20:Int)∧True) (∃(y:Unit),(0:Int)=(0:Int)∧True)))))
def eM (a:WN) (b:Cmd):Prop:=∃(c:WN),bE c.l=bE (a.l++le a.n 8)∧c.n=b.qty∧c.ok∧∀(d:Unit),True→∃(e:Unit),bE b.enc=bE (c.l++le c.n 8)∧(0:Int)=(0:Int)∧True
def z8u (c:Cmd):Prop:=
 ∃(a:Cmd),a.kind=c.kind∧a.id=c.id∧a.inst=c.inst∧a.side=c.side∧a.price=c.price∧a.qty=c.qty∧a.least=c.least∧a.time=c.time∧sb a.label=sb c.label∧(a.label=[]∧a.right=0)∧∀(b:Unit),True→∃(d:WN),bE d.l=[]∧d.n=c.kind∧d.ok∧∀(e:Unit),True→c.id=c.id∧∃(f:WN),bE f.l=bE (d.l++[lob d.n])∧f.n=c.id∧f.ok∧∀(g:Unit),True→cnd (c.kind==1) (∃(h:WN),bE h.l=bE (f.l++le f.n 8)∧h.n=c.inst∧h.ok∧∀(j:Unit),True→c.time=c.time∧c.side=c.side∧∃(k:WN),bE k.l=bE (h.l++[lob h.n])∧k.n=c.side∧k.ok∧∀(l:Unit),True→c.time=c.time∧∃(m:WN),bE m.l=bE (k.l++[lob k.n])∧m.n=c.time∧m.ok∧∀(n:Unit),True→∃(p:WN),bE p.l=bE (m.l++[lob m.n])∧p.n=c.price∧p.ok∧∀(q:Unit),True→c.least=c.least∧c.qty=c.qty∧∃(r:WN),bE r.l=bE (p.l++le p.n 8)∧r.n=c.qty∧r.ok∧∀(s:Unit),True→c.least=c.least∧∃(t:WN),bE t.l=bE (r.l++le r.n 8)∧t.n=c.least∧t.ok∧∀(u:Unit),True→∃(v:TxB),bE v.l=bE (t.l++le t.n 8)∧sb v.s=sb c.label∧(v.l.length+(300:Nat)≤(1099511627776:Nat)∧v.s.length≤255)∧∀(w:Unit),True→∃(x:Unit),bE c.enc=bE (v.l++zEq v.s)∧(0:Int)=(0:Int)∧True) (cnd (c.kind==3) (eM f c) (cnd (c.kind==4) (∃(h:WN),bE h.l=bE (f.l++le f.n 8)∧h.n=c.price∧h.ok∧∀(j:Unit),True→c.qty=c.qty∧eM h c) (∃(h:Unit),bE c.enc=bE (f.l++le f.n 8)∧(0:Int)=(0:Int)∧True)))
def zEd:Prop:=Sx.AObj.cells (Sx.V.agg [V.d (dI 0),V.d (dI 0),V.d (dI 0),V.d (dI 0),V.d (dI 0),V.d (dI 0),V.d (dI 0),V.d (dI 0),V.d qZ]).cl 36=Sx.AObj.cells (Sx.V.agg [V.d (dI 0),V.d (dI 0),V.d (dI 0),V.d (dI 0),V.d (dI 0),V.d (dI 0),V.d (dI 0),V.d (dI 0),V.d qZ]).cl 36
def zHk (a:Bool→Prop) (b:Bool) (c:RB):Prop:=a b∧Sx.AObj.cells [V.d (dI (kA (c.n 1).got)),V.d (dI 0),V.d (dI 0),V.d (dI 0),V.d (dI 0),V.d (dI 0),V.d (dI 0),V.d (dI 0),V.d qZ] 36=Sx.AObj.cells [V.d (dI (kA (c.n 1).got)),V.d (dI 0),V.d (dI 0),V.d (dI 0),V.d (dI 0),V.d (dI 0),V.d (dI 0),V.d (dI 0),V.d qZ] 36∧AObj.adt (List UInt8×Bool) 1 RdU ((c.n 1).left,(c.n 1).bad)=AObj.adt (List UInt8×Bool) 1 RdU ((c.n 1).left,(c.n 1).bad)∧zEd
def zDv (a:Cmd×RB→Prop) (b:Cmd×RB):Prop:=a b∧zEd
def zEb (a:Cmd×RB) (b:Cmd×RB) (c:Cmd×RB→Prop):Prop:=a.fst.least=b.fst.least∧a.fst.time=b.fst.time∧sb a.fst.label=sb b.fst.label∧zDv c a
def zHr (a:Cmd×RB) (b:RB) (c:Cmd×RB) (d:Cmd×RB→Prop):Prop:=a.fst.qty=IntKind.i64.wrap (kA (b.n 8).got)∧zEb a c d
def rY (a:RB):=((RB.mk (a.n 1).left (a.n 1).bad).n (kA (a.n 1).got).toNat)
def yGh (b:List UInt8):Prop:=
 ∃(a:List UInt8),bE a=bE b∧a.length≤1099511627776∧∀(c:Unit),True→∃(d:RB),AObj.adt (List UInt8×Bool) 1 RdU (d.l,d.b)=AObj.adt (List UInt8×Bool) 1 RdU (a,false)∧d.l.length≤1099511627776∧∀(e:Unit),True→∃(f:Bool),∃(g:Bool→Prop),cnd (decide (kA (d.n 1).got<1)) (∃(h:Bool),h=true∧zHk g h d) (∃(h:Bool),h=decide (kA (d.n 1).got>4)∧zHk g h d)∧∀(h:Bool),g h→cnd h (∃(j:Unit),(xG b).fst.kind=0∧(xG b).fst.id=0∧(xG b).fst.inst=0∧(xG b).fst.side=0∧(xG b).fst.price=0∧(xG b).fst.qty=0∧(xG b).fst.least=0∧(xG b).fst.time=0∧sb (xG b).fst.label=ByteArray.mk #[]∧(xG b).snd=31∧True) (∃(j:RB),AObj.adt (List UInt8×Bool) 1 RdU (j.l,j.b)=AObj.adt (List UInt8×Bool) 1 RdU ((d.n 1).left,(d.n 1).bad)∧j.l.length≤1099511627776∧∀(k:Unit),True→∃(l:Cmd×RB),AObj.adt (List UInt8×Bool) 1 RdU (l.snd.l,l.snd.b)=AObj.adt (List UInt8×Bool) 1 RdU ((j.n 8).left,(j.n 8).bad)∧l.fst.kind=kA (d.n 1).got∧l.fst.id=IntKind.i64.wrap (kA (j.n 8).got)∧l.fst.inst=0∧l.fst.side=0∧l.fst.price=0∧l.fst.qty=0∧l.fst.least=0∧l.fst.time=0∧sb l.fst.label=ByteArray.mk #[]∧∃(m:Cmd×RB→Prop),cnd (l.fst.kind==1) (∃(n:RB),AObj.adt (List UInt8×Bool) 1 RdU (n.l,n.b)=AObj.adt (List UInt8×Bool) 1 RdU (l.snd.l,l.snd.b)∧n.l.length≤1099511627776∧∀(p:Unit),True→∃(q:RB),AObj.adt (List UInt8×Bool) 1 RdU (q.l,q.b)=AObj.adt (List UInt8×Bool) 1 RdU ((n.n 1).left,(n.n 1).bad)∧q.l.length≤1099511627776∧∀(r:Unit),True→∃(s:RB),AObj.adt (List UInt8×Bool) 1 RdU (s.l,s.b)=AObj.adt (List UInt8×Bool) 1 RdU ((q.n 1).left,(q.n 1).bad)∧s.l.length≤1099511627776∧∀(t:Unit),True→∃(u:RB),AObj.adt (List UInt8×Bool) 1 RdU (u.l,u.b)=AObj.adt (List UInt8×Bool) 1 RdU ((s.n 1).left,(s.n 1).bad)∧u.l.length≤1099511627776∧∀(v:Unit),True→∃(w:RB),AObj.adt (List UInt8×Bool) 1 RdU (w.l,w.b)=AObj.adt (List UInt8×Bool) 1 RdU ((u.n 8).left,(u.n 8).bad)∧w.l.length≤1099511627776∧∀(x:Unit),True→∃(y:RB),AObj.adt (List UInt8×Bool) 1 RdU (y.l,y.b)=AObj.adt (List UInt8×Bool) 1 RdU ((w.n 8).left,(w.n 8).bad)∧y.l.length≤1099511627776∧∀(z:Unit),True→∃(a_1:RB),AObj.adt (List UInt8×Bool) 1 RdU (a_1.l,a_1.b)=AObj.adt (List UInt8×Bool) 1 RdU ((y.n 8).left,(y.n 8).bad)∧a_1.ok∧∀(a_2:Unit),True→∃(a_3:Cmd×RB),AObj.adt (List UInt8×Bool) 1 RdU (a_3.snd.l,a_3.snd.b)=AObj.adt (List UInt8×Bool) 1 RdU ((rY a_1).left,(rY a_1).bad)∧a_3.fst.kind=l.fst.kind∧a_3.fst.id=l.fst.id∧a_3.fst.inst=kA (n.n 1).got∧a_3.fst.side=kA (q.n 1).got∧a_3.fst.price=IntKind.i64.wrap (kA (u.n 8).got)∧a_3.fst.qty=IntKind.i64.wrap (kA (w.n 8).got)∧a_3.fst.least=IntKind.i64.wrap (kA (y.n 8).got)∧a_3.fst.time=kA (s.n 1).got∧sb a_3.fst.label=sb (rY a_1).got∧zDv m a_3) (cnd (l.fst.kind==3) (∃(n:RB),AObj.adt (List UInt8×Bool) 1 RdU (n.l,n.b)=AObj.adt (List UInt8×Bool) 1 RdU (l.snd.l,l.snd.b)∧n.l.length≤1099511627776∧∀(p:Unit),True→∃(q:Cmd×RB),AObj.adt (List UInt8×Bool) 1 RdU (q.snd.l,q.snd.b)=AObj.adt (List UInt8×Bool) 1 RdU ((n.n 8).left,(n.n 8).bad)∧q.fst.kind=l.fst.kind∧q.fst.id=l.fst.id∧q.fst.inst=l.fst.inst∧q.fst.side=l.fst.side∧q.fst.price=l.fst.price∧zHr q n l m) (cnd (l.fst.kind==4) (∃(n:RB),AObj.adt (List UInt8×Bool) 1 RdU (n.l,n.b)=AObj.adt (List UInt8×Bool) 1 RdU (l.snd.l,l.snd.b)∧n.l.length≤1099511627776∧∀(p:Unit),True→∃(q:RB),AObj.adt (List UInt8×Bool) 1 RdU (q.l,q.b)=AObj.adt (List UInt8×Bool) 1 RdU ((n.n 8).left,(n.n 8).bad)∧q.l.length≤1099511627776∧∀(r:Unit),True→∃(s:Cmd×RB),AObj.adt (List UInt8×Bool) 1 RdU (s.snd.l,s.snd.b)=AObj.adt (List UInt8×Bool) 1 RdU ((q.n 8).left,(q.n 8).bad)∧s.fst.kind=l.fst.kind∧s.fst.id=l.fst.id∧s.fst.inst=l.fst.inst∧s.fst.side=l.fst.side∧s.fst.price=IntKind.i64.wrap (kA (n.n 8).got)∧zHr s q l m) (∃(n:Cmd×RB),AObj.adt (List UInt8×Bool) 1 RdU (n.snd.l,n.snd.b)=AObj.adt (List UInt8×Bool) 1 RdU (l.snd.l,l.snd.b)∧n.fst.kind=l.fst.kind∧n.fst.id=l.fst.id∧n.fst.inst=l.fst.inst∧n.fst.side=l.fst.side∧n.fst.price=l.fst.price∧n.fst.qty=l.fst.qty∧zEb n l m)))∧∀(n:Cmd×RB),m n→∃(p:RB),AObj.adt (List UInt8×Bool) 1 RdU (p.l,p.b)=AObj.adt (List UInt8×Bool) 1 RdU (n.snd.l,n.snd.b)∧p.l.length≤1099511627776∧∀(q:Unit),True→cnd ((if p.b=true then(10:Int)else if 0<p.l.length then(15:Int)else(0:Int)) !=0) (∃(r:Unit),(xG b).fst.kind=0∧(xG b).fst.id=0∧(xG b).fst.inst=0∧(xG b).fst.side=0∧(xG b).fst.price=0∧(xG b).fst.qty=0∧(xG b).fst.least=0∧(xG b).fst.time=0∧sb (xG b).fst.label=ByteArray.mk #[]∧(xG b).snd=12∧True) (∃(r:Cmd),r.kind=n.fst.kind∧r.id=n.fst.id∧r.inst=n.fst.inst∧r.side=n.fst.side∧r.price=n.fst.price∧r.qty=n.fst.qty∧r.least=n.fst.least∧r.time=n.fst.time∧sb r.label=sb n.fst.label∧r.label.length≤140737488355328∧∀(s:Unit),True→cnd (r.right !=0) (∃(t:Unit),(xG b).fst.kind=0∧(xG b).fst.id=0∧(xG b).fst.inst=0∧(xG b).fst.side=0∧(xG b).fst.price=0∧(xG b).fst.qty=0∧(xG b).fst.least=0∧(xG b).fst.time=0∧sb (xG b).fst.label=ByteArray.mk #[]∧(xG b).snd=r.right∧True) (∃(t:Unit),(xG b).fst.kind=n.fst.kind∧(xG b).fst.id=n.fst.id∧(xG b).fst.inst=n.fst.inst∧(xG b).fst.side=n.fst.side∧(xG b).fst.price=n.fst.price∧(xG b).fst.qty=n.fst.qty∧(xG b).fst.least=n.fst.least∧(xG b).fst.time=n.fst.time∧sb (xG b).fst.label=sb n.fst.label∧(xG b).snd=0∧True)))
open Go Cv Go.Proofs
theorem zTr (r:RB):0≤r.byte.1∧r.byte.1≤255:=by
 have h:=mY (r.n 1).got
 have hl:(r.n 1).got.length≤1:=zGa (r.n 1)
 show 0≤kA (r.n 1).got∧kA (r.n 1).got≤255
 obtain e|e:(r.n 1).got.length=0∨(r.n 1).got.length=1:=by omega
 ·rw[e]at h;omega
 ·rw[e]at h;omega
theorem yBw {r:RB} (h:r.ok):r.text.2.ok:=yTv (pJ _) (yTv (pJ _) h)
theorem yBh:rtextC.ok Tryz.prog 143:=okw (V:=yKo) mixed (gokc zTg (gokc z0j gok0)) 0 (fun _=>[]) (fun _=>[]) [] Tryz.func143 fun(i:RB) h=>by
 have h:i.l.length≤1099511627776:=h
 have hb:=zTr i
 exact⟨i,rfl,h,fun _ _=>⟨⟨(i.n 1).left,(i.n 1).bad,i.byte.1.toNat⟩,by dsimp only;exact Int.toNat_of_nonneg hb.1,rfl,⟨by dsimp only;omega,yTv (pJ _) h⟩,fun _ _=>⟨_,rfl,z4n _,(),rfl,rfl,trivial⟩⟩⟩
theorem z6w:ftextC.ok Tryz.prog 48:=okw (V:=yIa) mixed (gokc zTd gok0) 0 (fun _=>[]) (fun _=>[]) [] Tryz.func48 fun(i:TxB) h=>by
 obtain⟨l,s⟩:=i
 obtain⟨h,hl⟩:l.length+300≤1099511627776∧s.length≤255:=h
 have hs:(sb s).size=s.length:=zGc s
 refine zI (fun e=> ?_) (fun e=> ?_)
 ·have e:((sb s).size:Int)>255:=e
  omega
 ·have et:s.take 255=s:=yRw (by omega)
  refine⟨⟨l,s.length⟩,rfl,by dsimp only;rw[hs],by dsimp only[WN.ok];omega,fun _ _=>⟨?_,(),?_,trivial⟩⟩
  ·dsimp only
   rw[zNe,vY,vY,yRi]
   simp[sb];omega
  ·dsimp only
   rw[zNe,← zWw,zEq,et]
   simp[sb]
theorem z9u (c:Cmd) (h:r6rightC.cnd c):zTx c:=by
 obtain⟨hl,hr⟩:c.label=[]∧c.right=0:=h
 obtain⟨hk,hi,hq,hp,ho⟩:=zQb hr
 unfold zTx pZ vQ jZ dH kU mQ bZ dI
 refine⟨false,fun b=>b=false,zI (fun e=>absurd e (by omega)) (fun _=>⟨_,rfl,yRo (by omega),by(repeat'(first|exact trivial|exact rfl|apply And.intro))⟩),?_⟩
 rintro _ rfl
 refine Cv.cnd.mk (fun e=>absurd e (by decide)) (fun _=> ?_)
 refine⟨false,fun b=>b=false,zI (fun e=>absurd e (by omega)) (fun _=>⟨_,rfl,yRo (by omega),by(repeat'(first|exact trivial|exact rfl|apply And.intro))⟩),?_⟩
 rintro _ rfl
 refine Cv.cnd.mk (fun e=>absurd e (by decide)) (fun _=> ?_)
 refine⟨(),fun _=>True,Cv.cnd.mk (fun e=> ?_) (fun _=>⟨(),trivial,by(repeat'(first|exact trivial|exact rfl|apply And.intro))⟩),fun _ _=> ?_⟩
 ·obtain⟨s1,s2,s3,s4,s5⟩:=ho (by simpa using e)
  refine Cv.cnd.mk (fun e1=>Cv.cnd.mk (fun e2=> ?_) (fun _=> ?_)) (fun _=> ?_)
  ·have e1:c.side≠1:=by simpa using e1
   have e2:c.side≠2:=by simpa using e2
   omega
  all_goals exact zI (fun e=>absurd e (by omega)) (fun _=>zI (fun e=>absurd e (by omega)) (fun _=>⟨(),trivial,by(repeat'(first|exact trivial|exact rfl|apply And.intro))⟩))
 refine⟨false,fun b=>b=false,Cv.cnd.mk (fun e=> ?_) (fun _=>⟨_,rfl,rfl,by(repeat'(first|exact trivial|exact rfl|apply And.intro))⟩),?_⟩
 ·have hq:=hq (by simpa using e)
  exact zI (fun e=>absurd e (by omega)) (fun _=>⟨_,rfl,yRo (by omega),by(repeat'(first|exact trivial|exact rfl|apply And.intro))⟩)
 rintro _ rfl
 refine Cv.cnd.mk (fun e=>absurd e (by decide)) (fun _=> ?_)
 refine⟨(),fun _=>True,Cv.cnd.mk (fun e=> ?_) (fun _=>⟨(),trivial,by(repeat'(first|exact trivial|exact rfl|apply And.intro))⟩),fun _ _=> ?_⟩
 ·obtain⟨s1,s2,s3,s4,s5⟩:=ho (by simpa using e)
  refine zI (fun e=>absurd e (by omega)) (fun _=>zI (fun e=>absurd e (by omega)) (fun _=>Cv.cnd.mk (fun e=> ?_) (fun _=>⟨(),trivial,by(repeat'(first|exact trivial|exact rfl|apply And.intro))⟩)))
  rw[hl]at e
  exact absurd e (by decide+kernel)
 have hpr:∀{Q:Prop},Q→(c.kind=1∨c.kind=4)→cnd (decide (c.price< -2000000)) (∃i':Bool,i'=true∧i'=false∧Q) (∃i':Bool,i'=decide (c.price>2000000)∧i'=false∧Q):=fun hQ hk=>by
  have:=hp hk
  exact zI (fun e=>absurd e (by omega)) (fun _=>⟨_,rfl,yRo (by omega),hQ⟩)
 refine⟨false,fun b=>b=false,Cv.cnd.mk (fun e=>hpr (by(repeat'(first|exact trivial|exact rfl|apply And.intro))) (.inl (by simpa using e))) (fun _=>Cv.cnd.mk (fun e=>hpr (by(repeat'(first|exact trivial|exact rfl|apply And.intro))) (.inr (by simpa using e))) (fun _=>⟨_,rfl,rfl,by(repeat'(first|exact trivial|exact rfl|apply And.intro))⟩)),?_⟩
 rintro _ rfl
 refine Cv.cnd.mk (fun e=>absurd e (by decide)) (fun _=> ?_)
 refine⟨false,fun b=>b=false,Cv.cnd.mk (fun e=> ?_) (fun _=>⟨_,rfl,rfl,by(repeat'(first|exact trivial|exact rfl|apply And.intro))⟩),?_⟩
 ·obtain⟨s1,s2,s3,s4,s5⟩:=ho (by simpa using e)
  exact zI (fun e=>absurd e (by omega)) (fun _=>⟨_,rfl,yRo (by omega),by(repeat'(first|exact trivial|exact rfl|apply And.intro))⟩)
 rintro _ rfl
 exact Cv.cnd.mk (fun e=>absurd e (by decide)) (fun _=>⟨(),rfl,trivial⟩)
theorem zUu:r6rightC.ok Tryz.prog 45:=okw mixed gok0 0 (fun _=>yAa) (fun _=>[]) [] Tryz.func45 z9u
theorem yLi (c:Cmd) (h:r6encC.cnd c):z8u c:=by
 obtain⟨hl,hr⟩:c.label=[]∧c.right=0:=h
 have he:c.enc=lob c.kind::(le c.id 8++c.tail):=by rw[Cmd.enc,yRd (by simp[hr])]
 unfold z8u eM
 refine⟨c,rfl,rfl,rfl,rfl,rfl,rfl,rfl,rfl,rfl,⟨hl,hr⟩,fun _ _=>⟨⟨[],c.kind⟩,rfl,rfl,by simp[WN.ok],fun _ _=>⟨rfl,⟨[lob c.kind],c.id⟩,rfl,rfl,by simp[WN.ok],fun _ _=> ?_⟩⟩⟩
 dsimp only
 refine Cv.cnd.mk (fun e=> ?_) (fun e=>Cv.cnd.mk (fun e3=> ?_) (fun e3=>Cv.cnd.mk (fun e4=> ?_) (fun e4=> ?_)))
 ·have e:c.kind=1:=by simpa using e
  have ht:c.tail=lob c.inst::lob c.side::lob c.time::(le c.price 8++(le c.qty 8++(le c.least 8++zEq c.label))):=by rw[Cmd.tail,yRe e]
  refine⟨⟨[lob c.kind]++le c.id 8,c.inst⟩,rfl,rfl,by simp[WN.ok,vZ],fun _ _=>⟨rfl,rfl,⟨_,c.side⟩,rfl,rfl,by simp[WN.ok,vZ],fun _ _=>⟨rfl,⟨_,c.time⟩,rfl,rfl,by simp[WN.ok,vZ],fun _ _=>⟨⟨_,c.price⟩,rfl,rfl,by simp[WN.ok,vZ],fun _ _=>⟨rfl,rfl,⟨_,c.qty⟩,rfl,rfl,by simp[WN.ok,vZ],fun _ _=>⟨rfl,⟨_,c.least⟩,rfl,rfl,by simp[WN.ok,vZ],fun _ _=>⟨⟨_,c.label⟩,rfl,rfl,⟨by simp[vZ],by show c.label.length≤255;rw[hl];decide⟩,fun _ _=>⟨(),?_,rfl,trivial⟩⟩⟩⟩⟩⟩⟩⟩
  dsimp only
  rw[he,ht];simp
 ·have e3:c.kind=3:=by simpa using e3
  have ht:c.tail=le c.qty 8:=by rw[Cmd.tail,yRd (by omega),yRe e3]
  refine⟨⟨[lob c.kind]++le c.id 8,c.qty⟩,rfl,rfl,by simp[WN.ok,vZ],fun _ _=>⟨(),?_,rfl,trivial⟩⟩
  dsimp only
  rw[he,ht];simp
 ·have e4:c.kind=4:=by simpa using e4
  have ht:c.tail=le c.price 8++le c.qty 8:=by rw[Cmd.tail,yRd (by omega),yRd (by omega),yRe e4]
  refine⟨⟨[lob c.kind]++le c.id 8,c.price⟩,rfl,rfl,by simp[WN.ok,vZ],fun _ _=>⟨rfl,⟨_,c.qty⟩,rfl,rfl,by simp[WN.ok,vZ],fun _ _=>⟨(),?_,rfl,trivial⟩⟩⟩
  dsimp only
  rw[he,ht];simp
 ·have e:¬c.kind=1:=by simpa using e
  have e3:¬c.kind=3:=by simpa using e3
  have e4:¬c.kind=4:=by simpa using e4
  have ht:c.tail=[]:=by rw[Cmd.tail,yRd e,yRd e3,yRd e4]
  refine⟨(),?_,rfl,trivial⟩
  rw[he,ht];simp
theorem r6enc_ok:r6encC.ok Tryz.prog 15:=okw mixed (gokc zUu (gokc zTd (gokc z9g (gokc z6w gok0)))) 0 (fun _=>[]) (fun _=>[]) [] Tryz.func15 yLi
theorem yGl {k id:Int} {r:RB} (h:r.ok):(x4 k id r).2.ok∧(x4 k id r).1.label.length≤255:=by
 rw[x4]
 split
 ·have h6:=uL (uL (uL (bP (bP (bP h)))))
  refine⟨yBw h6,?_⟩
  show(RB.text (r.byte.2.byte.2.byte.2.long.2.long.2.long.2)).1.length≤255
  generalize r.byte.2.byte.2.byte.2.long.2.long.2.long.2=q
  have:=zTr q
  have:(q.text.1).length≤q.byte.1.toNat:=zGa _
  omega
 split
 ·exact⟨uL h,ySr _⟩
 split
 ·exact⟨uL (uL h),ySr _⟩
 ·exact⟨h,ySr _⟩
theorem yNz (b:List UInt8) (h:cdecC.cnd b):yGh b:=by
 have h:b.length≤1099511627776:=h
 obtain⟨r0,hr⟩:∃r0,r0=RB.mk b false:=⟨_,rfl⟩
 have hr0:r0.ok:=by rw[hr];exact h
 have hk2:=bP hr0
 have hk3:=uL hk2
 have hdec:xG b=if r0.byte.1<1∨4<r0.byte.1 then(zTm,31)else if(x4 r0.byte.1 r0.byte.2.long.1 r0.byte.2.long.2).2.endOf≠0 then(zTm,12)else if(x4 r0.byte.1 r0.byte.2.long.1 r0.byte.2.long.2).1.right≠0 then(zTm,(x4 r0.byte.1 r0.byte.2.long.1 r0.byte.2.long.2).1.right)else((x4 r0.byte.1 r0.byte.2.long.1 r0.byte.2.long.2).1,0):=by
  rw[hr];rfl
 unfold yGh zHr zHk rY zEb zDv zEd qZ dI
 generalize xG b=X at hdec ⊢
 refine⟨b,rfl,h,fun _ _=>⟨r0,by rw[hr],hr0,fun _ _=>⟨true,fun x=>x=decide (r0.byte.1<1∨4<r0.byte.1),zI (fun e=>⟨true,rfl,(yRu (.inl e)).symm,by(repeat'(first|exact trivial|exact rfl|apply And.intro))⟩) (fun e=>⟨_,rfl,decide_eq_decide.2 ⟨.inr,fun x=>x.resolve_left e⟩,by(repeat'(first|exact trivial|exact rfl|apply And.intro))⟩),?_⟩⟩⟩
 rintro _ rfl
 refine zI (fun e=> ?_) (fun e=> ?_)
 ·rw[hdec,yRe e]
  exact⟨(),rfl,rfl,rfl,rfl,rfl,rfl,rfl,rfl,rfl,rfl,trivial⟩
 rw[yRd e]at hdec
 generalize hk:r0.byte.1=k at hdec
 refine⟨r0.byte.2,rfl,hk2,fun _ _=>⟨(⟨r0.byte.1,r0.byte.2.long.1,0,0,0,0,0,0,[]⟩,r0.byte.2.long.2),rfl,rfl,rfl,rfl,rfl,rfl,rfl,rfl,rfl,rfl,fun x=>x=x4 r0.byte.1 r0.byte.2.long.1 r0.byte.2.long.2,?_,?_⟩⟩
 ·generalize r0.byte.2.long.2=r2 at*
  generalize r0.byte.2.long.1=id at*
  rw[hk]
  refine Cv.cnd.mk (fun e=> ?_) (fun e1=>Cv.cnd.mk (fun e=> ?_) (fun e3=>Cv.cnd.mk (fun e=> ?_) (fun e4=> ?_)))
  ·have e:k=1:=by simpa using e
   have h1:=bP hk3
   have h2:=bP h1
   have h3:=bP h2
   have h4:=uL h3
   have h5:=uL h4
   have h6:=uL h5
   exact⟨r2,rfl,hk3,fun _ _=>⟨_,rfl,h1,fun _ _=>⟨_,rfl,h2,fun _ _=>⟨_,rfl,h3,fun _ _=>⟨_,rfl,h4,fun _ _=>⟨_,rfl,h5,fun _ _=>⟨_,rfl,h6,fun _ _=>⟨x4 k id r2,by rw[x4,yRe e];rfl,by rw[x4,yRe e],by rw[x4,yRe e],by rw[x4,yRe e];rfl,by rw[x4,yRe e];rfl,by rw[x4,yRe e];rfl,by rw[x4,yRe e];rfl,by rw[x4,yRe e];rfl,by rw[x4,yRe e];rfl,by rw[x4,yRe e];rfl,rfl,by(repeat'(first|exact trivial|exact rfl|apply And.intro))⟩⟩⟩⟩⟩⟩⟩⟩
  ·have e1:¬k=1:=by simpa using e1
   have e:k=3:=by simpa using e
   have hd:x4 k id r2=(⟨k,id,0,0,0,r2.long.1,0,0,[]⟩,r2.long.2):=by rw[x4,yRd e1,yRe e]
   exact⟨r2,rfl,hk3,fun _ _=>⟨(⟨k,id,0,0,0,r2.long.1,0,0,[]⟩,r2.long.2),rfl,rfl,rfl,rfl,rfl,rfl,rfl,rfl,rfl,rfl,hd.symm,by(repeat'(first|exact trivial|exact rfl|apply And.intro))⟩⟩
  ·have e1:¬k=1:=by simpa using e1
   have e3:¬k=3:=by simpa using e3
   have e:k=4:=by simpa using e
   have hd:x4 k id r2=(⟨k,id,0,0,r2.long.1,r2.long.2.long.1,0,0,[]⟩,r2.long.2.long.2):=by rw[x4,yRd e1,yRd e3,yRe e]
   exact⟨r2,rfl,hk3,fun _ _=>⟨_,rfl,uL hk3,fun _ _=>⟨(⟨k,id,0,0,r2.long.1,r2.long.2.long.1,0,0,[]⟩,r2.long.2.long.2),rfl,rfl,rfl,rfl,rfl,rfl,rfl,rfl,rfl,rfl,hd.symm,by(repeat'(first|exact trivial|exact rfl|apply And.intro))⟩⟩⟩
  ·have e1:¬k=1:=by simpa using e1
   have e3:¬k=3:=by simpa using e3
   have e4:¬k=4:=by simpa using e4
   have hd:x4 k id r2=(⟨k,id,0,0,0,0,0,0,[]⟩,r2):=by rw[x4,yRd e1,yRd e3,yRd e4]
   exact⟨(⟨k,id,0,0,0,0,0,0,[]⟩,r2),rfl,rfl,rfl,rfl,rfl,rfl,rfl,rfl,rfl,rfl,hd.symm,by(repeat'(first|exact trivial|exact rfl|apply And.intro))⟩
 ·rintro x hx
  obtain⟨o1,o2⟩:=yGl (k:=r0.byte.1) (id:=r0.byte.2.long.1) hk3
  rw[← hx]at o1 o2
  rw[← hk,← hx]at hdec
  obtain⟨c,q⟩:=x
  refine⟨q,rfl,o1,fun _ _=>Cv.cnd.mk (fun e=> ?_) (fun e=>⟨c,rfl,rfl,rfl,rfl,rfl,rfl,rfl,rfl,rfl,yTv o2 (by decide),fun _ _=>Cv.cnd.mk (fun e2=> ?_) (fun e2=> ?_)⟩)⟩
  ·have e:q.endOf≠0:=by simpa[RB.endOf]using e
   rw[hdec,yRe e]
   exact⟨(),rfl,rfl,rfl,rfl,rfl,rfl,rfl,rfl,rfl,rfl,trivial⟩
  ·have e:¬q.endOf≠0:=by simpa[RB.endOf]using e
   have e2:c.right≠0:=by simpa using e2
   rw[hdec,yRd e,yRe e2]
   exact⟨(),rfl,rfl,rfl,rfl,rfl,rfl,rfl,rfl,rfl,rfl,trivial⟩
  ·have e:¬q.endOf≠0:=by simpa[RB.endOf]using e
   have e2:¬c.right≠0:=by simpa using e2
   rw[hdec,yRd e,yRd e2]
   exact⟨(),rfl,rfl,rfl,rfl,rfl,rfl,rfl,rfl,rfl,rfl,trivial⟩
theorem yEu:cdecC.ok Tryz.prog 100:=okw mixed (gokc yFn (gokc zTg (gokc z7v (gokc yBh (gokc yCp (gokc zSn gok0)))))) 0 (fun _=>yNv) (fun _=>[]) [] Tryz.func100 yNz
open Go Cv Go.Proofs
structure SoI where
 s:MSt
 p:Prd
 B:List (List zH)
 inst:Int
 sd:Bool
@[reducible] def SoI.ok (i:SoI):Prop:=i.s.Rep i.p i.B∧i.B.length≤1000
open Go Cv Go.Proofs
open Go Cv Go.Proofs
open Go Cv Go.Proofs
def z2u (s:Int) (F:List zH):Prop:=F.Pairwise fun o o'=>btr s o'.price o.price=false
def pL (L:List zH) (s:Int):List zH:=L.filter fun o=>decide (o.side=s)
structure BWf (p:Prd) (B:List (List zH)):Prop where
 ok:BOk p B
 od:yCi B
 ub:((whL 0 B).map (·.1)).Nodup
 srt:∀(k:Nat) (L:List zH),B[k]? =some L→∀s,s=1∨s=2→z2u s (pL L s)
theorem zQp {s:Int} {b:Book} {Q:List (List Nat)}:∀{R:List xF},(R.Pairwise fun r r'=>btr s r.price r'.price=true)→z2u s (R.flatMap (b.rOrds Q s))
 |[],_=>List.Pairwise.nil
 |r::R,h=>by
  rw[yWx]at h
  rw[ySt,z2u,List.pairwise_append]
  refine⟨List.pairwise_of_forall_mem_list fun o ho o' ho'=> ?_,zQp h.2,fun o ho o' ho'=> ?_⟩
  ·rw[(x7 ho).2,(x7 ho').2];exact sF _ _
  ·obtain⟨r',hr',ho'⟩:=yTr.1 ho'
   rw[(x7 ho).2,(x7 ho').2];exact zRl (h.1 r' hr')
theorem Book.Rep.srt {b:Book} {L:List zH} (h:b.Rep L) {s:Int} (hs:s=1∨s=2):z2u s (pL L s):=by
 obtain⟨Q,c,ht,rfl⟩:=h
 rw[pL,zLd hs]
 exact zQp (c.srt s hs)
theorem MSt.Rep.wf {s:MSt} {p:Prd} {B:List (List zH)} (h:s.Rep p B) (hb:BOk p B):BWf p B:=by
 refine⟨hb,h.ords,h.ids,fun k L hL=> ?_⟩
 obtain⟨b,hb⟩:=yD (l:=s.books) (i:=k) (by rw[h.bl];exact(yRf.1 hL).1)
 exact fun s hs=>(h.bk k b L hb hL).srt hs
theorem z7g {L:List zH} (h:∀o∈L,zHm o) (hn:(L.map (·.id)).Nodup) (id q:Int):∀o∈(xU L id q).1,zHm o:=by
 intro o ho
 rw[xU]at ho
 split at ho
 ·exact h o ho
 split at ho
 ·exact h o ho
 rename_i hb
 obtain⟨o',ho',e⟩:=yWb.1 ho
 have h0:=h o' ho'
 split at e
 ·rename_i e1
  have hg:=m5 hn ho'
  rw[e1]at hg
  rw[hg]at hb
  split at e
  ·cases e
  ·rename_i e2
   cases e
   have:=h0.q
   exact⟨h0.s,by dsimp only;omega⟩
 ·cases e;exact h0
theorem z8d (L:List zH) (id q:Int):(xU L id q).1.length≤L.length:=by
 rw[xU]
 split
 ·exact ySk _
 split
 ·exact ySk _
 exact List.length_filterMap_le _ _
theorem z6k {L:List zH} {s:Int} (h:z2u s (pL L s)) (id q:Int):z2u s (pL (xU L id q).1 s):=by
 rw[xU]
 split
 ·exact h
 split
 ·exact h
 have e:pL (vW L id q) s=vW (pL L s) id q:=by
  rw[pL,pL,vW,vW,List.filter_filterMap,List.filterMap_filter]
  refine cI fun o _=> ?_
  by_cases e1:o.id=id
  ·rw[yRe e1]
   by_cases e2:o.qty=q
   ·rw[yRe e2];simp
   ·rw[yRd e2];by_cases e3:o.side=s<;>simp[Option.filter,e3]
  ·rw[yRd e1];by_cases e3:o.side=s<;>simp[Option.filter,e3]
 rw[e,vW]
 refine List.Pairwise.filterMap _ (fun a a' haa b hb b' hb'=> ?_) h
 have g:∀{a b:zH},(if a.id=id then(if a.qty=q then none else some {a with qty:=a.qty-q})else some a)=some b→b.price=a.price:=by
  intro a b e
  split at e
  ·split at e
   ·cases e
   ·cases e;rfl
  ·cases e;rfl
 rw[g hb,g hb'];exact haa
theorem yFi {B:List (List zH)} (h:((whL 0 B).map (·.1)).Nodup) {k:Nat} {L L':List zH} (hL:B[k]? =some L) (hs:(L'.map (·.id)).Sublist (L.map (·.id))):((whL 0 (B.set k L')).map (·.1)).Nodup:=by
 have hk:=(yRf.1 hL).1
 obtain⟨rest,hr⟩:=zFw (B:=B) 0 k hk
 have h0:=hr L
 rw[u6 hL]at h0
 have h1:=(h0.map (·.1)).nodup_iff.1 h
 refine((hr L').map (·.1)).nodup_iff.2 ?_
 rw[yRm,yTl]at h1 ⊢
 exact h1.sublist (List.Sublist.append hs (List.Sublist.refl _))
theorem BWf.take {p:Prd} {B:List (List zH)} (h:BWf p B) (id q:Int):BWf p (qS B id q).1:=by
 refine⟨h.ok.take id q,?_,?_,?_⟩
 all_goals
  rw[qS]
  cases hi:cD B id with
  |none=>first|exact h.od|exact h.ub|exact h.srt
  |some k=>
   obtain⟨L,hL,hh⟩:=uU hi
   have ho:=h.od k L hL
   dsimp only
   rw[zR hL]
   first
   |(intro j M hM
     rcases dK hM with⟨rfl,rfl⟩|⟨_,hM⟩
     ·refine⟨z7g ho.1 ho.2.1 id q,?_,yTv (z8d L id q) ho.2.2⟩
      rcases zGe ho.2.1 id q with⟨e,_⟩|⟨e,_⟩
      ·rw[e];exact ho.2.1
      ·rw[e];exact ho.2.1.sublist (List.Sublist.map _ yWp)
     ·exact h.od j M hM)
   |(refine yFi h.ub hL ?_
     rcases zGe ho.2.1 id q with⟨e,_⟩|⟨e,_⟩
     ·rw[e];exact List.Sublist.refl _
     ·rw[e];exact List.Sublist.map _ yWp)
   |(intro j M hM s hs
     rcases dK hM with⟨rfl,rfl⟩|⟨_,hM⟩
     ·exact z6k (h.srt _ L hL s hs) id q
     ·exact h.srt j M hM s hs)
theorem BWf.takes {p:Prd}:∀{fs:List fW} {B:List (List zH)},BWf p B→BWf p (kB B fs)
 |[],B,h=>h
 |f::fs,B,h=>BWf.takes (fs:=fs) (h.take f.id f.qty)
open Go Cv Go.Proofs
theorem zMi {p:Prd} {B:List (List zH)} (h:BWf p B) {inst:Int} {sd:Bool} {price q:Int} {t:jU} {B':List (List zH)} (e:cU p B inst sd price q=some (t,B')):BWf p B'∧B'.length=B.length:=by
 rw[cU]at e
 dsimp only at e
 split at e
 ·split at e
  ·cases e;exact⟨h.takes.takes,by rw[vF,vF]⟩
  ·cases e;exact⟨h.takes,by rw[vF]⟩
 ·cases e
theorem aX {p:Prd} {inst:Int} {sd:Bool} {price:Int}:∀(m:Nat) (q:Int) (B:List (List zH)),q.toNat≤m→BWf p B→BWf p (jQ p B inst sd price q).B∧(jQ p B inst sd price q).B.length=B.length∧(0≤q→0≤(jQ p B inst sd price q).left∧(jQ p B inst sd price q).left≤q)
 |m,q,B,hm,h=>by
  by_cases hq:q≤0
  ·rw[rI (.inl hq)]
   exact⟨h,rfl,fun x=>⟨x,yWy _⟩⟩
  cases hs:cU p B inst sd price q with
  |none=>
   rw[rI (.inr hs)]
   exact⟨h,rfl,fun x=>⟨x,yWy _⟩⟩
  |some x=>
   obtain⟨t,C⟩:=x
   obtain⟨k1,k2⟩:=zMi h hs
   have hq2:=zGj (by omega) hs
   cases m with
   |zero=>omega
   |succ m=>
   obtain⟨i1,i2,i3⟩:=aX (p:=p) (inst:=inst) (sd:=sd) (price:=price) m (q-t.qty) C (by omega) k1
   rw[zIq (by omega) hs]
   exact⟨i1,i2.trans k2,fun _=>⟨(i3 (by omega)).1,by dsimp only;have:=(i3 (by omega)).2;omega⟩⟩
open Go Cv Go.Proofs
@[reducible] def RunI.ok (i:RunI):Prop:=i.s.Rep i.p i.B∧BOk i.p i.B∧(0≤i.inst∧i.inst<i.B.length)∧1≤i.q∧i.q≤1000000
def scouldC:Con:=con1 RunI (fun i=>[.nm 0 0,zA i.inst,zA (zC i.sd),zA i.price,zA i.q]) (fun i=>[zD i.s]) (fun i=>i.ok) (fun i=>zA (i.q-i.r.left)) (fun i=>[zD i.s])
def cB (p:Prd) (B:List (List zH)) (inst:Int) (sd:Bool) (price q:Int):Bool:=
 decide ((jQ p B inst sd price q).left≠0) && (qU ⟨p,(jQ p B inst sd price q).B.map gP,inst⟩ (zC (!sd))).any fun x=>dB sd price x.price
def stuckC:Con:=con1 RunI (fun i=>[.nm 0 0,zA i.inst,zA (zC i.sd),zA i.price,zA i.q]) (fun i=>[zD i.s]) (fun i=>i.ok) (fun i=>yM (cB i.p i.B i.inst i.sd i.price i.q)) (fun i=>[zD i.s])
def tK (B:List (List zH)):Nat:=(whL 0 B).length
def countC16:Con:=con1 SoI (fun i=>[.nm 0 0]) (fun i=>[zD i.s]) (fun i=>i.ok) (fun i=>zA (tK i.B)) (fun i=>[zD i.s])
def gD (p:Prd) (inst price:Int):Int×Int×Int:=
 if(p.legs inst).2.2=false then(0,0,20)else if p.price inst price≠0 then(0,0,p.price inst price)else
 let far:=p.settle.getD (p.legs inst).2.1.toNat 0
 let a:=if p.high<far+price then(p.high,p.high-price)else(far+price,far)
 if a.1<p.low then(p.low,p.low-price,0)else(a.1,a.2,0)
structure LpI where
 p:Prd
 inst:Int
 price:Int
def lpricesC:Con:=con1 LpI (fun i=>[prdV i.p,zA i.inst,zA i.price]) (fun _=>[]) (fun i=>i.p.check=0∧i.p.small∧yU i.price) (fun i=> .tup [zA (gD i.p i.inst i.price).1,zA (gD i.p i.inst i.price).2.1,zA (gD i.p i.inst i.price).2.2]) (fun _=>[])
def ijj (t u:Nat):SAnn:={ι:=Int×Int,slots:=fun n=>[(t,zA n.1),(u,zA n.2)],rows:=fun _=>[]}
def lpJ:List (Nat×SAnn):=[(50,ijj 15 14),(58,ijj 15 14)]
def yJi:List SAnn:=[{ι:=Nat,slots:=fun j=>[(40,zA j)],rows:=fun _=>[]}]
def yLt:List (Nat×SAnn):=[(8,{ι:=Unit,slots:=fun _=>[],rows:=fun _=>[],opn:=[11]})]
open Go Cv Go.Proofs
def u0 (a:MSt):Prop:=a.books.length≤1000000∧∀(b:Book),b∈a.books→(b.a.slots.length≤1000000∧b.a.queues.length≤1000000)∧b.buys.length≤1000000∧b.sells.length≤1000000∧b.spare.length≤1000000
def qE (a:RunI):Prop:=a.s.Rep a.p a.B∧BOk a.p a.B∧(0≤a.inst∧a.inst<(↑a.B.length:Int))∧1≤a.q∧a.q≤1000000
def tY (a:RunI):Prop:=∃(b:MSt),sb b.p.code=sb a.s.p.code∧b.p.tick=a.s.p.tick∧b.p.low=a.s.p.low∧b.p.high=a.s.p.high∧b.p.wide=a.s.p.wide∧b.p.rule=a.s.p.rule∧b.p.top=a.s.p.top∧b.p.least=a.s.p.least∧b.p.part=a.s.p.part∧AObj.objs 184 Book 6 zQ b.books none=AObj.objs 184 Book 6 zQ a.s.books none∧yS b.wh=yS a.s.wh∧AObj.fro 1 (iE b.p.months)=AObj.fro 1 (iE a.s.p.months)∧AObj.fro 1 (iE b.p.settle)=AObj.fro 1 (iE a.s.p.settle)∧(u0 b)∧∀(c:Unit),True→∃(d:RunI),d.inst=a.inst∧zC d.sd=zC a.sd∧d.price=a.price∧d.q=a.q∧zD d.s=zD b∧(qE d)∧∀(e:MSt),e.Rep d.p d.r.B→∃(f:Unit),a.q-a.r.left=IntKind.i64.wrap (a.q-d.r.left)∧zD a.s=zD b∧True
def vA (a:RunI):Prop:=∃(b:Unit),a.q-a.r.left=0∧sb a.s.p.code=sb a.s.p.code∧a.s.p.tick=a.s.p.tick∧a.s.p.low=a.s.p.low∧a.s.p.high=a.s.p.high∧a.s.p.wide=a.s.p.wide∧a.s.p.rule=a.s.p.rule∧a.s.p.top=a.s.p.top∧a.s.p.least=a.s.p.least∧a.s.p.part=a.s.p.part∧AObj.objs 184 Book 6 zQ a.s.books none=AObj.objs 184 Book 6 zQ a.s.books none∧yS a.s.wh=yS a.s.wh∧AObj.fro 1 (iE a.s.p.months)=AObj.fro 1 (iE a.s.p.months)∧AObj.fro 1 (iE a.s.p.settle)=AObj.fro 1 (iE a.s.p.settle)∧True
def zZl (i:RunI):Prop:=
 cnd (decide (i.inst≥0)) (cnd (decide (i.inst<(↑i.s.books.length:Int))) (cnd (zC i.sd==1) (cnd (decide (i.q≥1)) (cnd (!decide (i.q≤1000000)) (vA i) (tY i)) (vA i)) (cnd (zC i.sd==2) (cnd (decide (i.q≥1)) (cnd (!decide (i.q≤1000000)) (vA i) (tY i)) (vA i)) (vA i))) (vA i)) (vA i)
def zSl (i:SoI):Prop:=
 ∃(a:Unit),(↑(tK i.B):Int)=(↑(yS i.s.wh).length:Int)∧sb i.s.p.code=sb i.s.p.code∧i.s.p.tick=i.s.p.tick∧i.s.p.low=i.s.p.low∧i.s.p.high=i.s.p.high∧i.s.p.wide=i.s.p.wide∧i.s.p.rule=i.s.p.rule∧i.s.p.top=i.s.p.top∧i.s.p.least=i.s.p.least∧i.s.p.part=i.s.p.part∧AObj.objs 184 Book 6 zQ i.s.books none=AObj.objs 184 Book 6 zQ i.s.books none∧yS i.s.wh=yS i.s.wh∧AObj.fro 1 (iE i.s.p.months)=AObj.fro 1 (iE i.s.p.months)∧AObj.fro 1 (iE i.s.p.settle)=AObj.fro 1 (iE i.s.p.settle)∧True
def fT (a:Int×Int→Prop) (b:Int×Int) (c:LpI):Prop:=a b∧Sx.AObj.cells [V.d (D.v (Value.string (sb c.p.code))),V.own 0,V.d (dI c.p.tick),V.d (dI c.p.low),V.d (dI c.p.high),V.d (dI c.p.wide),V.d (dI c.p.rule),V.d (dI c.p.top),V.d (dI c.p.least),V.d (dI c.p.part),V.own ((0:Nat)+(1:Nat))] 26=Sx.AObj.cells [V.d (D.v (Value.string (sb c.p.code))),V.own 0,V.d (dI c.p.tick),V.d (dI c.p.low),V.d (dI c.p.high),V.d (dI c.p.wide),V.d (dI c.p.rule),V.d (dI c.p.top),V.d (dI c.p.least),V.d (dI c.p.part),V.own ((0:Nat)+(1:Nat))] 26∧AObj.fro 1 (iE c.p.settle)=AObj.fro 1 (iE c.p.settle)∧AObj.fro 1 (iE c.p.months)=AObj.fro 1 (iE c.p.months)
def yX (a:LpI):=(gD a.p a.inst a.price)
def zSj (i:LpI):Prop:=
 ∃(a:Prd),sb a.code=sb i.p.code∧iE a.months=iE i.p.months∧a.tick=i.p.tick∧a.low=i.p.low∧a.high=i.p.high∧a.wide=i.p.wide∧a.rule=i.p.rule∧a.top=i.p.top∧a.least=i.p.least∧a.part=i.p.part∧iE a.settle=iE i.p.settle∧(zY a)∧∀(b:Unit),True→cnd (a.check !=0) (∃(c:Unit),(yX i).fst=0∧(yX i).snd.fst=0∧(yX i).snd.snd=1∧True) (∃(c:fX),sb c.p.code=sb i.p.code∧iE c.p.months=iE i.p.months∧c.p.tick=i.p.tick∧c.p.low=i.p.low∧c.p.high=i.p.high∧c.p.wide=i.p.wide∧c.p.rule=i.p.rule∧c.p.top=i.p.top∧c.p.least=i.p.least∧c.p.part=i.p.part∧iE c.p.settle=iE i.p.settle∧c.n=i.inst∧(kL c)∧∀(d:Unit),True→cnd (!(c.p.legs c.n).snd.snd) (∃(e:Unit),(yX i).fst=0∧(yX i).snd.fst=0∧(yX i).snd.snd=20∧True) (∃(e:pE),sb e.p.code=sb i.p.code∧iE e.p.months=iE i.p.months∧e.p.tick=i.p.tick∧e.p.low=i.p.low∧e.p.high=i.p.high∧e.p.wide=i.p.wide∧e.p.rule=i.p.rule∧e.p.top=i.p.top∧e.p.least=i.p.least∧e.p.part=i.p.part∧iE e.p.settle=iE i.p.settle∧e.a=i.inst∧e.b=i.price∧(xY e)∧∀(f:Unit),True→cnd (e.p.price e.a e.b !=0) (∃(g:Unit),(yX i).fst=0∧(yX i).snd.fst=0∧(yX i).snd.snd=e.p.price e.a e.b∧True) ((0≤(c.p.legs c.n).snd.fst∧(c.p.legs c.n).snd.fst<(↑(iE i.p.settle).length:Int))∧∃(g:Int),zE (iE i.p.settle) (c.p.legs c.n).snd.fst.toNat 0 1=some [dI g]∧∃(h:Int×Int),∃(j:Int×Int→Prop),cnd (decide (IntKind.i64.wrap (g+i.price)>i.p.high)) (∃(k:Int×Int),k.fst=i.p.high∧k.snd=IntKind.i64.wrap (i.p.high-i.price)∧fT j k i) (∃(k:Int×Int),k.fst=IntKind.i64.wrap (g+i.price)∧k.snd=g∧fT j k i)∧∀(k:Int×Int),j k→∃(l:Int×Int),∃(m:Int×Int→Prop),cnd (decide (k.fst<i.p.low)) (∃(n:Int×Int),n.fst=i.p.low∧n.snd=IntKind.i64.wrap (i.p.low-i.price)∧fT m n i) (∃(n:Int×Int),n.fst=k.fst∧n.snd=k.snd∧fT m n i)∧∀(n:Int×Int),m n→∃(p:Unit),(yX i).fst=n.fst∧(yX i).snd.fst=n.snd∧(yX i).snd.snd=0∧True)))
def lR (a:MSt) (b:MSt):Prop:=sb a.p.code=sb b.p.code∧True∧a.p.tick=b.p.tick∧a.p.low=b.p.low∧a.p.high=b.p.high∧a.p.wide=b.p.wide∧a.p.rule=b.p.rule∧a.p.top=b.p.top∧a.p.least=b.p.least∧a.p.part=b.p.part∧True∧True
def z6o (i:RunI):Prop:=
 ∃(a:MSt),zD a=zD i.s∧(u0 a)∧∀(b:Unit),True→∃(c:RunI),c.inst=i.inst∧zC c.sd=zC i.sd∧c.price=i.price∧c.q=i.q∧zD c.s=zD a∧(qE c)∧∀(d:MSt),d.Rep c.p c.r.B→cnd (c.r.left==0) (∃(e:Unit),cB i.p i.B i.inst i.sd i.price i.q=false∧zD i.s=zD a∧True) (∃(e:MSt),sb e.p.code=sb d.p.code∧e.p.tick=d.p.tick∧e.p.low=d.p.low∧e.p.high=d.p.high∧e.p.wide=d.p.wide∧e.p.rule=d.p.rule∧e.p.top=d.p.top∧e.p.least=d.p.least∧e.p.part=d.p.part∧AObj.objs 184 Book 6 zQ e.books none=AObj.objs 184 Book 6 zQ d.books none∧yS e.wh=yS d.wh∧AObj.fro 1 (iE e.p.months)=AObj.fro 1 (iE d.p.months)∧AObj.fro 1 (iE e.p.settle)=AObj.fro 1 (iE d.p.settle)∧(bV e)∧∀(f:Unit),True→(lR e d)∧∃(g:Bool),zC g=zC i.sd∧True∧∀(h:Unit),True→(lR e d)∧∃(j:tX),sb j.i.p.code=sb d.p.code∧iE j.i.p.months=iE e.p.months∧j.i.p.tick=d.p.tick∧j.i.p.low=d.p.low∧j.i.p.high=d.p.high∧j.i.p.wide=d.p.wide∧j.i.p.rule=d.p.rule∧j.i.p.top=d.p.top∧j.i.p.least=d.p.least∧j.i.p.part=d.p.part∧iE j.i.p.settle=iE e.p.settle∧List.map z7 j.i.tops=List.map z7 e.tops∧j.i.inst=i.inst∧zC j.s=zC !g∧(wX j)∧∀(k:Unit),True→∃(l:Nat),(↑l:Int)=0∧∃(m:Nat→Prop),∃(n:Nat→Nat),m l∧∀(p:Nat),m p→cnd (decide ((↑p:Int)<(uW j))) ((0≤(↑p:Int)∧(↑p:Int)<(uW j))∧∃(q:Int),∃(r:Int),∃(s:Int),∃(t:Int),∃(u:Int),∃(v:Int),zE (kR j) (↑p:Int).toNat 0 6=some [dI q,dI r,dI s,dI t,dI u,dI v]∧∃(w:GoI),zC w.s=zC i.sd∧w.p=i.price∧w.x=q∧True∧∀(x:Unit),True→cnd (dB w.s w.p w.x) (∃(y:Unit),cB i.p i.B i.inst i.sd i.price i.q=true∧zD i.s=zD a∧True) (∃(y:Nat),(↑y:Int)=IntKind.i64.wrap ((↑p:Int)+1)∧m y∧n y<n p∧AObj.own 257 6 (kR j)=AObj.own 257 6 (kR j)∧Sx.AObj.cells (jX (dA 5 (1+((2:Nat)-(1:Nat))+((2:Nat)-(1:Nat))+((5:Nat)-(1:Nat))) ((6:Nat)-(5:Nat)) [((2:Nat),1+((2:Nat)-(1:Nat))+((2:Nat)-(1:Nat))+nat_lit 1),((1:Nat),1+((2:Nat)-(1:Nat))+((2:Nat)-(1:Nat))+nat_lit 0),((4:Nat),1+((2:Nat)-(1:Nat))+((2:Nat)-(1:Nat))+nat_lit 3),((3:Nat),1+((2:Nat)-(1:Nat))+((2:Nat)-(1:Nat))+nat_lit 2),((0:Nat),1+nat_lit 0)]) [sV e.p.code,V.own 3,zA e.p.tick,zA e.p.low,zA e.p.high,zA e.p.wide,zA e.p.rule,zA e.p.top,zA e.p.least,zA e.p.part,V.own 4,V.own 1,V.mp 2]) (182:TypeId)=Sx.AObj.cells (jX (dA 5 (1+((2:Nat)-(1:Nat))+((2:Nat)-(1:Nat))+((5:Nat)-(1:Nat))) ((6:Nat)-(5:Nat)) [((2:Nat),1+((2:Nat)-(1:Nat))+((2:Nat)-(1:Nat))+nat_lit 1),((1:Nat),1+((2:Nat)-(1:Nat))+((2:Nat)-(1:Nat))+nat_lit 0),((4:Nat),1+((2:Nat)-(1:Nat))+((2:Nat)-(1:Nat))+nat_lit 3),((3:Nat),1+((2:Nat)-(1:Nat))+((2:Nat)-(1:Nat))+nat_lit 2),((0:Nat),1+nat_lit 0)]) [sV e.p.code,V.own 3,zA e.p.tick,zA e.p.low,zA e.p.high,zA e.p.wide,zA e.p.rule,zA e.p.top,zA e.p.least,zA e.p.part,V.own 4,V.own 1,V.mp 2]) (182:TypeId)∧AObj.objs 184 Book 6 zQ e.books none=AObj.objs 184 Book 6 zQ e.books none∧Sx.AObj.map (yS e.wh)=Sx.AObj.map (yS e.wh)∧AObj.fro 1 (iE e.p.months)=AObj.fro 1 (iE e.p.months)∧AObj.fro 1 (iE e.p.settle)=AObj.fro 1 (iE e.p.settle)∧AObj.fro 6 (List.map z7 e.tops)=AObj.fro 6 (List.map z7 e.tops)∧AObj.fro 1 (iE d.p.months)=AObj.fro 1 (iE d.p.months)∧AObj.fro 1 (iE d.p.settle)=AObj.fro 1 (iE d.p.settle)∧AObj.own 260 4 (List.map jL c.r.steps)=AObj.own 260 4 (List.map jL c.r.steps)∧zD a=zD a)) (∃(q:Unit),cB i.p i.B i.inst i.sd i.price i.q=false∧zD i.s=zD a∧True))
open Go Cv Go.Proofs
theorem MSt.Rep.small {s:MSt} {p:Prd} {B:List (List zH)} (h:s.Rep p B) (hb:BOk p B):s.small:=by
 have:=xQ p
 refine⟨by rw[h.bl,hb.bl];omega,fun b hm=> ?_⟩
 obtain⟨k,hk⟩:=yTo.1 hm
 have hlt:=(yRf.1 hk).1
 rw[h.bl]at hlt
 obtain⟨L,hL⟩:=yD hlt
 obtain⟨Q,c,_⟩:=h.bk k b L hk hL
 exact c.small
theorem yCs (i:RunI) (h:scouldC.cnd i):zZl i:=by
 have h':i.ok:=h
 obtain⟨hR,hB,⟨h0,h1⟩,hq1,hq2⟩:=h'
 have hbl:=hR.bl
 have hl:=(aX (inst:=i.inst) (sd:=i.sd) (price:=i.price) _ i.q i.B (ySk _) (hR.wf hB)).2.2 (by omega)
 have er:i.r=jQ i.p i.B i.inst i.sd i.price i.q:=rfl
 unfold zZl vA tY qE u0
 refine(fun hT=>zI (fun c=>zI (fun c2=>Cv.cnd.mk (fun _=>zI (fun _=>Cv.cnd.mk (fun e=>absurd hq2 (by simpa using e)) (fun _=>hT)) (fun e=>absurd hq1 e)) (fun e1=>Cv.cnd.mk (fun _=>zI (fun _=>Cv.cnd.mk (fun e=>absurd hq2 (by simpa using e)) (fun _=>hT)) (fun e=>absurd hq1 e)) (fun e2=>by
  rcases l7 i.sd with e|e
  ·rw[e]at e1;cases e1
  ·rw[e]at e2;cases e2))) (fun c2=>absurd (by omega) c2)) (fun c=>absurd h0 c)) ?_
 refine⟨i.s,rfl,rfl,rfl,rfl,rfl,rfl,rfl,rfl,rfl,rfl,rfl,rfl,rfl,hR.small hB,fun _ _=>⟨i,rfl,rfl,rfl,rfl,rfl,h,fun o ho=>⟨(),?_,rfl,trivial⟩⟩⟩
 rw[w64 (by rw[er];omega)]
theorem z4d:scouldC.ok Tryz.prog 110:=okw mixed (gokc lZ (gokc zVd gok0)) 2 (fun _=>[]) (fun _=>[]) [0] Tryz.func110 yCs
theorem z5k (i:SoI) (h:countC16.cnd i):zSl i:=by
 obtain⟨hR,hB⟩:i.s.Rep i.p i.B∧i.B.length≤1000:=h
 unfold zSl
 have e:(yS i.s.wh).length=tK i.B:=by rw[yS,yRg,hR.wh.length_eq,tK]
 exact⟨(),by rw[e],by(repeat'(first|exact trivial|exact rfl|apply And.intro))⟩
theorem zHw:countC16.ok Tryz.prog 56:=okw mixed gok0 0 (fun _=>[]) (fun _=>[]) [0] Tryz.func56 z5k
theorem zKa {p:Prd} {i n:Int} (h:p.price i n=0):0≤i∧i<p.count:=by
 rw[Prd.price]at h
 split at h
 ·cases h
 split at h
 ·cases h
 omega
theorem z5j (i:LpI) (h:lpricesC.cnd i):zSj i:=by
 obtain⟨hc,hp,hpr⟩:i.p.check=0∧i.p.small∧yU i.price:=h
 unfold zSj fT yX zY kL xY dI
 refine⟨i.p,rfl,rfl,rfl,rfl,rfl,rfl,rfl,rfl,rfl,rfl,rfl,hp,fun _ _=>Cv.cnd.mk (fun e=>by rw[hc]at e;cases e) (fun _=> ?_)⟩
 refine⟨⟨i.p,i.inst⟩,rfl,rfl,rfl,rfl,rfl,rfl,rfl,rfl,rfl,rfl,rfl,rfl,hp,fun _ _=>Cv.cnd.mk (fun e=> ?_) (fun e=> ?_)⟩
 ·have e:(i.p.legs i.inst).2.2=false:=by simpa using e
  have h0:gD i.p i.inst i.price=(0,0,20):=by rw[gD,yRe e]
  rw[h0];exact⟨(),rfl,rfl,rfl,trivial⟩
 have e:(i.p.legs i.inst).2.2=true:=by simpa using e
 refine⟨⟨i.p,i.inst,i.price⟩,rfl,rfl,rfl,rfl,rfl,rfl,rfl,rfl,rfl,rfl,rfl,rfl,rfl,hp,fun _ _=>Cv.cnd.mk (fun e2=> ?_) (fun e2=> ?_)⟩
 ·have e2:¬i.p.price i.inst i.price=0:=by simpa using e2
  have h0:gD i.p i.inst i.price=(0,0,i.p.price i.inst i.price):=by rw[gD,yRd (by rw[e];decide),yRe e2]
  rw[h0];exact⟨(),rfl,rfl,rfl,trivial⟩
 have e2:i.p.price i.inst i.price=0:=by simpa using e2
 have hin:=zKa e2
 have hbd:=zAg hc e2
 have ok:=kI hc
 have b1:=ok.b1
 have b2:=ok.b2
 have b3:=ok.b3
 have s1:=ok.s1
 have s2:=ok.s2
 have s3:=ok.s3
 obtain⟨k,hk⟩:∃k:Nat,i.inst=k:=⟨i.inst.toNat,by omega⟩
 have hl:=uZ hc (k:=k) (by omega)
 rw[← hk]at hl
 rcases hl with⟨_,_,_,l3,l4⟩|⟨x,_⟩
 rotate_left
 ·rw[e]at x;cases x
 have hsl:(iE i.p.settle).length=i.p.settle.length:=yY _
 obtain⟨n,hn⟩:=yD (l:=i.p.settle) (i:=(i.p.legs i.inst).2.1.toNat) (by omega)
 have hm:=yRp hn
 have m1:=z0o hm
 have m2:=z1f hm
 have hg:i.p.settle.getD (i.p.legs i.inst).2.1.toNat 0=n:=zR hn
 have h0:gD i.p i.inst i.price=(if(if i.p.high<n+i.price then(i.p.high,i.p.high-i.price)else(n+i.price,n)).1<i.p.low then(i.p.low,i.p.low-i.price,0)else((if i.p.high<n+i.price then(i.p.high,i.p.high-i.price)else(n+i.price,n)).1,(if i.p.high<n+i.price then(i.p.high,i.p.high-i.price)else(n+i.price,n)).2,0)):=by
  rw[gD,yRd (by rw[e];decide),yRd (by rw[e2];decide)]
  dsimp only
  rw[hg]
 dsimp only
 refine⟨⟨l3,by omega⟩,n,elI hn,(0,0),fun a=>a=if i.p.high<n+i.price then(i.p.high,i.p.high-i.price)else(n+i.price,n),zI (fun c=>⟨(i.p.high,i.p.high-i.price),rfl,(w64 (by omega)).symm,?_,by(repeat'(first|exact trivial|exact rfl|apply And.intro))⟩) (fun c=>⟨(n+i.price,n),(w64 (by omega)).symm,rfl,?_,by(repeat'(first|exact trivial|exact rfl|apply And.intro))⟩),?_⟩
 ·rw[w64 (by omega)]at c;rw[yRe c]
 ·rw[w64 (by omega)]at c;rw[yRd c]
 rintro _ rfl
 generalize (if i.p.high<n+i.price then(i.p.high,i.p.high-i.price)else(n+i.price,n))=a at h0 ⊢
 refine⟨(0,0),fun b=>b=if a.1<i.p.low then(i.p.low,i.p.low-i.price)else a,zI (fun c=>⟨(i.p.low,i.p.low-i.price),rfl,(w64 (by omega)).symm,by rw[yRe c],by(repeat'(first|exact trivial|exact rfl|apply And.intro))⟩) (fun c=>⟨a,rfl,rfl,by rw[yRd c],by(repeat'(first|exact trivial|exact rfl|apply And.intro))⟩),?_⟩
 rintro _ rfl
 rw[h0]
 by_cases c:a.1<i.p.low
 ·rw[yRe c,yRe c];exact⟨(),rfl,rfl,rfl,trivial⟩
 ·rw[yRd c,yRd c];exact⟨(),rfl,rfl,rfl,trivial⟩
theorem zWu:lpricesC.ok Tryz.prog 222:=okw mixed (gokc lU (gokc sD (gokc p7 gok0))) 0 (fun _=>lpJ) (fun _=>[]) [] Tryz.func222 z5j
theorem yFg {l:List Quote} {k:Nat} {q:Quote} (h:l[k]? =some q):zE (l.map zJ) k 0 6=some [D.v (.int .i64 q.price),D.v (.int .i64 q.qty),D.v (.int .i64 q.a.inst),D.v (.int .i64 q.a.side),D.v (.int .i64 q.b.inst),D.v (.int .i64 q.b.side)]:=elA h (by simp[zJ]) rfl
theorem yHo (i:RunI) (h:stuckC.cnd i):z6o i:=by
 have h':i.ok:=h
 obtain⟨hR,hB,⟨h0,h1⟩,hq1,hq2⟩:=h'
 have hwf:=hR.wf hB
 obtain⟨k1,k2,k3⟩:=aX (inst:=i.inst) (sd:=i.sd) (price:=i.price) _ i.q i.B (ySk _) hwf
 have hcl:=xQ i.p
 unfold z6o lR qE u0 uW kR wX fE bV dI
 refine⟨i.s,rfl,hR.small hB,fun _ _=>⟨i,rfl,rfl,rfl,rfl,rfl,h,fun o ho=> ?_⟩⟩
 have er:i.r=jQ i.p i.B i.inst i.sd i.price i.q:=rfl
 have es:cB i.p i.B i.inst i.sd i.price i.q=(decide ((jQ i.p i.B i.inst i.sd i.price i.q).left≠0) && (qU ⟨i.p,(jQ i.p i.B i.inst i.sd i.price i.q).B.map gP,i.inst⟩ (zC (!i.sd))).any fun x=>dB i.sd i.price x.price):=rfl
 rw[er]at ho ⊢
 rw[es]
 generalize jQ i.p i.B i.inst i.sd i.price i.q=R at*
 obtain⟨ts,lf,RB⟩:=R
 dsimp only at*
 refine Cv.cnd.mk (fun e=>⟨(),?_,rfl,trivial⟩) (fun e=> ?_)
 ·have e:lf=0:=by simpa using e
  rw[e];rfl
 have e:lf≠0:=by simpa using e
 rw[yRu e,yTu]
 have ep:=ho.ep
 have hB':=k1.ok
 have hbl:=hB'.bl
 have hcnt:o.cntOk:=ho.cnt (by omega)
 have hps:o.p.small:=by rw[ep];exact hB'.ps
 have hto:vD (RB.map gP):=hB'.tops
 have hle:=zIx ⟨o.p,RB.map gP,i.inst⟩ (zC (!i.sd))
 refine⟨o,rfl,rfl,rfl,rfl,rfl,rfl,rfl,rfl,rfl,rfl,rfl,rfl,rfl,hcnt,fun _ _=>⟨⟨rfl,trivial,rfl,rfl,rfl,rfl,rfl,rfl,rfl,rfl,trivial,trivial⟩,i.sd,rfl,trivial,fun _ _=>⟨⟨rfl,trivial,rfl,rfl,rfl,rfl,rfl,rfl,rfl,rfl,trivial,trivial⟩,⟨⟨o.p,RB.map gP,i.inst⟩,!i.sd⟩,rfl,rfl,rfl,rfl,rfl,rfl,rfl,rfl,rfl,rfl,rfl,by rw[ho.tops],rfl,rfl,⟨hps,hto⟩,fun _ _=> ?_⟩⟩⟩
 dsimp only
 rw[← ep]
 generalize qU ⟨o.p,RB.map gP,i.inst⟩ (zC (!i.sd))=Q at*
 have e4:(Q.map zJ).length=Q.length:=yRg ..
 refine⟨0,rfl,fun j=>j≤Q.length∧(Q.take j).any (fun x=>dB i.sd i.price x.price)=false,fun j=>Q.length-j,⟨ySr _,rfl⟩,?_⟩
 rintro j ⟨j1,j2⟩
 refine zI (fun c=> ?_) (fun c=>⟨(),?_,rfl,trivial⟩)
 ·obtain⟨q,hq⟩:=yD (l:=Q) (i:=j) (by omega)
  refine⟨⟨by omega,by omega⟩,_,_,_,_,_,_,yFg hq,⟨i.sd,i.price,q.price⟩,rfl,rfl,rfl,trivial,fun _ _=>Cv.cnd.mk (fun g=>⟨(),?_,rfl,trivial⟩) (fun g=>⟨j+1,wjn (by omega),⟨by omega,?_⟩,by dsimp only;omega,by(repeat'(first|exact trivial|exact rfl|apply And.intro))⟩)⟩
  ·rw[List.any_eq_true];exact⟨q,yRp hq,g⟩
  ·rw[ySz,hq,List.any_append,j2]
   show(false||([q].any fun x=>dB i.sd i.price x.price))=false
   simp only[List.any_cons,List.any_nil,Bool.or_false,yWr]
   exact g
 ·have:j=Q.length:=by omega
  rw[this,yRw (ySk _)]at j2
  exact j2
theorem zTf:stuckC.ok Tryz.prog 111:=okw mixed (gokc lZ (gokc zVd (gokc zTj (gokc z5o (gokc zLq (gokc zRm gok0)))))) 0 (fun _=>yLt) (fun _=>yJi) [] Tryz.func111 yHo
open Go Cv Go.Proofs
def bQ (c:Cmd) (why:Int):List Rep:=[⟨2,c.id,0,0,0,0,0,why⟩]
def ofF (x:jU) (k:Int):Int:=match x.fills.find? fun f=>decide (f.inst=k)with
 |some f=>f.price
 |none=>x.price
def j0 (p:Prd) (inst:Int) (x:jU):Int×Int:=if x.implied=false then((gD p inst x.price).1,(gD p inst x.price).2.1)else(ofF x (p.legs inst).1,ofF x (p.legs inst).2.1)
def zFx (p:Prd) (r:Rep) (near far:Int):List Rep:=[{r with inst:=(p.legs r.inst).1,price:=near},{r with inst:=(p.legs r.inst).2.1,side:=3-r.side,price:=far}]
def pA (p:Prd) (x:jU) (r:Rep):List Rep:=r::if(p.legs r.inst).2.2=true then zFx p r (j0 p r.inst x).1 (j0 p r.inst x).2 else[]
def zBa (f:fW):Rep:=⟨3,f.id,f.inst,f.side,f.price,f.qty,f.left,0⟩
def aB (p:Prd) (c:Cmd) (x:jU) (left:Int):List Rep:=x.fills.flatMap (fun f=>pA p x (zBa f))++pA p x ⟨3,c.id,c.inst,c.side,x.price,x.qty,left,0⟩
def nI (p:Prd) (c:Cmd):List jU→Int→List Rep
 |[],_=>[]
 |x::l,left=>aB p c x (left-x.qty)++nI p c l (left-x.qty)
structure MkX where
 B:List (List zH)
 U:List Int
 R:List Rep
def zKo (U:List Int) (id:Int):List Int:=if id∈U then U else U++[id]
def bS (p:Prd) (B:List (List zH)) (U:List Int) (c:Cmd):MkX:=match jQ p B c.inst (decide (c.side=2)) c.price c.qty with
 |⟨ts,left,B'⟩=>⟨if left≠0∧c.time=1 then(zUw p B' c.inst c.id c.side c.price left).1 else B',zKo U c.id,
  (⟨1,c.id,c.inst,c.side,c.price,c.qty,c.qty,0⟩::nI p c ts c.qty)++if left≠0∧c.time≠1 then[⟨4,c.id,c.inst,c.side,c.price,left,0,0⟩]else[]⟩
def Cmd.lst (c:Cmd):Int:=if c.time=3 then c.qty else c.least
def mI (p:Prd) (B:List (List zH)) (U:List Int) (c:Cmd):MkX:=
 if p.price c.inst c.price≠0 then⟨B,U,bQ c (p.price c.inst c.price)⟩
 else if c.id∈U then⟨B,U,bQ c 25⟩
 else if 250≤tK B then⟨B,U,bQ c 13⟩
 else if 0<c.lst∧c.qty-(jQ p B c.inst (decide (c.side=2)) c.price c.qty).left<c.lst then⟨B,U,bQ c 28⟩
 else if c.time=1∧cB p B c.inst (decide (c.side=2)) c.price c.qty=true then⟨B,U,bQ c 23⟩
 else bS p B U c
def gA (B:List (List zH)) (U:List Int) (id inst:Int) (o:zH):MkX:=⟨(qS B id o.qty).1,U,[⟨4,id,inst,o.side,o.price,o.qty,0,0⟩]⟩
def mT (B:List (List zH)) (U:List Int) (id q inst:Int) (o:zH):MkX:=⟨(qS B id q).1,U,[⟨5,id,inst,o.side,o.price,q,o.qty-q,0⟩]⟩
def fU (p:Prd) (B:List (List zH)) (U:List Int) (c:Cmd) (inst:Int) (o:zH):MkX:=
 if p.price inst c.price≠0 then⟨B,U,bQ c (p.price inst c.price)⟩
 else if c.price=o.price∧c.qty≤o.qty then mT B U c.id (o.qty-c.qty) inst o
 else if cB p (qS B c.id o.qty).1 inst (decide (o.side=2)) c.price c.qty=true then⟨B,U,bQ c 23⟩
 else
  let x:=gA B U c.id inst o
  let y:=bS p x.B U ⟨1,c.id,inst,o.side,c.price,c.qty,0,1,[]⟩
  ⟨y.B,y.U,x.R++y.R⟩
def doF (p:Prd) (B:List (List zH)) (U:List Int) (c:Cmd):MkX:=
 if c.right≠0 then⟨B,U,bQ c c.right⟩
 else if c.kind=1 then mI p B U c
 else if(zV B c.id).2.2=false then⟨B,U,bQ c 26⟩
 else if c.kind=4 then fU p B U c (zV B c.id).1 (zV B c.id).2.1
 else if c.kind=2∨(zV B c.id).2.1.qty≤c.qty then gA B U c.id (zV B c.id).1 (zV B c.id).2.1
 else mT B U c.id c.qty (zV B c.id).1 (zV B c.id).2.1
structure Mkt.Rep (m:Mkt) (p:Prd) (B:List (List zH)) (U:List Int):Prop where
 ep:m.p=p
 s:m.s.Rep p B
 u:m.used=U
@[reducible] def zAx (m:Mkt):List AObj:=[yL m 0,yL m 1,yL m 2,yL m 3,yL m 4]
@[reducible] def yHb (x:jU):V:= .agg [zA x.price,zA x.qty,yM x.implied,roV 6 (x.fills.map yR)]
@[reducible] def tRp:Nat:=40
@[reducible] def zUz (l:List Rep):AObj:= .own tRp 8 (l.map xJ)
structure RjI where
 c:Cmd
 why:Int
def rejC:Con:=con1 RjI (fun i=>[zAa i.c,zA i.why]) (fun _=>[]) (fun _=>True) (fun _=> .own 0) (fun i=>[zUz (bQ i.c i.why)])
structure MsI where
 m:Mkt
 r:Rep
 near:Int
 far:Int
@[reducible] def Mkt.fine (m:Mkt):Prop:=m.p.check=0∧m.p.small
def mspreadC:Con:=con1 MsI (fun i=>[.nm 0 0,yPl i.r,zA i.near,zA i.far]) (fun i=>zAx i.m) (fun i=>i.m.fine∧(i.r.side=1∨i.r.side=2)) (fun _=> .own 5) (fun i=>zAx i.m++[zUz (zFx i.m.p i.r i.near i.far)])
structure MiN where
 m:Mkt
 inst:Int
def misC:Con:=con1 MiN (fun i=>[.nm 0 0,zA i.inst]) (fun i=>zAx i.m) (fun i=>i.m.fine) (fun i=>yM (i.m.p.legs i.inst).2.2) (fun i=>zAx i.m)
structure OfI where
 x:jU
 k:Int
@[reducible] def zUl (x:jU) (n:Nat):List AObj:=[.cells [zA x.price,zA x.qty,yM x.implied,.own n] 260,.fro 6 (x.fills.map yR)]
def ofC:Con:=con1 OfI (fun i=>[zA i.k,.nm 0 0]) (fun i=>zUl i.x 1) (fun i=>i.x.fills.length≤1000000) (fun i=>zA (ofF i.x i.k)) (fun i=>zUl i.x 1)
def ofA:List SAnn:=[{ι:=Nat,slots:=fun j=>[(9,zA j)],rows:=fun _=>[]}]
structure MpI where
 m:Mkt
 inst:Int
 x:jU
def mpricesC:Con:=con1 MpI (fun i=>[.nm 0 0,zA i.inst,yHb i.x]) (fun i=>zAx i.m) (fun i=>i.m.fine∧yU i.x.price∧i.x.fills.length≤1000000) (fun i=> .tup [zA (j0 i.m.p i.inst i.x).1,zA (j0 i.m.p i.inst i.x).2]) (fun i=>zAx i.m)
structure StI' where
 m:Mkt
 c:Cmd
 x:jU
 left:Int
def StI'.out (i:StI') (j:Nat):List Rep:=(i.x.fills.take j).flatMap fun f=>pA i.m.p i.x (zBa f)
def mstepC:Con:=con1 StI' (fun i=>[.nm 0 0,zAa i.c,yHb i.x,zA i.left]) (fun i=>zAx i.m) (fun i=>i.m.fine∧yU i.x.price∧i.x.fills.length≤1000000∧(i.c.side=1∨i.c.side=2)∧∀f∈i.x.fills,f.side=1∨f.side=2) (fun _=> .own 5) (fun i=>zAx i.m++[zUz (aB i.m.p i.c i.x i.left)])
def yIq (i:StI'):List SAnn:=[{ι:=Nat,slots:=fun j=>[(9,.nm 0 0),(17,zA j)],rows:=fun j=>[.cells [.own 1] 61,zUz (i.out j)]}]
open Go Cv Go.Proofs
def yPz (i:RjI):Prop:=
 ∃(o:Unit),[xJ (Rep.mk 2 i.c.id 0 0 0 0 0 i.why)]=[[D.v (.int .i64 2),D.v (.int .i64 i.c.id),D.v (.int .i64 0),D.v (.int .i64 0),D.v (.int .i64 0),D.v (.int .i64 0),D.v (.int .i64 0),D.v (.int .i64 i.why)]]∧True
def vE (a:MsI):Prop:=a.r.kind=a.r.kind∧a.r.id=a.r.id∧a.r.inst=a.r.inst∧a.r.side=a.r.side∧a.r.price=a.r.price∧a.r.qty=a.r.qty∧a.r.left=a.r.left∧a.r.why=a.r.why∧True
def gF (a:MsI):=(Rep.mk a.r.kind a.r.id (a.m.p.legs a.r.inst).snd.fst (3-a.r.side) a.far a.r.qty a.r.left a.r.why)
def gH (a:MsI):=(Rep.mk a.r.kind a.r.id (a.m.p.legs a.r.inst).fst a.r.side a.near a.r.qty a.r.left a.r.why)
def rG (a:MsI) (b:fX):Prop:=(vE a)∧(vE a)∧(vE a)∧(vE a)∧(vE a)∧a.r.side=a.r.side∧∃(c:Unit),sb a.m.p.code=sb a.m.p.code∧a.m.p.tick=a.m.p.tick∧a.m.p.low=a.m.p.low∧a.m.p.high=a.m.p.high∧a.m.p.wide=a.m.p.wide∧a.m.p.rule=a.m.p.rule∧a.m.p.top=a.m.p.top∧a.m.p.least=a.m.p.least∧a.m.p.part=a.m.p.part∧zD a.m.s=yL a.m 1∧zW a.m.used=zW a.m.used∧AObj.fro 1 (iE a.m.p.months)=yL a.m 3∧AObj.fro 1 (iE a.m.p.settle)=yL a.m 4∧[xJ (gH a),xJ (gF a)]=[[dI a.r.kind,dI a.r.id,dI ((b.p.legs b.n).fst),dI a.r.side,dI a.near,dI a.r.qty,dI a.r.left,dI a.r.why],[dI a.r.kind,dI a.r.id,dI (wG b),dI (IntKind.i64.wrap (3-a.r.side)),dI a.far,dI a.r.qty,dI a.r.left,dI a.r.why]]∧True
def zSp (i:MsI):Prop:=
 ∃(a:fX),sb a.p.code=sb i.m.p.code∧iE a.p.months=iE i.m.p.months∧a.p.tick=i.m.p.tick∧a.p.low=i.m.p.low∧a.p.high=i.m.p.high∧a.p.wide=i.m.p.wide∧a.p.rule=i.m.p.rule∧a.p.top=i.m.p.top∧a.p.least=i.m.p.least∧a.p.part=i.m.p.part∧iE a.p.settle=iE i.m.p.settle∧a.n=i.r.inst∧(kL a)∧∀(b:Unit),True→(rG i a)∧rG i a
def yQt (i:MiN):Prop:=
 ∃(i_1:fX),sb i_1.p.code=sb i.m.p.code∧iE i_1.p.months=iE i.m.p.months∧i_1.p.tick=i.m.p.tick∧i_1.p.low=i.m.p.low∧i_1.p.high=i.m.p.high∧i_1.p.wide=i.m.p.wide∧i_1.p.rule=i.m.p.rule∧i_1.p.top=i.m.p.top∧i_1.p.least=i.m.p.least∧i_1.p.part=i.m.p.part∧iE i_1.p.settle=iE i.m.p.settle∧i_1.n=i.inst∧(i_1.p.code.length≤1099511627776∧i_1.p.months.length≤1099511627776∧i_1.p.settle.length≤1099511627776)∧∀(o:Unit),True→∃(o:Unit),(i.m.p.legs i.inst).snd.snd=(i_1.p.legs i_1.n).snd.snd∧sb i.m.p.code=sb i.m.p.code∧i.m.p.tick=i.m.p.tick∧i.m.p.low=i.m.p.low∧i.m.p.high=i.m.p.high∧i.m.p.wide=i.m.p.wide∧i.m.p.rule=i.m.p.rule∧i.m.p.top=i.m.p.top∧i.m.p.least=i.m.p.least∧i.m.p.part=i.m.p.part∧zD i.m.s=yL i.m 1∧zW i.m.used=zW i.m.used∧AObj.fro 1 (iE i.m.p.months)=yL i.m 3∧AObj.fro 1 (iE i.m.p.settle)=yL i.m 4∧True
def zOs (a:OfI):Prop:=a.x.price=a.x.price∧a.x.qty=a.x.qty∧a.x.implied=a.x.implied∧AObj.fro 6 (List.map yR a.x.fills)=AObj.fro 6 (List.map yR a.x.fills)∧True
def Vof (i:OfI):Prop:=
 ∃(a:Nat),(↑a:Int)=0∧∃(b:Nat→Prop),∃(c:Nat→Nat),b a∧∀(d:Nat),b d→cnd (decide ((↑d:Int)<(↑(List.map yR i.x.fills).length:Int))) ((0≤(↑d:Int)∧(↑d:Int)<(↑(List.map yR i.x.fills).length:Int))∧∃(e:Int),∃(f:Int),∃(g:Int),∃(h:Int),∃(j:Int),∃(k:Int),zE (List.map yR i.x.fills) (↑d:Int).toNat 0 6=some [dI e,dI f,dI g,dI h,dI j,dI k]∧cnd (f==i.k) (∃(l:Unit),ofF i.x i.k=h∧zOs i) (∃(l:Nat),(↑l:Int)=IntKind.i64.wrap ((↑d:Int)+1)∧b l∧c l<c d∧Sx.AObj.cells [zA i.x.price,zA i.x.qty,yM i.x.implied,V.own 1] (260:TypeId)=Sx.AObj.cells [zA i.x.price,zA i.x.qty,yM i.x.implied,V.own 1] (260:TypeId)∧AObj.fro 6 (List.map yR i.x.fills)=AObj.fro 6 (List.map yR i.x.fills))) (∃(e:Unit),ofF i.x i.k=i.x.price∧zOs i)
def nV (a:MpI):Prop:=sb a.m.p.code=sb a.m.p.code∧a.m.p.tick=a.m.p.tick∧a.m.p.low=a.m.p.low∧a.m.p.high=a.m.p.high∧a.m.p.wide=a.m.p.wide∧a.m.p.rule=a.m.p.rule∧a.m.p.top=a.m.p.top∧a.m.p.least=a.m.p.least∧a.m.p.part=a.m.p.part∧zD a.m.s=yL a.m 1∧zW a.m.used=zW a.m.used∧AObj.fro 1 (iE a.m.p.months)=yL a.m 3∧AObj.fro 1 (iE a.m.p.settle)=yL a.m 4∧True
def qC (a:MpI):=(j0 a.m.p a.inst a.x)
def zTh (i:MpI):Prop:=
 cnd (!i.x.implied) (∃(a:LpI),sb a.p.code=sb i.m.p.code∧iE a.p.months=iE i.m.p.months∧a.p.tick=i.m.p.tick∧a.p.low=i.m.p.low∧a.p.high=i.m.p.high∧a.p.wide=i.m.p.wide∧a.p.rule=i.m.p.rule∧a.p.top=i.m.p.top∧a.p.least=i.m.p.least∧a.p.part=i.m.p.part∧iE a.p.settle=iE i.m.p.settle∧a.inst=i.inst∧a.price=i.x.price∧(a.p.check=0∧(a.p.code.length≤1099511627776∧a.p.months.length≤1099511627776∧a.p.settle.length≤1099511627776)∧(-9223372036854775808)≤a.price∧a.price≤9223372036854775807)∧∀(b:Unit),True→∃(c:Unit),(qC i).fst=(yX a).fst∧(qC i).snd=(yX a).snd.fst∧nV i) (∃(a:fX),sb a.p.code=sb i.m.p.code∧iE a.p.months=iE i.m.p.months∧a.p.tick=i.m.p.tick∧a.p.low=i.m.p.low∧a.p.high=i.m.p.high∧a.p.wide=i.m.p.wide∧a.p.rule=i.m.p.rule∧a.p.top=i.m.p.top∧a.p.least=i.m.p.least∧a.p.part=i.m.p.part∧iE a.p.settle=iE i.m.p.settle∧a.n=i.inst∧(kL a)∧∀(b:Unit),True→∃(c:OfI),c.k=(a.p.legs a.n).fst∧c.x.price=i.x.price∧c.x.qty=i.x.qty∧c.x.implied=i.x.implied∧AObj.fro 6 (List.map yR c.x.fills)=AObj.fro 6 (List.map yR i.x.fills)∧c.x.fills.length≤1000000∧∀(d:Unit),True→∃(e:OfI),e.k=(a.p.legs a.n).snd.fst∧e.x.price=c.x.price∧e.x.qty=c.x.qty∧e.x.implied=c.x.implied∧AObj.fro 6 (List.map yR e.x.fills)=AObj.fro 6 (List.map yR c.x.fills)∧e.x.fills.length≤1000000∧∀(f:Unit),True→∃(g:Unit),(qC i).fst=ofF c.x c.k∧(qC i).snd=ofF e.x e.k∧nV i)
def lE (a:MpI):Prop:=(a.m.p.check=0∧a.m.p.code.length≤1099511627776∧a.m.p.months.length≤1099511627776∧a.m.p.settle.length≤1099511627776)∧((-9223372036854775808)≤a.x.price∧a.x.price≤9223372036854775807)∧a.x.fills.length≤1000000
def eE (a:MsI):Prop:=(a.m.p.check=0∧a.m.p.code.length≤1099511627776∧a.m.p.months.length≤1099511627776∧a.m.p.settle.length≤1099511627776)∧(a.r.side=1∨a.r.side=2)
def lD (a:MiN):Prop:=a.m.p.check=0∧a.m.p.code.length≤1099511627776∧a.m.p.months.length≤1099511627776∧a.m.p.settle.length≤1099511627776
def dW (a:StI'):=(D.v (Value.string (sb a.c.label)))
def z6d (i:StI'):Prop:=
 ∃(a:Nat),(↑a:Int)=0∧List.map xJ (i.out a)=[]∧∃(b:Nat→Prop),∃(c:Nat→Nat),b a∧∀(d:Nat),b d→cnd (decide ((↑d:Int)<(↑(List.map yR i.x.fills).length:Int))) ((0≤(↑d:Int)∧(↑d:Int)<(↑(List.map yR i.x.fills).length:Int))∧∃(e:Int),∃(f:Int),∃(g:Int),∃(h:Int),∃(j:Int),∃(k:Int),zE (List.map yR i.x.fills) (↑d:Int).toNat 0 6=some [dI e,dI f,dI g,dI h,dI j,dI k]∧((List.map xJ (i.out d)).length+1)*(64:Nat)≤(70368744177664:Nat)∧∃(l:MiN),l.inst=f∧sb l.m.p.code=sb i.m.p.code∧l.m.p.tick=i.m.p.tick∧l.m.p.low=i.m.p.low∧l.m.p.high=i.m.p.high∧l.m.p.wide=i.m.p.wide∧l.m.p.rule=i.m.p.rule∧l.m.p.top=i.m.p.top∧l.m.p.least=i.m.p.least∧l.m.p.part=i.m.p.part∧zD l.m.s=yL i.m 1∧zW l.m.used=zW i.m.used∧AObj.fro 1 (iE l.m.p.months)=yL i.m 3∧AObj.fro 1 (iE l.m.p.settle)=yL i.m 4∧(lD l)∧∀(m:Unit),True→cnd (l.m.p.legs l.inst).snd.snd (∃(n:MpI),n.inst=f∧n.x.price=i.x.price∧n.x.qty=i.x.qty∧n.x.implied=i.x.implied∧List.map yR n.x.fills=List.map yR i.x.fills∧sb n.m.p.code=sb l.m.p.code∧n.m.p.tick=l.m.p.tick∧n.m.p.low=l.m.p.low∧n.m.p.high=l.m.p.high∧n.m.p.wide=l.m.p.wide∧n.m.p.rule=l.m.p.rule∧n.m.p.top=l.m.p.top∧n.m.p.least=l.m.p.least∧n.m.p.part=l.m.p.part∧zD n.m.s=zD l.m.s∧zW n.m.used=zW l.m.used∧AObj.fro 1 (iE n.m.p.months)=AObj.fro 1 (iE l.m.p.months)∧AObj.fro 1 (iE n.m.p.settle)=AObj.fro 1 (iE l.m.p.settle)∧(lE n)∧∀(p:Unit),True→∃(q:MsI),q.r.kind=3∧q.r.id=e∧q.r.inst=f∧q.r.side=g∧q.r.price=h∧q.r.qty=j∧q.r.left=k∧q.r.why=0∧q.near=(qC n).fst∧q.far=(qC n).snd∧sb q.m.p.code=sb n.m.p.code∧q.m.p.tick=n.m.p.tick∧q.m.p.low=n.m.p.low∧q.m.p.high=n.m.p.high∧q.m.p.wide=n.m.p.wide∧q.m.p.rule=n.m.p.rule∧q.m.p.top=n.m.p.top∧q.m.p.least=n.m.p.least∧q.m.p.part=n.m.p.part∧zD q.m.s=zD n.m.s∧zW q.m.used=zW n.m.used∧AObj.fro 1 (iE q.m.p.months)=AObj.fro 1 (iE n.m.p.months)∧AObj.fro 1 (iE q.m.p.settle)=AObj.fro 1 (iE n.m.p.settle)∧(eE q)∧∀(r:Unit),True→True∧((List.map xJ (i.out d)++[[dI 3,dI e,dI f,dI g,dI h,dI j,dI k,dI 0]]).length+2)*(64:Nat)≤(70368744177664:Nat)∧∃(s:Nat),(↑s:Int)=IntKind.i64.wrap ((↑d:Int)+1)∧List.map xJ (i.out s)=List.map xJ (i.out d)++[[dI 3,dI e,dI f,dI g,dI h,dI j,dI k,dI 0]]++[xJ (gH q),xJ (gF q)]∧b s∧c s<c d∧Sx.AObj.cells [V.d (dI i.x.price),V.d (dI i.x.qty),V.d (D.v (.bool i.x.implied)),V.own ((5:Nat)+(1:Nat)+1)] 260=Sx.AObj.cells [V.d (dI i.x.price),V.d (dI i.x.qty),V.d (D.v (.bool i.x.implied)),V.own ((5:Nat)+(1:Nat)+1)] 260∧AObj.fro 6 (List.map yR i.x.fills)=AObj.fro 6 (List.map yR i.x.fills)∧Sx.AObj.cells [V.d (dI i.c.kind),V.d (dI i.c.id),V.d (dI i.c.inst),V.d (dI i.c.side),V.d (dI i.c.price),V.d (dI i.c.qty),V.d (dI i.c.least),V.d (dI i.c.time),V.d (dW i)] 36=Sx.AObj.cells [V.d (dI i.c.kind),V.d (dI i.c.id),V.d (dI i.c.inst),V.d (dI i.c.side),V.d (dI i.c.price),V.d (dI i.c.qty),V.d (dI i.c.least),V.d (dI i.c.time),V.d (dW i)] 36∧Sx.AObj.cells [V.nm 0 0] 53=Sx.AObj.cells [V.nm 0 0] 53∧Sx.AObj.cells (jX (dA 5 ((5:Nat)+(1:Nat)+(1:Nat)+(1:Nat)+(1:Nat)+(1:Nat)+(1:Nat)+(2:Nat)+(1:Nat)+(1:Nat)+(1:Nat)+(1:Nat)+((5:Nat)-(5:Nat))+((5:Nat)-(5:Nat))) ((6:Nat)-(5:Nat)) [((2:Nat),(2:Nat)),((1:Nat),(1:Nat)),((4:Nat),(4:Nat)),((3:Nat),(3:Nat)),((0:Nat),(0:Nat))]) [sV q.m.p.code,V.own 3,zA q.m.p.tick,zA q.m.p.low,zA q.m.p.high,zA q.m.p.wide,zA q.m.p.rule,zA q.m.p.top,zA q.m.p.least,zA q.m.p.part,V.own 4,V.nm 1 0,V.mp 2]) (121:TypeId)=yL i.m 0∧zD q.m.s=yL i.m 1∧Sx.AObj.map (zW q.m.used)=yL i.m 2∧AObj.fro 1 (iE q.m.p.months)=yL i.m 3∧AObj.fro 1 (iE q.m.p.settle)=yL i.m 4) (∃(n:Nat),(↑n:Int)=IntKind.i64.wrap ((↑d:Int)+1)∧List.map xJ (i.out n)=List.map xJ (i.out d)++[[dI 3,dI e,dI f,dI g,dI h,dI j,dI k,dI 0]]∧b n∧c n<c d∧Sx.AObj.cells [V.d (dI i.x.price),V.d (dI i.x.qty),V.d (D.v (.bool i.x.implied)),V.own ((5:Nat)+(1:Nat)+1)] 260=Sx.AObj.cells [V.d (dI i.x.price),V.d (dI i.x.qty),V.d (D.v (.bool i.x.implied)),V.own ((5:Nat)+(1:Nat)+1)] 260∧AObj.fro 6 (List.map yR i.x.fills)=AObj.fro 6 (List.map yR i.x.fills)∧Sx.AObj.cells [V.d (dI i.c.kind),V.d (dI i.c.id),V.d (dI i.c.inst),V.d (dI i.c.side),V.d (dI i.c.price),V.d (dI i.c.qty),V.d (dI i.c.least),V.d (dI i.c.time),V.d (dW i)] 36=Sx.AObj.cells [V.d (dI i.c.kind),V.d (dI i.c.id),V.d (dI i.c.inst),V.d (dI i.c.side),V.d (dI i.c.price),V.d (dI i.c.qty),V.d (dI i.c.least),V.d (dI i.c.time),V.d (dW i)] 36∧Sx.AObj.cells [V.nm 0 0] 53=Sx.AObj.cells [V.nm 0 0] 53∧Sx.AObj.cells (jX (dA 5 ((5:Nat)+(1:Nat)+(1:Nat)+(1:Nat)+(1:Nat)+(1:Nat)+(1:Nat)+(2:Nat)+(1:Nat)+(1:Nat)+(1:Nat)+(1:Nat)) ((5:Nat)-(5:Nat)) [((2:Nat),(2:Nat)),((1:Nat),(1:Nat)),((4:Nat),(4:Nat)),((3:Nat),(3:Nat)),((0:Nat),(0:Nat))]) [sV l.m.p.code,V.own 3,zA l.m.p.tick,zA l.m.p.low,zA l.m.p.high,zA l.m.p.wide,zA l.m.p.rule,zA l.m.p.top,zA l.m.p.least,zA l.m.p.part,V.own 4,V.nm 1 0,V.mp 2]) (121:TypeId)=yL i.m 0∧zD l.m.s=yL i.m 1∧Sx.AObj.map (zW l.m.used)=yL i.m 2∧AObj.fro 1 (iE l.m.p.months)=yL i.m 3∧AObj.fro 1 (iE l.m.p.settle)=yL i.m 4)) (((List.map xJ (i.out d)).length+1)*(64:Nat)≤(70368744177664:Nat)∧∃(e:MiN),e.inst=i.c.inst∧sb e.m.p.code=sb i.m.p.code∧e.m.p.tick=i.m.p.tick∧e.m.p.low=i.m.p.low∧e.m.p.high=i.m.p.high∧e.m.p.wide=i.m.p.wide∧e.m.p.rule=i.m.p.rule∧e.m.p.top=i.m.p.top∧e.m.p.least=i.m.p.least∧e.m.p.part=i.m.p.part∧zD e.m.s=yL i.m 1∧zW e.m.used=zW i.m.used∧AObj.fro 1 (iE e.m.p.months)=yL i.m 3∧AObj.fro 1 (iE e.m.p.settle)=yL i.m 4∧(lD e)∧∀(f:Unit),True→cnd (e.m.p.legs e.inst).snd.snd (∃(g:MpI),g.inst=i.c.inst∧g.x.price=i.x.price∧g.x.qty=i.x.qty∧g.x.implied=i.x.implied∧List.map yR g.x.fills=List.map yR i.x.fills∧sb g.m.p.code=sb e.m.p.code∧g.m.p.tick=e.m.p.tick∧g.m.p.low=e.m.p.low∧g.m.p.high=e.m.p.high∧g.m.p.wide=e.m.p.wide∧g.m.p.rule=e.m.p.rule∧g.m.p.top=e.m.p.top∧g.m.p.least=e.m.p.least∧g.m.p.part=e.m.p.part∧zD g.m.s=zD e.m.s∧zW g.m.used=zW e.m.used∧AObj.fro 1 (iE g.m.p.months)=AObj.fro 1 (iE e.m.p.months)∧AObj.fro 1 (iE g.m.p.settle)=AObj.fro 1 (iE e.m.p.settle)∧(lE g)∧∀(h:Unit),True→∃(j:MsI),j.r.kind=3∧j.r.id=i.c.id∧j.r.inst=i.c.inst∧j.r.side=i.c.side∧j.r.price=i.x.price∧j.r.qty=i.x.qty∧j.r.left=i.left∧j.r.why=0∧j.near=(qC g).fst∧j.far=(qC g).snd∧sb j.m.p.code=sb g.m.p.code∧j.m.p.tick=g.m.p.tick∧j.m.p.low=g.m.p.low∧j.m.p.high=g.m.p.high∧j.m.p.wide=g.m.p.wide∧j.m.p.rule=g.m.p.rule∧j.m.p.top=g.m.p.top∧j.m.p.least=g.m.p.least∧j.m.p.part=g.m.p.part∧zD j.m.s=zD g.m.s∧zW j.m.used=zW g.m.used∧AObj.fro 1 (iE j.m.p.months)=AObj.fro 1 (iE g.m.p.months)∧AObj.fro 1 (iE j.m.p.settle)=AObj.fro 1 (iE g.m.p.settle)∧(eE j)∧∀(k:Unit),True→True∧((List.map xJ (i.out d)++[[dI 3,dI i.c.id,dI i.c.inst,dI i.c.side,dI i.x.price,dI i.x.qty,dI i.left,dI 0]]).length+2)*(64:Nat)≤(70368744177664:Nat)∧∃(l:Unit),sb i.m.p.code=sb j.m.p.code∧i.m.p.tick=j.m.p.tick∧i.m.p.low=j.m.p.low∧i.m.p.high=j.m.p.high∧i.m.p.wide=j.m.p.wide∧i.m.p.rule=j.m.p.rule∧i.m.p.top=j.m.p.top∧i.m.p.least=j.m.p.least∧i.m.p.part=j.m.p.part∧zD i.m.s=zD j.m.s∧zW i.m.used=zW j.m.used∧AObj.fro 1 (iE i.m.p.months)=AObj.fro 1 (iE j.m.p.months)∧AObj.fro 1 (iE i.m.p.settle)=AObj.fro 1 (iE j.m.p.settle)∧List.map xJ (aB i.m.p i.c i.x i.left)=List.map xJ (i.out d)++[[dI 3,dI i.c.id,dI i.c.inst,dI i.c.side,dI i.x.price,dI i.x.qty,dI i.left,dI 0]]++[xJ (gH j),xJ (gF j)]∧True) (∃(g:Unit),sb i.m.p.code=sb e.m.p.code∧i.m.p.tick=e.m.p.tick∧i.m.p.low=e.m.p.low∧i.m.p.high=e.m.p.high∧i.m.p.wide=e.m.p.wide∧i.m.p.rule=e.m.p.rule∧i.m.p.top=e.m.p.top∧i.m.p.least=e.m.p.least∧i.m.p.part=e.m.p.part∧zD i.m.s=zD e.m.s∧zW i.m.used=zW e.m.used∧AObj.fro 1 (iE i.m.p.months)=AObj.fro 1 (iE e.m.p.months)∧AObj.fro 1 (iE i.m.p.settle)=AObj.fro 1 (iE e.m.p.settle)∧List.map xJ (aB i.m.p i.c i.x i.left)=List.map xJ (i.out d)++[[dI 3,dI i.c.id,dI i.c.inst,dI i.c.side,dI i.x.price,dI i.x.qty,dI i.left,dI 0]]∧True))
open Go Cv Go.Proofs
theorem zVc:rejC.ok Tryz.prog 58:=okw (V:=yPz) mixed gok0 0 (fun _=>[]) (fun _=>[]) [] Tryz.func58 fun(i:RjI) _=>⟨(),rfl,trivial⟩
theorem z7m (i:MsI) (h:mspreadC.cnd i):zSp i:=by
 obtain⟨⟨hc,hp⟩,hs⟩:i.m.fine∧(i.r.side=1∨i.r.side=2):=h
 have hw:IntKind.i64.wrap (3-i.r.side)=3-i.r.side:=w64 (by omega)
 unfold zSp rG gH gF vE wG kL dI
 rw[hw]
 refine⟨⟨i.m.p,i.r.inst⟩,rfl,rfl,rfl,rfl,rfl,rfl,rfl,rfl,rfl,rfl,rfl,rfl,hp,fun _ _=> ?_⟩
 exact kp
theorem zWr:mspreadC.ok Tryz.prog 193:=okw mixed (gokc sD gok0) 0 (fun _=>[]) (fun _=>[]) [] Tryz.func193 z7m
theorem yIl:misC.ok Tryz.prog 191:=okw (V:=yQt) mixed (gokc sD gok0) 0 (fun _=>[]) (fun _=>[]) [] Tryz.func191 fun(i:MiN) h=>by
 obtain⟨hc,hp⟩:i.m.fine:=h
 exact⟨⟨i.m.p,i.inst⟩,rfl,rfl,rfl,rfl,rfl,rfl,rfl,rfl,rfl,rfl,rfl,rfl,hp,fun _ _=>kp⟩
theorem yMi {l:List fW} {k:Nat} {f:fW} (h:l[k]? =some f):zE (l.map yR) k 0 6=some [D.v (.int .i64 f.id),D.v (.int .i64 f.inst),D.v (.int .i64 f.side),D.v (.int .i64 f.price),D.v (.int .i64 f.qty),D.v (.int .i64 f.left)]:=elA h (by simp[yR]) rfl
theorem vof (i:OfI) (h:ofC.cnd i):Vof i:=by
 have hl:i.x.fills.length≤1000000:=h
 have e4:(i.x.fills.map yR).length=i.x.fills.length:=yRg ..
 unfold Vof zOs dI
 refine⟨0,rfl,fun j=>j≤i.x.fills.length∧(i.x.fills.take j).find? (fun f=>decide (f.inst=i.k))=none,fun j=>i.x.fills.length-j,⟨ySr _,rfl⟩,?_⟩
 rintro j ⟨j1,j2⟩
 refine zI (fun c=> ?_) (fun c=> ?_)
 ·obtain⟨f,hf⟩:=yD (l:=i.x.fills) (i:=j) (by omega)
  refine⟨⟨by omega,by omega⟩,_,_,_,_,_,_,yMi hf,Cv.cnd.mk (fun g=>⟨(),?_,by(repeat'(first|exact trivial|exact rfl|apply And.intro))⟩) (fun g=>⟨j+1,wjn (by omega),⟨by omega,?_⟩,by dsimp only;omega,by(repeat'(first|exact trivial|exact rfl|apply And.intro))⟩)⟩
  ·have g:f.inst=i.k:=by simpa using g
   have e:i.x.fills.find? (fun f=>decide (f.inst=i.k))=some f:=by
    rw[← yTq j i.x.fills,List.find?_append,j2,yTp (by omega),(yRf.1 hf).2,List.find?_cons_of_pos (by simpa using g)]
    rfl
   rw[ofF,e]
  ·have g:¬f.inst=i.k:=by simpa using g
   rw[ySz,hf,List.find?_append,j2]
   simp[g]
 ·have:j=i.x.fills.length:=by omega
  rw[this,yRw (ySk _)]at j2
  exact⟨(),by rw[ofF,j2],by(repeat'(first|exact trivial|exact rfl|apply And.intro))⟩
theorem yNl:ofC.ok Tryz.prog 223:=okw mixed gok0 0 (fun _=>[]) (fun _=>ofA) [] Tryz.func223 vof
theorem z7y (i:MpI) (h:mpricesC.cnd i):zTh i:=by
 obtain⟨⟨hc,hp⟩,hpr,hl⟩:i.m.fine∧yU i.x.price∧i.x.fills.length≤1000000:=h
 unfold zTh qC nV yX kL
 refine Cv.cnd.mk (fun e=> ?_) (fun e=> ?_)
 ·have e:i.x.implied=false:=by simpa using e
  have h0:j0 i.m.p i.inst i.x=((gD i.m.p i.inst i.x.price).1,(gD i.m.p i.inst i.x.price).2.1):=by rw[j0,yRe e]
  rw[h0]
  exact⟨⟨i.m.p,i.inst,i.x.price⟩,rfl,rfl,rfl,rfl,rfl,rfl,rfl,rfl,rfl,rfl,rfl,rfl,rfl,⟨hc,hp,hpr⟩,fun _ _=>kp⟩
 ·have e:¬i.x.implied=false:=by simpa using e
  have h0:j0 i.m.p i.inst i.x=(ofF i.x (i.m.p.legs i.inst).1,ofF i.x (i.m.p.legs i.inst).2.1):=by rw[j0,yRd e]
  rw[h0]
  exact⟨⟨i.m.p,i.inst⟩,rfl,rfl,rfl,rfl,rfl,rfl,rfl,rfl,rfl,rfl,rfl,rfl,hp,fun _ _=>⟨⟨i.x,(i.m.p.legs i.inst).1⟩,rfl,rfl,rfl,rfl,rfl,hl,fun _ _=>⟨⟨i.x,(i.m.p.legs i.inst).2.1⟩,rfl,rfl,rfl,rfl,rfl,hl,fun _ _=>kp⟩⟩⟩
theorem zXs:mpricesC.ok Tryz.prog 192:=okw mixed (gokc sD (gokc zWu (gokc yNl gok0))) 0 (fun _=>[]) (fun _=>[]) [] Tryz.func192 z7y
theorem zIz (p:Prd) (x:jU) (r:Rep):(pA p x r).length≤3:=by
 rw[pA,yRt]
 split
 ·rw[zFx];simp
 ·simp
theorem zYp {p:Prd} {x:jU} {r:Rep} (h:(p.legs r.inst).2.2=false):pA p x r=[r]:=by
 rw[pA,yRd (by rw[h];decide)]
theorem zSt {p:Prd} {x:jU} {r:Rep} (h:(p.legs r.inst).2.2=true):pA p x r=r::zFx p r (j0 p r.inst x).1 (j0 p r.inst x).2:=by
 rw[pA,yRe h]
theorem StI'.out_len (i:StI'):∀j,(i.out j).length≤3*j
 |0=>ySk _
 |j+1=>by
  have ih:=StI'.out_len i j
  rw[StI'.out]at ih ⊢
  rw[ySz,ySx,yRi]
  cases e:i.x.fills[j]? with
  |none=>simp only[Option.toList_none,yVz,yUi];omega
  |some f=>
   have:=zIz i.m.p i.x (zBa f)
   simp only[yVh,ySt,yVz,ySa]
   omega
theorem StI'.out_succ (i:StI') {j:Nat} {f:fW} (h:i.x.fills[j]? =some f):i.out (j+1)=i.out j++pA i.m.p i.x (zBa f):=by
 rw[StI'.out,StI'.out,ySz,ySx,h]
 simp
theorem yIn (i:StI') (h:mstepC.cnd i):z6d i:=by
 obtain⟨hf,hpr,hl,hcs,hfs⟩:i.m.fine∧yU i.x.price∧i.x.fills.length≤1000000∧(i.c.side=1∨i.c.side=2)∧∀f∈i.x.fills,f.side=1∨f.side=2:=h
 have e4:(i.x.fills.map yR).length=i.x.fills.length:=yRg ..
 unfold z6d dW lD eE lE gH gF qC dI
 refine⟨0,rfl,rfl,fun j=>j≤i.x.fills.length,fun j=>i.x.fills.length-j,ySr _,?_⟩
 intro j hj
 have ho:=i.out_len j
 have e5:((i.out j).map xJ).length=(i.out j).length:=yRg ..
 refine zI (fun c=> ?_) (fun c=> ?_)
 ·obtain⟨f,hfj⟩:=yD (l:=i.x.fills) (i:=j) (by omega)
  have hos:=i.out_succ hfj
  have hfj2:=hfs f (yRp hfj)
  refine⟨⟨by omega,by omega⟩,_,_,_,_,_,_,yMi hfj,by omega,⟨i.m,f.inst⟩,rfl,rfl,rfl,rfl,rfl,rfl,rfl,rfl,rfl,rfl,rfl,rfl,rfl,rfl,hf,fun _ _=>Cv.cnd.mk (fun e=> ?_) (fun e=> ?_)⟩
  ·have e:(i.m.p.legs (zBa f).inst).2.2=true:=e
   rw[zSt e]at hos
   refine⟨⟨i.m,f.inst,i.x⟩,rfl,rfl,rfl,rfl,rfl,rfl,rfl,rfl,rfl,rfl,rfl,rfl,rfl,rfl,rfl,rfl,rfl,rfl,⟨hf,hpr,hl⟩,fun _ _=>⟨⟨i.m,zBa f,(j0 i.m.p f.inst i.x).1,(j0 i.m.p f.inst i.x).2⟩,rfl,rfl,rfl,rfl,rfl,rfl,rfl,rfl,rfl,rfl,rfl,rfl,rfl,rfl,rfl,rfl,rfl,rfl,rfl,rfl,rfl,rfl,rfl,⟨hf,hfj2⟩,fun _ _=>⟨trivial,by rw[yRi,e5];simp only[yRt,yUi];omega,j+1,wjn (by omega),?_,by omega,by dsimp only;omega,by(repeat'(first|exact trivial|exact rfl|apply And.intro))⟩⟩⟩
   rw[hos,yRm,yRn]
   rfl
  ·have e:(i.m.p.legs (zBa f).inst).2.2=false:=e
   rw[zYp e]at hos
   refine⟨j+1,wjn (by omega),?_,by omega,by dsimp only;omega,by(repeat'(first|exact trivial|exact rfl|apply And.intro))⟩
   rw[hos,yRm];rfl
 ·have hj:j=i.x.fills.length:=by omega
  have ho2:i.x.fills.flatMap (fun f=>pA i.m.p i.x (zBa f))=i.out j:=by rw[StI'.out,hj,yRw (ySk _)]
  have hR:aB i.m.p i.c i.x i.left=i.out j++pA i.m.p i.x ⟨3,i.c.id,i.c.inst,i.c.side,i.x.price,i.x.qty,i.left,0⟩:=by rw[aB,ho2]
  refine⟨by omega,⟨i.m,i.c.inst⟩,rfl,rfl,rfl,rfl,rfl,rfl,rfl,rfl,rfl,rfl,rfl,rfl,rfl,rfl,hf,fun _ _=>Cv.cnd.mk (fun e=> ?_) (fun e=> ?_)⟩
  ·have e:(i.m.p.legs (⟨3,i.c.id,i.c.inst,i.c.side,i.x.price,i.x.qty,i.left,0⟩:Rep).inst).2.2=true:=e
   rw[zSt e]at hR
   refine⟨⟨i.m,i.c.inst,i.x⟩,rfl,rfl,rfl,rfl,rfl,rfl,rfl,rfl,rfl,rfl,rfl,rfl,rfl,rfl,rfl,rfl,rfl,rfl,⟨hf,hpr,hl⟩,fun _ _=>⟨⟨i.m,⟨3,i.c.id,i.c.inst,i.c.side,i.x.price,i.x.qty,i.left,0⟩,(j0 i.m.p i.c.inst i.x).1,(j0 i.m.p i.c.inst i.x).2⟩,rfl,rfl,rfl,rfl,rfl,rfl,rfl,rfl,rfl,rfl,rfl,rfl,rfl,rfl,rfl,rfl,rfl,rfl,rfl,rfl,rfl,rfl,rfl,⟨hf,hcs⟩,fun _ _=>⟨trivial,by rw[yRi,e5];simp only[yRt,yUi];omega,?_⟩⟩⟩
   rw[hR,yRm,yRn]
   exact kp
  ·have e:(i.m.p.legs (⟨3,i.c.id,i.c.inst,i.c.side,i.x.price,i.x.qty,i.left,0⟩:Rep).inst).2.2=false:=e
   rw[zYp e]at hR
   rw[hR,yRm]
   exact kp
theorem yBq:mstepC.ok Tryz.prog 155:=okw mixed (gokc yIl (gokc zXs (gokc zWr gok0))) 1 (fun _=>[]) (fun i=>yIq i) [] Tryz.func155 yIn
open Go Cv Go.Proofs
structure EnI where
 m:Mkt
 p:Prd
 B:List (List zH)
 U:List Int
 c:Cmd
 X:MkX
@[reducible] def EnI.std (i:EnI):Prop:=i.m.Rep i.p i.B i.U∧BOk i.p i.B
@[reducible] def EnI.good (i:EnI):Prop:=(0≤i.c.inst∧i.c.inst<i.B.length)∧(1≤i.c.qty∧i.c.qty≤1000000)∧(i.c.side=1∨i.c.side=2)
@[reducible] def zUk (X:MkX) (p:Prd):Alt:={o:=Mkt,res:=fun _=> .own 5,post:=fun o=>zAx o++[zUz X.R],rel:=fun o=>o.Rep p X.B X.U}
def enterC:Con where
 ι:=EnI
 pat:=fun i=>[.nm 0 0,zAa i.c]
 pre:=fun i=>zAx i.m
 cnd:=fun i=>i.std∧i.good∧i.p.price i.c.inst i.c.price=0∧i.X=bS i.p i.B i.U i.c
 alts:=fun i=>[zUk i.X i.p]
structure EnJ where
 left:Int
 k:Nat
 out:List Rep
def yJj (i:EnI):List SAnn:=[{ι:=EnJ,slots:=fun j=>[(5,.own 0),(8,zA j.left),(51,zA j.k)],rows:=fun j=>[zUz j.out]}]
def orderC:Con where
 ι:=EnI
 pat:=fun i=>[.nm 0 0,zAa i.c]
 pre:=fun i=>zAx i.m
 cnd:=fun i=>i.std∧i.c.right=0∧i.c.kind=1∧i.X=mI i.p i.B i.U i.c
 alts:=fun i=>[zUk i.X i.p]
def yMe:List (Nat×SAnn):=[(22,ij 6),(44,bj 47),(52,bj 69)]
structure CaI where
 m:Mkt
 p:Prd
 B:List (List zH)
 U:List Int
 id:Int
 q:Int
 inst:Int
 o:zH
 X:MkX
@[reducible] def CaI.std (i:CaI):Prop:=i.m.Rep i.p i.B i.U∧BOk i.p i.B
def cancelC:Con where
 ι:=CaI
 pat:=fun i=>[.nm 0 0,zA i.id,zA i.inst,z3e i.o]
 pre:=fun i=>zAx i.m
 cnd:=fun i=>i.std∧i.X=gA i.B i.U i.id i.inst i.o
 alts:=fun i=>[zUk i.X i.p]
def reduceC:Con where
 ι:=CaI
 pat:=fun i=>[.nm 0 0,zA i.id,zA i.q,zA i.inst,z3e i.o]
 pre:=fun i=>zAx i.m
 cnd:=fun i=>i.std∧yU (i.o.qty-i.q)∧i.X=mT i.B i.U i.id i.q i.inst i.o
 alts:=fun i=>[zUk i.X i.p]
structure z4a where
 m:Mkt
 p:Prd
 B:List (List zH)
 U:List Int
 c:Cmd
 inst:Int
 o:zH
 X:MkX
def replaceC:Con where
 ι:=z4a
 pat:=fun i=>[.nm 0 0,zAa i.c,zA i.inst,z3e i.o]
 pre:=fun i=>zAx i.m
 cnd:=fun i=>i.m.Rep i.p i.B i.U∧BOk i.p i.B∧zV i.B i.c.id=(i.inst,i.o,true)∧(1≤i.c.qty∧i.c.qty≤1000000)∧i.X=fU i.p i.B i.U i.c i.inst i.o
 alts:=fun i=>[zUk i.X i.p]
def doC:Con where
 ι:=EnI
 pat:=fun i=>[.nm 0 0,zAa i.c]
 pre:=fun i=>[xS i.m]
 cnd:=fun i=>i.std∧i.c.label.length≤140737488355328∧yU i.c.qty∧i.X=doF i.p i.B i.U i.c
 alts:=fun i=>[{o:=Mkt,res:=fun _=> .own 1,post:=fun o=>[xS o,zUz i.X.R],rel:=fun o=>o.Rep i.p i.X.B i.X.U}]
structure MfI where
 m:Mkt
 p:Prd
 B:List (List zH)
 U:List Int
 id:Int
def mcountC:Con:=con1 MfI (fun i=>[.nm 0 0]) (fun i=>[xS i.m]) (fun i=>i.m.Rep i.p i.B i.U∧BOk i.p i.B) (fun i=>zA (tK i.B)) (fun i=>[xS i.m])
end Sx
