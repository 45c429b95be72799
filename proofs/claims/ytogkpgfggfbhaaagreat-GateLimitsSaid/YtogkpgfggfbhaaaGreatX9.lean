/- Texts of ours, one behind the other: a walk that the kernel reckons, and contracts of functions. No condition. -/
import Derived.Test.YtogkpgfggfbhaaaGreatX8
namespace Sx
set_option linter.unusedVariables false
set_option maxRecDepth 100000
open Go Cv Go.Proofs
def zEj (a:zGw→Nat) (b:zGw) (c:zGw) (d:RunI):Prop:=a b<a c∧AObj.fro 1 (iE d.s.p.months)=AObj.fro 1 (iE d.s.p.months)∧AObj.fro 1 (iE d.s.p.settle)=AObj.fro 1 (iE d.s.p.settle)
def lJ (a:TrI):Prop:=a.s.Rep a.p a.B∧BOk a.p a.B∧0≤a.inst∧a.inst<(↑a.B.length:Int)∧(-9223372036854775808)≤a.q∧a.q≤9223372036854775807
def zHb (a:RunI) (b:zGw) (c:NxI):Prop:=∃(d:MSt),a.r.left=b.q∧zD d=zD c.s∧List.map kL a.r.steps=List.map kL b.steps∧d.Rep a.p a.r.B
def pK (a:TrI):=(List.map yL (vS a))
def zTy (a:RunI):Prop:=∃(b:zGw),b.q=a.q∧sb b.s.p.code=sb a.s.p.code∧b.s.p.tick=a.s.p.tick∧b.s.p.low=a.s.p.low∧b.s.p.high=a.s.p.high∧b.s.p.wide=a.s.p.wide∧b.s.p.rule=a.s.p.rule∧b.s.p.top=a.s.p.top∧b.s.p.least=a.s.p.least∧b.s.p.part=a.s.p.part∧AObj.objs 184 Book 6 zP b.s.books none=AObj.objs 184 Book 6 zP a.s.books none∧yN b.s.wh=yN a.s.wh∧AObj.fro 1 (iE b.s.p.months)=AObj.fro 1 (iE a.s.p.months)∧AObj.fro 1 (iE b.s.p.settle)=AObj.fro 1 (iE a.s.p.settle)∧List.map kL b.steps=[]∧∃(c:zGw→Prop),∃(d:zGw→Nat),c b∧∀(e:zGw),c e→cnd (decide (e.q>0)) (∃(f:Bool),zC f=zC a.sd∧True∧∀(g:Unit),True→∃(h:NxI),h.inst=a.inst∧zC h.sd=zC !f∧zD h.s=zD e.s∧(h.s.Rep h.p h.B∧BOk h.p h.B∧0≤h.inst∧h.inst<(↑h.B.length:Int))∧∀(j:Unit),True→cnd (!(zU h).snd.snd) (zHb a e h) (∃(k:GoI),zC k.s=zC a.sd∧k.p=a.price∧k.x=(zU h).fst.price∧True∧∀(l:Unit),True→cnd (!fA k.s k.p k.x) (zHb a e h) (cnd (zU h).snd.fst (∃(m:TrI),m.inst=(zU h).fst.a.inst∧zC m.sd=(zU h).fst.a.side∧m.q=min e.q (zU h).fst.qty∧zD m.s=zD h.s∧(lJ m)∧∀(n:MSt),n.Rep m.p (h9 m)→True∧(pK m).length*(48:Nat)≤(70368744177664:Nat)∧∃(p:TrI),p.inst=(zU h).fst.b.inst∧zC p.sd=(zU h).fst.b.side∧p.q=min e.q (zU h).fst.qty∧zD p.s=zD n∧(lJ p)∧∀(q:MSt),q.Rep p.p (h9 p)→True∧((pK m).length+(pK p).length)*(48:Nat)≤(70368744177664:Nat)∧((List.map kL e.steps).length+1)*(48:Nat)≤(70368744177664:Nat)∧∃(r:zGw),r.q=IntKind.i64.wrap (e.q-min e.q (zU h).fst.qty)∧zD r.s=zD q∧List.map kL r.steps=List.map kL e.steps++[[dI ((zU h).fst.price),dI (min e.q (zU h).fst.qty),D.v (.bool (zU h).snd.fst),D.ro 6 (List.map yL (vS m)++List.map yL (vS p))]]∧c r∧zEj d r e a) (∃(m:Bool),zC m=zC a.sd∧True∧∀(n:Unit),True→min e.q (zU h).fst.qty=min e.q (zU h).fst.qty∧∃(p:TrI),p.inst=a.inst∧zC p.sd=zC !m∧p.q=min e.q (zU h).fst.qty∧zD p.s=zD h.s∧(lJ p)∧∀(q:MSt),q.Rep p.p (h9 p)→((List.map kL e.steps).length+1)*(48:Nat)≤(70368744177664:Nat)∧∃(r:zGw),r.q=IntKind.i64.wrap (e.q-min e.q (zU h).fst.qty)∧zD r.s=zD q∧List.map kL r.steps=List.map kL e.steps++[[dI ((zU h).fst.price),dI (min e.q (zU h).fst.qty),D.v (.bool (zU h).snd.fst),D.ro 6 (pK p)]]∧c r∧zEj d r e a)))) (∃(f:MSt),a.r.left=e.q∧zD f=zD e.s∧List.map kL a.r.steps=List.map kL e.steps∧f.Rep a.p a.r.B)
def cG (a:RunI):Prop:=∃(b:MSt),a.r.left=a.q∧sb b.p.code=sb a.s.p.code∧b.p.tick=a.s.p.tick∧b.p.low=a.s.p.low∧b.p.high=a.s.p.high∧b.p.wide=a.s.p.wide∧b.p.rule=a.s.p.rule∧b.p.top=a.s.p.top∧b.p.least=a.s.p.least∧b.p.part=a.s.p.part∧AObj.objs 184 Book 6 zP b.books none=AObj.objs 184 Book 6 zP a.s.books none∧yN b.wh=yN a.s.wh∧AObj.fro 1 (iE b.p.months)=AObj.fro 1 (iE a.s.p.months)∧AObj.fro 1 (iE b.p.settle)=AObj.fro 1 (iE a.s.p.settle)∧List.map kL a.r.steps=[]∧b.Rep a.p a.r.B
def yKc (i:RunI):Prop:=
 cnd (decide (i.inst≥0)) (cnd (decide (i.inst<(↑i.s.books.length:Int))) (cnd (zC i.sd==1) (cnd (decide (i.q≥1)) (cnd (!decide (i.q≤1000000)) (cG i) (zTy i)) (cG i)) (cnd (zC i.sd==2) (cnd (decide (i.q≥1)) (cnd (!decide (i.q≤1000000)) (cG i) (zTy i)) (cG i)) (cG i))) (cG i)) (cG i)
set_option linter.unusedSimpArgs false
open Go Cv Go.Proofs
structure QOk (T:List Top) (q:Quote):Prop where
 a:0≤q.a.inst∧q.a.inst<T.length
 b:0≤q.b.inst∧q.b.inst<T.length
 sa:q.a.side=1∨q.a.side=2
 sb:q.b.side=1∨q.b.side=2
 ne:q.a.inst≠q.b.inst
 ha:(T.getD q.a.inst.toNat top0).has q.a.side=true
 hb:(T.getD q.b.inst.toNat top0).has q.b.side=true
 qty:q.qty=min ((T.getD q.a.inst.toNat top0).qty q.a.side) ((T.getD q.b.inst.toNat top0).qty q.b.side)
theorem zUt {T:List Top} {a b:Leg} {less:Bool} {q:Quote} (h:q∈mkq T a b less) (h1:0≤a.inst∧a.inst<T.length) (h2:0≤b.inst∧b.inst<T.length) (h3:a.side=1∨a.side=2) (h4:b.side=1∨b.side=2) (hne:a.inst≠b.inst):QOk T q∧q.a=a∧q.b=b:=by
 cases less
 all_goals
  simp only[mkq,yOy,↓reduceIte]at h
  split at h
  ·rename_i hc
   simp only[yOt]at hc
   rw[yPu]at h
   subst h
   exact⟨⟨h1,h2,h3,h4,hne,hc.1.1,hc.1.2,rfl⟩,rfl,rfl⟩
  ·cases h
theorem yIc:∀n≤6,∀k<n+n*(n-1) / 2,n≤k→(qW n k n 0).1≠(qW n k n 0).2.1:=by decide
theorem zWu {p:Prd} (hc:p.check=0) {k:Nat} (hk:k<p.count) (hs:(p.legs k).2.2=true):(p.legs k).1≠(p.legs k).2.1:=by
 have m6:=(wX hc).m6
 have hk':=hk
 rw[Prd.count,yOi hc]at hk'
 by_cases h:k<p.months.length
 ·rw[Prd.legs,yOh (by omega),yOi (by omega)]at hs
  cases hs
 ·rw[Prd.legs,yOh (by omega),yOh (by omega)]
  exact yIc p.months.length m6 k hk' (by omega)
theorem zZz:∀n≤6,∀a<n,∀b<n,a<b→(y4 n a:Int)+b-a-1≥n:=by decide
theorem zLl {p:Prd} (hc:p.check=0) {a b:Nat} (hab:a<b) (hb:b<p.months.length):(p.months.length:Int)≤(p.spread a b).1:=by
 have m6:=(wX hc).m6
 have:=zZz p.months.length m6 a (by omega) b hb hab
 rw[Prd.spread,yOh (by omega)]
 simpa using this
theorem yBr {p:Prd} (hc:p.check=0) {T:List Top} (hT:T.length=p.count) {inst:Int} {s:Int} (hs:s=1∨s=2) {q:Quote} (h:q∈x4 ⟨p,T,inst⟩ s):QOk T q∧0≤inst∧inst<p.count∧
 (((p.legs inst).2.2=true∧q.a=⟨(p.legs inst).1,s⟩∧q.b=⟨(p.legs inst).2.1,3-s⟩)∨(inst<p.months.length∧q.a.inst≠inst∧(p.months.length:Int)≤q.a.inst)):=by
 rw[x4]at h
 dsimp only at h
 split at h
 ·cases h
 ·rename_i hn
  have h0:0≤inst∧inst<p.count:=by omega
  obtain⟨k,rfl⟩:∃k:Nat,inst=k:=⟨inst.toNat,by omega⟩
  have hk:k<p.count:=by omega
  have hge:=zEu hc
  split at h
  ·rename_i hl
   obtain⟨q',hq',rfl⟩:=yPm.1 h
   have hle:=gP hc hk
   rcases hle with⟨_,l1,l2,l3,l4⟩|⟨e,_⟩
   ·obtain⟨ok,e1,e2⟩:=zUt hq' (by dsimp only;omega) (by dsimp only;omega) (by dsimp only;omega) hs (fun e=>zWu hc hk hl e.symm)
    refine⟨⟨by dsimp only[g9];omega,by dsimp only[g9];omega,hs,by dsimp only[g9];omega,zWu hc hk hl,?_,?_,?_⟩,h0.1,h0.2,.inl ⟨hl,rfl,rfl⟩⟩
    ·have:=ok.hb;rw[e2]at this;exact this
    ·have:=ok.ha;rw[e1]at this;exact this
    ·have:=ok.qty;rw[e1,e2]at this;dsimp only[g9];rw[this];exact Int.min_comm _ _
   ·rw[e]at hl;cases hl
  ·rename_i hl
   have hm:k<p.months.length:=by
    rcases gP hc hk with⟨e,_⟩|⟨_,e⟩
    ·exact absurd e hl
    ·exact e
   rcases yPi.1 h with h|h
   ·obtain⟨j,hj,h⟩:=yQv.1 h
    have hj:=yRm.1 hj
    rw[yOz]at hj
    have s1:=fU hc (a:=k) (b:=k+1+j) (by omega) (by omega)
    have s2:=zLl hc (a:=k) (b:=k+1+j) (by omega) (by omega)
    have ec:((k:Int)+1+j)=((k+1+j:Nat):Int):=by omega
    rw[ec]at h
    obtain⟨ok,e1,e2⟩:=zUt h (by dsimp only;omega) (by dsimp only;omega) hs hs (by dsimp only;omega)
    exact⟨ok,h0.1,h0.2,.inr ⟨by omega,by rw[e1];dsimp only;omega,by rw[e1];exact s2⟩⟩
   ·obtain⟨j,hj,h⟩:=yQv.1 h
    have hj:=yRm.1 hj
    rw[yOz]at hj
    have s1:=fU hc (a:=j) (b:=k) (by omega) (by omega)
    have s2:=zLl hc (a:=j) (b:=k) (by omega) (by omega)
    obtain⟨ok,e1,e2⟩:=zUt h (by dsimp only;omega) (by dsimp only;omega) (by dsimp only;omega) hs (by dsimp only;omega)
    exact⟨ok,h0.1,h0.2,.inr ⟨by omega,by rw[e1];dsimp only;omega,by rw[e1];exact s2⟩⟩
theorem zLb {s:Int}:∀(r:List Quote) (q:Quote),r.foldl (fun b q=>if btr s q.price b.price then q else b) q∈q::r
 |[],q=>yOn
 |x::r,q=>by
  rw[yTc]
  have:=zLb (s:=s) r (if btr s x.price q.price then x else q)
  rcases yPb.1 this with e|h
  ·rw[e];split
   ·exact yOo _ yOn
   ·exact yOn
  ·exact yOo _ (yOo _ h)
theorem zJd {l:List Quote} {s:Int} (h:(yP l s).2=true):(yP l s).1∈l:=by
 cases l with
 |nil=>cases h
 |cons q r=>exact zLb r q
def yBd (B:List (List zG)):Prop:=∀(k:Nat) (L:List zG),B[k]?=some L→(∀o∈L,zGr o)∧(L.map (·.id)).Nodup∧L.length≤250
theorem MSt.Rep.ords {s:MSt} {p:Prd} {B:List (List zG)} (h:s.Rep p B):yBd B:=by
 intro k L hL
 obtain⟨b,hb⟩:=z9 (l:=s.books) (i:=k) (by rw[h.bl];exact(yOj.1 hL).1)
 exact(h.bk k b L hb hL).ords
theorem yDk:∀{l:List zG} {v:Lv},(∀o∈l,zGr o)→v∈grp l→1≤v.qty∧v.qty≤1000000*l.length
 |[],v,_,h=>by cases h
 |o::l,v,ho,h=>by
  have h0:=(ho o yOn).q
  have ih:∀v∈grp l,1≤v.qty∧v.qty≤1000000*l.length:=fun v hv=>yDk (fun x hx=>ho x (yOo _ hx)) hv
  rw[grp]at h
  rw[yOw]
  split at h
  ·rw[yPu]at h
   subst h;dsimp only;omega
  ·rename_i w ws e
   rw[e]at ih
   have hw:=ih w yOn
   split at h
   ·rcases yPb.1 h with rfl|h
    ·dsimp only;omega
    ·have:=ih v (yOo _ h);omega
   ·rcases yPb.1 h with rfl|h
    ·dsimp only;omega
    ·have:=ih v h;omega
theorem zTs {L:List zG} {s:Int} (h:∀o∈L,zGr o) (hl:L.length≤250) (hb:(bestL L s).2=true):1≤(bestL L s).1.qty∧(bestL L s).1.qty≤250000000:=by
 rw[bestL]at hb ⊢
 cases hl2:zMo L s with
 |nil=>rw[hl2]at hb;cases hb
 |cons v vs=>
  dsimp only
  have hm:v∈grp (L.filter fun o=>decide (o.side=s)):=by rw[← zMo,hl2];exact yOn
  have:=yDk (fun o ho=>h o (yQe.1 ho).1) hm
  have:=yRq (fun o:zG=>decide (o.side=s)) L
  omega
theorem z7q {B:List (List zG)} {k:Nat} {L:List zG} (hL:B[k]? =some L):(B.map xO).getD k top0=xO L:=zS (by rw[yQf,hL];rfl)
theorem zDs (L:List zG) {s:Int} (hs:s=1∨s=2):(xO L).has s=(bestL L s).2∧(xO L).qty s=(bestL L s).1.qty∧(xO L).price s=(bestL L s).1.price:=by
 obtain⟨e1,e2,e3,e4,e5,e6⟩:=zNn L
 rcases hs with rfl|rfl
 ·exact⟨e3,e2,e1⟩
 ·exact⟨e6,e5,e4⟩
theorem zWg {p:Prd} {B:List (List zG)} (h:BOk p B) (ho:yBd B) {inst:Int} (hi:0≤inst∧inst<B.length) {s:Int} (hs:s=1∨s=2) (hn:(yH p B inst s).2.2=true):
 (1≤(yH p B inst s).1.qty∧(yH p B inst s).1.qty≤250000000)∧((yH p B inst s).2.1=true→(yH p B inst s).1∈x4 ⟨p,B.map xO,inst⟩ s∧QOk (B.map xO) (yH p B inst s).1)∧
 ((yH p B inst s).2.1=false→(bestL (B.getD inst.toNat []) s).2=true∧(yH p B inst s).1.price=(bestL (B.getD inst.toNat []) s).1.price∧(yH p B inst s).1.qty=(bestL (B.getD inst.toNat []) s).1.qty):=by
 obtain⟨k,rfl⟩:∃k:Nat,inst=k:=⟨inst.toNat,by omega⟩
 obtain⟨L,hL⟩:=z9 (l:=B) (i:=k) (by omega)
 have hLo:=ho k L hL
 rw[yH]at hn ⊢
 rw[yOz,zS hL]at hn ⊢
 split
 ·rename_i c
  simp only[yOt]at c
  exact⟨zTs hLo.1 hLo.2.2 c.1,⟨fun e=>(by cases e),fun _=>⟨c.1,rfl,rfl⟩⟩⟩
 ·rename_i c
  rw[yOh c]at hn
  dsimp only at hn ⊢
  have hm:=zJd hn
  have ha:(yP (qS ⟨p,B.map xO,k⟩ s) s).1∈x4 ⟨p,B.map xO,k⟩ s:=(yQe.1 hm).1
  obtain⟨ok,_⟩:=yBr h.pc (by rw[yOm];exact h.bl) hs ha
  refine⟨?_,fun _=>⟨ha,ok⟩,fun e=>by rw[hn]at e;cases e⟩
  generalize (yP (qS ⟨p,B.map xO,k⟩ s) s).1=q at ok
  have a:=ok.a
  have b:=ok.b
  rw[yOm]at a b
  obtain⟨La,hLa⟩:=z9 (l:=B) (i:=q.a.inst.toNat) (by omega)
  obtain⟨Lb,hLb⟩:=z9 (l:=B) (i:=q.b.inst.toNat) (by omega)
  have e1:=ok.ha
  have e2:=ok.hb
  have e3:=ok.qty
  rw[z7q hLa]at e1 e3
  rw[z7q hLb]at e2 e3
  rw[(zDs La ok.sa).1]at e1
  rw[(zDs Lb ok.sb).1]at e2
  rw[(zDs La ok.sa).2.1,(zDs Lb ok.sb).2.1]at e3
  have:=zTs (ho _ _ hLa).1 (ho _ _ hLa).2.2 e1
  have:=zTs (ho _ _ hLb).1 (ho _ _ hLb).2.2 e2
  omega
theorem z6i {L:List zG} {id q:Int} {o:zG} (h:o∈(xI L id q).1):∃o'∈L,o.price=o'.price∧o.side=o'.side∧o.id=o'.id:=by
 rw[xI]at h
 split at h
 ·exact⟨o,h,rfl,rfl,rfl⟩
 split at h
 ·exact⟨o,h,rfl,rfl,rfl⟩
 obtain⟨o',ho',e⟩:=yTa.1 h
 refine⟨o',ho',?_⟩
 split at e
 ·split at e
  ·cases e
  ·cases e;exact⟨rfl,rfl,rfl⟩
 ·cases e;exact⟨rfl,rfl,rfl⟩
theorem BOk.take {p:Prd} {B:List (List zG)} (h:BOk p B) (id q:Int):BOk p (xZ B id q).1:=by
 refine⟨h.pc,h.ps,by rw[b9];exact h.bl,fun k L hL o ho=> ?_⟩
 rw[xZ]at hL
 split at hL
 ·exact h.pr k L hL o ho
 ·rename_i j hj
  dsimp only at hL
  rcases fH hL with⟨rfl,rfl⟩|⟨_,hL⟩
  ·obtain⟨o',ho',e,_⟩:=z6i ho
   obtain⟨L',hL',_⟩:=vR hj
   rw[zS hL']at ho'
   rw[e];exact h.pr k L' hL' o' ho'
  ·exact h.pr k L hL o ho
theorem BOk.takes {p:Prd}:∀{fs:List gW} {B:List (List zG)},BOk p B→BOk p (qH B fs)
 |[],B,h=>h
 |f::fs,B,h=>BOk.takes (fs:=fs) (h.take f.id f.qty)
theorem zPv (inst s:Int):∀(os:List zG) (sh:List Int),(xF inst s os sh).length≤os.length
 |[],sh=>yPp 0
 |o::os,[]=>yPv _
 |o::os,k::sh=>by
  have:=zPv inst s os sh
  rw[xF]
  split
  ·simp only[yOw];omega
  ·simp only[yOw];omega
theorem bL {p:Prd} {B:List (List zG)} (ho:yBd B) (inst s q:Int):(x0 p B inst s q).length≤250:=by
 refine yQx (zPv _ _ _ _) (yQx (yRq _ _) ?_)
 by_cases h:inst.toNat<B.length
 ·obtain⟨L,hL⟩:=z9 h
  rw[zS hL];exact(ho _ _ hL).2.2
 ·rw[yOp,yPn (by omega)];exact yPv _
theorem zGy {p:Prd} {B:List (List zG)} {inst:Int} {sd:Bool} {price q:Int} {t:kT} {B':List (List zG)} (hq:1≤q) (h:gU p B inst sd price q=some (t,B')):1≤t.qty∧t.qty≤q:=by
 rw[gU]at h
 dsimp only at h
 split at h
 ·rename_i c
  simp only[yOt,yQi]at c
  split at h
  ·cases h;dsimp only;omega
  ·cases h;dsimp only;omega
 ·cases h
theorem zPx {p:Prd} {inst:Int} {sd:Bool} {price:Int}:∀(m n:Nat) (B:List (List zG)) (q:Int),q.toNat≤m→q.toNat≤n→zDf p inst sd price m B q=zDf p inst sd price n B q
 |0,0,B,q,_,_=>rfl
 |0,n+1,B,q,h,_=>by rw[zDf,zDf,yOi (by omega)]
 |m+1,0,B,q,_,h=>by rw[zDf,zDf,yOi (by omega)]
 |m+1,n+1,B,q,h1,h2=>by
  rw[zDf,zDf]
  split
  ·rfl
  ·rename_i hq
   cases hs:gU p B inst sd price q with
   |none=>rfl
   |some x=>
    obtain⟨t,B'⟩:=x
    have:=zGy (by omega) hs
    dsimp only
    rw[zPx m n B' (q-t.qty) (by omega) (by omega)]
theorem dZ {p:Prd} {B:List (List zG)} {inst:Int} {sd:Bool} {price q:Int} (h:q≤0∨gU p B inst sd price q=none):kG p B inst sd price q=⟨[],q,B⟩:=by
 rw[kG]
 cases hn:q.toNat with
 |zero=>rfl
 |succ n=>
  rw[zDf]
  rcases h with h|h
  ·rw[yOi h]
  ·rw[yOh (by omega),h]
theorem zHw {p:Prd} {B:List (List zG)} {inst:Int} {sd:Bool} {price q:Int} {t:kT} {B':List (List zG)} (hq:1≤q) (h:gU p B inst sd price q=some (t,B')):
 kG p B inst sd price q=⟨t::(kG p B' inst sd price (q-t.qty)).steps,(kG p B' inst sd price (q-t.qty)).left,(kG p B' inst sd price (q-t.qty)).B⟩:=by
 have ht:=zGy hq h
 rw[kG]
 cases hn:q.toNat with
 |zero=>omega
 |succ n=>
  rw[zDf,yOh (by omega),h]
  dsimp only
  rw[zPx n (q-t.qty).toNat B' (q-t.qty) (by omega) (yPp _)]
  rfl
open Go Cv Go.Proofs
theorem vZ {s:Int} (h:s=1∨s=2):zC (decide (s=2))=s:=by
 rcases h with rfl|rfl<;>rfl
theorem yNt (i:RunI) (h:runC.cnd i):yKc i:=by
 obtain⟨hR,hB,⟨h0,h1⟩,hq1,hq2⟩:i.s.Rep i.p i.B∧BOk i.p i.B∧(0≤i.inst∧i.inst<i.B.length)∧1≤i.q∧i.q≤1000000:=h
 have hbl:=hR.bl
 have hcl:=xP i.p
 have hbB:=hB.bl
 unfold yKc cG zTy h9 pK vS zHb lJ zEj zU dI
 refine(fun hT=>zI (fun c=>zI (fun c2=>Cv.cnd.mk (fun _=>zI (fun _=>Cv.cnd.mk (fun e=>absurd hq2 (by simpa using e)) (fun _=>hT)) (fun e=>absurd hq1 e)) (fun e1=>Cv.cnd.mk (fun _=>zI (fun _=>Cv.cnd.mk (fun e=>absurd hq2 (by simpa using e)) (fun _=>hT)) (fun e=>absurd hq1 e)) (fun e2=>by
  rcases m3 i.sd with e|e
  ·rw[e]at e1;cases e1
  ·rw[e]at e2;cases e2))) (fun c2=>absurd (by omega) c2)) (fun c=>absurd h0 c)) ?_
 refine⟨⟨i.s,i.B,[],i.q⟩,rfl,rfl,rfl,rfl,rfl,rfl,rfl,rfl,rfl,rfl,rfl,rfl,rfl,rfl,rfl,fun j=>j.s.Rep i.p j.B∧BOk i.p j.B∧j.B.length=i.B.length∧(0≤j.q∧j.q≤i.q)∧(j.steps.length:Int)≤i.q-j.q∧i.r=⟨j.steps++(kG i.p j.B i.inst i.sd i.price j.q).steps,(kG i.p j.B i.inst i.sd i.price j.q).left,(kG i.p j.B i.inst i.sd i.price j.q).B⟩,fun j=>j.q.toNat,⟨hR,hB,rfl,⟨by dsimp only;omega,yUa _⟩,by dsimp only;simp,rfl⟩,?_⟩
 rintro⟨s,B,st,q⟩ ⟨r1,r2,r3,⟨r4,r4'⟩,r5,r6⟩
 dsimp only at r1 r2 r3 r4 r4' r5 r6 ⊢
 have hno (hn:q≤0∨gU i.p B i.inst i.sd i.price q=none):∃(o:MSt),i.r.left=q∧AObj.adt MSt (5:Nat) xA o=AObj.adt MSt (5:Nat) xA s∧List.map kL i.r.steps=List.map kL st∧o.Rep i.p i.r.B:=by
  rw[dZ hn,yPe]at r6
  rw[r6];exact⟨s,rfl,rfl,rfl,r1⟩
 refine zI (fun c=> ?_) (fun c=>hno (.inl (by omega)))
 have c:0<q:=c
 refine⟨i.sd,rfl,trivial,fun _ _=>⟨⟨s,i.p,B,i.inst,!i.sd⟩,rfl,rfl,rfl,⟨r1,r2,h0,by dsimp only;omega⟩,fun _ _=> ?_⟩⟩
 dsimp only
 have hni:=zWg r2 r1.ords (inst:=i.inst) ⟨h0,by omega⟩ (m3 (!i.sd))
 have hsb:gU i.p B i.inst i.sd i.price q=(if((yH i.p B i.inst (zC (!i.sd))).2.2 && (fA i.sd i.price (yH i.p B i.inst (zC (!i.sd))).1.price && decide (1≤(yH i.p B i.inst (zC (!i.sd))).1.qty)))=true then
  if(yH i.p B i.inst (zC (!i.sd))).2.1=true then
   some (⟨(yH i.p B i.inst (zC (!i.sd))).1.price,min q (yH i.p B i.inst (zC (!i.sd))).1.qty,true,x0 i.p B (yH i.p B i.inst (zC (!i.sd))).1.a.inst (yH i.p B i.inst (zC (!i.sd))).1.a.side (min q (yH i.p B i.inst (zC (!i.sd))).1.qty)++x0 i.p (qH B (x0 i.p B (yH i.p B i.inst (zC (!i.sd))).1.a.inst (yH i.p B i.inst (zC (!i.sd))).1.a.side (min q (yH i.p B i.inst (zC (!i.sd))).1.qty))) (yH i.p B i.inst (zC (!i.sd))).1.b.inst (yH i.p B i.inst (zC (!i.sd))).1.b.side (min q (yH i.p B i.inst (zC (!i.sd))).1.qty)⟩,qH (qH B (x0 i.p B (yH i.p B i.inst (zC (!i.sd))).1.a.inst (yH i.p B i.inst (zC (!i.sd))).1.a.side (min q (yH i.p B i.inst (zC (!i.sd))).1.qty))) (x0 i.p (qH B (x0 i.p B (yH i.p B i.inst (zC (!i.sd))).1.a.inst (yH i.p B i.inst (zC (!i.sd))).1.a.side (min q (yH i.p B i.inst (zC (!i.sd))).1.qty))) (yH i.p B i.inst (zC (!i.sd))).1.b.inst (yH i.p B i.inst (zC (!i.sd))).1.b.side (min q (yH i.p B i.inst (zC (!i.sd))).1.qty)))
  else some (⟨(yH i.p B i.inst (zC (!i.sd))).1.price,min q (yH i.p B i.inst (zC (!i.sd))).1.qty,false,x0 i.p B i.inst (zC (!i.sd)) (min q (yH i.p B i.inst (zC (!i.sd))).1.qty)⟩,qH B (x0 i.p B i.inst (zC (!i.sd)) (min q (yH i.p B i.inst (zC (!i.sd))).1.qty)))else none):=rfl
 generalize yH i.p B i.inst (zC (!i.sd))=nb at hni hsb ⊢
 refine Cv.cnd.mk (fun n1=> ?_) (fun n1=>⟨⟨i.sd,i.price,nb.1.price⟩,rfl,rfl,rfl,trivial,fun _ _=>Cv.cnd.mk (fun n2=> ?_) (fun n2=> ?_)⟩)
 ·have n1:nb.2.2=false:=by simpa using n1
  rw[n1,yOh (by simp)]at hsb
  exact hno (.inr hsb)
 ·have n2:fA i.sd i.price nb.1.price=false:=by simpa using n2
  rw[n2,yOh (by simp)]at hsb
  exact hno (.inr hsb)
 have n1:nb.2.2=true:=by simpa using n1
 have n2:fA i.sd i.price nb.1.price=true:=by simpa using n2
 obtain⟨⟨b1,b2⟩,hi,hr⟩:=hni n1
 rw[n1,n2,yPd b1,yOi (by rfl)]at hsb
 have hk:yQ (min q nb.1.qty):=by constructor<;>omega
 have hsl:(st.length+1)*48≤70368744177664:=by omega
 have beh:∀(t:kT) (B':List (List zG)) (s':MSt),gU i.p B i.inst i.sd i.price q=some (t,B')→s'.Rep i.p B'→BOk i.p B'→B'.length=B.length→
  (s'.Rep i.p B'∧BOk i.p B'∧B'.length=i.B.length∧(0≤q-t.qty∧q-t.qty≤i.q)∧((st++[t]).length:Int)≤i.q-(q-t.qty)∧i.r=⟨(st++[t])++(kG i.p B' i.inst i.sd i.price (q-t.qty)).steps,(kG i.p B' i.inst i.sd i.price (q-t.qty)).left,(kG i.p B' i.inst i.sd i.price (q-t.qty)).B⟩)∧(q-t.qty).toNat<q.toNat:=by
  intro t B' s' h1 h2 h3 h4
  have ht:=zGy (by omega) h1
  refine⟨⟨h2,h3,by omega,⟨by omega,by omega⟩,by rw[yOl,yRr];omega,?_⟩,by omega⟩
  rw[zHw (by omega) h1]at r6
  rw[r6,yOq];rfl
 refine Cv.cnd.mk (fun n3=> ?_) (fun n3=> ?_)
 ·obtain⟨_,ok⟩:=hi n3
  rw[n3,yOi rfl]at hsb
  have oka:=ok.a
  have okb:=ok.b
  rw[yOm]at oka okb
  have ea:=vZ ok.sa
  have eb:=vZ ok.sb
  refine⟨⟨s,i.p,B,nb.1.a.inst,decide (nb.1.a.side=2),min q nb.1.qty⟩,rfl,ea,rfl,rfl,⟨r1,r2,oka.1,oka.2,hk⟩,fun s1 hs1=> ?_⟩
  dsimp only at hs1 ⊢
  rw[ea]at hs1 ⊢
  have l1:=bL (p:=i.p) r1.ords nb.1.a.inst nb.1.a.side (min q nb.1.qty)
  have hB1:=r2.takes (fs:=x0 i.p B nb.1.a.inst nb.1.a.side (min q nb.1.qty))
  have l2:=bL (p:=i.p) hs1.ords nb.1.b.inst nb.1.b.side (min q nb.1.qty)
  refine⟨trivial,by rw[yOm];omega,⟨s1,i.p,qH B (x0 i.p B nb.1.a.inst nb.1.a.side (min q nb.1.qty)),nb.1.b.inst,decide (nb.1.b.side=2),min q nb.1.qty⟩,rfl,eb,rfl,rfl,⟨hs1,hB1,okb.1,by dsimp only;rw[wH];exact okb.2,hk⟩,fun s2 hs2=> ?_⟩
  dsimp only at hs2 ⊢
  rw[eb]at hs2 ⊢
  obtain⟨g1,g2⟩:=beh _ _ s2 hsb hs2 hB1.takes (by rw[wH,wH])
  refine⟨trivial,by rw[yOm,yOm];omega,by rw[yOm];exact hsl,⟨s2,_,st++[_],_⟩,?_,rfl,?_,g1,g2,by(repeat'(first|exact trivial|exact rfl|apply And.intro))⟩
  ·dsimp only;rw[w64 (by omega)]
  ·dsimp only
   rw[yOr,n3]
   simp[kL]
 ·rw[n3,yOh (by decide)]at hsb
  refine⟨i.sd,rfl,trivial,fun _ _=>⟨rfl,⟨s,i.p,B,i.inst,!i.sd,min q nb.1.qty⟩,rfl,rfl,rfl,rfl,⟨r1,r2,h0,by dsimp only;omega,hk⟩,fun s1 hs1=> ?_⟩⟩
  dsimp only at hs1 ⊢
  obtain⟨g1,g2⟩:=beh _ _ s1 hsb hs1 r2.takes (by rw[wH])
  refine⟨by rw[yOm];exact hsl,⟨s1,_,st++[_],_⟩,?_,rfl,?_,g1,g2,by(repeat'(first|exact trivial|exact rfl|apply And.intro))⟩
  ·dsimp only;rw[w64 (by omega)]
  ·dsimp only
   rw[yOr,n3]
   simp[kL]
theorem zTm:runC.ok Tryz.prog 151:=okw mixed (gokc yDf (gokc zJv (gokc zPd (gokc z3h gok0)))) 2 (fun _=>[]) (fun _=>yNk) [0] Tryz.func151 yNt
open Go Cv Go.Proofs
open Go Cv Go.Proofs
open Go Cv Go.Proofs
theorem z4b {L:List zG} {s id p q:Int} {o:zG} (h:o∈zDe L s id p q):o.price=p∨∃o'∈L,o.price=o'.price:=by
 have key:∀X:List zG,(o∈X.takeWhile (before s p)++⟨id,s,p,q,jQ L s p⟩::X.dropWhile (before s p))→o.price=p∨o∈X:=by
  intro X hX
  rcases yPi.1 hX with hX|hX
  ·exact .inr (List.takeWhile_sublist _|>.subset hX)
  ·rcases yPb.1 hX with rfl|hX
   ·exact .inl rfl
   ·exact .inr (List.dropWhile_sublist _|>.subset hX)
 rw[zDe]at h
 split at h
 ·rcases key _ h with h|h
  ·exact .inl h
  ·obtain⟨o',ho',_,_,e,_⟩:=zWl h
   exact .inr ⟨o',ho',e⟩
 ·rcases key _ h with h|h
  ·exact .inl h
  ·exact .inr ⟨o,h,rfl⟩
theorem BOk.add {p:Prd} {B:List (List zG)} (h:BOk p B) (inst id s price q:Int):BOk p (zMg p B inst id s price q).1:=by
 rw[zMg]
 split
 ·exact h
 split
 ·exact h
 split
 ·exact h
 split
 ·exact h
 rename_i c1 _ _ c4
 have c4:p.price inst price=0:=by simpa using c4
 refine⟨h.pc,h.ps,by simpa using h.bl,fun k L hL o ho=> ?_⟩
 dsimp only at hL
 rcases fH hL with⟨rfl,rfl⟩|⟨_,hL⟩
 ·obtain⟨L',hL'⟩:=z9 (l:=B) (i:=inst.toNat) (by omega)
  rw[zS hL',zAh]at ho
  have e:((inst.toNat:Nat):Int)=inst:=by omega
  repeat' split at ho
  ·exact h.pr _ L' hL' o ho
  ·exact h.pr _ L' hL' o ho
  ·exact h.pr _ L' hL' o ho
  ·rcases z4b ho with h1|⟨o',ho',h1⟩
   ·rw[h1,e];exact c4
   ·rw[h1];exact h.pr _ L' hL' o' ho'
 ·exact h.pr k L hL o ho
theorem BOk.new {p:Prd} (hc:p.check=0) (hp:p.small):BOk p (List.replicate p.count []):=by
 refine⟨hc,hp,by simp,fun k L hL o ho=> ?_⟩
 rw[yTp (yOv hL)]at ho
 cases ho
theorem MSt.Rep.fit {s:MSt} {p:Prd} {B:List (List zG)} (h:s.Rep p B) (hb:BOk p B):s.fit:=by
 have:=xP p
 refine⟨by rw[h.ep];exact hb.ps,by rw[h.bl,hb.bl];omega,fun b hm=> ?_⟩
 obtain⟨k,hk⟩:=yQs.1 hm
 have hlt:=(yOj.1 hk).1
 rw[h.bl]at hlt
 obtain⟨L,hL⟩:=z9 hlt
 exact(h.bk k b L hk hL).fit
open Go Cv Go.Proofs
def zIq (r:Nat):Bool:=decide (32≤r) && decide (r≠127) && decide (r≠65533)
def uY (s:List UInt8):Bool:=(wF s).all zIq && decide (1≤(wF s).length) && decide ((wF s).length≤12)
def labC:Con:=con1 (List UInt8) (fun s=>[sV s]) (fun _=>[]) (fun s=>s.length≤140737488355328) (fun s=>yJ (uY s)) (fun _=>[])
def yNo (s:List UInt8):List SAnn:=[{ι:=Nat×Nat,slots:=fun x=>[(3,zA x.2),(7,.nm 0 0)],rows:=fun x=>[.iter (sb s) x.1]}]
def vC (n:Int):Bool:=decide (-2000000≤n) && decide (n≤2000000)
def qK (n:Int):Bool:=decide (1≤n) && decide (n≤1000000)
def Cmd.orderE (c:Cmd):Int:=
 if c.side≠1∧c.side≠2 then 21 else if c.time<1∨3<c.time then 27 else if qK c.qty=false then 24 else if c.least<0∨c.qty<c.least then 28
 else if c.label≠[]∧uY c.label=false then 29 else if vC c.price=false then 23 else if c.inst<0∨255<c.inst then 20 else 0
def Cmd.right (c:Cmd):Int:=
 if c.kind<1∨4<c.kind then 31 else if c.id<1∨1099511627776<c.id then 1 else if c.kind=1 then c.orderE
 else if c.kind≠2∧qK c.qty=false then 24 else if c.kind=4∧vC c.price=false then 23 else 0
def cmdOrdC:Con:=con1 Cmd (fun c=>[zDg c]) (fun _=>[]) (fun c=>c.label.length≤140737488355328) (fun c=>zA c.orderE) (fun _=>[])
def cmdRtC:Con:=con1 Cmd (fun c=>[zDg c]) (fun _=>[]) (fun c=>c.label.length≤140737488355328) (fun c=>zA c.right) (fun _=>[])
open Go Cv Go.Proofs
def RB.text (r:RB):List UInt8×RB:=((r.byte.2.n r.byte.1.toNat).got,⟨(r.byte.2.n r.byte.1.toNat).left,(r.byte.2.n r.byte.1.toNat).bad⟩)
def pC (s:List UInt8):List UInt8:=lob (s.take 255).length::s.take 255
def Cmd.tail (c:Cmd):List UInt8:=
 if c.kind=1 then lob c.inst::lob c.side::lob c.time::(le c.price 8++(le c.qty 8++(le c.least 8++pC c.label)))
 else if c.kind=3 then le c.qty 8 else if c.kind=4 then le c.price 8++le c.qty 8 else[]
def Cmd.enc (c:Cmd):List UInt8:=if c.right≠0 then[]else lob c.kind::(le c.id 8++c.tail)
def xG (k id:Int) (r:RB):Cmd×RB:=
 if k=1 then
  let a:=r.byte;let b:=a.2.byte;let t:=b.2.byte;let x:=t.2.long;let y:=x.2.long;let z:=y.2.long;let w:=z.2.text
  (⟨k,id,a.1,b.1,x.1,y.1,z.1,t.1,w.1⟩,w.2)
 else if k=3 then(⟨k,id,0,0,0,r.long.1,0,0,[]⟩,r.long.2)
 else if k=4 then(⟨k,id,0,0,r.long.1,r.long.2.long.1,0,0,[]⟩,r.long.2.long.2)
 else(⟨k,id,0,0,0,0,0,0,[]⟩,r)
def y6 (b:List UInt8):Cmd×Int:=
 let k:=(RB.mk b false).byte
 if k.1<1∨4<k.1 then(zLw,31)else
 let x:=xG k.1 k.2.long.1 k.2.long.2
 if x.2.endOf≠0 then(zLw,12)else if x.1.right≠0 then(zLw,x.1.right)else(x.1,0)
def Cmd.asks (c:Cmd):Cmd:=if c.kind=1 then c else if c.kind=2 then⟨2,c.id,0,0,0,0,0,0,[]⟩else if c.kind=3 then⟨3,c.id,0,0,0,c.qty,0,0,[]⟩else if c.kind=4 then⟨4,c.id,0,0,c.price,c.qty,0,0,[]⟩else zLw
theorem yIp (n:Int):((lob n).toNat:Int)=n % 256:=(zOo n).symm
theorem b6 (x:UInt8) (l:List UInt8):RB.byte ⟨x::l,false⟩=((x.toNat:Int),⟨l,false⟩):=by
 simp[RB.byte,RB.n,RN.got,RN.left,RN.bad,x9]
theorem zXv (a l:List UInt8):(RN.mk (a++l) false a.length).got=a∧(RN.mk (a++l) false a.length).left=l∧(RN.mk (a++l) false a.length).bad=false:=by
 have h:(RN.mk (a++l) false a.length).bad=false:=by simp[RN.bad]
 simp[RN.got,RN.left,h]
theorem z7t (n:Int):x9 (le n 8)=n % 18446744073709551616:=by
 simp only[le,x9,yIp];omega
theorem rO {n:Int} (h:yQ n) (l:List UInt8):RB.long ⟨le n 8++l,false⟩=(n,⟨l,false⟩):=by
 have e:(RB.mk (le n 8++l) false).n 8=RN.mk (le n 8++l) false (le n 8).length:=by rw[wB];rfl
 obtain⟨h1,h2,h3⟩:=zXv (le n 8) l
 rw[RB.long,e,h1,h2,h3,z7t]
 obtain⟨ha,hb⟩:=h
 have:IntKind.i64.wrap (n % 18446744073709551616)=n:=by
  have e:=Cv.wrap_i64 ha hb
  by_cases hn:0≤n
  ·rw[show n % 18446744073709551616=n by omega];exact e
  ·have:n % 18446744073709551616=n+18446744073709551616:=by omega
   rw[this]
   rw[IntKind.wrap]at e ⊢
   simp only[IntKind.wrap,IntKind.bits,IntKind.signed]at e ⊢
   simp at e ⊢
   omega
 rw[this]
theorem z6a {s:List UInt8} (h:s.length≤255) (l:List UInt8):RB.text ⟨pC s++l,false⟩=(s,⟨l,false⟩):=by
 have ht:s.take 255=s:=yOx h
 have e:((lob (s.length:Int)).toNat:Int)=s.length:=by rw[yIp];omega
 rw[pC,ht,yPx,RB.text,b6]
 dsimp only
 rw[e]
 have e:(RB.mk (s++l) false).n ((s.length:Int)).toNat=RN.mk (s++l) false s.length:=rfl
 obtain⟨h1,h2,h3⟩:=zXv s l
 rw[e,h1,h2,h3]
theorem zWc {n:Int} (h:0≤n∧n≤255):((lob n).toNat:Int)=n:=by rw[yIp];omega
theorem zXi (s:List UInt8):∀(k p:Nat),s.length-p≤k→s.length-p≤4*(uV s p).length
 |0,p,h=>by rw[vW (by omega)];simp;omega
 |k+1,p,h=>by
  by_cases hp:p<s.length
  ·have hw:=dH s hp
   have h4:(Utf8.decode (sb s) p).2≤4:=by
    unfold Utf8.decode
    simp only[zDo,yOt,yQi]
    repeat' split
    all_goals simp
   rw[uC hp,yOw]
   have:=zXi s k (p+(Utf8.decode (sb s) p).2) (by omega)
   omega
  ·rw[vW (by omega)];simp;omega
theorem zZu {s:List UInt8} (h:s=[]∨uY s=true):s.length≤48:=by
 obtain rfl|h:=h
 ·simp
 ·simp only[uY,yOt,yQi]at h
  have:=zXi s s.length 0 (by omega)
  rw[wF,yOm]at h
  omega
theorem fG {c:Cmd} (h:c.right=0):(1≤c.kind∧c.kind≤4)∧(1≤c.id∧c.id≤1099511627776)∧
 (c.kind≠2→1≤c.qty∧c.qty≤1000000)∧(c.kind=1∨c.kind=4→-2000000≤c.price∧c.price≤2000000)∧
 (c.kind=1→(c.side=1∨c.side=2)∧(1≤c.time∧c.time≤3)∧(0≤c.least∧c.least≤c.qty)∧(0≤c.inst∧c.inst≤255)∧c.label.length≤48):=by
 rw[Cmd.right]at h
 split at h;·cases h
 split at h;·cases h
 rename_i h1 h2
 refine⟨by omega,by omega,?_⟩
 split at h
 ·rename_i hk
  rw[Cmd.orderE]at h
  iterate 7 (split at h;·cases h)
  rename_i a1 a2 a3 a4 a5 a6 a7
  simp only[qK,Bool.not_eq_false,yOt,yQi]at a3
  simp only[vC,Bool.not_eq_false,yOt,yQi]at a6
  refine⟨fun _=>a3,fun _=>a6,fun _=>⟨by omega,by omega,by omega,by omega,zZu ?_⟩⟩
  by_cases hl:c.label=[]
  ·exact .inl hl
  ·exact .inr (by simpa[hl]using a5)
 ·rename_i hk
  split at h;·cases h
  split at h;·cases h
  rename_i a1 a2
  refine⟨fun h2=> ?_,fun h2=> ?_,fun h2=>absurd h2 hk⟩
  ·simpa[h2,qK]using a1
  ·simpa[show c.kind=4 by omega,vC]using a2
theorem z4z {n:Int} (h:yQ n):RB.long ⟨le n 8,false⟩=(n,⟨[],false⟩):=by
 have:=rO h []
 rwa [yPe]at this
theorem z7p {s:List UInt8} (h:s.length≤255):RB.text ⟨pC s,false⟩=(s,⟨[],false⟩):=by
 have:=z6a h []
 rwa [yPe]at this
theorem z9j {c:Cmd} (h:c.right=0):xG c.kind c.id ⟨c.tail,false⟩=(c.asks,⟨[],false⟩):=by
 obtain⟨hk,hi,hq,hp,ho⟩:=fG h
 rw[xG,Cmd.tail,Cmd.asks]
 by_cases h1:c.kind=1
 ·obtain⟨hs,ht,hl,hn,hb⟩:=ho h1
  have hq:=hq (by omega)
  have hp:=hp (.inl h1)
  simp only[yOi h1]
  rw[b6];dsimp only
  rw[b6];dsimp only
  rw[b6];dsimp only
  rw[rO ⟨by omega,by omega⟩];dsimp only
  rw[rO ⟨by omega,by omega⟩];dsimp only
  rw[rO ⟨by omega,by omega⟩];dsimp only
  rw[z7p (by omega),zWc (by omega),zWc (by omega),zWc (by omega)]
 ·by_cases h3:c.kind=3
  ·have hq:=hq (by omega)
   simp only[h3,yOi,yOh,show ¬((3:Int)=1)by decide,show ¬((3:Int)=2)by decide,if_false,if_true]
   rw[z4z ⟨by omega,by omega⟩]
  ·by_cases h4:c.kind=4
   ·have hq:=hq (by omega)
    have hp:=hp (.inr h4)
    simp only[h4,show ¬((4:Int)=1)by decide,show ¬((4:Int)=2)by decide,show ¬((4:Int)=3)by decide,if_false,if_true]
    rw[rO ⟨by omega,by omega⟩];dsimp only
    rw[z4z ⟨by omega,by omega⟩]
   ·have h2:c.kind=2:=by omega
    simp only[h2,show ¬((2:Int)=1)by decide,show ¬((2:Int)=4)by decide,show ¬((2:Int)=3)by decide,if_false,if_true]
theorem zUz {c:Cmd} (h:c.right=0):c.asks.right=0:=by
 obtain⟨hk,hi,hq,hp,ho⟩:=fG h
 rw[Cmd.asks]
 split
 ·exact h
 split
 ·rw[Cmd.right];simp only[];repeat (first|rw[yOh (by omega)]|rw[yOh (by decide)]|rw[yOh (by simp)])
 split
 ·have:=hq (by omega)
  rw[Cmd.right];simp only[]
  rw[yOh (by decide),yOh (by omega),yOh (by decide),yOh (by simp[qK];omega),yOh (by simp)]
 split
 ·have:=hq (by omega)
  have:=hp (.inr (by omega))
  rw[Cmd.right];simp only[]
  rw[yOh (by decide),yOh (by omega),yOh (by decide),yOh (by simp[qK];omega),yOh (by simp[vC];omega)]
 ·omega
theorem yAh {c:Cmd} (h:c.right=0):y6 c.enc=(c.asks,0):=by
 obtain⟨hk,hi,_⟩:=fG h
 have e:c.enc=lob c.kind::(le c.id 8++c.tail):=by rw[Cmd.enc,yOh (by simp[h])]
 rw[y6,e,b6]
 dsimp only
 rw[zWc (by omega),yOh (by omega),rO ⟨by omega,by omega⟩]
 dsimp only
 rw[z9j h]
 dsimp only
 rw[yOh (by simp[RB.endOf]),yOh (by rw[zUz h];simp)]
open Go Cv Go.Proofs
def yLn (s:List UInt8):Prop:=
 ∃(a:Nat×Nat),(↑a.snd:Int)=0∧sb s=sb s∧a.fst=0∧∃(b:Nat×Nat→Prop),∃(c:Nat×Nat→Nat),b a∧∀(d:Nat×Nat),b d→cnd (d.fst.blt (sb s).size) (cnd (decide ((↑(Utf8.decode (sb s) d.fst).fst:Int)<32)) (∃(e:Unit),uY s=false∧True) (cnd ((↑(Utf8.decode (sb s) d.fst).fst:Int)==127) (∃(e:Unit),uY s=false∧True) (cnd ((↑(Utf8.decode (sb s) d.fst).fst:Int)==65533) (∃(e:Unit),uY s=false∧True) (aI d s b c)))) (cnd (decide ((↑d.snd:Int)≥1)) (∃(e:Unit),uY s=decide ((↑d.snd:Int)≤12)∧True) (∃(e:Unit),uY s=false∧True))
def zGn (a:Cmd):Prop:=∃(b:List UInt8),sb b=sb a.label∧b.length≤140737488355328∧∀(c:Unit),True→cnd (!uY b) (∃(d:Unit),a.orderE=29∧True) (cnd (decide (a.price≥(-2000000))) (cnd (!decide (a.price≤2000000)) (∃(d:Unit),a.orderE=23∧True) (cnd (decide (a.inst<0)) (∃(d:Unit),a.orderE=20∧True) (cnd (decide (a.inst>255)) (∃(d:Unit),a.orderE=20∧True) (∃(d:Unit),a.orderE=0∧True)))) (∃(d:Unit),a.orderE=23∧True))
def bX (a:Cmd):=(!(sb a.label).toList==(ByteArray.mk #[]).toList)
def yEa (c:Cmd):Prop:=
 cnd (c.side !=1) (cnd (c.side !=2) (∃(a:Unit),c.orderE=21∧True) (cnd (decide (c.time<1)) (∃(a:Unit),c.orderE=27∧True) (cnd (decide (c.time>3)) (∃(a:Unit),c.orderE=27∧True) (cnd (decide (c.qty≥1)) (cnd (!decide (c.qty≤1000000)) (∃(a:Unit),c.orderE=24∧True) (cnd (decide (c.least<0)) (∃(a:Unit),c.orderE=28∧True) (cnd (decide (c.least>c.qty)) (∃(a:Unit),c.orderE=28∧True) (cnd (bX c) (zGn c) (cnd (decide (c.price≥(-2000000))) (cnd (!decide (c.price≤2000000)) (∃(a:Unit),c.orderE=23∧True) (cnd (decide (c.inst<0)) (∃(a:Unit),c.orderE=20∧True) (cnd (decide (c.inst>255)) (∃(a:Unit),c.orderE=20∧True) (∃(a:Unit),c.orderE=0∧True)))) (∃(a:Unit),c.orderE=23∧True)))))) (∃(a:Unit),c.orderE=24∧True))))) (cnd (decide (c.time<1)) (∃(a:Unit),c.orderE=27∧True) (cnd (decide (c.time>3)) (∃(a:Unit),c.orderE=27∧True) (cnd (decide (c.qty≥1)) (cnd (!decide (c.qty≤1000000)) (∃(a:Unit),c.orderE=24∧True) (cnd (decide (c.least<0)) (∃(a:Unit),c.orderE=28∧True) (cnd (decide (c.least>c.qty)) (∃(a:Unit),c.orderE=28∧True) (cnd (bX c) (zGn c) (cnd (decide (c.price≥(-2000000))) (cnd (!decide (c.price≤2000000)) (∃(a:Unit),c.orderE=23∧True) (cnd (decide (c.inst<0)) (∃(a:Unit),c.orderE=20∧True) (cnd (decide (c.inst>255)) (∃(a:Unit),c.orderE=20∧True) (∃(a:Unit),c.orderE=0∧True)))) (∃(a:Unit),c.orderE=23∧True)))))) (∃(a:Unit),c.orderE=24∧True))))
def z2w (c:Cmd):Prop:=
 cnd (decide (c.kind<1)) (∃(a:Unit),c.right=31∧True) (cnd (decide (c.kind>4)) (∃(a:Unit),c.right=31∧True) (cnd (decide (c.id<1)) (∃(a:Unit),c.right=1∧True) (cnd (decide (c.id>1099511627776)) (∃(a:Unit),c.right=1∧True) (cnd (c.kind==1) (∃(a:Cmd),a.kind=c.kind∧a.id=c.id∧a.inst=c.inst∧a.side=c.side∧a.price=c.price∧a.qty=c.qty∧a.least=c.least∧a.time=c.time∧sb a.label=sb c.label∧a.label.length≤140737488355328∧∀(b:Unit),True→∃(d:Unit),c.right=a.orderE∧True) (cnd (c.kind !=2) (cnd (decide (c.qty≥1)) (cnd (!decide (c.qty≤1000000)) (∃(a:Unit),c.right=24∧True) (cnd (c.kind==4) (cnd (decide (c.price≥(-2000000))) (cnd (!decide (c.price≤2000000)) (∃(a:Unit),c.right=23∧True) (∃(a:Unit),c.right=0∧True)) (∃(a:Unit),c.right=23∧True)) (∃(a:Unit),c.right=0∧True))) (∃(a:Unit),c.right=24∧True)) (cnd (c.kind==4) (cnd (decide (c.price≥(-2000000))) (cnd (!decide (c.price≤2000000)) (∃(a:Unit),c.right=23∧True) (∃(a:Unit),c.right=0∧True)) (∃(a:Unit),c.right=23∧True)) (∃(a:Unit),c.right=0∧True)))))))
open Go Cv Go.Proofs
theorem yNy (s:List UInt8) (h:labC.cnd s):yLn s:=by
 have h:s.length≤140737488355328:=h
 have hr:=zJo s
 unfold yLn aI
 refine⟨(0,0),rfl,rfl,rfl,fun x=>x.1≤s.length∧x.2+(uV s x.1).length=(wF s).length∧(wF s).all zIq=(uV s x.1).all fun x=>zIq x.2,fun x=>s.length-x.1,⟨by omega,by rw[wF,yOm];simp,by rw[wF,List.all_map];rfl⟩,?_⟩
 rintro⟨p,n⟩ ⟨h1,h2,h3⟩
 dsimp only at h1 h2 h3 ⊢
 refine Cv.cnd.mk (fun hp=> ?_) (fun hp=> ?_)
 ·have hp:p<s.length:=by simpa[yRi]using hp
  have hw:=dH s hp
  rw[uC hp,yOw]at h2
  rw[uC hp,List.all_cons]at h3
  generalize hc:(Utf8.decode (sb s) p).1=c at h2 h3 ⊢
  generalize hww:(Utf8.decode (sb s) p).2=w at h2 h3 hw ⊢
  dsimp only at h3
  have bad:zIq c=false→∃(o:Unit),uY s=false∧True:=fun e=>⟨(),by rw[uY,h3,e];rfl,trivial⟩
  refine zI (fun c1=>bad ?_) (fun c1=>Cv.cnd.mk (fun c2=>bad ?_) (fun c2=>Cv.cnd.mk (fun c3=>bad ?_) (fun c3=> ?_)))
  ·simp[zIq];omega
  ·have c2:(c:Int)=127:=by simpa using c2
   simp[zIq];omega
  ·have c3:(c:Int)=65533:=by simpa using c3
   simp[zIq];omega
  ·have c2:¬(c:Int)=127:=by simpa using c2
   have c3:¬(c:Int)=65533:=by simpa using c3
   have e:zIq c=true:=by simp[zIq];omega
   refine⟨(p+w,n+1),?_,rfl,rfl,⟨hw.2,by(first|omega|(dsimp only;omega)),by rw[h3,e];rfl⟩,by(first|omega|(dsimp only;omega)),trivial⟩
   rw[w64 (by omega)];rfl
 ·have hp:s.length≤p:=by have:=z2m hp;simpa using this
  rw[vW hp]at h2 h3
  have h2:n=(wF s).length:=h2
  have h3:(wF s).all zIq=true:=h3
  refine zI (fun c=>⟨(),?_,trivial⟩) (fun c=>⟨(),?_,trivial⟩)
  ·rw[uY,h3,← h2,yPd (show 1≤n by omega)]
   simp only[yRg]
   congr 1
   simp only[eq_iff_iff];omega
  ·rw[uY,← h2,yPa (show ¬1≤n by omega)];simp
theorem yHs:labC.ok Tryz.prog 149:=okw mixed gok0 0 (fun _=>[]) (fun s=>yNo s) [] Tryz.func149 yNy
theorem yNr (a b:Int):(a==b)=decide (a=b):=by
 by_cases h:a=b
 ·subst h;simp
 ·simp[h]
theorem yKx (a b:Int):(a !=b)=decide (a≠b):=by
 by_cases h:a=b
 ·subst h;simp
 ·simp[h]
theorem eqB (a b:List UInt8):((sb a).toList==(sb b).toList)=decide (a=b):=by
 rw[cY,cY]
 by_cases h:a=b
 ·subst h;simp
 ·simp[h]
theorem yIe:ByteArray.mk #[]=sb []:=rfl
theorem yLl (c:Cmd) (h:cmdOrdC.cnd c):yEa c:=by
 have h:c.label.length≤140737488355328:=h
 unfold yEa zGn bX
 simp only[yIe,eqB,yKx]
 have tail:¬(c.side≠1∧c.side≠2)→cnd (decide (c.time<1)) (∃(o:Unit),c.orderE=27∧True) (cnd (decide (c.time>3)) (∃(o:Unit),c.orderE=27∧True) (cnd (decide (c.qty≥1)) (cnd (!decide (c.qty≤1000000)) (∃(o:Unit),c.orderE=24∧True) (cnd (decide (c.least<0)) (∃(o:Unit),c.orderE=28∧True) (cnd (decide (c.least>c.qty)) (∃(o:Unit),c.orderE=28∧True) (cnd (!decide (c.label=[])) (∃(i:List UInt8),sb i=sb c.label∧i.length≤140737488355328∧∀(o:Unit),True→cnd (!uY i) (∃(o:Unit),c.orderE=29∧True) (cnd (decide (c.price≥-2000000)) (cnd (!decide (c.price≤2000000)) (∃(o:Unit),c.orderE=23∧True) (cnd (decide (c.inst<0)) (∃(o:Unit),c.orderE=20∧True) (cnd (decide (c.inst>255)) (∃(o:Unit),c.orderE=20∧True) (∃(o:Unit),c.orderE=0∧True)))) (∃(o:Unit),c.orderE=23∧True))) (cnd (decide (c.price≥-2000000)) (cnd (!decide (c.price≤2000000)) (∃(o:Unit),c.orderE=23∧True) (cnd (decide (c.inst<0)) (∃(o:Unit),c.orderE=20∧True) (cnd (decide (c.inst>255)) (∃(o:Unit),c.orderE=20∧True) (∃(o:Unit),c.orderE=0∧True)))) (∃(o:Unit),c.orderE=23∧True)))))) (∃(o:Unit),c.orderE=24∧True))):=by
  intro hs
  have e1:c.orderE=if c.time<1∨3<c.time then 27 else if qK c.qty=false then 24 else if c.least<0∨c.qty<c.least then 28
   else if c.label≠[]∧uY c.label=false then 29 else if vC c.price=false then 23 else if c.inst<0∨255<c.inst then 20 else 0:=by rw[Cmd.orderE,yOh hs]
  refine zI (fun d1=>⟨(),by rw[e1,yOi (.inl d1)],trivial⟩) fun d1=>zI (fun d2=>⟨(),by rw[e1,yOi (.inr d2)],trivial⟩) fun d2=> ?_
  rw[yOh (by omega)]at e1
  have q (hq:qK c.qty=false):∃(o:Unit),c.orderE=24∧True:=⟨(),by rw[e1,yOi hq],trivial⟩
  refine zI (fun d3=>Cv.cnd.mk (fun d4=>q ?_) fun d4=> ?_) fun d3=>q ?_
  ·have d4:¬c.qty≤1000000:=by simpa using d4
   simp[qK,d4]
  ·have d4:c.qty≤1000000:=by simpa using d4
   have hq:¬qK c.qty=false:=by simp[qK,d4];omega
   rw[yOh hq]at e1
   refine zI (fun d5=>⟨(),by rw[e1,yOi (.inl d5)],trivial⟩) fun d5=>zI (fun d6=>⟨(),by rw[e1,yOi (.inr d6)],trivial⟩) fun d6=> ?_
   rw[yOh (by omega)]at e1
   have last:¬(c.label≠[]∧uY c.label=false)→cnd (decide (c.price≥-2000000)) (cnd (!decide (c.price≤2000000)) (∃(o:Unit),c.orderE=23∧True) (cnd (decide (c.inst<0)) (∃(o:Unit),c.orderE=20∧True) (cnd (decide (c.inst>255)) (∃(o:Unit),c.orderE=20∧True) (∃(o:Unit),c.orderE=0∧True)))) (∃(o:Unit),c.orderE=23∧True):=by
    intro hl
    rw[yOh hl]at e1
    have pr (hq:vC c.price=false):∃(o:Unit),c.orderE=23∧True:=⟨(),by rw[e1,yOi hq],trivial⟩
    refine zI (fun g1=>Cv.cnd.mk (fun g2=>pr ?_) fun g2=> ?_) fun g1=>pr ?_
    ·have g2:¬c.price≤2000000:=by simpa using g2
     simp[vC,g2]
    ·have g2:c.price≤2000000:=by simpa using g2
     have hp:¬vC c.price=false:=by simp[vC,g2];omega
     rw[yOh hp]at e1
     refine zI (fun g3=>⟨(),by rw[e1,yOi (.inl g3)],trivial⟩) fun g3=>zI (fun g4=>⟨(),by rw[e1,yOi (.inr g4)],trivial⟩) fun g4=>⟨(),by rw[e1,yOh (by omega)],trivial⟩
    ·simp[vC];omega
   refine Cv.cnd.mk (fun d7=>⟨c.label,rfl,h,fun _ _=>Cv.cnd.mk (fun d8=> ?_) fun d8=>last ?_⟩) fun d7=>last ?_
   ·have d7:¬c.label=[]:=by simpa using d7
    have d8:uY c.label=false:=by simpa using d8
    exact⟨(),by rw[e1,yOi ⟨d7,d8⟩],trivial⟩
   ·have d8:uY c.label=true:=by simpa using d8
    simp[d8]
   ·have d7:c.label=[]:=by simpa using d7
    simp[d7]
  ·simp[qK];omega
 refine zI (fun c1=>zI (fun c2=>⟨(),by rw[Cmd.orderE,yOi ⟨c1,c2⟩],trivial⟩) fun c2=>tail ?_) fun c1=>tail ?_
 ·omega
 ·omega
theorem yBk:cmdOrdC.ok Tryz.prog 106:=okw mixed (gokc yHs gok0) 1 (fun _=>[]) (fun _=>[]) [] Tryz.func106 yLl
theorem yIm (c:Cmd) (h:cmdRtC.cnd c):z2w c:=by
 have h:c.label.length≤140737488355328:=h
 unfold z2w
 simp only[yNr,yKx]
 refine zI (fun c1=>⟨(),by rw[Cmd.right,yOi (.inl c1)],trivial⟩) fun c1=>zI (fun c2=>⟨(),by rw[Cmd.right,yOi (.inr c2)],trivial⟩) fun c2=> ?_
 refine zI (fun c3=>⟨(),by rw[Cmd.right,yOh (by omega),yOi (.inl c3)],trivial⟩) fun c3=>zI (fun c4=>⟨(),by rw[Cmd.right,yOh (by omega),yOi (.inr c4)],trivial⟩) fun c4=> ?_
 have e0:c.right=if c.kind=1 then c.orderE else if c.kind≠2∧qK c.qty=false then 24 else if c.kind=4∧vC c.price=false then 23 else 0:=by rw[Cmd.right,yOh (by omega),yOh (by omega)]
 refine zI (fun c5=>⟨c,?_⟩) fun c5=> ?_
 ·rw[yOi c5]at e0
  exact kp
 rw[yOh c5]at e0
 have last (hn:¬(c.kind≠2∧qK c.qty=false)):cnd (decide (c.kind=4)) (cnd (decide (c.price≥-2000000)) (cnd (!decide (c.price≤2000000)) (∃(o:Unit),c.right=23∧True) (∃(o:Unit),c.right=0∧True)) (∃(o:Unit),c.right=23∧True)) (∃(o:Unit),c.right=0∧True):=by
  rw[yOh hn]at e0
  refine zI (fun d1=>zI (fun d2=>Cv.cnd.mk (fun d3=> ?_) fun d3=> ?_) fun d2=> ?_) fun d1=> ?_
  ·have d3:¬c.price≤2000000:=by simpa using d3
   exact⟨(),by rw[e0,yOi ⟨d1,by simp[vC,d3]⟩],trivial⟩
  ·have d3:c.price≤2000000:=by simpa using d3
   exact⟨(),by rw[e0,yOh (by simp[vC,d3];omega)],trivial⟩
  ·exact⟨(),by rw[e0,yOi ⟨d1,by simp[vC];omega⟩],trivial⟩
  ·exact⟨(),by rw[e0,yOh (by simp[d1])],trivial⟩
 refine zI (fun d1=>zI (fun d2=>Cv.cnd.mk (fun d3=> ?_) fun d3=>last ?_) fun d2=> ?_) fun d1=>last ?_
 ·have d3:¬c.qty≤1000000:=by simpa using d3
  exact⟨(),by rw[e0,yOi ⟨d1,by simp[qK,d3]⟩],trivial⟩
 ·have d3:c.qty≤1000000:=by simpa using d3
  simp[qK,d3];omega
 ·exact⟨(),by rw[e0,yOi ⟨d1,by simp[qK];omega⟩],trivial⟩
 ·omega
theorem zRo:cmdRtC.ok Tryz.prog 57:=okw mixed (gokc yBk gok0) 1 (fun _=>[]) (fun _=>[]) [] Tryz.func57 yIm
open Go Cv Go.Proofs
def rtextC:Con:=con1 RB (fun i=>[.nm 0 0]) (fun i=>[RdB i]) RB.ok (fun i=>sV i.text.1) (fun i=>[RdB i.text.2])
structure TxB where
 l:List UInt8
 s:List UInt8
def ftextC:Con:=con1 TxB (fun i=>[roV 1 (bE i.l),sV i.s]) (fun _=>[]) (fun i=>i.l.length+300≤1099511627776∧i.s.length≤255) (fun _=> .own 0) (fun i=>[.own tU8 1 (bE (i.l++pC i.s))])
def r6rightC:Con:=con1 Cmd (fun c=>[zDg c]) (fun _=>[]) (fun c=>c.label=[]∧c.right=0) (fun c=>zA 0) (fun _=>[])
def unJ:SAnn:={ι:=Unit,slots:=fun _=>[],rows:=fun _=>[]}
def z6q:List (Nat×SAnn):=[(4,bj 10),(12,bj 18),(22,unJ),(40,bj 50),(50,unJ),(68,bj 90),(76,bj 103)]
def r6encC:Con:=con1 Cmd (fun c=>[zDg c]) (fun _=>[]) (fun c=>c.label=[]∧c.right=0) (fun c=> .tup [roV 1 (bE c.enc),zA 0]) (fun _=>[])
def cdecC:Con:=con1 (List UInt8) (fun b=>[roV 1 (bE b)]) (fun _=>[]) (fun b=>b.length≤1099511627776) (fun b=> .tup [zDg (y6 b).1,zA (y6 b).2]) (fun _=>[])
def yKa:List (Nat×SAnn):=[(12,bj 19),(26,{ι:=Cmd×RB,slots:=fun _=>[(4,.nm 0 0),(5,.nm 1 0)],rows:=fun x=>[RdB x.2,.cells x.1.cells 36],slots0:=fun _=>[(4,.nm 0 0),(5,.nm 1 0)],rows0:=fun x=>[RdB x.2,.cells x.1.cells 36]})]
open Go Cv Go.Proofs
def yGv (i:RB):Prop:=
 ∃(i_1:RB),AObj.adt (List UInt8×Bool) 1 RdU (i_1.l,i_1.b)=RdB i∧i_1.l.length≤1099511627776∧∀(o:Unit),True→∃(i_2:RN),(↑i_2.n:Int)=x9 (i_1.n 1).got∧AObj.adt (List UInt8×Bool) 1 RdU (i_2.l,i_2.b)=AObj.adt (List UInt8×Bool) 1 RdU ((i_1.n 1).left,(i_1.n 1).bad)∧(i_2.n≤255∧i_2.l.length≤1099511627776)∧∀(o:Unit),True→∃(b:ByteArray),(1:Nat)=(1:Nat)∧bE i_2.got=kE b∧∃(o:Unit),sb ((RB.mk (i.n 1).left (i.n 1).bad).n (x9 (i.n 1).got).toNat).got=b∧AObj.adt (List UInt8×Bool) 1 RdU (((RB.mk (i.n 1).left (i.n 1).bad).n (x9 (i.n 1).got).toNat).left,((RB.mk (i.n 1).left (i.n 1).bad).n (x9 (i.n 1).got).toNat).bad)=AObj.adt (List UInt8×Bool) 1 RdU (i_2.left,i_2.bad)∧True
def yGi (i:TxB):Prop:=
 cnd (decide ((↑(sb i.s).size:Int)>255)) (((0:Int)≤(255:Int)∧255≤(↑(sb i.s).size:Int))∧∃(i_1:WN),bE i_1.l=bE i.l∧i_1.n=(↑((sb i.s).extract 0 (Int.toNat 255)).size:Int)∧i_1.ok∧∀(o:Unit),True→((bE (i_1.l++[lob i_1.n])).length+(kE ((sb i.s).extract 0 (Int.toNat 255))).length)*(1:Nat)≤(70368744177664:Nat)∧∃(o:Unit),bE (i.l++pC i.s)=bE (i_1.l++[lob i_1.n])++kE ((sb i.s).extract 0 (Int.toNat 255))∧True) (∃(i_1:WN),bE i_1.l=bE i.l∧i_1.n=(↑(sb i.s).size:Int)∧i_1.ok∧∀(o:Unit),True→((bE (i_1.l++[lob i_1.n])).length+(kE (sb i.s)).length)*(1:Nat)≤(70368744177664:Nat)∧∃(o:Unit),bE (i.l++pC i.s)=bE (i_1.l++[lob i_1.n])++kE (sb i.s)∧True)
def nN (a:Cmd):Prop:=Sx.AObj.cells [V.d (dI a.kind),V.d (dI a.id),V.d (dI a.inst),V.d (dI a.side),V.d (dI a.price),V.d (dI a.qty),V.d (dI a.least),V.d (dI a.time),V.d (D.v (Value.string (sb a.label)))] 36=Sx.AObj.cells [V.d (dI a.kind),V.d (dI a.id),V.d (dI a.inst),V.d (dI a.side),V.d (dI a.price),V.d (dI a.qty),V.d (dI a.least),V.d (dI a.time),V.d (D.v (Value.string (sb a.label)))] 36
def kU (a:Bool→Prop) (b:Bool) (c:Cmd):Prop:=a b∧nN c
def nH (a:Cmd) (b:Bool→Prop):Prop:=∃(c:Bool),c=decide (a.price>2000000)∧kU b c a
def cN (a:Bool→Prop) (b:Cmd):Prop:=∃(c:Bool),c=false∧kU a c b
def j8 (a:Bool→Prop) (b:Cmd):Prop:=∃(c:Bool),c=true∧kU a c b
def v8 (a:Unit→Prop) (b:Cmd):Prop:=∃(c:Unit),a c∧nN b
def zSb (c:Cmd):Prop:=
 ∃(a:Bool),∃(b:Bool→Prop),cnd (decide (c.kind<1)) (j8 b c) (∃(d:Bool),d=decide (c.kind>4)∧kU b d c)∧∀(d:Bool),b d→cnd d (∃(e:Unit),(0:Int)=(31:Int)∧True) (∃(e:Bool),∃(f:Bool→Prop),cnd (decide (c.id<1)) (j8 f c) (∃(g:Bool),g=decide (c.id>1099511627776)∧kU f g c)∧∀(g:Bool),f g→cnd g (∃(h:Unit),(0:Int)=(1:Int)∧True) (∃(h:Unit),∃(j:Unit→Prop),cnd (c.kind==1) (cnd (c.side !=1) (cnd (c.side !=2) (∃(k:Unit),(0:Int)=(21:Int)∧True) (cnd (decide (c.time<1)) (∃(k:Unit),(0:Int)=(27:Int)∧True) (cnd (decide (c.time>3)) (∃(k:Unit),(0:Int)=(27:Int)∧True) (v8 j c)))) (cnd (decide (c.time<1)) (∃(k:Unit),(0:Int)=(27:Int)∧True) (cnd (decide (c.time>3)) (∃(k:Unit),(0:Int)=(27:Int)∧True) (v8 j c)))) (v8 j c)∧∀(k:Unit),j k→∃(l:Bool),∃(m:Bool→Prop),cnd (c.kind !=2) (cnd (decide (c.qty<1)) (j8 m c) (∃(n:Bool),n=decide (c.qty>1000000)∧kU m n c)) (cN m c)∧∀(n:Bool),m n→cnd n (∃(p:Unit),(0:Int)=(24:Int)∧True) (∃(p:Unit),∃(q:Unit→Prop),cnd (c.kind==1) (cnd (decide (c.least<0)) (∃(r:Unit),(0:Int)=(28:Int)∧True) (cnd (decide (c.least>c.qty)) (∃(r:Unit),(0:Int)=(28:Int)∧True) (cnd (bX c) False (v8 q c)))) (v8 q c)∧∀(r:Unit),q r→∃(s:Bool),∃(t:Bool→Prop),cnd (c.kind==1) (cnd (decide (c.price<(-2000000))) (j8 t c) (nH c t)) (cnd (c.kind==4) (cnd (decide (c.price<(-2000000))) (j8 t c) (nH c t)) (cN t c))∧∀(u:Bool),t u→cnd u (∃(v:Unit),(0:Int)=(23:Int)∧True) (∃(v:Bool),∃(w:Bool→Prop),cnd (c.kind==1) (cnd (decide (c.inst<0)) (j8 w c) (∃(x:Bool),x=decide (c.inst>255)∧kU w x c)) (cN w c)∧∀(x:Bool),w x→cnd x (∃(y:Unit),(0:Int)=(20:Int)∧True) (∃(y:Unit),(0:Int)=(0:Int)∧True)))))
def sY (a:WN) (b:Cmd):Prop:=∃(c:WN),bE c.l=bE (a.l++le a.n 8)∧c.n=b.qty∧c.ok∧∀(d:Unit),True→∃(e:Unit),bE b.enc=bE (c.l++le c.n 8)∧(0:Int)=(0:Int)∧True
def z6v (c:Cmd):Prop:=
 ∃(a:Cmd),a.kind=c.kind∧a.id=c.id∧a.inst=c.inst∧a.side=c.side∧a.price=c.price∧a.qty=c.qty∧a.least=c.least∧a.time=c.time∧sb a.label=sb c.label∧(a.label=[]∧a.right=0)∧∀(b:Unit),True→∃(d:WN),bE d.l=[]∧d.n=c.kind∧d.ok∧∀(e:Unit),True→c.id=c.id∧∃(f:WN),bE f.l=bE (d.l++[lob d.n])∧f.n=c.id∧f.ok∧∀(g:Unit),True→cnd (c.kind==1) (∃(h:WN),bE h.l=bE (f.l++le f.n 8)∧h.n=c.inst∧h.ok∧∀(j:Unit),True→c.time=c.time∧c.side=c.side∧∃(k:WN),bE k.l=bE (h.l++[lob h.n])∧k.n=c.side∧k.ok∧∀(l:Unit),True→c.time=c.time∧∃(m:WN),bE m.l=bE (k.l++[lob k.n])∧m.n=c.time∧m.ok∧∀(n:Unit),True→∃(p:WN),bE p.l=bE (m.l++[lob m.n])∧p.n=c.price∧p.ok∧∀(q:Unit),True→c.least=c.least∧c.qty=c.qty∧∃(r:WN),bE r.l=bE (p.l++le p.n 8)∧r.n=c.qty∧r.ok∧∀(s:Unit),True→c.least=c.least∧∃(t:WN),bE t.l=bE (r.l++le r.n 8)∧t.n=c.least∧t.ok∧∀(u:Unit),True→∃(v:TxB),bE v.l=bE (t.l++le t.n 8)∧sb v.s=sb c.label∧(v.l.length+(300:Nat)≤(1099511627776:Nat)∧v.s.length≤255)∧∀(w:Unit),True→∃(x:Unit),bE c.enc=bE (v.l++pC v.s)∧(0:Int)=(0:Int)∧True) (cnd (c.kind==3) (sY f c) (cnd (c.kind==4) (∃(h:WN),bE h.l=bE (f.l++le f.n 8)∧h.n=c.price∧h.ok∧∀(j:Unit),True→c.qty=c.qty∧sY h c) (∃(h:Unit),bE c.enc=bE (f.l++le f.n 8)∧(0:Int)=(0:Int)∧True)))
def cZ:=(D.v (Value.string (ByteArray.mk #[])))
def zBd:Prop:=Sx.AObj.cells (Sx.V.agg [V.d (dI 0),V.d (dI 0),V.d (dI 0),V.d (dI 0),V.d (dI 0),V.d (dI 0),V.d (dI 0),V.d (dI 0),V.d cZ]).cl 36=Sx.AObj.cells (Sx.V.agg [V.d (dI 0),V.d (dI 0),V.d (dI 0),V.d (dI 0),V.d (dI 0),V.d (dI 0),V.d (dI 0),V.d (dI 0),V.d cZ]).cl 36
def zGx (a:Bool→Prop) (b:Bool) (c:RB):Prop:=a b∧Sx.AObj.cells [V.d (dI (x9 (c.n 1).got)),V.d (dI 0),V.d (dI 0),V.d (dI 0),V.d (dI 0),V.d (dI 0),V.d (dI 0),V.d (dI 0),V.d cZ] 36=Sx.AObj.cells [V.d (dI (x9 (c.n 1).got)),V.d (dI 0),V.d (dI 0),V.d (dI 0),V.d (dI 0),V.d (dI 0),V.d (dI 0),V.d (dI 0),V.d cZ] 36∧AObj.adt (List UInt8×Bool) 1 RdU ((c.n 1).left,(c.n 1).bad)=AObj.adt (List UInt8×Bool) 1 RdU ((c.n 1).left,(c.n 1).bad)∧zBd
def zAr (a:Cmd×RB→Prop) (b:Cmd×RB):Prop:=a b∧zBd
def zEl (a:Cmd×RB) (b:Cmd×RB) (c:Cmd×RB→Prop):Prop:=a.fst.least=b.fst.least∧a.fst.time=b.fst.time∧sb a.fst.label=sb b.fst.label∧zAr c a
def zId (a:Cmd×RB) (b:RB) (c:Cmd×RB) (d:Cmd×RB→Prop):Prop:=a.fst.qty=IntKind.i64.wrap (x9 (b.n 8).got)∧zEl a c d
def rB (a:RB):=((RB.mk (a.n 1).left (a.n 1).bad).n (x9 (a.n 1).got).toNat)
def yDz (b:List UInt8):Prop:=
 ∃(a:List UInt8),bE a=bE b∧a.length≤1099511627776∧∀(c:Unit),True→∃(d:RB),AObj.adt (List UInt8×Bool) 1 RdU (d.l,d.b)=AObj.adt (List UInt8×Bool) 1 RdU (a,false)∧d.l.length≤1099511627776∧∀(e:Unit),True→∃(f:Bool),∃(g:Bool→Prop),cnd (decide (x9 (d.n 1).got<1)) (∃(h:Bool),h=true∧zGx g h d) (∃(h:Bool),h=decide (x9 (d.n 1).got>4)∧zGx g h d)∧∀(h:Bool),g h→cnd h (∃(j:Unit),(y6 b).fst.kind=0∧(y6 b).fst.id=0∧(y6 b).fst.inst=0∧(y6 b).fst.side=0∧(y6 b).fst.price=0∧(y6 b).fst.qty=0∧(y6 b).fst.least=0∧(y6 b).fst.time=0∧sb (y6 b).fst.label=ByteArray.mk #[]∧(y6 b).snd=31∧True) (∃(j:RB),AObj.adt (List UInt8×Bool) 1 RdU (j.l,j.b)=AObj.adt (List UInt8×Bool) 1 RdU ((d.n 1).left,(d.n 1).bad)∧j.l.length≤1099511627776∧∀(k:Unit),True→∃(l:Cmd×RB),AObj.adt (List UInt8×Bool) 1 RdU (l.snd.l,l.snd.b)=AObj.adt (List UInt8×Bool) 1 RdU ((j.n 8).left,(j.n 8).bad)∧l.fst.kind=x9 (d.n 1).got∧l.fst.id=IntKind.i64.wrap (x9 (j.n 8).got)∧l.fst.inst=0∧l.fst.side=0∧l.fst.price=0∧l.fst.qty=0∧l.fst.least=0∧l.fst.time=0∧sb l.fst.label=ByteArray.mk #[]∧∃(m:Cmd×RB→Prop),cnd (l.fst.kind==1) (∃(n:RB),AObj.adt (List UInt8×Bool) 1 RdU (n.l,n.b)=AObj.adt (List UInt8×Bool) 1 RdU (l.snd.l,l.snd.b)∧n.l.length≤1099511627776∧∀(p:Unit),True→∃(q:RB),AObj.adt (List UInt8×Bool) 1 RdU (q.l,q.b)=AObj.adt (List UInt8×Bool) 1 RdU ((n.n 1).left,(n.n 1).bad)∧q.l.length≤1099511627776∧∀(r:Unit),True→∃(s:RB),AObj.adt (List UInt8×Bool) 1 RdU (s.l,s.b)=AObj.adt (List UInt8×Bool) 1 RdU ((q.n 1).left,(q.n 1).bad)∧s.l.length≤1099511627776∧∀(t:Unit),True→∃(u:RB),AObj.adt (List UInt8×Bool) 1 RdU (u.l,u.b)=AObj.adt (List UInt8×Bool) 1 RdU ((s.n 1).left,(s.n 1).bad)∧u.l.length≤1099511627776∧∀(v:Unit),True→∃(w:RB),AObj.adt (List UInt8×Bool) 1 RdU (w.l,w.b)=AObj.adt (List UInt8×Bool) 1 RdU ((u.n 8).left,(u.n 8).bad)∧w.l.length≤1099511627776∧∀(x:Unit),True→∃(y:RB),AObj.adt (List UInt8×Bool) 1 RdU (y.l,y.b)=AObj.adt (List UInt8×Bool) 1 RdU ((w.n 8).left,(w.n 8).bad)∧y.l.length≤1099511627776∧∀(z:Unit),True→∃(a_1:RB),AObj.adt (List UInt8×Bool) 1 RdU (a_1.l,a_1.b)=AObj.adt (List UInt8×Bool) 1 RdU ((y.n 8).left,(y.n 8).bad)∧a_1.ok∧∀(a_2:Unit),True→∃(a_3:Cmd×RB),AObj.adt (List UInt8×Bool) 1 RdU (a_3.snd.l,a_3.snd.b)=AObj.adt (List UInt8×Bool) 1 RdU ((rB a_1).left,(rB a_1).bad)∧a_3.fst.kind=l.fst.kind∧a_3.fst.id=l.fst.id∧a_3.fst.inst=x9 (n.n 1).got∧a_3.fst.side=x9 (q.n 1).got∧a_3.fst.price=IntKind.i64.wrap (x9 (u.n 8).got)∧a_3.fst.qty=IntKind.i64.wrap (x9 (w.n 8).got)∧a_3.fst.least=IntKind.i64.wrap (x9 (y.n 8).got)∧a_3.fst.time=x9 (s.n 1).got∧sb a_3.fst.label=sb (rB a_1).got∧zAr m a_3) (cnd (l.fst.kind==3) (∃(n:RB),AObj.adt (List UInt8×Bool) 1 RdU (n.l,n.b)=AObj.adt (List UInt8×Bool) 1 RdU (l.snd.l,l.snd.b)∧n.l.length≤1099511627776∧∀(p:Unit),True→∃(q:Cmd×RB),AObj.adt (List UInt8×Bool) 1 RdU (q.snd.l,q.snd.b)=AObj.adt (List UInt8×Bool) 1 RdU ((n.n 8).left,(n.n 8).bad)∧q.fst.kind=l.fst.kind∧q.fst.id=l.fst.id∧q.fst.inst=l.fst.inst∧q.fst.side=l.fst.side∧q.fst.price=l.fst.price∧zId q n l m) (cnd (l.fst.kind==4) (∃(n:RB),AObj.adt (List UInt8×Bool) 1 RdU (n.l,n.b)=AObj.adt (List UInt8×Bool) 1 RdU (l.snd.l,l.snd.b)∧n.l.length≤1099511627776∧∀(p:Unit),True→∃(q:RB),AObj.adt (List UInt8×Bool) 1 RdU (q.l,q.b)=AObj.adt (List UInt8×Bool) 1 RdU ((n.n 8).left,(n.n 8).bad)∧q.l.length≤1099511627776∧∀(r:Unit),True→∃(s:Cmd×RB),AObj.adt (List UInt8×Bool) 1 RdU (s.snd.l,s.snd.b)=AObj.adt (List UInt8×Bool) 1 RdU ((q.n 8).left,(q.n 8).bad)∧s.fst.kind=l.fst.kind∧s.fst.id=l.fst.id∧s.fst.inst=l.fst.inst∧s.fst.side=l.fst.side∧s.fst.price=IntKind.i64.wrap (x9 (n.n 8).got)∧zId s q l m) (∃(n:Cmd×RB),AObj.adt (List UInt8×Bool) 1 RdU (n.snd.l,n.snd.b)=AObj.adt (List UInt8×Bool) 1 RdU (l.snd.l,l.snd.b)∧n.fst.kind=l.fst.kind∧n.fst.id=l.fst.id∧n.fst.inst=l.fst.inst∧n.fst.side=l.fst.side∧n.fst.price=l.fst.price∧n.fst.qty=l.fst.qty∧zEl n l m)))∧∀(n:Cmd×RB),m n→∃(p:RB),AObj.adt (List UInt8×Bool) 1 RdU (p.l,p.b)=AObj.adt (List UInt8×Bool) 1 RdU (n.snd.l,n.snd.b)∧p.l.length≤1099511627776∧∀(q:Unit),True→cnd ((if p.b=true then(10:Int)else if 0<p.l.length then(15:Int)else(0:Int)) !=0) (∃(r:Unit),(y6 b).fst.kind=0∧(y6 b).fst.id=0∧(y6 b).fst.inst=0∧(y6 b).fst.side=0∧(y6 b).fst.price=0∧(y6 b).fst.qty=0∧(y6 b).fst.least=0∧(y6 b).fst.time=0∧sb (y6 b).fst.label=ByteArray.mk #[]∧(y6 b).snd=12∧True) (∃(r:Cmd),r.kind=n.fst.kind∧r.id=n.fst.id∧r.inst=n.fst.inst∧r.side=n.fst.side∧r.price=n.fst.price∧r.qty=n.fst.qty∧r.least=n.fst.least∧r.time=n.fst.time∧sb r.label=sb n.fst.label∧r.label.length≤140737488355328∧∀(s:Unit),True→cnd (r.right !=0) (∃(t:Unit),(y6 b).fst.kind=0∧(y6 b).fst.id=0∧(y6 b).fst.inst=0∧(y6 b).fst.side=0∧(y6 b).fst.price=0∧(y6 b).fst.qty=0∧(y6 b).fst.least=0∧(y6 b).fst.time=0∧sb (y6 b).fst.label=ByteArray.mk #[]∧(y6 b).snd=r.right∧True) (∃(t:Unit),(y6 b).fst.kind=n.fst.kind∧(y6 b).fst.id=n.fst.id∧(y6 b).fst.inst=n.fst.inst∧(y6 b).fst.side=n.fst.side∧(y6 b).fst.price=n.fst.price∧(y6 b).fst.qty=n.fst.qty∧(y6 b).fst.least=n.fst.least∧(y6 b).fst.time=n.fst.time∧sb (y6 b).fst.label=sb n.fst.label∧(y6 b).snd=0∧True)))
open Go Cv Go.Proofs
theorem zOq (r:RB):0≤r.byte.1∧r.byte.1≤255:=by
 have h:=mG (r.n 1).got
 have hl:(r.n 1).got.length≤1:=zEc (r.n 1)
 show 0≤x9 (r.n 1).got∧x9 (r.n 1).got≤255
 obtain e|e:(r.n 1).got.length=0∨(r.n 1).got.length=1:=by omega
 ·rw[e]at h;omega
 ·rw[e]at h;omega
theorem yCt {r:RB} (h:r.ok):r.text.2.ok:=yQx (nJ _) (yQx (nJ _) h)
theorem z3r:rtextC.ok Tryz.prog 143:=okw (V:=yGv) mixed (gokc zQf (gokc zXh gok0)) 0 (fun _=>[]) (fun _=>[]) [] Tryz.func143 fun(i:RB) h=>by
 have h:i.l.length≤1099511627776:=h
 have hb:=zOq i
 exact⟨i,rfl,h,fun _ _=>⟨⟨(i.n 1).left,(i.n 1).bad,i.byte.1.toNat⟩,by dsimp only;exact Int.toNat_of_nonneg hb.1,rfl,⟨by dsimp only;omega,yQx (nJ _) h⟩,fun _ _=>⟨_,rfl,z0v _,(),rfl,rfl,trivial⟩⟩⟩
theorem z3j:ftextC.ok Tryz.prog 48:=okw (V:=yGi) mixed (gokc zQq gok0) 0 (fun _=>[]) (fun _=>[]) [] Tryz.func48 fun(i:TxB) h=>by
 obtain⟨l,s⟩:=i
 obtain⟨h,hl⟩:l.length+300≤1099511627776∧s.length≤255:=h
 have hs:(sb s).size=s.length:=zDo s
 refine zI (fun e=> ?_) (fun e=> ?_)
 ·have e:((sb s).size:Int)>255:=e
  omega
 ·have et:s.take 255=s:=yOx (by omega)
  refine⟨⟨l,s.length⟩,rfl,by dsimp only;rw[hs],by dsimp only[WN.ok];omega,fun _ _=>⟨?_,(),?_,trivial⟩⟩
  ·dsimp only
   rw[zLg,vD,vD,yOl]
   simp[sb];omega
  ·dsimp only
   rw[zLg,← zVa,pC,et]
   simp[sb]
theorem z8z (c:Cmd) (h:r6rightC.cnd c):zSb c:=by
 obtain⟨hl,hr⟩:c.label=[]∧c.right=0:=h
 obtain⟨hk,hi,hq,hp,ho⟩:=fG hr
 unfold zSb v8 j8 cN nH kU nN bX dI
 refine⟨false,fun b=>b=false,zI (fun e=>absurd e (by omega)) (fun _=>⟨_,rfl,yPa (by omega),by(repeat'(first|exact trivial|exact rfl|apply And.intro))⟩),?_⟩
 rintro _ rfl
 refine Cv.cnd.mk (fun e=>absurd e (by decide)) (fun _=> ?_)
 refine⟨false,fun b=>b=false,zI (fun e=>absurd e (by omega)) (fun _=>⟨_,rfl,yPa (by omega),by(repeat'(first|exact trivial|exact rfl|apply And.intro))⟩),?_⟩
 rintro _ rfl
 refine Cv.cnd.mk (fun e=>absurd e (by decide)) (fun _=> ?_)
 refine⟨(),fun _=>True,Cv.cnd.mk (fun e=> ?_) (fun _=>⟨(),trivial,by(repeat'(first|exact trivial|exact rfl|apply And.intro))⟩),fun _ _=> ?_⟩
 ·obtain⟨s1,s2,s3,s4,s5⟩:=ho (by simpa using e)
  refine Cv.cnd.mk (fun e1=>Cv.cnd.mk (fun e2=> ?_) (fun _=> ?_)) (fun _=> ?_)
  ·have e1:c.side≠1:=by simpa using e1
   have e2:c.side≠2:=by simpa using e2
   omega
  all_goals exact zI (fun e=>absurd e (by omega)) (fun _=>zI (fun e=>absurd e (by omega)) (fun _=>⟨(),trivial,by(repeat'(first|exact trivial|exact rfl|apply And.intro))⟩))
 refine⟨false,fun b=>b=false,Cv.cnd.mk (fun e=> ?_) (fun _=>⟨_,rfl,rfl,by(repeat'(first|exact trivial|exact rfl|apply And.intro))⟩),?_⟩
 ·have hq:=hq (by simpa using e)
  exact zI (fun e=>absurd e (by omega)) (fun _=>⟨_,rfl,yPa (by omega),by(repeat'(first|exact trivial|exact rfl|apply And.intro))⟩)
 rintro _ rfl
 refine Cv.cnd.mk (fun e=>absurd e (by decide)) (fun _=> ?_)
 refine⟨(),fun _=>True,Cv.cnd.mk (fun e=> ?_) (fun _=>⟨(),trivial,by(repeat'(first|exact trivial|exact rfl|apply And.intro))⟩),fun _ _=> ?_⟩
 ·obtain⟨s1,s2,s3,s4,s5⟩:=ho (by simpa using e)
  refine zI (fun e=>absurd e (by omega)) (fun _=>zI (fun e=>absurd e (by omega)) (fun _=>Cv.cnd.mk (fun e=> ?_) (fun _=>⟨(),trivial,by(repeat'(first|exact trivial|exact rfl|apply And.intro))⟩)))
  rw[hl]at e
  exact absurd e (by decide+kernel)
 have hpr:∀{Q:Prop},Q→(c.kind=1∨c.kind=4)→cnd (decide (c.price< -2000000)) (∃i':Bool,i'=true∧i'=false∧Q) (∃i':Bool,i'=decide (c.price>2000000)∧i'=false∧Q):=fun hQ hk=>by
  have:=hp hk
  exact zI (fun e=>absurd e (by omega)) (fun _=>⟨_,rfl,yPa (by omega),hQ⟩)
 refine⟨false,fun b=>b=false,Cv.cnd.mk (fun e=>hpr (by(repeat'(first|exact trivial|exact rfl|apply And.intro))) (.inl (by simpa using e))) (fun _=>Cv.cnd.mk (fun e=>hpr (by(repeat'(first|exact trivial|exact rfl|apply And.intro))) (.inr (by simpa using e))) (fun _=>⟨_,rfl,rfl,by(repeat'(first|exact trivial|exact rfl|apply And.intro))⟩)),?_⟩
 rintro _ rfl
 refine Cv.cnd.mk (fun e=>absurd e (by decide)) (fun _=> ?_)
 refine⟨false,fun b=>b=false,Cv.cnd.mk (fun e=> ?_) (fun _=>⟨_,rfl,rfl,by(repeat'(first|exact trivial|exact rfl|apply And.intro))⟩),?_⟩
 ·obtain⟨s1,s2,s3,s4,s5⟩:=ho (by simpa using e)
  exact zI (fun e=>absurd e (by omega)) (fun _=>⟨_,rfl,yPa (by omega),by(repeat'(first|exact trivial|exact rfl|apply And.intro))⟩)
 rintro _ rfl
 exact Cv.cnd.mk (fun e=>absurd e (by decide)) (fun _=>⟨(),rfl,trivial⟩)
theorem zVl:r6rightC.ok Tryz.prog 45:=okw mixed gok0 0 (fun _=>z6q) (fun _=>[]) [] Tryz.func45 z8z
theorem yGk (c:Cmd) (h:r6encC.cnd c):z6v c:=by
 obtain⟨hl,hr⟩:c.label=[]∧c.right=0:=h
 have he:c.enc=lob c.kind::(le c.id 8++c.tail):=by rw[Cmd.enc,yOh (by simp[hr])]
 unfold z6v sY
 refine⟨c,rfl,rfl,rfl,rfl,rfl,rfl,rfl,rfl,rfl,⟨hl,hr⟩,fun _ _=>⟨⟨[],c.kind⟩,rfl,rfl,by simp[WN.ok],fun _ _=>⟨rfl,⟨[lob c.kind],c.id⟩,rfl,rfl,by simp[WN.ok],fun _ _=> ?_⟩⟩⟩
 dsimp only
 refine Cv.cnd.mk (fun e=> ?_) (fun e=>Cv.cnd.mk (fun e3=> ?_) (fun e3=>Cv.cnd.mk (fun e4=> ?_) (fun e4=> ?_)))
 ·have e:c.kind=1:=by simpa using e
  have ht:c.tail=lob c.inst::lob c.side::lob c.time::(le c.price 8++(le c.qty 8++(le c.least 8++pC c.label))):=by rw[Cmd.tail,yOi e]
  refine⟨⟨[lob c.kind]++le c.id 8,c.inst⟩,rfl,rfl,by simp[WN.ok,wB],fun _ _=>⟨rfl,rfl,⟨_,c.side⟩,rfl,rfl,by simp[WN.ok,wB],fun _ _=>⟨rfl,⟨_,c.time⟩,rfl,rfl,by simp[WN.ok,wB],fun _ _=>⟨⟨_,c.price⟩,rfl,rfl,by simp[WN.ok,wB],fun _ _=>⟨rfl,rfl,⟨_,c.qty⟩,rfl,rfl,by simp[WN.ok,wB],fun _ _=>⟨rfl,⟨_,c.least⟩,rfl,rfl,by simp[WN.ok,wB],fun _ _=>⟨⟨_,c.label⟩,rfl,rfl,⟨by simp[wB],by show c.label.length≤255;rw[hl];decide⟩,fun _ _=>⟨(),?_,rfl,trivial⟩⟩⟩⟩⟩⟩⟩⟩
  dsimp only
  rw[he,ht];simp
 ·have e3:c.kind=3:=by simpa using e3
  have ht:c.tail=le c.qty 8:=by rw[Cmd.tail,yOh (by omega),yOi e3]
  refine⟨⟨[lob c.kind]++le c.id 8,c.qty⟩,rfl,rfl,by simp[WN.ok,wB],fun _ _=>⟨(),?_,rfl,trivial⟩⟩
  dsimp only
  rw[he,ht];simp
 ·have e4:c.kind=4:=by simpa using e4
  have ht:c.tail=le c.price 8++le c.qty 8:=by rw[Cmd.tail,yOh (by omega),yOh (by omega),yOi e4]
  refine⟨⟨[lob c.kind]++le c.id 8,c.price⟩,rfl,rfl,by simp[WN.ok,wB],fun _ _=>⟨rfl,⟨_,c.qty⟩,rfl,rfl,by simp[WN.ok,wB],fun _ _=>⟨(),?_,rfl,trivial⟩⟩⟩
  dsimp only
  rw[he,ht];simp
 ·have e:¬c.kind=1:=by simpa using e
  have e3:¬c.kind=3:=by simpa using e3
  have e4:¬c.kind=4:=by simpa using e4
  have ht:c.tail=[]:=by rw[Cmd.tail,yOh e,yOh e3,yOh e4]
  refine⟨(),?_,rfl,trivial⟩
  rw[he,ht];simp
theorem r6enc_ok:r6encC.ok Tryz.prog 15:=okw mixed (gokc zVl (gokc zQq (gokc z8n (gokc z3j gok0)))) 0 (fun _=>[]) (fun _=>[]) [] Tryz.func15 yGk
theorem yEk {k id:Int} {r:RB} (h:r.ok):(xG k id r).2.ok∧(xG k id r).1.label.length≤255:=by
 rw[xG]
 split
 ·have h6:=vO (vO (vO (cI (cI (cI h)))))
  refine⟨yCt h6,?_⟩
  show(RB.text (r.byte.2.byte.2.byte.2.long.2.long.2.long.2)).1.length≤255
  generalize r.byte.2.byte.2.byte.2.long.2.long.2.long.2=q
  have:=zOq q
  have:(q.text.1).length≤q.byte.1.toNat:=zEc _
  omega
 split
 ·exact⟨vO h,yPv _⟩
 split
 ·exact⟨vO (vO h),yPv _⟩
 ·exact⟨h,yPv _⟩
theorem yKw (b:List UInt8) (h:cdecC.cnd b):yDz b:=by
 have h:b.length≤1099511627776:=h
 obtain⟨r0,hr⟩:∃r0,r0=RB.mk b false:=⟨_,rfl⟩
 have hr0:r0.ok:=by rw[hr];exact h
 have hk2:=cI hr0
 have hk3:=vO hk2
 have hdec:y6 b=if r0.byte.1<1∨4<r0.byte.1 then(zLw,31)else if(xG r0.byte.1 r0.byte.2.long.1 r0.byte.2.long.2).2.endOf≠0 then(zLw,12)else if(xG r0.byte.1 r0.byte.2.long.1 r0.byte.2.long.2).1.right≠0 then(zLw,(xG r0.byte.1 r0.byte.2.long.1 r0.byte.2.long.2).1.right)else((xG r0.byte.1 r0.byte.2.long.1 r0.byte.2.long.2).1,0):=by
  rw[hr];rfl
 unfold yDz zId zEl zGx rB zAr zBd cZ dI
 generalize y6 b=X at hdec ⊢
 refine⟨b,rfl,h,fun _ _=>⟨r0,by rw[hr],hr0,fun _ _=>⟨true,fun x=>x=decide (r0.byte.1<1∨4<r0.byte.1),zI (fun e=>⟨true,rfl,(yPd (.inl e)).symm,by(repeat'(first|exact trivial|exact rfl|apply And.intro))⟩) (fun e=>⟨_,rfl,decide_eq_decide.2 ⟨.inr,fun x=>x.resolve_left e⟩,by(repeat'(first|exact trivial|exact rfl|apply And.intro))⟩),?_⟩⟩⟩
 rintro _ rfl
 refine zI (fun e=> ?_) (fun e=> ?_)
 ·rw[hdec,yOi e]
  exact⟨(),rfl,rfl,rfl,rfl,rfl,rfl,rfl,rfl,rfl,rfl,trivial⟩
 rw[yOh e]at hdec
 generalize hk:r0.byte.1=k at hdec
 refine⟨r0.byte.2,rfl,hk2,fun _ _=>⟨(⟨r0.byte.1,r0.byte.2.long.1,0,0,0,0,0,0,[]⟩,r0.byte.2.long.2),rfl,rfl,rfl,rfl,rfl,rfl,rfl,rfl,rfl,rfl,fun x=>x=xG r0.byte.1 r0.byte.2.long.1 r0.byte.2.long.2,?_,?_⟩⟩
 ·generalize r0.byte.2.long.2=r2 at*
  generalize r0.byte.2.long.1=id at*
  rw[hk]
  refine Cv.cnd.mk (fun e=> ?_) (fun e1=>Cv.cnd.mk (fun e=> ?_) (fun e3=>Cv.cnd.mk (fun e=> ?_) (fun e4=> ?_)))
  ·have e:k=1:=by simpa using e
   have h1:=cI hk3
   have h2:=cI h1
   have h3:=cI h2
   have h4:=vO h3
   have h5:=vO h4
   have h6:=vO h5
   exact⟨r2,rfl,hk3,fun _ _=>⟨_,rfl,h1,fun _ _=>⟨_,rfl,h2,fun _ _=>⟨_,rfl,h3,fun _ _=>⟨_,rfl,h4,fun _ _=>⟨_,rfl,h5,fun _ _=>⟨_,rfl,h6,fun _ _=>⟨xG k id r2,by rw[xG,yOi e];rfl,by rw[xG,yOi e],by rw[xG,yOi e],by rw[xG,yOi e];rfl,by rw[xG,yOi e];rfl,by rw[xG,yOi e];rfl,by rw[xG,yOi e];rfl,by rw[xG,yOi e];rfl,by rw[xG,yOi e];rfl,by rw[xG,yOi e];rfl,rfl,by(repeat'(first|exact trivial|exact rfl|apply And.intro))⟩⟩⟩⟩⟩⟩⟩⟩
  ·have e1:¬k=1:=by simpa using e1
   have e:k=3:=by simpa using e
   have hd:xG k id r2=(⟨k,id,0,0,0,r2.long.1,0,0,[]⟩,r2.long.2):=by rw[xG,yOh e1,yOi e]
   exact⟨r2,rfl,hk3,fun _ _=>⟨(⟨k,id,0,0,0,r2.long.1,0,0,[]⟩,r2.long.2),rfl,rfl,rfl,rfl,rfl,rfl,rfl,rfl,rfl,rfl,hd.symm,by(repeat'(first|exact trivial|exact rfl|apply And.intro))⟩⟩
  ·have e1:¬k=1:=by simpa using e1
   have e3:¬k=3:=by simpa using e3
   have e:k=4:=by simpa using e
   have hd:xG k id r2=(⟨k,id,0,0,r2.long.1,r2.long.2.long.1,0,0,[]⟩,r2.long.2.long.2):=by rw[xG,yOh e1,yOh e3,yOi e]
   exact⟨r2,rfl,hk3,fun _ _=>⟨_,rfl,vO hk3,fun _ _=>⟨(⟨k,id,0,0,r2.long.1,r2.long.2.long.1,0,0,[]⟩,r2.long.2.long.2),rfl,rfl,rfl,rfl,rfl,rfl,rfl,rfl,rfl,rfl,hd.symm,by(repeat'(first|exact trivial|exact rfl|apply And.intro))⟩⟩⟩
  ·have e1:¬k=1:=by simpa using e1
   have e3:¬k=3:=by simpa using e3
   have e4:¬k=4:=by simpa using e4
   have hd:xG k id r2=(⟨k,id,0,0,0,0,0,0,[]⟩,r2):=by rw[xG,yOh e1,yOh e3,yOh e4]
   exact⟨(⟨k,id,0,0,0,0,0,0,[]⟩,r2),rfl,rfl,rfl,rfl,rfl,rfl,rfl,rfl,rfl,rfl,hd.symm,by(repeat'(first|exact trivial|exact rfl|apply And.intro))⟩
 ·rintro x hx
  obtain⟨o1,o2⟩:=yEk (k:=r0.byte.1) (id:=r0.byte.2.long.1) hk3
  rw[← hx]at o1 o2
  rw[← hk,← hx]at hdec
  obtain⟨c,q⟩:=x
  refine⟨q,rfl,o1,fun _ _=>Cv.cnd.mk (fun e=> ?_) (fun e=>⟨c,rfl,rfl,rfl,rfl,rfl,rfl,rfl,rfl,rfl,yQx o2 (by decide),fun _ _=>Cv.cnd.mk (fun e2=> ?_) (fun e2=> ?_)⟩)⟩
  ·have e:q.endOf≠0:=by simpa[RB.endOf]using e
   rw[hdec,yOi e]
   exact⟨(),rfl,rfl,rfl,rfl,rfl,rfl,rfl,rfl,rfl,rfl,trivial⟩
  ·have e:¬q.endOf≠0:=by simpa[RB.endOf]using e
   have e2:c.right≠0:=by simpa using e2
   rw[hdec,yOh e,yOi e2]
   exact⟨(),rfl,rfl,rfl,rfl,rfl,rfl,rfl,rfl,rfl,rfl,trivial⟩
  ·have e:¬q.endOf≠0:=by simpa[RB.endOf]using e
   have e2:¬c.right≠0:=by simpa using e2
   rw[hdec,yOh e,yOh e2]
   exact⟨(),rfl,rfl,rfl,rfl,rfl,rfl,rfl,rfl,rfl,rfl,trivial⟩
theorem yAf:cdecC.ok Tryz.prog 100:=okw mixed (gokc yBh (gokc zQf (gokc z7j (gokc z3r (gokc yAo (gokc zRo gok0)))))) 0 (fun _=>yKa) (fun _=>[]) [] Tryz.func100 yKw
open Go Cv Go.Proofs
structure SoI where
 s:MSt
 p:Prd
 B:List (List zG)
 inst:Int
 sd:Bool
@[reducible] def SoI.ok (i:SoI):Prop:=i.s.Rep i.p i.B∧i.B.length≤1000
open Go Cv Go.Proofs
open Go Cv Go.Proofs
open Go Cv Go.Proofs
def z1v (s:Int) (F:List zG):Prop:=F.Pairwise fun o o'=>btr s o'.price o.price=false
def nW (L:List zG) (s:Int):List zG:=L.filter fun o=>decide (o.side=s)
structure BWf (p:Prd) (B:List (List zG)):Prop where
 ok:BOk p B
 od:yBd B
 ub:((whL 0 B).map (·.1)).Nodup
 srt:∀(k:Nat) (L:List zG),B[k]? =some L→∀s,s=1∨s=2→z1v s (nW L s)
theorem zSm {s:Int} {b:Book} {Q:List (List Nat)}:∀{R:List y5},(R.Pairwise fun r r'=>btr s r.price r'.price=true)→z1v s (R.flatMap (b.rOrds Q s))
 |[],_=>List.Pairwise.nil
 |r::R,h=>by
  rw[yTy]at h
  rw[yPy,z1v,List.pairwise_append]
  refine⟨List.pairwise_of_forall_mem_list fun o ho o' ho'=> ?_,zSm h.2,fun o ho o' ho'=> ?_⟩
  ·rw[(xR ho).2,(xR ho').2];exact p7 _ _
  ·obtain⟨r',hr',ho'⟩:=yQv.1 ho'
   rw[(xR ho).2,(xR ho').2];exact zRl (h.1 r' hr')
theorem Book.Rep.srt {b:Book} {L:List zG} (h:b.Rep L) {s:Int} (hs:s=1∨s=2):z1v s (nW L s):=by
 obtain⟨Q,c,ht,rfl⟩:=h
 rw[nW,zKn hs]
 exact zSm (c.srt s hs)
theorem MSt.Rep.wf {s:MSt} {p:Prd} {B:List (List zG)} (h:s.Rep p B) (hb:BOk p B):BWf p B:=by
 refine⟨hb,h.ords,h.ids,fun k L hL=> ?_⟩
 obtain⟨b,hb⟩:=z9 (l:=s.books) (i:=k) (by rw[h.bl];exact(yOj.1 hL).1)
 exact fun s hs=>(h.bk k b L hb hL).srt hs
theorem z2x {L:List zG} (h:∀o∈L,zGr o) (hn:(L.map (·.id)).Nodup) (id q:Int):∀o∈(xI L id q).1,zGr o:=by
 intro o ho
 rw[xI]at ho
 split at ho
 ·exact h o ho
 split at ho
 ·exact h o ho
 rename_i hb
 obtain⟨o',ho',e⟩:=yTa.1 ho
 have h0:=h o' ho'
 split at e
 ·rename_i e1
  have hg:=cK hn ho'
  rw[e1]at hg
  rw[hg]at hb
  split at e
  ·cases e
  ·rename_i e2
   cases e
   have:=h0.q
   exact⟨h0.s,by dsimp only;omega⟩
 ·cases e;exact h0
theorem z8y (L:List zG) (id q:Int):(xI L id q).1.length≤L.length:=by
 rw[xI]
 split
 ·exact yPp _
 split
 ·exact yPp _
 exact List.length_filterMap_le _ _
theorem z8c {L:List zG} {s:Int} (h:z1v s (nW L s)) (id q:Int):z1v s (nW (xI L id q).1 s):=by
 rw[xI]
 split
 ·exact h
 split
 ·exact h
 have e:nW (jE L id q) s=jE (nW L s) id q:=by
  rw[nW,nW,jE,jE,List.filter_filterMap,List.filterMap_filter]
  refine dK fun o _=> ?_
  by_cases e1:o.id=id
  ·rw[yOi e1]
   by_cases e2:o.qty=q
   ·rw[yOi e2];simp
   ·rw[yOh e2];by_cases e3:o.side=s<;>simp[Option.filter,e3]
  ·rw[yOh e1];by_cases e3:o.side=s<;>simp[Option.filter,e3]
 rw[e,jE]
 refine List.Pairwise.filterMap _ (fun a a' haa b hb b' hb'=> ?_) h
 have g:∀{a b:zG},(if a.id=id then(if a.qty=q then none else some {a with qty:=a.qty-q})else some a)=some b→b.price=a.price:=by
  intro a b e
  split at e
  ·split at e
   ·cases e
   ·cases e;rfl
  ·cases e;rfl
 rw[g hb,g hb'];exact haa
theorem yAd {B:List (List zG)} (h:((whL 0 B).map (·.1)).Nodup) {k:Nat} {L L':List zG} (hL:B[k]? =some L) (hs:(L'.map (·.id)).Sublist (L.map (·.id))):((whL 0 (B.set k L')).map (·.1)).Nodup:=by
 have hk:=(yOj.1 hL).1
 obtain⟨rest,hr⟩:=zDx (B:=B) 0 k hk
 have h0:=hr L
 rw[uD hL]at h0
 have h1:=(h0.map (·.1)).nodup_iff.1 h
 refine((hr L').map (·.1)).nodup_iff.2 ?_
 rw[yOr,yQl]at h1 ⊢
 exact h1.sublist (List.Sublist.append hs (List.Sublist.refl _))
theorem BWf.take {p:Prd} {B:List (List zG)} (h:BWf p B) (id q:Int):BWf p (xZ B id q).1:=by
 refine⟨h.ok.take id q,?_,?_,?_⟩
 all_goals
  rw[xZ]
  cases hi:u0 B id with
  |none=>first|exact h.od|exact h.ub|exact h.srt
  |some k=>
   obtain⟨L,hL,hh⟩:=vR hi
   have ho:=h.od k L hL
   dsimp only
   rw[zS hL]
   first
   |(intro j M hM
     rcases fH hM with⟨rfl,rfl⟩|⟨_,hM⟩
     ·refine⟨z2x ho.1 ho.2.1 id q,?_,yQx (z8y L id q) ho.2.2⟩
      rcases zGe ho.2.1 id q with⟨e,_⟩|⟨e,_⟩
      ·rw[e];exact ho.2.1
      ·rw[e];exact ho.2.1.sublist (List.Sublist.map _ ySv)
     ·exact h.od j M hM)
   |(refine yAd h.ub hL ?_
     rcases zGe ho.2.1 id q with⟨e,_⟩|⟨e,_⟩
     ·rw[e];exact List.Sublist.refl _
     ·rw[e];exact List.Sublist.map _ ySv)
   |(intro j M hM s hs
     rcases fH hM with⟨rfl,rfl⟩|⟨_,hM⟩
     ·exact z8c (h.srt _ L hL s hs) id q
     ·exact h.srt j M hM s hs)
theorem BWf.takes {p:Prd}:∀{fs:List gW} {B:List (List zG)},BWf p B→BWf p (qH B fs)
 |[],B,h=>h
 |f::fs,B,h=>BWf.takes (fs:=fs) (h.take f.id f.qty)
open Go Cv Go.Proofs
theorem zLh {p:Prd} {B:List (List zG)} (h:BWf p B) {inst:Int} {sd:Bool} {price q:Int} {t:kT} {B':List (List zG)} (e:gU p B inst sd price q=some (t,B')):BWf p B'∧B'.length=B.length:=by
 rw[gU]at e
 dsimp only at e
 split at e
 ·split at e
  ·cases e;exact⟨h.takes.takes,by rw[wH,wH]⟩
  ·cases e;exact⟨h.takes,by rw[wH]⟩
 ·cases e
theorem bD {p:Prd} {inst:Int} {sd:Bool} {price:Int}:∀(m:Nat) (q:Int) (B:List (List zG)),q.toNat≤m→BWf p B→BWf p (kG p B inst sd price q).B∧(kG p B inst sd price q).B.length=B.length∧(0≤q→0≤(kG p B inst sd price q).left∧(kG p B inst sd price q).left≤q)
 |m,q,B,hm,h=>by
  by_cases hq:q≤0
  ·rw[dZ (.inl hq)]
   exact⟨h,rfl,fun x=>⟨x,yUa _⟩⟩
  cases hs:gU p B inst sd price q with
  |none=>
   rw[dZ (.inr hs)]
   exact⟨h,rfl,fun x=>⟨x,yUa _⟩⟩
  |some x=>
   obtain⟨t,C⟩:=x
   obtain⟨k1,k2⟩:=zLh h hs
   have hq2:=zGy (by omega) hs
   cases m with
   |zero=>omega
   |succ m=>
   obtain⟨i1,i2,i3⟩:=bD (p:=p) (inst:=inst) (sd:=sd) (price:=price) m (q-t.qty) C (by omega) k1
   rw[zHw (by omega) hs]
   exact⟨i1,i2.trans k2,fun _=>⟨(i3 (by omega)).1,by dsimp only;have:=(i3 (by omega)).2;omega⟩⟩
open Go Cv Go.Proofs
@[reducible] def RunI.ok (i:RunI):Prop:=i.s.Rep i.p i.B∧BOk i.p i.B∧(0≤i.inst∧i.inst<i.B.length)∧1≤i.q∧i.q≤1000000
def scouldC:Con:=con1 RunI (fun i=>[.nm 0 0,zA i.inst,zA (zC i.sd),zA i.price,zA i.q]) (fun i=>[zD i.s]) (fun i=>i.ok) (fun i=>zA (i.q-i.r.left)) (fun i=>[zD i.s])
def uU (p:Prd) (B:List (List zG)) (inst:Int) (sd:Bool) (price q:Int):Bool:=
 decide ((kG p B inst sd price q).left≠0) && (x4 ⟨p,(kG p B inst sd price q).B.map xO,inst⟩ (zC (!sd))).any fun x=>fA sd price x.price
def stuckC:Con:=con1 RunI (fun i=>[.nm 0 0,zA i.inst,zA (zC i.sd),zA i.price,zA i.q]) (fun i=>[zD i.s]) (fun i=>i.ok) (fun i=>yJ (uU i.p i.B i.inst i.sd i.price i.q)) (fun i=>[zD i.s])
def tE (B:List (List zG)):Nat:=(whL 0 B).length
def countC16:Con:=con1 SoI (fun i=>[.nm 0 0]) (fun i=>[zD i.s]) (fun i=>i.ok) (fun i=>zA (tE i.B)) (fun i=>[zD i.s])
def uT (p:Prd) (inst price:Int):Int×Int×Int:=
 if(p.legs inst).2.2=false then(0,0,20)else if p.price inst price≠0 then(0,0,p.price inst price)else
 let far:=p.settle.getD (p.legs inst).2.1.toNat 0
 let a:=if p.high<far+price then(p.high,p.high-price)else(far+price,far)
 if a.1<p.low then(p.low,p.low-price,0)else(a.1,a.2,0)
structure LpI where
 p:Prd
 inst:Int
 price:Int
def lpricesC:Con:=con1 LpI (fun i=>[sO i.p,zA i.inst,zA i.price]) (fun _=>[]) (fun i=>i.p.check=0∧i.p.small∧yQ i.price) (fun i=> .tup [zA (uT i.p i.inst i.price).1,zA (uT i.p i.inst i.price).2.1,zA (uT i.p i.inst i.price).2.2]) (fun _=>[])
def ijj (t u:Nat):SAnn:={ι:=Int×Int,slots:=fun n=>[(t,zA n.1),(u,zA n.2)],rows:=fun _=>[]}
def lpJ:List (Nat×SAnn):=[(50,ijj 15 14),(58,ijj 15 14)]
def yJe:List SAnn:=[{ι:=Nat,slots:=fun j=>[(40,zA j)],rows:=fun _=>[]}]
def yFb:List (Nat×SAnn):=[(8,{ι:=Unit,slots:=fun _=>[],rows:=fun _=>[],opn:=[11]})]
open Go Cv Go.Proofs
def v9 (a:MSt):Prop:=a.books.length≤1000000∧∀(b:Book),b∈a.books→(b.a.slots.length≤1000000∧b.a.queues.length≤1000000)∧b.buys.length≤1000000∧b.sells.length≤1000000∧b.spare.length≤1000000
def xV (a:RunI):Prop:=a.s.Rep a.p a.B∧BOk a.p a.B∧(0≤a.inst∧a.inst<(↑a.B.length:Int))∧1≤a.q∧a.q≤1000000
def eD (a:RunI):Prop:=∃(b:MSt),sb b.p.code=sb a.s.p.code∧b.p.tick=a.s.p.tick∧b.p.low=a.s.p.low∧b.p.high=a.s.p.high∧b.p.wide=a.s.p.wide∧b.p.rule=a.s.p.rule∧b.p.top=a.s.p.top∧b.p.least=a.s.p.least∧b.p.part=a.s.p.part∧AObj.objs 184 Book 6 zP b.books none=AObj.objs 184 Book 6 zP a.s.books none∧yN b.wh=yN a.s.wh∧AObj.fro 1 (iE b.p.months)=AObj.fro 1 (iE a.s.p.months)∧AObj.fro 1 (iE b.p.settle)=AObj.fro 1 (iE a.s.p.settle)∧(v9 b)∧∀(c:Unit),True→∃(d:RunI),d.inst=a.inst∧zC d.sd=zC a.sd∧d.price=a.price∧d.q=a.q∧zD d.s=zD b∧(xV d)∧∀(e:MSt),e.Rep d.p d.r.B→∃(f:Unit),a.q-a.r.left=IntKind.i64.wrap (a.q-d.r.left)∧zD a.s=zD b∧True
def jX (a:RunI):Prop:=∃(b:Unit),a.q-a.r.left=0∧sb a.s.p.code=sb a.s.p.code∧a.s.p.tick=a.s.p.tick∧a.s.p.low=a.s.p.low∧a.s.p.high=a.s.p.high∧a.s.p.wide=a.s.p.wide∧a.s.p.rule=a.s.p.rule∧a.s.p.top=a.s.p.top∧a.s.p.least=a.s.p.least∧a.s.p.part=a.s.p.part∧AObj.objs 184 Book 6 zP a.s.books none=AObj.objs 184 Book 6 zP a.s.books none∧yN a.s.wh=yN a.s.wh∧AObj.fro 1 (iE a.s.p.months)=AObj.fro 1 (iE a.s.p.months)∧AObj.fro 1 (iE a.s.p.settle)=AObj.fro 1 (iE a.s.p.settle)∧True
def zXm (i:RunI):Prop:=
 cnd (decide (i.inst≥0)) (cnd (decide (i.inst<(↑i.s.books.length:Int))) (cnd (zC i.sd==1) (cnd (decide (i.q≥1)) (cnd (!decide (i.q≤1000000)) (jX i) (eD i)) (jX i)) (cnd (zC i.sd==2) (cnd (decide (i.q≥1)) (cnd (!decide (i.q≤1000000)) (jX i) (eD i)) (jX i)) (jX i))) (jX i)) (jX i)
def zSa (i:SoI):Prop:=
 ∃(a:Unit),(↑(tE i.B):Int)=(↑(yN i.s.wh).length:Int)∧sb i.s.p.code=sb i.s.p.code∧i.s.p.tick=i.s.p.tick∧i.s.p.low=i.s.p.low∧i.s.p.high=i.s.p.high∧i.s.p.wide=i.s.p.wide∧i.s.p.rule=i.s.p.rule∧i.s.p.top=i.s.p.top∧i.s.p.least=i.s.p.least∧i.s.p.part=i.s.p.part∧AObj.objs 184 Book 6 zP i.s.books none=AObj.objs 184 Book 6 zP i.s.books none∧yN i.s.wh=yN i.s.wh∧AObj.fro 1 (iE i.s.p.months)=AObj.fro 1 (iE i.s.p.months)∧AObj.fro 1 (iE i.s.p.settle)=AObj.fro 1 (iE i.s.p.settle)∧True
def gX (a:Int×Int→Prop) (b:Int×Int) (c:LpI):Prop:=a b∧Sx.AObj.cells [V.d (D.v (Value.string (sb c.p.code))),V.own 0,V.d (dI c.p.tick),V.d (dI c.p.low),V.d (dI c.p.high),V.d (dI c.p.wide),V.d (dI c.p.rule),V.d (dI c.p.top),V.d (dI c.p.least),V.d (dI c.p.part),V.own ((0:Nat)+(1:Nat))] 26=Sx.AObj.cells [V.d (D.v (Value.string (sb c.p.code))),V.own 0,V.d (dI c.p.tick),V.d (dI c.p.low),V.d (dI c.p.high),V.d (dI c.p.wide),V.d (dI c.p.rule),V.d (dI c.p.top),V.d (dI c.p.least),V.d (dI c.p.part),V.own ((0:Nat)+(1:Nat))] 26∧AObj.fro 1 (iE c.p.settle)=AObj.fro 1 (iE c.p.settle)∧AObj.fro 1 (iE c.p.months)=AObj.fro 1 (iE c.p.months)
def yR (a:LpI):=(uT a.p a.inst a.price)
def zRq (i:LpI):Prop:=
 ∃(a:Prd),sb a.code=sb i.p.code∧iE a.months=iE i.p.months∧a.tick=i.p.tick∧a.low=i.p.low∧a.high=i.p.high∧a.wide=i.p.wide∧a.rule=i.p.rule∧a.top=i.p.top∧a.least=i.p.least∧a.part=i.p.part∧iE a.settle=iE i.p.settle∧(yC a)∧∀(b:Unit),True→cnd (a.check !=0) (∃(c:Unit),(yR i).fst=0∧(yR i).snd.fst=0∧(yR i).snd.snd=1∧True) (∃(c:sR),sb c.p.code=sb i.p.code∧iE c.p.months=iE i.p.months∧c.p.tick=i.p.tick∧c.p.low=i.p.low∧c.p.high=i.p.high∧c.p.wide=i.p.wide∧c.p.rule=i.p.rule∧c.p.top=i.p.top∧c.p.least=i.p.least∧c.p.part=i.p.part∧iE c.p.settle=iE i.p.settle∧c.n=i.inst∧(jN c)∧∀(d:Unit),True→cnd (!(c.p.legs c.n).snd.snd) (∃(e:Unit),(yR i).fst=0∧(yR i).snd.fst=0∧(yR i).snd.snd=20∧True) (∃(e:nA),sb e.p.code=sb i.p.code∧iE e.p.months=iE i.p.months∧e.p.tick=i.p.tick∧e.p.low=i.p.low∧e.p.high=i.p.high∧e.p.wide=i.p.wide∧e.p.rule=i.p.rule∧e.p.top=i.p.top∧e.p.least=i.p.least∧e.p.part=i.p.part∧iE e.p.settle=iE i.p.settle∧e.a=i.inst∧e.b=i.price∧(xM e)∧∀(f:Unit),True→cnd (e.p.price e.a e.b !=0) (∃(g:Unit),(yR i).fst=0∧(yR i).snd.fst=0∧(yR i).snd.snd=e.p.price e.a e.b∧True) ((0≤(c.p.legs c.n).snd.fst∧(c.p.legs c.n).snd.fst<(↑(iE i.p.settle).length:Int))∧∃(g:Int),zE (iE i.p.settle) (c.p.legs c.n).snd.fst.toNat 0 1=some [dI g]∧∃(h:Int×Int),∃(j:Int×Int→Prop),cnd (decide (IntKind.i64.wrap (g+i.price)>i.p.high)) (∃(k:Int×Int),k.fst=i.p.high∧k.snd=IntKind.i64.wrap (i.p.high-i.price)∧gX j k i) (∃(k:Int×Int),k.fst=IntKind.i64.wrap (g+i.price)∧k.snd=g∧gX j k i)∧∀(k:Int×Int),j k→∃(l:Int×Int),∃(m:Int×Int→Prop),cnd (decide (k.fst<i.p.low)) (∃(n:Int×Int),n.fst=i.p.low∧n.snd=IntKind.i64.wrap (i.p.low-i.price)∧gX m n i) (∃(n:Int×Int),n.fst=k.fst∧n.snd=k.snd∧gX m n i)∧∀(n:Int×Int),m n→∃(p:Unit),(yR i).fst=n.fst∧(yR i).snd.fst=n.snd∧(yR i).snd.snd=0∧True)))
def tP (a:MSt) (b:MSt):Prop:=sb a.p.code=sb b.p.code∧True∧a.p.tick=b.p.tick∧a.p.low=b.p.low∧a.p.high=b.p.high∧a.p.wide=b.p.wide∧a.p.rule=b.p.rule∧a.p.top=b.p.top∧a.p.least=b.p.least∧a.p.part=b.p.part∧True∧True
def z4h (i:RunI):Prop:=
 ∃(a:MSt),zD a=zD i.s∧(v9 a)∧∀(b:Unit),True→∃(c:RunI),c.inst=i.inst∧zC c.sd=zC i.sd∧c.price=i.price∧c.q=i.q∧zD c.s=zD a∧(xV c)∧∀(d:MSt),d.Rep c.p c.r.B→cnd (c.r.left==0) (∃(e:Unit),uU i.p i.B i.inst i.sd i.price i.q=false∧zD i.s=zD a∧True) (∃(e:MSt),sb e.p.code=sb d.p.code∧e.p.tick=d.p.tick∧e.p.low=d.p.low∧e.p.high=d.p.high∧e.p.wide=d.p.wide∧e.p.rule=d.p.rule∧e.p.top=d.p.top∧e.p.least=d.p.least∧e.p.part=d.p.part∧AObj.objs 184 Book 6 zP e.books none=AObj.objs 184 Book 6 zP d.books none∧yN e.wh=yN d.wh∧AObj.fro 1 (iE e.p.months)=AObj.fro 1 (iE d.p.months)∧AObj.fro 1 (iE e.p.settle)=AObj.fro 1 (iE d.p.settle)∧(b7 e)∧∀(f:Unit),True→(tP e d)∧∃(g:Bool),zC g=zC i.sd∧True∧∀(h:Unit),True→(tP e d)∧∃(j:tW),sb j.i.p.code=sb d.p.code∧iE j.i.p.months=iE e.p.months∧j.i.p.tick=d.p.tick∧j.i.p.low=d.p.low∧j.i.p.high=d.p.high∧j.i.p.wide=d.p.wide∧j.i.p.rule=d.p.rule∧j.i.p.top=d.p.top∧j.i.p.least=d.p.least∧j.i.p.part=d.p.part∧iE j.i.p.settle=iE e.p.settle∧List.map zZ j.i.tops=List.map zZ e.tops∧j.i.inst=i.inst∧zC j.s=zC !g∧(wD j)∧∀(k:Unit),True→∃(l:Nat),(↑l:Int)=0∧∃(m:Nat→Prop),∃(n:Nat→Nat),m l∧∀(p:Nat),m p→cnd (decide ((↑p:Int)<(uB j))) ((0≤(↑p:Int)∧(↑p:Int)<(uB j))∧∃(q:Int),∃(r:Int),∃(s:Int),∃(t:Int),∃(u:Int),∃(v:Int),zE (qT j) (↑p:Int).toNat 0 6=some [dI q,dI r,dI s,dI t,dI u,dI v]∧∃(w:GoI),zC w.s=zC i.sd∧w.p=i.price∧w.x=q∧True∧∀(x:Unit),True→cnd (fA w.s w.p w.x) (∃(y:Unit),uU i.p i.B i.inst i.sd i.price i.q=true∧zD i.s=zD a∧True) (∃(y:Nat),(↑y:Int)=IntKind.i64.wrap ((↑p:Int)+1)∧m y∧n y<n p∧AObj.own 257 6 (qT j)=AObj.own 257 6 (qT j)∧Sx.AObj.cells (jD (g7 5 (1+((2:Nat)-(1:Nat))+((2:Nat)-(1:Nat))+((5:Nat)-(1:Nat))) ((6:Nat)-(5:Nat)) [((2:Nat),1+((2:Nat)-(1:Nat))+((2:Nat)-(1:Nat))+nat_lit 1),((1:Nat),1+((2:Nat)-(1:Nat))+((2:Nat)-(1:Nat))+nat_lit 0),((4:Nat),1+((2:Nat)-(1:Nat))+((2:Nat)-(1:Nat))+nat_lit 3),((3:Nat),1+((2:Nat)-(1:Nat))+((2:Nat)-(1:Nat))+nat_lit 2),((0:Nat),1+nat_lit 0)]) [sV e.p.code,V.own 3,zA e.p.tick,zA e.p.low,zA e.p.high,zA e.p.wide,zA e.p.rule,zA e.p.top,zA e.p.least,zA e.p.part,V.own 4,V.own 1,V.mp 2]) (182:TypeId)=Sx.AObj.cells (jD (g7 5 (1+((2:Nat)-(1:Nat))+((2:Nat)-(1:Nat))+((5:Nat)-(1:Nat))) ((6:Nat)-(5:Nat)) [((2:Nat),1+((2:Nat)-(1:Nat))+((2:Nat)-(1:Nat))+nat_lit 1),((1:Nat),1+((2:Nat)-(1:Nat))+((2:Nat)-(1:Nat))+nat_lit 0),((4:Nat),1+((2:Nat)-(1:Nat))+((2:Nat)-(1:Nat))+nat_lit 3),((3:Nat),1+((2:Nat)-(1:Nat))+((2:Nat)-(1:Nat))+nat_lit 2),((0:Nat),1+nat_lit 0)]) [sV e.p.code,V.own 3,zA e.p.tick,zA e.p.low,zA e.p.high,zA e.p.wide,zA e.p.rule,zA e.p.top,zA e.p.least,zA e.p.part,V.own 4,V.own 1,V.mp 2]) (182:TypeId)∧AObj.objs 184 Book 6 zP e.books none=AObj.objs 184 Book 6 zP e.books none∧Sx.AObj.map (yN e.wh)=Sx.AObj.map (yN e.wh)∧AObj.fro 1 (iE e.p.months)=AObj.fro 1 (iE e.p.months)∧AObj.fro 1 (iE e.p.settle)=AObj.fro 1 (iE e.p.settle)∧AObj.fro 6 (List.map zZ e.tops)=AObj.fro 6 (List.map zZ e.tops)∧AObj.fro 1 (iE d.p.months)=AObj.fro 1 (iE d.p.months)∧AObj.fro 1 (iE d.p.settle)=AObj.fro 1 (iE d.p.settle)∧AObj.own 260 4 (List.map kL c.r.steps)=AObj.own 260 4 (List.map kL c.r.steps)∧zD a=zD a)) (∃(q:Unit),uU i.p i.B i.inst i.sd i.price i.q=false∧zD i.s=zD a∧True))
open Go Cv Go.Proofs
theorem MSt.Rep.small {s:MSt} {p:Prd} {B:List (List zG)} (h:s.Rep p B) (hb:BOk p B):s.small:=by
 have:=xP p
 refine⟨by rw[h.bl,hb.bl];omega,fun b hm=> ?_⟩
 obtain⟨k,hk⟩:=yQs.1 hm
 have hlt:=(yOj.1 hk).1
 rw[h.bl]at hlt
 obtain⟨L,hL⟩:=z9 hlt
 obtain⟨Q,c,_⟩:=h.bk k b L hk hL
 exact c.small
theorem yBt (i:RunI) (h:scouldC.cnd i):zXm i:=by
 have h':i.ok:=h
 obtain⟨hR,hB,⟨h0,h1⟩,hq1,hq2⟩:=h'
 have hbl:=hR.bl
 have hl:=(bD (inst:=i.inst) (sd:=i.sd) (price:=i.price) _ i.q i.B (yPp _) (hR.wf hB)).2.2 (by omega)
 have er:i.r=kG i.p i.B i.inst i.sd i.price i.q:=rfl
 unfold zXm jX eD xV v9
 refine(fun hT=>zI (fun c=>zI (fun c2=>Cv.cnd.mk (fun _=>zI (fun _=>Cv.cnd.mk (fun e=>absurd hq2 (by simpa using e)) (fun _=>hT)) (fun e=>absurd hq1 e)) (fun e1=>Cv.cnd.mk (fun _=>zI (fun _=>Cv.cnd.mk (fun e=>absurd hq2 (by simpa using e)) (fun _=>hT)) (fun e=>absurd hq1 e)) (fun e2=>by
  rcases m3 i.sd with e|e
  ·rw[e]at e1;cases e1
  ·rw[e]at e2;cases e2))) (fun c2=>absurd (by omega) c2)) (fun c=>absurd h0 c)) ?_
 refine⟨i.s,rfl,rfl,rfl,rfl,rfl,rfl,rfl,rfl,rfl,rfl,rfl,rfl,rfl,hR.small hB,fun _ _=>⟨i,rfl,rfl,rfl,rfl,rfl,h,fun o ho=>⟨(),?_,rfl,trivial⟩⟩⟩
 rw[w64 (by rw[er];omega)]
theorem zZs:scouldC.ok Tryz.prog 110:=okw mixed (gokc zFh (gokc zTm gok0)) 2 (fun _=>[]) (fun _=>[]) [0] Tryz.func110 yBt
theorem z8k (i:SoI) (h:countC16.cnd i):zSa i:=by
 obtain⟨hR,hB⟩:i.s.Rep i.p i.B∧i.B.length≤1000:=h
 unfold zSa
 have e:(yN i.s.wh).length=tE i.B:=by rw[yN,yOm,hR.wh.length_eq,tE]
 exact⟨(),by rw[e],by(repeat'(first|exact trivial|exact rfl|apply And.intro))⟩
theorem zGo:countC16.ok Tryz.prog 56:=okw mixed gok0 0 (fun _=>[]) (fun _=>[]) [0] Tryz.func56 z8k
theorem zFj {p:Prd} {i n:Int} (h:p.price i n=0):0≤i∧i<p.count:=by
 rw[Prd.price]at h
 split at h
 ·cases h
 split at h
 ·cases h
 omega
theorem z7g (i:LpI) (h:lpricesC.cnd i):zRq i:=by
 obtain⟨hc,hp,hpr⟩:i.p.check=0∧i.p.small∧yQ i.price:=h
 unfold zRq gX yR yC jN xM dI
 refine⟨i.p,rfl,rfl,rfl,rfl,rfl,rfl,rfl,rfl,rfl,rfl,rfl,hp,fun _ _=>Cv.cnd.mk (fun e=>by rw[hc]at e;cases e) (fun _=> ?_)⟩
 refine⟨⟨i.p,i.inst⟩,rfl,rfl,rfl,rfl,rfl,rfl,rfl,rfl,rfl,rfl,rfl,rfl,hp,fun _ _=>Cv.cnd.mk (fun e=> ?_) (fun e=> ?_)⟩
 ·have e:(i.p.legs i.inst).2.2=false:=by simpa using e
  have h0:uT i.p i.inst i.price=(0,0,20):=by rw[uT,yOi e]
  rw[h0];exact⟨(),rfl,rfl,rfl,trivial⟩
 have e:(i.p.legs i.inst).2.2=true:=by simpa using e
 refine⟨⟨i.p,i.inst,i.price⟩,rfl,rfl,rfl,rfl,rfl,rfl,rfl,rfl,rfl,rfl,rfl,rfl,rfl,hp,fun _ _=>Cv.cnd.mk (fun e2=> ?_) (fun e2=> ?_)⟩
 ·have e2:¬i.p.price i.inst i.price=0:=by simpa using e2
  have h0:uT i.p i.inst i.price=(0,0,i.p.price i.inst i.price):=by rw[uT,yOh (by rw[e];decide),yOi e2]
  rw[h0];exact⟨(),rfl,rfl,rfl,trivial⟩
 have e2:i.p.price i.inst i.price=0:=by simpa using e2
 have hin:=zFj e2
 have hbd:=eL hc e2
 have ok:=wX hc
 have b1:=ok.b1
 have b2:=ok.b2
 have b3:=ok.b3
 have s1:=ok.s1
 have s2:=ok.s2
 have s3:=ok.s3
 obtain⟨k,hk⟩:∃k:Nat,i.inst=k:=⟨i.inst.toNat,by omega⟩
 have hl:=gP hc (k:=k) (by omega)
 rw[← hk]at hl
 rcases hl with⟨_,_,_,l3,l4⟩|⟨x,_⟩
 rotate_left
 ·rw[e]at x;cases x
 have hsl:(iE i.p.settle).length=i.p.settle.length:=y3 _
 obtain⟨n,hn⟩:=z9 (l:=i.p.settle) (i:=(i.p.legs i.inst).2.1.toNat) (by omega)
 have hm:=yOv hn
 have m1:=yCn hm
 have m2:=yBs hm
 have hg:i.p.settle.getD (i.p.legs i.inst).2.1.toNat 0=n:=zS hn
 have h0:uT i.p i.inst i.price=(if(if i.p.high<n+i.price then(i.p.high,i.p.high-i.price)else(n+i.price,n)).1<i.p.low then(i.p.low,i.p.low-i.price,0)else((if i.p.high<n+i.price then(i.p.high,i.p.high-i.price)else(n+i.price,n)).1,(if i.p.high<n+i.price then(i.p.high,i.p.high-i.price)else(n+i.price,n)).2,0)):=by
  rw[uT,yOh (by rw[e];decide),yOh (by rw[e2];decide)]
  dsimp only
  rw[hg]
 dsimp only
 refine⟨⟨l3,by omega⟩,n,elI hn,(0,0),fun a=>a=if i.p.high<n+i.price then(i.p.high,i.p.high-i.price)else(n+i.price,n),zI (fun c=>⟨(i.p.high,i.p.high-i.price),rfl,(w64 (by omega)).symm,?_,by(repeat'(first|exact trivial|exact rfl|apply And.intro))⟩) (fun c=>⟨(n+i.price,n),(w64 (by omega)).symm,rfl,?_,by(repeat'(first|exact trivial|exact rfl|apply And.intro))⟩),?_⟩
 ·rw[w64 (by omega)]at c;rw[yOi c]
 ·rw[w64 (by omega)]at c;rw[yOh c]
 rintro _ rfl
 generalize (if i.p.high<n+i.price then(i.p.high,i.p.high-i.price)else(n+i.price,n))=a at h0 ⊢
 refine⟨(0,0),fun b=>b=if a.1<i.p.low then(i.p.low,i.p.low-i.price)else a,zI (fun c=>⟨(i.p.low,i.p.low-i.price),rfl,(w64 (by omega)).symm,by rw[yOi c],by(repeat'(first|exact trivial|exact rfl|apply And.intro))⟩) (fun c=>⟨a,rfl,rfl,by rw[yOh c],by(repeat'(first|exact trivial|exact rfl|apply And.intro))⟩),?_⟩
 rintro _ rfl
 rw[h0]
 by_cases c:a.1<i.p.low
 ·rw[yOi c,yOi c];exact⟨(),rfl,rfl,rfl,trivial⟩
 ·rw[yOh c,yOh c];exact⟨(),rfl,rfl,rfl,trivial⟩
theorem zUp:lpricesC.ok Tryz.prog 222:=okw mixed (gokc eY (gokc rA (gokc nQ gok0))) 0 (fun _=>lpJ) (fun _=>[]) [] Tryz.func222 z7g
theorem z9r {l:List Quote} {k:Nat} {q:Quote} (h:l[k]? =some q):zE (l.map zH) k 0 6=some [D.v (.int .i64 q.price),D.v (.int .i64 q.qty),D.v (.int .i64 q.a.inst),D.v (.int .i64 q.a.side),D.v (.int .i64 q.b.inst),D.v (.int .i64 q.b.side)]:=elA h (by simp[zH]) rfl
theorem yJf (i:RunI) (h:stuckC.cnd i):z4h i:=by
 have h':i.ok:=h
 obtain⟨hR,hB,⟨h0,h1⟩,hq1,hq2⟩:=h'
 have hwf:=hR.wf hB
 obtain⟨k1,k2,k3⟩:=bD (inst:=i.inst) (sd:=i.sd) (price:=i.price) _ i.q i.B (yPp _) hwf
 have hcl:=xP i.p
 unfold z4h tP xV v9 uB qT wD hZ b7 dI
 refine⟨i.s,rfl,hR.small hB,fun _ _=>⟨i,rfl,rfl,rfl,rfl,rfl,h,fun o ho=> ?_⟩⟩
 have er:i.r=kG i.p i.B i.inst i.sd i.price i.q:=rfl
 have es:uU i.p i.B i.inst i.sd i.price i.q=(decide ((kG i.p i.B i.inst i.sd i.price i.q).left≠0) && (x4 ⟨i.p,(kG i.p i.B i.inst i.sd i.price i.q).B.map xO,i.inst⟩ (zC (!i.sd))).any fun x=>fA i.sd i.price x.price):=rfl
 rw[er]at ho ⊢
 rw[es]
 generalize kG i.p i.B i.inst i.sd i.price i.q=R at*
 obtain⟨ts,lf,RB⟩:=R
 dsimp only at*
 refine Cv.cnd.mk (fun e=>⟨(),?_,rfl,trivial⟩) (fun e=> ?_)
 ·have e:lf=0:=by simpa using e
  rw[e];rfl
 have e:lf≠0:=by simpa using e
 rw[yPd e,yRg]
 have ep:=ho.ep
 have hB':=k1.ok
 have hbl:=hB'.bl
 have hcnt:o.cntOk:=ho.cnt (by omega)
 have hps:o.p.small:=by rw[ep];exact hB'.ps
 have hto:wC (RB.map xO):=hB'.tops
 have hle:=zFe ⟨o.p,RB.map xO,i.inst⟩ (zC (!i.sd))
 refine⟨o,rfl,rfl,rfl,rfl,rfl,rfl,rfl,rfl,rfl,rfl,rfl,rfl,rfl,hcnt,fun _ _=>⟨⟨rfl,trivial,rfl,rfl,rfl,rfl,rfl,rfl,rfl,rfl,trivial,trivial⟩,i.sd,rfl,trivial,fun _ _=>⟨⟨rfl,trivial,rfl,rfl,rfl,rfl,rfl,rfl,rfl,rfl,trivial,trivial⟩,⟨⟨o.p,RB.map xO,i.inst⟩,!i.sd⟩,rfl,rfl,rfl,rfl,rfl,rfl,rfl,rfl,rfl,rfl,rfl,by rw[ho.tops],rfl,rfl,⟨hps,hto⟩,fun _ _=> ?_⟩⟩⟩
 dsimp only
 rw[← ep]
 generalize x4 ⟨o.p,RB.map xO,i.inst⟩ (zC (!i.sd))=Q at*
 have e4:(Q.map zH).length=Q.length:=yOm ..
 refine⟨0,rfl,fun j=>j≤Q.length∧(Q.take j).any (fun x=>fA i.sd i.price x.price)=false,fun j=>Q.length-j,⟨yPv _,rfl⟩,?_⟩
 rintro j ⟨j1,j2⟩
 refine zI (fun c=> ?_) (fun c=>⟨(),?_,rfl,trivial⟩)
 ·obtain⟨q,hq⟩:=z9 (l:=Q) (i:=j) (by omega)
  refine⟨⟨by omega,by omega⟩,_,_,_,_,_,_,z9r hq,⟨i.sd,i.price,q.price⟩,rfl,rfl,rfl,trivial,fun _ _=>Cv.cnd.mk (fun g=>⟨(),?_,rfl,trivial⟩) (fun g=>⟨j+1,wjn (by omega),⟨by omega,?_⟩,by dsimp only;omega,by(repeat'(first|exact trivial|exact rfl|apply And.intro))⟩)⟩
  ·rw[List.any_eq_true];exact⟨q,yOv hq,g⟩
  ·rw[yQd,hq,List.any_append,j2]
   show(false||([q].any fun x=>fA i.sd i.price x.price))=false
   simp only[List.any_cons,List.any_nil,Bool.or_false,Bool.false_or]
   exact g
 ·have:j=Q.length:=by omega
  rw[this,yOx (yPp _)]at j2
  exact j2
theorem zPw:stuckC.ok Tryz.prog 111:=okw mixed (gokc zFh (gokc zTm (gokc zOw (gokc z4l (gokc zJv (gokc zPd gok0)))))) 0 (fun _=>yFb) (fun _=>yJe) [] Tryz.func111 yJf
open Go Cv Go.Proofs
def cT (c:Cmd) (why:Int):List Rep:=[⟨2,c.id,0,0,0,0,0,why⟩]
def ofF (x:kT) (k:Int):Int:=match x.fills.find? fun f=>decide (f.inst=k)with
 |some f=>f.price
 |none=>x.price
def k0 (p:Prd) (inst:Int) (x:kT):Int×Int:=if x.implied=false then((uT p inst x.price).1,(uT p inst x.price).2.1)else(ofF x (p.legs inst).1,ofF x (p.legs inst).2.1)
def zDt (p:Prd) (r:Rep) (near far:Int):List Rep:=[{r with inst:=(p.legs r.inst).1,price:=near},{r with inst:=(p.legs r.inst).2.1,side:=3-r.side,price:=far}]
def m9 (p:Prd) (x:kT) (r:Rep):List Rep:=r::if(p.legs r.inst).2.2=true then zDt p r (k0 p r.inst x).1 (k0 p r.inst x).2 else[]
def eU (f:gW):Rep:=⟨3,f.id,f.inst,f.side,f.price,f.qty,f.left,0⟩
def bK (p:Prd) (c:Cmd) (x:kT) (left:Int):List Rep:=x.fills.flatMap (fun f=>m9 p x (eU f))++m9 p x ⟨3,c.id,c.inst,c.side,x.price,x.qty,left,0⟩
def aT (p:Prd) (c:Cmd):List kT→Int→List Rep
 |[],_=>[]
 |x::l,left=>bK p c x (left-x.qty)++aT p c l (left-x.qty)
structure MkX where
 B:List (List zG)
 U:List Int
 R:List Rep
def zDh (U:List Int) (id:Int):List Int:=if id∈U then U else U++[id]
def dV (p:Prd) (B:List (List zG)) (U:List Int) (c:Cmd):MkX:=match kG p B c.inst (decide (c.side=2)) c.price c.qty with
 |⟨ts,left,B'⟩=>⟨if left≠0∧c.time=1 then(zMg p B' c.inst c.id c.side c.price left).1 else B',zDh U c.id,
  (⟨1,c.id,c.inst,c.side,c.price,c.qty,c.qty,0⟩::aT p c ts c.qty)++if left≠0∧c.time≠1 then[⟨4,c.id,c.inst,c.side,c.price,left,0,0⟩]else[]⟩
def Cmd.lst (c:Cmd):Int:=if c.time=3 then c.qty else c.least
def cR (p:Prd) (B:List (List zG)) (U:List Int) (c:Cmd):MkX:=
 if p.price c.inst c.price≠0 then⟨B,U,cT c (p.price c.inst c.price)⟩
 else if c.id∈U then⟨B,U,cT c 25⟩
 else if 250≤tE B then⟨B,U,cT c 13⟩
 else if 0<c.lst∧c.qty-(kG p B c.inst (decide (c.side=2)) c.price c.qty).left<c.lst then⟨B,U,cT c 28⟩
 else if c.time=1∧uU p B c.inst (decide (c.side=2)) c.price c.qty=true then⟨B,U,cT c 23⟩
 else dV p B U c
def vN (B:List (List zG)) (U:List Int) (id inst:Int) (o:zG):MkX:=⟨(xZ B id o.qty).1,U,[⟨4,id,inst,o.side,o.price,o.qty,0,0⟩]⟩
def aY (B:List (List zG)) (U:List Int) (id q inst:Int) (o:zG):MkX:=⟨(xZ B id q).1,U,[⟨5,id,inst,o.side,o.price,q,o.qty-q,0⟩]⟩
def gS (p:Prd) (B:List (List zG)) (U:List Int) (c:Cmd) (inst:Int) (o:zG):MkX:=
 if p.price inst c.price≠0 then⟨B,U,cT c (p.price inst c.price)⟩
 else if c.price=o.price∧c.qty≤o.qty then aY B U c.id (o.qty-c.qty) inst o
 else if uU p (xZ B c.id o.qty).1 inst (decide (o.side=2)) c.price c.qty=true then⟨B,U,cT c 23⟩
 else
  let x:=vN B U c.id inst o
  let y:=dV p x.B U ⟨1,c.id,inst,o.side,c.price,c.qty,0,1,[]⟩
  ⟨y.B,y.U,x.R++y.R⟩
def doF (p:Prd) (B:List (List zG)) (U:List Int) (c:Cmd):MkX:=
 if c.right≠0 then⟨B,U,cT c c.right⟩
 else if c.kind=1 then cR p B U c
 else if(zQ B c.id).2.2=false then⟨B,U,cT c 26⟩
 else if c.kind=4 then gS p B U c (zQ B c.id).1 (zQ B c.id).2.1
 else if c.kind=2∨(zQ B c.id).2.1.qty≤c.qty then vN B U c.id (zQ B c.id).1 (zQ B c.id).2.1
 else aY B U c.id c.qty (zQ B c.id).1 (zQ B c.id).2.1
structure Mkt.Rep (m:Mkt) (p:Prd) (B:List (List zG)) (U:List Int):Prop where
 ep:m.p=p
 s:m.s.Rep p B
 u:m.used=U
@[reducible] def lX (m:Mkt):List AObj:=[yM m 0,yM m 1,yM m 2,yM m 3,yM m 4]
@[reducible] def yDr (x:kT):V:= .agg [zA x.price,zA x.qty,yJ x.implied,roV 6 (x.fills.map yL)]
@[reducible] def tRp:Nat:=40
@[reducible] def zTd (l:List Rep):AObj:= .own tRp 8 (l.map xB)
structure RjI where
 c:Cmd
 why:Int
def rejC:Con:=con1 RjI (fun i=>[zDg i.c,zA i.why]) (fun _=>[]) (fun _=>True) (fun _=> .own 0) (fun i=>[zTd (cT i.c i.why)])
structure MsI where
 m:Mkt
 r:Rep
 near:Int
 far:Int
@[reducible] def Mkt.fine (m:Mkt):Prop:=m.p.check=0∧m.p.small
def mspreadC:Con:=con1 MsI (fun i=>[.nm 0 0,yNu i.r,zA i.near,zA i.far]) (fun i=>lX i.m) (fun i=>i.m.fine∧(i.r.side=1∨i.r.side=2)) (fun _=> .own 5) (fun i=>lX i.m++[zTd (zDt i.m.p i.r i.near i.far)])
structure MiN where
 m:Mkt
 inst:Int
def misC:Con:=con1 MiN (fun i=>[.nm 0 0,zA i.inst]) (fun i=>lX i.m) (fun i=>i.m.fine) (fun i=>yJ (i.m.p.legs i.inst).2.2) (fun i=>lX i.m)
structure OfI where
 x:kT
 k:Int
@[reducible] def zSk (x:kT) (n:Nat):List AObj:=[.cells [zA x.price,zA x.qty,yJ x.implied,.own n] 260,.fro 6 (x.fills.map yL)]
def ofC:Con:=con1 OfI (fun i=>[zA i.k,.nm 0 0]) (fun i=>zSk i.x 1) (fun i=>i.x.fills.length≤1000000) (fun i=>zA (ofF i.x i.k)) (fun i=>zSk i.x 1)
def ofA:List SAnn:=[{ι:=Nat,slots:=fun j=>[(9,zA j)],rows:=fun _=>[]}]
structure MpI where
 m:Mkt
 inst:Int
 x:kT
def mpricesC:Con:=con1 MpI (fun i=>[.nm 0 0,zA i.inst,yDr i.x]) (fun i=>lX i.m) (fun i=>i.m.fine∧yQ i.x.price∧i.x.fills.length≤1000000) (fun i=> .tup [zA (k0 i.m.p i.inst i.x).1,zA (k0 i.m.p i.inst i.x).2]) (fun i=>lX i.m)
structure StI' where
 m:Mkt
 c:Cmd
 x:kT
 left:Int
def StI'.out (i:StI') (j:Nat):List Rep:=(i.x.fills.take j).flatMap fun f=>m9 i.m.p i.x (eU f)
def mstepC:Con:=con1 StI' (fun i=>[.nm 0 0,zDg i.c,yDr i.x,zA i.left]) (fun i=>lX i.m) (fun i=>i.m.fine∧yQ i.x.price∧i.x.fills.length≤1000000∧(i.c.side=1∨i.c.side=2)∧∀f∈i.x.fills,f.side=1∨f.side=2) (fun _=> .own 5) (fun i=>lX i.m++[zTd (bK i.m.p i.c i.x i.left)])
def yFt (i:StI'):List SAnn:=[{ι:=Nat,slots:=fun j=>[(9,.nm 0 0),(17,zA j)],rows:=fun j=>[.cells [.own 1] 61,zTd (i.out j)]}]
open Go Cv Go.Proofs
def yOc (i:RjI):Prop:=
 ∃(o:Unit),[xB (Rep.mk 2 i.c.id 0 0 0 0 0 i.why)]=[[D.v (.int .i64 2),D.v (.int .i64 i.c.id),D.v (.int .i64 0),D.v (.int .i64 0),D.v (.int .i64 0),D.v (.int .i64 0),D.v (.int .i64 0),D.v (.int .i64 i.why)]]∧True
def wO (a:MsI):Prop:=a.r.kind=a.r.kind∧a.r.id=a.r.id∧a.r.inst=a.r.inst∧a.r.side=a.r.side∧a.r.price=a.r.price∧a.r.qty=a.r.qty∧a.r.left=a.r.left∧a.r.why=a.r.why∧True
def uK (a:MsI):=(Rep.mk a.r.kind a.r.id (a.m.p.legs a.r.inst).snd.fst (3-a.r.side) a.far a.r.qty a.r.left a.r.why)
def uO (a:MsI):=(Rep.mk a.r.kind a.r.id (a.m.p.legs a.r.inst).fst a.r.side a.near a.r.qty a.r.left a.r.why)
def pF (a:MsI) (b:sR):Prop:=(wO a)∧(wO a)∧(wO a)∧(wO a)∧(wO a)∧a.r.side=a.r.side∧∃(c:Unit),sb a.m.p.code=sb a.m.p.code∧a.m.p.tick=a.m.p.tick∧a.m.p.low=a.m.p.low∧a.m.p.high=a.m.p.high∧a.m.p.wide=a.m.p.wide∧a.m.p.rule=a.m.p.rule∧a.m.p.top=a.m.p.top∧a.m.p.least=a.m.p.least∧a.m.p.part=a.m.p.part∧zD a.m.s=yM a.m 1∧zY a.m.used=zY a.m.used∧AObj.fro 1 (iE a.m.p.months)=yM a.m 3∧AObj.fro 1 (iE a.m.p.settle)=yM a.m 4∧[xB (uO a),xB (uK a)]=[[dI a.r.kind,dI a.r.id,dI ((b.p.legs b.n).fst),dI a.r.side,dI a.near,dI a.r.qty,dI a.r.left,dI a.r.why],[dI a.r.kind,dI a.r.id,dI (jM b),dI (IntKind.i64.wrap (3-a.r.side)),dI a.far,dI a.r.qty,dI a.r.left,dI a.r.why]]∧True
def zRt (i:MsI):Prop:=
 ∃(a:sR),sb a.p.code=sb i.m.p.code∧iE a.p.months=iE i.m.p.months∧a.p.tick=i.m.p.tick∧a.p.low=i.m.p.low∧a.p.high=i.m.p.high∧a.p.wide=i.m.p.wide∧a.p.rule=i.m.p.rule∧a.p.top=i.m.p.top∧a.p.least=i.m.p.least∧a.p.part=i.m.p.part∧iE a.p.settle=iE i.m.p.settle∧a.n=i.r.inst∧(jN a)∧∀(b:Unit),True→(pF i a)∧pF i a
def yMq (i:MiN):Prop:=
 ∃(i_1:sR),sb i_1.p.code=sb i.m.p.code∧iE i_1.p.months=iE i.m.p.months∧i_1.p.tick=i.m.p.tick∧i_1.p.low=i.m.p.low∧i_1.p.high=i.m.p.high∧i_1.p.wide=i.m.p.wide∧i_1.p.rule=i.m.p.rule∧i_1.p.top=i.m.p.top∧i_1.p.least=i.m.p.least∧i_1.p.part=i.m.p.part∧iE i_1.p.settle=iE i.m.p.settle∧i_1.n=i.inst∧(i_1.p.code.length≤1099511627776∧i_1.p.months.length≤1099511627776∧i_1.p.settle.length≤1099511627776)∧∀(o:Unit),True→∃(o:Unit),(i.m.p.legs i.inst).snd.snd=(i_1.p.legs i_1.n).snd.snd∧sb i.m.p.code=sb i.m.p.code∧i.m.p.tick=i.m.p.tick∧i.m.p.low=i.m.p.low∧i.m.p.high=i.m.p.high∧i.m.p.wide=i.m.p.wide∧i.m.p.rule=i.m.p.rule∧i.m.p.top=i.m.p.top∧i.m.p.least=i.m.p.least∧i.m.p.part=i.m.p.part∧zD i.m.s=yM i.m 1∧zY i.m.used=zY i.m.used∧AObj.fro 1 (iE i.m.p.months)=yM i.m 3∧AObj.fro 1 (iE i.m.p.settle)=yM i.m 4∧True
def zLu (a:OfI):Prop:=a.x.price=a.x.price∧a.x.qty=a.x.qty∧a.x.implied=a.x.implied∧AObj.fro 6 (List.map yL a.x.fills)=AObj.fro 6 (List.map yL a.x.fills)∧True
def Vof (i:OfI):Prop:=
 ∃(a:Nat),(↑a:Int)=0∧∃(b:Nat→Prop),∃(c:Nat→Nat),b a∧∀(d:Nat),b d→cnd (decide ((↑d:Int)<(↑(List.map yL i.x.fills).length:Int))) ((0≤(↑d:Int)∧(↑d:Int)<(↑(List.map yL i.x.fills).length:Int))∧∃(e:Int),∃(f:Int),∃(g:Int),∃(h:Int),∃(j:Int),∃(k:Int),zE (List.map yL i.x.fills) (↑d:Int).toNat 0 6=some [dI e,dI f,dI g,dI h,dI j,dI k]∧cnd (f==i.k) (∃(l:Unit),ofF i.x i.k=h∧zLu i) (∃(l:Nat),(↑l:Int)=IntKind.i64.wrap ((↑d:Int)+1)∧b l∧c l<c d∧Sx.AObj.cells [zA i.x.price,zA i.x.qty,yJ i.x.implied,V.own 1] (260:TypeId)=Sx.AObj.cells [zA i.x.price,zA i.x.qty,yJ i.x.implied,V.own 1] (260:TypeId)∧AObj.fro 6 (List.map yL i.x.fills)=AObj.fro 6 (List.map yL i.x.fills))) (∃(e:Unit),ofF i.x i.k=i.x.price∧zLu i)
def nV (a:MpI):Prop:=sb a.m.p.code=sb a.m.p.code∧a.m.p.tick=a.m.p.tick∧a.m.p.low=a.m.p.low∧a.m.p.high=a.m.p.high∧a.m.p.wide=a.m.p.wide∧a.m.p.rule=a.m.p.rule∧a.m.p.top=a.m.p.top∧a.m.p.least=a.m.p.least∧a.m.p.part=a.m.p.part∧zD a.m.s=yM a.m 1∧zY a.m.used=zY a.m.used∧AObj.fro 1 (iE a.m.p.months)=yM a.m 3∧AObj.fro 1 (iE a.m.p.settle)=yM a.m 4∧True
def xU (a:MpI):=(k0 a.m.p a.inst a.x)
def zQg (i:MpI):Prop:=
 cnd (!i.x.implied) (∃(a:LpI),sb a.p.code=sb i.m.p.code∧iE a.p.months=iE i.m.p.months∧a.p.tick=i.m.p.tick∧a.p.low=i.m.p.low∧a.p.high=i.m.p.high∧a.p.wide=i.m.p.wide∧a.p.rule=i.m.p.rule∧a.p.top=i.m.p.top∧a.p.least=i.m.p.least∧a.p.part=i.m.p.part∧iE a.p.settle=iE i.m.p.settle∧a.inst=i.inst∧a.price=i.x.price∧(a.p.check=0∧(a.p.code.length≤1099511627776∧a.p.months.length≤1099511627776∧a.p.settle.length≤1099511627776)∧(-9223372036854775808)≤a.price∧a.price≤9223372036854775807)∧∀(b:Unit),True→∃(c:Unit),(xU i).fst=(yR a).fst∧(xU i).snd=(yR a).snd.fst∧nV i) (∃(a:sR),sb a.p.code=sb i.m.p.code∧iE a.p.months=iE i.m.p.months∧a.p.tick=i.m.p.tick∧a.p.low=i.m.p.low∧a.p.high=i.m.p.high∧a.p.wide=i.m.p.wide∧a.p.rule=i.m.p.rule∧a.p.top=i.m.p.top∧a.p.least=i.m.p.least∧a.p.part=i.m.p.part∧iE a.p.settle=iE i.m.p.settle∧a.n=i.inst∧(jN a)∧∀(b:Unit),True→∃(c:OfI),c.k=(a.p.legs a.n).fst∧c.x.price=i.x.price∧c.x.qty=i.x.qty∧c.x.implied=i.x.implied∧AObj.fro 6 (List.map yL c.x.fills)=AObj.fro 6 (List.map yL i.x.fills)∧c.x.fills.length≤1000000∧∀(d:Unit),True→∃(e:OfI),e.k=(a.p.legs a.n).snd.fst∧e.x.price=c.x.price∧e.x.qty=c.x.qty∧e.x.implied=c.x.implied∧AObj.fro 6 (List.map yL e.x.fills)=AObj.fro 6 (List.map yL c.x.fills)∧e.x.fills.length≤1000000∧∀(f:Unit),True→∃(g:Unit),(xU i).fst=ofF c.x c.k∧(xU i).snd=ofF e.x e.k∧nV i)
def tH (a:MpI):Prop:=(a.m.p.check=0∧a.m.p.code.length≤1099511627776∧a.m.p.months.length≤1099511627776∧a.m.p.settle.length≤1099511627776)∧((-9223372036854775808)≤a.x.price∧a.x.price≤9223372036854775807)∧a.x.fills.length≤1000000
def sK (a:MsI):Prop:=(a.m.p.check=0∧a.m.p.code.length≤1099511627776∧a.m.p.months.length≤1099511627776∧a.m.p.settle.length≤1099511627776)∧(a.r.side=1∨a.r.side=2)
def tN (a:MiN):Prop:=a.m.p.check=0∧a.m.p.code.length≤1099511627776∧a.m.p.months.length≤1099511627776∧a.m.p.settle.length≤1099511627776
def f0 (a:StI'):=(D.v (Value.string (sb a.c.label)))
def z7s (i:StI'):Prop:=
 ∃(a:Nat),(↑a:Int)=0∧List.map xB (i.out a)=[]∧∃(b:Nat→Prop),∃(c:Nat→Nat),b a∧∀(d:Nat),b d→cnd (decide ((↑d:Int)<(↑(List.map yL i.x.fills).length:Int))) ((0≤(↑d:Int)∧(↑d:Int)<(↑(List.map yL i.x.fills).length:Int))∧∃(e:Int),∃(f:Int),∃(g:Int),∃(h:Int),∃(j:Int),∃(k:Int),zE (List.map yL i.x.fills) (↑d:Int).toNat 0 6=some [dI e,dI f,dI g,dI h,dI j,dI k]∧((List.map xB (i.out d)).length+1)*(64:Nat)≤(70368744177664:Nat)∧∃(l:MiN),l.inst=f∧sb l.m.p.code=sb i.m.p.code∧l.m.p.tick=i.m.p.tick∧l.m.p.low=i.m.p.low∧l.m.p.high=i.m.p.high∧l.m.p.wide=i.m.p.wide∧l.m.p.rule=i.m.p.rule∧l.m.p.top=i.m.p.top∧l.m.p.least=i.m.p.least∧l.m.p.part=i.m.p.part∧zD l.m.s=yM i.m 1∧zY l.m.used=zY i.m.used∧AObj.fro 1 (iE l.m.p.months)=yM i.m 3∧AObj.fro 1 (iE l.m.p.settle)=yM i.m 4∧(tN l)∧∀(m:Unit),True→cnd (l.m.p.legs l.inst).snd.snd (∃(n:MpI),n.inst=f∧n.x.price=i.x.price∧n.x.qty=i.x.qty∧n.x.implied=i.x.implied∧List.map yL n.x.fills=List.map yL i.x.fills∧sb n.m.p.code=sb l.m.p.code∧n.m.p.tick=l.m.p.tick∧n.m.p.low=l.m.p.low∧n.m.p.high=l.m.p.high∧n.m.p.wide=l.m.p.wide∧n.m.p.rule=l.m.p.rule∧n.m.p.top=l.m.p.top∧n.m.p.least=l.m.p.least∧n.m.p.part=l.m.p.part∧zD n.m.s=zD l.m.s∧zY n.m.used=zY l.m.used∧AObj.fro 1 (iE n.m.p.months)=AObj.fro 1 (iE l.m.p.months)∧AObj.fro 1 (iE n.m.p.settle)=AObj.fro 1 (iE l.m.p.settle)∧(tH n)∧∀(p:Unit),True→∃(q:MsI),q.r.kind=3∧q.r.id=e∧q.r.inst=f∧q.r.side=g∧q.r.price=h∧q.r.qty=j∧q.r.left=k∧q.r.why=0∧q.near=(xU n).fst∧q.far=(xU n).snd∧sb q.m.p.code=sb n.m.p.code∧q.m.p.tick=n.m.p.tick∧q.m.p.low=n.m.p.low∧q.m.p.high=n.m.p.high∧q.m.p.wide=n.m.p.wide∧q.m.p.rule=n.m.p.rule∧q.m.p.top=n.m.p.top∧q.m.p.least=n.m.p.least∧q.m.p.part=n.m.p.part∧zD q.m.s=zD n.m.s∧zY q.m.used=zY n.m.used∧AObj.fro 1 (iE q.m.p.months)=AObj.fro 1 (iE n.m.p.months)∧AObj.fro 1 (iE q.m.p.settle)=AObj.fro 1 (iE n.m.p.settle)∧(sK q)∧∀(r:Unit),True→True∧((List.map xB (i.out d)++[[dI 3,dI e,dI f,dI g,dI h,dI j,dI k,dI 0]]).length+2)*(64:Nat)≤(70368744177664:Nat)∧∃(s:Nat),(↑s:Int)=IntKind.i64.wrap ((↑d:Int)+1)∧List.map xB (i.out s)=List.map xB (i.out d)++[[dI 3,dI e,dI f,dI g,dI h,dI j,dI k,dI 0]]++[xB (uO q),xB (uK q)]∧b s∧c s<c d∧Sx.AObj.cells [V.d (dI i.x.price),V.d (dI i.x.qty),V.d (D.v (.bool i.x.implied)),V.own ((5:Nat)+(1:Nat)+1)] 260=Sx.AObj.cells [V.d (dI i.x.price),V.d (dI i.x.qty),V.d (D.v (.bool i.x.implied)),V.own ((5:Nat)+(1:Nat)+1)] 260∧AObj.fro 6 (List.map yL i.x.fills)=AObj.fro 6 (List.map yL i.x.fills)∧Sx.AObj.cells [V.d (dI i.c.kind),V.d (dI i.c.id),V.d (dI i.c.inst),V.d (dI i.c.side),V.d (dI i.c.price),V.d (dI i.c.qty),V.d (dI i.c.least),V.d (dI i.c.time),V.d (f0 i)] 36=Sx.AObj.cells [V.d (dI i.c.kind),V.d (dI i.c.id),V.d (dI i.c.inst),V.d (dI i.c.side),V.d (dI i.c.price),V.d (dI i.c.qty),V.d (dI i.c.least),V.d (dI i.c.time),V.d (f0 i)] 36∧Sx.AObj.cells [V.nm 0 0] 53=Sx.AObj.cells [V.nm 0 0] 53∧Sx.AObj.cells (jD (g7 5 ((5:Nat)+(1:Nat)+(1:Nat)+(1:Nat)+(1:Nat)+(1:Nat)+(1:Nat)+(2:Nat)+(1:Nat)+(1:Nat)+(1:Nat)+(1:Nat)+((5:Nat)-(5:Nat))+((5:Nat)-(5:Nat))) ((6:Nat)-(5:Nat)) [((2:Nat),(2:Nat)),((1:Nat),(1:Nat)),((4:Nat),(4:Nat)),((3:Nat),(3:Nat)),((0:Nat),(0:Nat))]) [sV q.m.p.code,V.own 3,zA q.m.p.tick,zA q.m.p.low,zA q.m.p.high,zA q.m.p.wide,zA q.m.p.rule,zA q.m.p.top,zA q.m.p.least,zA q.m.p.part,V.own 4,V.nm 1 0,V.mp 2]) (121:TypeId)=yM i.m 0∧zD q.m.s=yM i.m 1∧Sx.AObj.map (zY q.m.used)=yM i.m 2∧AObj.fro 1 (iE q.m.p.months)=yM i.m 3∧AObj.fro 1 (iE q.m.p.settle)=yM i.m 4) (∃(n:Nat),(↑n:Int)=IntKind.i64.wrap ((↑d:Int)+1)∧List.map xB (i.out n)=List.map xB (i.out d)++[[dI 3,dI e,dI f,dI g,dI h,dI j,dI k,dI 0]]∧b n∧c n<c d∧Sx.AObj.cells [V.d (dI i.x.price),V.d (dI i.x.qty),V.d (D.v (.bool i.x.implied)),V.own ((5:Nat)+(1:Nat)+1)] 260=Sx.AObj.cells [V.d (dI i.x.price),V.d (dI i.x.qty),V.d (D.v (.bool i.x.implied)),V.own ((5:Nat)+(1:Nat)+1)] 260∧AObj.fro 6 (List.map yL i.x.fills)=AObj.fro 6 (List.map yL i.x.fills)∧Sx.AObj.cells [V.d (dI i.c.kind),V.d (dI i.c.id),V.d (dI i.c.inst),V.d (dI i.c.side),V.d (dI i.c.price),V.d (dI i.c.qty),V.d (dI i.c.least),V.d (dI i.c.time),V.d (f0 i)] 36=Sx.AObj.cells [V.d (dI i.c.kind),V.d (dI i.c.id),V.d (dI i.c.inst),V.d (dI i.c.side),V.d (dI i.c.price),V.d (dI i.c.qty),V.d (dI i.c.least),V.d (dI i.c.time),V.d (f0 i)] 36∧Sx.AObj.cells [V.nm 0 0] 53=Sx.AObj.cells [V.nm 0 0] 53∧Sx.AObj.cells (jD (g7 5 ((5:Nat)+(1:Nat)+(1:Nat)+(1:Nat)+(1:Nat)+(1:Nat)+(1:Nat)+(2:Nat)+(1:Nat)+(1:Nat)+(1:Nat)+(1:Nat)) ((5:Nat)-(5:Nat)) [((2:Nat),(2:Nat)),((1:Nat),(1:Nat)),((4:Nat),(4:Nat)),((3:Nat),(3:Nat)),((0:Nat),(0:Nat))]) [sV l.m.p.code,V.own 3,zA l.m.p.tick,zA l.m.p.low,zA l.m.p.high,zA l.m.p.wide,zA l.m.p.rule,zA l.m.p.top,zA l.m.p.least,zA l.m.p.part,V.own 4,V.nm 1 0,V.mp 2]) (121:TypeId)=yM i.m 0∧zD l.m.s=yM i.m 1∧Sx.AObj.map (zY l.m.used)=yM i.m 2∧AObj.fro 1 (iE l.m.p.months)=yM i.m 3∧AObj.fro 1 (iE l.m.p.settle)=yM i.m 4)) (((List.map xB (i.out d)).length+1)*(64:Nat)≤(70368744177664:Nat)∧∃(e:MiN),e.inst=i.c.inst∧sb e.m.p.code=sb i.m.p.code∧e.m.p.tick=i.m.p.tick∧e.m.p.low=i.m.p.low∧e.m.p.high=i.m.p.high∧e.m.p.wide=i.m.p.wide∧e.m.p.rule=i.m.p.rule∧e.m.p.top=i.m.p.top∧e.m.p.least=i.m.p.least∧e.m.p.part=i.m.p.part∧zD e.m.s=yM i.m 1∧zY e.m.used=zY i.m.used∧AObj.fro 1 (iE e.m.p.months)=yM i.m 3∧AObj.fro 1 (iE e.m.p.settle)=yM i.m 4∧(tN e)∧∀(f:Unit),True→cnd (e.m.p.legs e.inst).snd.snd (∃(g:MpI),g.inst=i.c.inst∧g.x.price=i.x.price∧g.x.qty=i.x.qty∧g.x.implied=i.x.implied∧List.map yL g.x.fills=List.map yL i.x.fills∧sb g.m.p.code=sb e.m.p.code∧g.m.p.tick=e.m.p.tick∧g.m.p.low=e.m.p.low∧g.m.p.high=e.m.p.high∧g.m.p.wide=e.m.p.wide∧g.m.p.rule=e.m.p.rule∧g.m.p.top=e.m.p.top∧g.m.p.least=e.m.p.least∧g.m.p.part=e.m.p.part∧zD g.m.s=zD e.m.s∧zY g.m.used=zY e.m.used∧AObj.fro 1 (iE g.m.p.months)=AObj.fro 1 (iE e.m.p.months)∧AObj.fro 1 (iE g.m.p.settle)=AObj.fro 1 (iE e.m.p.settle)∧(tH g)∧∀(h:Unit),True→∃(j:MsI),j.r.kind=3∧j.r.id=i.c.id∧j.r.inst=i.c.inst∧j.r.side=i.c.side∧j.r.price=i.x.price∧j.r.qty=i.x.qty∧j.r.left=i.left∧j.r.why=0∧j.near=(xU g).fst∧j.far=(xU g).snd∧sb j.m.p.code=sb g.m.p.code∧j.m.p.tick=g.m.p.tick∧j.m.p.low=g.m.p.low∧j.m.p.high=g.m.p.high∧j.m.p.wide=g.m.p.wide∧j.m.p.rule=g.m.p.rule∧j.m.p.top=g.m.p.top∧j.m.p.least=g.m.p.least∧j.m.p.part=g.m.p.part∧zD j.m.s=zD g.m.s∧zY j.m.used=zY g.m.used∧AObj.fro 1 (iE j.m.p.months)=AObj.fro 1 (iE g.m.p.months)∧AObj.fro 1 (iE j.m.p.settle)=AObj.fro 1 (iE g.m.p.settle)∧(sK j)∧∀(k:Unit),True→True∧((List.map xB (i.out d)++[[dI 3,dI i.c.id,dI i.c.inst,dI i.c.side,dI i.x.price,dI i.x.qty,dI i.left,dI 0]]).length+2)*(64:Nat)≤(70368744177664:Nat)∧∃(l:Unit),sb i.m.p.code=sb j.m.p.code∧i.m.p.tick=j.m.p.tick∧i.m.p.low=j.m.p.low∧i.m.p.high=j.m.p.high∧i.m.p.wide=j.m.p.wide∧i.m.p.rule=j.m.p.rule∧i.m.p.top=j.m.p.top∧i.m.p.least=j.m.p.least∧i.m.p.part=j.m.p.part∧zD i.m.s=zD j.m.s∧zY i.m.used=zY j.m.used∧AObj.fro 1 (iE i.m.p.months)=AObj.fro 1 (iE j.m.p.months)∧AObj.fro 1 (iE i.m.p.settle)=AObj.fro 1 (iE j.m.p.settle)∧List.map xB (bK i.m.p i.c i.x i.left)=List.map xB (i.out d)++[[dI 3,dI i.c.id,dI i.c.inst,dI i.c.side,dI i.x.price,dI i.x.qty,dI i.left,dI 0]]++[xB (uO j),xB (uK j)]∧True) (∃(g:Unit),sb i.m.p.code=sb e.m.p.code∧i.m.p.tick=e.m.p.tick∧i.m.p.low=e.m.p.low∧i.m.p.high=e.m.p.high∧i.m.p.wide=e.m.p.wide∧i.m.p.rule=e.m.p.rule∧i.m.p.top=e.m.p.top∧i.m.p.least=e.m.p.least∧i.m.p.part=e.m.p.part∧zD i.m.s=zD e.m.s∧zY i.m.used=zY e.m.used∧AObj.fro 1 (iE i.m.p.months)=AObj.fro 1 (iE e.m.p.months)∧AObj.fro 1 (iE i.m.p.settle)=AObj.fro 1 (iE e.m.p.settle)∧List.map xB (bK i.m.p i.c i.x i.left)=List.map xB (i.out d)++[[dI 3,dI i.c.id,dI i.c.inst,dI i.c.side,dI i.x.price,dI i.x.qty,dI i.left,dI 0]]∧True))
open Go Cv Go.Proofs
theorem zTj:rejC.ok Tryz.prog 58:=okw (V:=yOc) mixed gok0 0 (fun _=>[]) (fun _=>[]) [] Tryz.func58 fun(i:RjI) _=>⟨(),rfl,trivial⟩
theorem z7x (i:MsI) (h:mspreadC.cnd i):zRt i:=by
 obtain⟨⟨hc,hp⟩,hs⟩:i.m.fine∧(i.r.side=1∨i.r.side=2):=h
 have hw:IntKind.i64.wrap (3-i.r.side)=3-i.r.side:=w64 (by omega)
 unfold zRt pF uO uK wO jM jN dI
 rw[hw]
 refine⟨⟨i.m.p,i.r.inst⟩,rfl,rfl,rfl,rfl,rfl,rfl,rfl,rfl,rfl,rfl,rfl,rfl,hp,fun _ _=> ?_⟩
 exact kp
theorem zTv:mspreadC.ok Tryz.prog 193:=okw mixed (gokc rA gok0) 0 (fun _=>[]) (fun _=>[]) [] Tryz.func193 z7x
theorem yIr:misC.ok Tryz.prog 191:=okw (V:=yMq) mixed (gokc rA gok0) 0 (fun _=>[]) (fun _=>[]) [] Tryz.func191 fun(i:MiN) h=>by
 obtain⟨hc,hp⟩:i.m.fine:=h
 exact⟨⟨i.m.p,i.inst⟩,rfl,rfl,rfl,rfl,rfl,rfl,rfl,rfl,rfl,rfl,rfl,rfl,hp,fun _ _=>kp⟩
theorem yLg {l:List gW} {k:Nat} {f:gW} (h:l[k]? =some f):zE (l.map yL) k 0 6=some [D.v (.int .i64 f.id),D.v (.int .i64 f.inst),D.v (.int .i64 f.side),D.v (.int .i64 f.price),D.v (.int .i64 f.qty),D.v (.int .i64 f.left)]:=elA h (by simp[yL]) rfl
theorem vof (i:OfI) (h:ofC.cnd i):Vof i:=by
 have hl:i.x.fills.length≤1000000:=h
 have e4:(i.x.fills.map yL).length=i.x.fills.length:=yOm ..
 unfold Vof zLu dI
 refine⟨0,rfl,fun j=>j≤i.x.fills.length∧(i.x.fills.take j).find? (fun f=>decide (f.inst=i.k))=none,fun j=>i.x.fills.length-j,⟨yPv _,rfl⟩,?_⟩
 rintro j ⟨j1,j2⟩
 refine zI (fun c=> ?_) (fun c=> ?_)
 ·obtain⟨f,hf⟩:=z9 (l:=i.x.fills) (i:=j) (by omega)
  refine⟨⟨by omega,by omega⟩,_,_,_,_,_,_,yLg hf,Cv.cnd.mk (fun g=>⟨(),?_,by(repeat'(first|exact trivial|exact rfl|apply And.intro))⟩) (fun g=>⟨j+1,wjn (by omega),⟨by omega,?_⟩,by dsimp only;omega,by(repeat'(first|exact trivial|exact rfl|apply And.intro))⟩)⟩
  ·have g:f.inst=i.k:=by simpa using g
   have e:i.x.fills.find? (fun f=>decide (f.inst=i.k))=some f:=by
    rw[← yQu j i.x.fills,List.find?_append,j2,yQt (by omega),(yOj.1 hf).2,List.find?_cons_of_pos (by simpa using g)]
    rfl
   rw[ofF,e]
  ·have g:¬f.inst=i.k:=by simpa using g
   rw[yQd,hf,List.find?_append,j2]
   simp[g]
 ·have:j=i.x.fills.length:=by omega
  rw[this,yOx (yPp _)]at j2
  exact⟨(),by rw[ofF,j2],by(repeat'(first|exact trivial|exact rfl|apply And.intro))⟩
theorem yKk:ofC.ok Tryz.prog 223:=okw mixed gok0 0 (fun _=>[]) (fun _=>ofA) [] Tryz.func223 vof
theorem z5d (i:MpI) (h:mpricesC.cnd i):zQg i:=by
 obtain⟨⟨hc,hp⟩,hpr,hl⟩:i.m.fine∧yQ i.x.price∧i.x.fills.length≤1000000:=h
 unfold zQg nV xU yR jN
 refine Cv.cnd.mk (fun e=> ?_) (fun e=> ?_)
 ·have e:i.x.implied=false:=by simpa using e
  have h0:k0 i.m.p i.inst i.x=((uT i.m.p i.inst i.x.price).1,(uT i.m.p i.inst i.x.price).2.1):=by rw[k0,yOi e]
  rw[h0]
  exact⟨⟨i.m.p,i.inst,i.x.price⟩,rfl,rfl,rfl,rfl,rfl,rfl,rfl,rfl,rfl,rfl,rfl,rfl,rfl,⟨hc,hp,hpr⟩,fun _ _=>kp⟩
 ·have e:¬i.x.implied=false:=by simpa using e
  have h0:k0 i.m.p i.inst i.x=(ofF i.x (i.m.p.legs i.inst).1,ofF i.x (i.m.p.legs i.inst).2.1):=by rw[k0,yOh e]
  rw[h0]
  exact⟨⟨i.m.p,i.inst⟩,rfl,rfl,rfl,rfl,rfl,rfl,rfl,rfl,rfl,rfl,rfl,rfl,hp,fun _ _=>⟨⟨i.x,(i.m.p.legs i.inst).1⟩,rfl,rfl,rfl,rfl,rfl,hl,fun _ _=>⟨⟨i.x,(i.m.p.legs i.inst).2.1⟩,rfl,rfl,rfl,rfl,rfl,hl,fun _ _=>kp⟩⟩⟩
theorem zUl:mpricesC.ok Tryz.prog 192:=okw mixed (gokc rA (gokc zUp (gokc yKk gok0))) 0 (fun _=>[]) (fun _=>[]) [] Tryz.func192 z5d
theorem zEx (p:Prd) (x:kT) (r:Rep):(m9 p x r).length≤3:=by
 rw[m9,yOw]
 split
 ·rw[zDt];simp
 ·simp
theorem zVv {p:Prd} {x:kT} {r:Rep} (h:(p.legs r.inst).2.2=false):m9 p x r=[r]:=by
 rw[m9,yOh (by rw[h];decide)]
theorem zPj {p:Prd} {x:kT} {r:Rep} (h:(p.legs r.inst).2.2=true):m9 p x r=r::zDt p r (k0 p r.inst x).1 (k0 p r.inst x).2:=by
 rw[m9,yOi h]
theorem StI'.out_len (i:StI'):∀j,(i.out j).length≤3*j
 |0=>yPp _
 |j+1=>by
  have ih:=StI'.out_len i j
  rw[StI'.out]at ih ⊢
  rw[yQd,yQb,yOl]
  cases e:i.x.fills[j]? with
  |none=>simp only[Option.toList_none,ySy,yRl];omega
  |some f=>
   have:=zEx i.m.p i.x (eU f)
   simp only[ySi,yPy,ySy,yPe]
   omega
theorem StI'.out_succ (i:StI') {j:Nat} {f:gW} (h:i.x.fills[j]? =some f):i.out (j+1)=i.out j++m9 i.m.p i.x (eU f):=by
 rw[StI'.out,StI'.out,yQd,yQb,h]
 simp
theorem yIu (i:StI') (h:mstepC.cnd i):z7s i:=by
 obtain⟨hf,hpr,hl,hcs,hfs⟩:i.m.fine∧yQ i.x.price∧i.x.fills.length≤1000000∧(i.c.side=1∨i.c.side=2)∧∀f∈i.x.fills,f.side=1∨f.side=2:=h
 have e4:(i.x.fills.map yL).length=i.x.fills.length:=yOm ..
 unfold z7s f0 tN sK tH uO uK xU dI
 refine⟨0,rfl,rfl,fun j=>j≤i.x.fills.length,fun j=>i.x.fills.length-j,yPv _,?_⟩
 intro j hj
 have ho:=i.out_len j
 have e5:((i.out j).map xB).length=(i.out j).length:=yOm ..
 refine zI (fun c=> ?_) (fun c=> ?_)
 ·obtain⟨f,hfj⟩:=z9 (l:=i.x.fills) (i:=j) (by omega)
  have hos:=i.out_succ hfj
  have hfj2:=hfs f (yOv hfj)
  refine⟨⟨by omega,by omega⟩,_,_,_,_,_,_,yLg hfj,by omega,⟨i.m,f.inst⟩,rfl,rfl,rfl,rfl,rfl,rfl,rfl,rfl,rfl,rfl,rfl,rfl,rfl,rfl,hf,fun _ _=>Cv.cnd.mk (fun e=> ?_) (fun e=> ?_)⟩
  ·have e:(i.m.p.legs (eU f).inst).2.2=true:=e
   rw[zPj e]at hos
   refine⟨⟨i.m,f.inst,i.x⟩,rfl,rfl,rfl,rfl,rfl,rfl,rfl,rfl,rfl,rfl,rfl,rfl,rfl,rfl,rfl,rfl,rfl,rfl,⟨hf,hpr,hl⟩,fun _ _=>⟨⟨i.m,eU f,(k0 i.m.p f.inst i.x).1,(k0 i.m.p f.inst i.x).2⟩,rfl,rfl,rfl,rfl,rfl,rfl,rfl,rfl,rfl,rfl,rfl,rfl,rfl,rfl,rfl,rfl,rfl,rfl,rfl,rfl,rfl,rfl,rfl,⟨hf,hfj2⟩,fun _ _=>⟨trivial,by rw[yOl,e5];simp only[yOw,yRl];omega,j+1,wjn (by omega),?_,by omega,by dsimp only;omega,by(repeat'(first|exact trivial|exact rfl|apply And.intro))⟩⟩⟩
   rw[hos,yOr,yOq]
   rfl
  ·have e:(i.m.p.legs (eU f).inst).2.2=false:=e
   rw[zVv e]at hos
   refine⟨j+1,wjn (by omega),?_,by omega,by dsimp only;omega,by(repeat'(first|exact trivial|exact rfl|apply And.intro))⟩
   rw[hos,yOr];rfl
 ·have hj:j=i.x.fills.length:=by omega
  have ho2:i.x.fills.flatMap (fun f=>m9 i.m.p i.x (eU f))=i.out j:=by rw[StI'.out,hj,yOx (yPp _)]
  have hR:bK i.m.p i.c i.x i.left=i.out j++m9 i.m.p i.x ⟨3,i.c.id,i.c.inst,i.c.side,i.x.price,i.x.qty,i.left,0⟩:=by rw[bK,ho2]
  refine⟨by omega,⟨i.m,i.c.inst⟩,rfl,rfl,rfl,rfl,rfl,rfl,rfl,rfl,rfl,rfl,rfl,rfl,rfl,rfl,hf,fun _ _=>Cv.cnd.mk (fun e=> ?_) (fun e=> ?_)⟩
  ·have e:(i.m.p.legs (⟨3,i.c.id,i.c.inst,i.c.side,i.x.price,i.x.qty,i.left,0⟩:Rep).inst).2.2=true:=e
   rw[zPj e]at hR
   refine⟨⟨i.m,i.c.inst,i.x⟩,rfl,rfl,rfl,rfl,rfl,rfl,rfl,rfl,rfl,rfl,rfl,rfl,rfl,rfl,rfl,rfl,rfl,rfl,⟨hf,hpr,hl⟩,fun _ _=>⟨⟨i.m,⟨3,i.c.id,i.c.inst,i.c.side,i.x.price,i.x.qty,i.left,0⟩,(k0 i.m.p i.c.inst i.x).1,(k0 i.m.p i.c.inst i.x).2⟩,rfl,rfl,rfl,rfl,rfl,rfl,rfl,rfl,rfl,rfl,rfl,rfl,rfl,rfl,rfl,rfl,rfl,rfl,rfl,rfl,rfl,rfl,rfl,⟨hf,hcs⟩,fun _ _=>⟨trivial,by rw[yOl,e5];simp only[yOw,yRl];omega,?_⟩⟩⟩
   rw[hR,yOr,yOq]
   exact kp
  ·have e:(i.m.p.legs (⟨3,i.c.id,i.c.inst,i.c.side,i.x.price,i.x.qty,i.left,0⟩:Rep).inst).2.2=false:=e
   rw[zVv e]at hR
   rw[hR,yOr]
   exact kp
theorem z6m:mstepC.ok Tryz.prog 155:=okw mixed (gokc yIr (gokc zUl (gokc zTv gok0))) 1 (fun _=>[]) (fun i=>yFt i) [] Tryz.func155 yIu
open Go Cv Go.Proofs
structure EnI where
 m:Mkt
 p:Prd
 B:List (List zG)
 U:List Int
 c:Cmd
 X:MkX
@[reducible] def EnI.std (i:EnI):Prop:=i.m.Rep i.p i.B i.U∧BOk i.p i.B
@[reducible] def EnI.good (i:EnI):Prop:=(0≤i.c.inst∧i.c.inst<i.B.length)∧(1≤i.c.qty∧i.c.qty≤1000000)∧(i.c.side=1∨i.c.side=2)
@[reducible] def zOs (X:MkX) (p:Prd):Alt:={o:=Mkt,res:=fun _=> .own 5,post:=fun o=>lX o++[zTd X.R],rel:=fun o=>o.Rep p X.B X.U}
def enterC:Con where
 ι:=EnI
 pat:=fun i=>[.nm 0 0,zDg i.c]
 pre:=fun i=>lX i.m
 cnd:=fun i=>i.std∧i.good∧i.p.price i.c.inst i.c.price=0∧i.X=dV i.p i.B i.U i.c
 alts:=fun i=>[zOs i.X i.p]
structure EnJ where
 left:Int
 k:Nat
 out:List Rep
def yFk (i:EnI):List SAnn:=[{ι:=EnJ,slots:=fun j=>[(5,.own 0),(8,zA j.left),(51,zA j.k)],rows:=fun j=>[zTd j.out]}]
def orderC:Con where
 ι:=EnI
 pat:=fun i=>[.nm 0 0,zDg i.c]
 pre:=fun i=>lX i.m
 cnd:=fun i=>i.std∧i.c.right=0∧i.c.kind=1∧i.X=cR i.p i.B i.U i.c
 alts:=fun i=>[zOs i.X i.p]
def yHh:List (Nat×SAnn):=[(22,ij 6),(44,bj 47),(52,bj 69)]
structure CaI where
 m:Mkt
 p:Prd
 B:List (List zG)
 U:List Int
 id:Int
 q:Int
 inst:Int
 o:zG
 X:MkX
@[reducible] def CaI.std (i:CaI):Prop:=i.m.Rep i.p i.B i.U∧BOk i.p i.B
def cancelC:Con where
 ι:=CaI
 pat:=fun i=>[.nm 0 0,zA i.id,zA i.inst,z1q i.o]
 pre:=fun i=>lX i.m
 cnd:=fun i=>i.std∧i.X=vN i.B i.U i.id i.inst i.o
 alts:=fun i=>[zOs i.X i.p]
def reduceC:Con where
 ι:=CaI
 pat:=fun i=>[.nm 0 0,zA i.id,zA i.q,zA i.inst,z1q i.o]
 pre:=fun i=>lX i.m
 cnd:=fun i=>i.std∧yQ (i.o.qty-i.q)∧i.X=aY i.B i.U i.id i.q i.inst i.o
 alts:=fun i=>[zOs i.X i.p]
structure zZl where
 m:Mkt
 p:Prd
 B:List (List zG)
 U:List Int
 c:Cmd
 inst:Int
 o:zG
 X:MkX
def replaceC:Con where
 ι:=zZl
 pat:=fun i=>[.nm 0 0,zDg i.c,zA i.inst,z1q i.o]
 pre:=fun i=>lX i.m
 cnd:=fun i=>i.m.Rep i.p i.B i.U∧BOk i.p i.B∧zQ i.B i.c.id=(i.inst,i.o,true)∧(1≤i.c.qty∧i.c.qty≤1000000)∧i.X=gS i.p i.B i.U i.c i.inst i.o
 alts:=fun i=>[zOs i.X i.p]
def doC:Con where
 ι:=EnI
 pat:=fun i=>[.nm 0 0,zDg i.c]
 pre:=fun i=>[kZ i.m]
 cnd:=fun i=>i.std∧i.c.label.length≤140737488355328∧yQ i.c.qty∧i.X=doF i.p i.B i.U i.c
 alts:=fun i=>[{o:=Mkt,res:=fun _=> .own 1,post:=fun o=>[kZ o,zTd i.X.R],rel:=fun o=>o.Rep i.p i.X.B i.X.U}]
structure MfI where
 m:Mkt
 p:Prd
 B:List (List zG)
 U:List Int
 id:Int
def mcountC:Con:=con1 MfI (fun i=>[.nm 0 0]) (fun i=>[kZ i.m]) (fun i=>i.m.Rep i.p i.B i.U∧BOk i.p i.B) (fun i=>zA (tE i.B)) (fun i=>[kZ i.m])
end Sx
