/- Texts of ours, one behind the other: a walk that the kernel reckons, and contracts of functions. No condition. -/
import Derived.Test.YtpgpnnncaidcjaaGreatB9
namespace Sx
set_option linter.unusedVariables false
set_option linter.unusedSimpArgs false
set_option maxRecDepth 100000
open Go Cv Go.Proofs
open Go Cv Go.Proofs
theorem sG {inst s:Int} {f:vA}:∀{os:List zD} {sh:List Int},f∈yK inst s os sh→f.side=s∧f.inst=inst∧∃o∈os,f.price=o.price
 |[],sh,h=>by cases h
 |o::os,[],h=>by cases h
 |o::os,k::sh,h=>by
  rw[yK]at h
  split at h
  ·rcases ySy.1 h with rfl|h
   ·exact⟨rfl,rfl,o,ySk,rfl⟩
   ·obtain⟨a,b,o',c,d⟩:=sG h
    exact⟨a,b,o',ySl _ c,d⟩
  ·obtain⟨a,b,o',c,d⟩:=sG h
   exact⟨a,b,o',ySl _ c,d⟩
def FOk (f:vA):Prop:=(f.side=1∨f.side=2)∧-2000000≤f.price∧f.price≤2000000
theorem zEj {p:Prd} {B:List (List zD)} (h:BOk p B) (inst:Int) {s:Int} (hs:s=1∨s=2) (q:Int):∀f∈y4 p B inst s q,FOk f:=by
 intro f hf
 obtain⟨a,_,o,ho,e⟩:=sG hf
 refine⟨by rw[a];exact hs,?_⟩
 rw[e]
 have ho:=(yTp.1 ho).1
 by_cases hk:inst.toNat<B.length
 ·obtain⟨L,hL⟩:=z6 hk
  rw[zI hL]at ho
  exact h.prices hL o ho
 ·rw[ySi,yTf (by omega)]at ho;cases ho
def SOk (t:kM):Prop:=(-2000000≤t.price∧t.price≤2000000)∧(∀f∈t.fills,FOk f)∧t.fills.length≤500
theorem yEt {p:Prd} {B:List (List zD)} (h:BWf p B) {inst:Int} (hi:0≤inst∧inst<B.length) {s:Int} (hs:s=1∨s=2) (hn:(zV p B inst s).2.2=true): -2000000≤(zV p B inst s).1.price∧(zV p B inst s).1.price≤2000000:=by
 rw[zV]at hn ⊢
 obtain⟨L,hL⟩:=z6 (l:=B) (i:=inst.toNat) (by omega)
 rw[zI hL]at hn ⊢
 split
 ·exact zSl (h.ok.prices hL)
 ·rename_i c
  rw[ySe c]at hn
  have hm:=zOx hn
  have:=(yTp.1 hm).2
  exact zBb h.ok.pc (yVd this)
theorem yEb {p:Prd} {B:List (List zD)} (h:BWf p B) {inst:Int} (hi:0≤inst∧inst<B.length) {sd:Bool} {price q:Int} {t:kM} {B':List (List zD)} (e:jF p B inst sd price q=some (t,B')):SOk t:=by
 have hs:zB (!sd)=1∨zB (!sd)=2:=dP _
 have hb:=yEt h hi hs
 have hin:=nI h.ok h.od hi hs
 rw[jF]at e
 dsimp only at e
 split at e
 ·rename_i c
  have c1:(zV p B inst (zB (!sd))).2.2=true:=by
   cases hx:(zV p B inst (zB (!sd))).2.2 with
   |false=>rw[hx]at c;cases c
   |true=>rfl
  have hb:=hb c1
  obtain⟨_,hin,_⟩:=hin c1
  split at e
  ·rename_i c2
   obtain⟨_,ok⟩:=hin c2
   cases e
   refine⟨hb,fun f hf=> ?_,?_⟩
   ·rcases yTi.1 hf with hf|hf
    ·exact zEj h.ok _ ok.sa _ f hf
    ·exact zEj h.ok.takes _ ok.sb _ f hf
   ·dsimp only
    rw[ySm]
    have:=mT (p:=p) h.od (zV p B inst (zB (!sd))).1.a.inst (zV p B inst (zB (!sd))).1.a.side (min q (zV p B inst (zB (!sd))).1.qty)
    have:=mT (p:=p) (h.takes (fs:=y4 p B (zV p B inst (zB (!sd))).1.a.inst (zV p B inst (zB (!sd))).1.a.side (min q (zV p B inst (zB (!sd))).1.qty))).od (zV p B inst (zB (!sd))).1.b.inst (zV p B inst (zB (!sd))).1.b.side (min q (zV p B inst (zB (!sd))).1.qty)
    omega
  ·cases e
   refine⟨hb,fun f hf=>zEj h.ok _ hs _ f hf,?_⟩
   have:=mT (p:=p) h.od inst (zB (!sd)) (min q (zV p B inst (zB (!sd))).1.qty)
   dsimp only
   omega
 ·cases e
open Go Cv Go.Proofs
open Go Cv Go.Proofs
def zAi (a:StI):Prop:=zY a.s.wh=zY a.s.wh∧AObj.fro 1 (iE a.s.p.months)=AObj.fro 1 (iE a.s.p.months)∧AObj.fro 1 (iE a.s.p.settle)=AObj.fro 1 (iE a.s.p.settle)∧True
def yCl (i:StI):Prop:=
 (bS i)∧∃(a:Bool),∃(b:Int),(nT i b a)∧cnd (!a) (∃(c:Unit),(zT i.B i.id).fst=0∧(zT i.B i.id).snd.fst.id=0∧(zT i.B i.id).snd.fst.side=0∧(zT i.B i.id).snd.fst.price=0∧(zT i.B i.id).snd.fst.qty=0∧(zT i.B i.id).snd.fst.top=false∧(zT i.B i.id).snd.snd=false∧sb i.s.p.code=sb i.s.p.code∧i.s.p.tick=i.s.p.tick∧i.s.p.low=i.s.p.low∧i.s.p.high=i.s.p.high∧i.s.p.wide=i.s.p.wide∧i.s.p.rule=i.s.p.rule∧i.s.p.top=i.s.p.top∧i.s.p.least=i.s.p.least∧i.s.p.part=i.s.p.part∧AObj.objs 102 Book 6 zR i.s.books none=AObj.objs 102 Book 6 zR i.s.books none∧zAi i) ((0≤b∧b<(↑i.s.books.length:Int))∧b.toNat<i.s.books.length∧∃(c:Book),i.s.books[b.toNat]?=some c∧∃(d:FlI),d.id=i.id∧yC d.b=yC c∧d.b.Rep d.L∧∀(e:Unit),True→∃(f:Book),yC d.b=yC f∧b.toNat=b.toNat∧b.toNat<i.s.books.length∧∃(g:Unit),(zT i.B i.id).fst=b∧(zT i.B i.id).snd.fst.id=(fP d.L d.id).id∧(zT i.B i.id).snd.fst.side=(fP d.L d.id).side∧(zT i.B i.id).snd.fst.price=(fP d.L d.id).price∧(zT i.B i.id).snd.fst.qty=(fP d.L d.id).qty∧(zT i.B i.id).snd.fst.top=(fP d.L d.id).top∧(zT i.B i.id).snd.snd=true∧sb i.s.p.code=sb i.s.p.code∧i.s.p.tick=i.s.p.tick∧i.s.p.low=i.s.p.low∧i.s.p.high=i.s.p.high∧i.s.p.wide=i.s.p.wide∧i.s.p.rule=i.s.p.rule∧i.s.p.top=i.s.p.top∧i.s.p.least=i.s.p.least∧i.s.p.part=i.s.p.part∧AObj.objs 102 Book 6 zR i.s.books none=AObj.objs 102 Book 6 zR (i.s.books.set b.toNat f) none∧zAi i)
open Go Cv Go.Proofs
theorem yMx (i:StI) (h:sfindC.cnd i):yCl i:=by
 obtain⟨hR,hB⟩:i.s.Rep i.p i.B∧i.B.length≤1000:=h
 have hat:=hR.at_ i.id
 unfold yCl bS nT zAi dI
 rw[zT]
 cases hi:fJ i.B i.id with
 |none=>
  rw[hi]at hat
  exact⟨kJ _ _,false,0,.inr ⟨by rw[m7,hat];rfl,rfl,rfl⟩,Cv.cnd.mk (fun _=>⟨(),by(repeat'(first|exact trivial|exact rfl|apply And.intro))⟩) (fun e=>absurd e (by decide))⟩
 |some k=>
  rw[hi]at hat
  obtain⟨L,hL,hh⟩:=xL hi
  have hk:=(ySg.1 hL).1
  obtain⟨b,hb⟩:=z6 (l:=i.s.books) (i:=k) (by rw[hR.bl];exact hk)
  have hbR:=hR.bk k b L hb hL
  have hbl:=hR.bl
  refine⟨kJ _ _,true,k,.inl ⟨by rw[m7,hat];rfl,rfl⟩,Cv.cnd.mk (fun e=>absurd e (by decide)) (fun _=> ?_)⟩
  dsimp only
  rw[ySt,zI hL]
  have hs:=kK hb
  refine⟨⟨by omega,by omega⟩,by omega,b,hb,⟨b,L,i.id,0⟩,rfl,rfl,hbR,fun _ _=>⟨b,rfl,rfl,by omega,(),?_⟩⟩
  rw[hs]
  (repeat'(first|exact trivial|exact rfl|apply And.intro))
theorem z9d:sfindC.ok Tryz.prog 41:=okw mixed (gokc zXd gok0) 0 (fun _=>[]) (fun _=>[]) [0] Tryz.func41 yMx
open Go Cv Go.Proofs
theorem zPr (id:Int) (U:List Int):∀p∈z7 U,like (Value.int IntKind.i64 id) p.1=true:=by
 intro p hp
 obtain⟨k,_,rfl⟩:=yTh.1 hp
 rfl
theorem zPe (id:Int):∀U:List Int,jQ (Value.int IntKind.i64 id) [D.v (.bool true)] (z7 U)=z7 (zCu U id)
 |[]=>rfl
 |k::U=>by
  have ih:=zPe id U
  have e:rG (Value.int IntKind.i64 id) (Value.int IntKind.i64 k)=decide (id=k):=by simp[rG,keq]
  show(bif rG (Value.int IntKind.i64 id) (Value.int IntKind.i64 k)then(Value.int IntKind.i64 k,[D.v (.bool true)])::z7 U else(Value.int IntKind.i64 k,[D.v (.bool true)])::jQ (Value.int IntKind.i64 id) [D.v (.bool true)] (z7 U))=_
  rw[e,ih]
  by_cases c:id=k
  ·rw[ySw c,cond_true,zCu,ySf (by rw[c];exact ySk)];rfl
  ·rw[ySp c,cond_false,zCu,zCu]
   have hm:id∈k::U↔id∈U:=by simp[c]
   by_cases d:id∈U
   ·rw[ySf d,ySf (hm.2 d)];rfl
   ·rw[ySe d,ySe (fun x=>d (hm.1 x))];rfl
theorem zOt (id:Int):∀U:List Int,wI (Value.int IntKind.i64 id) (z7 U)=if id∈U then some [D.v (.bool true)]else none
 |[]=>rfl
 |k::U=>by
  have ih:=zOt id U
  have e:rG (Value.int IntKind.i64 id) (Value.int IntKind.i64 k)=decide (id=k):=by simp[rG,keq]
  show(bif rG (Value.int IntKind.i64 id) (Value.int IntKind.i64 k)then some [D.v (.bool true)]else wI (Value.int IntKind.i64 id) (z7 U))=_
  rw[e,ih]
  by_cases c:id=k
  ·rw[ySw c,cond_true,ySf (by rw[c];exact ySk)]
  ·rw[ySp c,cond_false]
   have hm:id∈k::U↔id∈U:=by simp[c]
   by_cases d:id∈U
   ·rw[ySf d,ySf (hm.2 d)]
   ·rw[ySe d,ySe (fun x=>d (hm.1 x))]
theorem z8f (id:Int) (U:List Int):wI (Value.int IntKind.i64 id) (z7 U)=some [D.v (.bool (decide (id∈U)))]∧decide (id∈U)=true∨wI (Value.int IntKind.i64 id) (z7 U)=none∧[D.v (.bool (decide (id∈U)))]=[D.v (.bool false)]∧decide (id∈U)=false:=by
 rw[zOt]
 by_cases c:id∈U
 ·rw[ySf c,ySw c];exact .inl ⟨rfl,rfl⟩
 ·rw[ySe c,ySp c];exact .inr ⟨rfl,rfl,rfl⟩
theorem zSh {p:Prd} {inst:Int} {sd:Bool} {price:Int}:∀(m:Nat) (q:Int) (B:List (List zD)),q.toNat≤m→BWf p B→0≤inst∧inst<B.length→
 (∀t∈(x0 p B inst sd price q).steps,SOk t∧1≤t.qty)∧((x0 p B inst sd price q).steps.map (·.qty)).sum=q-(x0 p B inst sd price q).left
 |m,q,B,hm,h,hi=>by
  by_cases hq:q≤0
  ·rw[kO (.inl hq)];exact⟨fun t ht=>(by cases ht),by simp⟩
  cases hs:jF p B inst sd price q with
  |none=>rw[kO (.inr hs)];exact⟨fun t ht=>(by cases ht),by simp⟩
  |some x=>
   obtain⟨t,C⟩:=x
   obtain⟨k1,k2⟩:=tQ h hs
   have hq2:=aS (by omega) hs
   cases m with
   |zero=>omega
   |succ m=>
   obtain⟨i1,i2⟩:=zSh (p:=p) (inst:=inst) (sd:=sd) (price:=price) m (q-t.qty) C (by omega) k1 (by rw[k2];exact hi)
   rw[cC (by omega) hs]
   refine⟨fun u hu=> ?_,?_⟩
   ·rcases ySy.1 hu with rfl|hu
    ·exact⟨yEb h hi hs,hq2.1⟩
    ·exact i1 u hu
   ·dsimp only
    rw[ySn,yTc,i2];omega
theorem yIe {α:Type} {f:α→List Rep} (hf:∀x,(f x).length≤3):∀l:List α,(l.flatMap f).length≤3*l.length
 |[]=>yTd _
 |x::l=>by
  have:=yIe hf l
  have:=hf x
  rw[yTv,ySm,ySx];omega
theorem zPw (p:Prd) (c:Cmd) (x:kM) (left:Int):(dZ p c x left).length≤3*x.fills.length+3:=by
 rw[dZ,ySm]
 have:=yIe (fun f=>zKh p x (fL f)) x.fills
 have:=zKh p x ⟨3,c.id,c.inst,c.side,x.price,x.qty,left,0⟩
 omega
theorem zRf {l:List kM} (h:∀t∈l,SOk t∧1≤t.qty):(l.length:Int)≤(l.map (·.qty)).sum:=by
 induction l with
 |nil=>exact yWb _
 |cons t l ih=>
  have:=ih fun u hu=>h u (ySl _ hu)
  have:=(h t ySk).2
  rw[ySn,yTc,ySx];omega
theorem yMd (i:EnI) (h:enterC.cnd i):z7x i:=by
 obtain⟨m,p,B,U,c,X⟩:=i
 have h':(m.Rep p B U∧BOk p B)∧((0≤c.inst∧c.inst<B.length)∧(1≤c.qty∧c.qty≤1000000)∧(c.side=1∨c.side=2))∧p.price c.inst c.price=0∧X=wF p B U c:=h
 clear h
 obtain⟨⟨⟨ep,hR,eu⟩,hB⟩,⟨⟨h0,h1⟩,hq,hs⟩,hpz,hX⟩:=h'
 subst ep eu hX
 have hwf:=hR.wf hB
 obtain⟨k1,k2,k3⟩:=cF (inst:=c.inst) (sd:=decide (c.side=2)) (price:=c.price) _ c.qty B (yTd _) hwf
 have k3:=k3 (by omega)
 obtain⟨s1,s2⟩:=zSh (inst:=c.inst) (sd:=decide (c.side=2)) (price:=c.price) _ c.qty B (yTd _) hwf ⟨h0,h1⟩
 have hX:=wK m.p B m.used c
 have hbd:=zBb hB.pc hpz
 unfold z7x qP vT zAg dI
 dsimp only
 rw[zPe,hX]
 refine⟨zPr _ _,⟨m.s,m.p,B,c.inst,decide (c.side=2),c.price,c.qty⟩,rfl,uC hs,rfl,rfl,rfl,⟨hR,hB,⟨h0,h1⟩,hq.1,hq.2⟩,fun o ho=> ?_⟩
 have er:RunI.r ⟨m.s,m.p,B,c.inst,decide (c.side=2),c.price,c.qty⟩=x0 m.p B c.inst (decide (c.side=2)) c.price c.qty:=rfl
 rw[er]at ho ⊢
 clear hX er
 generalize x0 m.p B c.inst (decide (c.side=2)) c.price c.qty=R at*
 obtain⟨ts,lf,RB⟩:=R
 dsimp only at*
 have hlen:=zRf s1
 have e4:(ts.map jX).length=ts.length:=ySh ..
 refine⟨⟨c.qty,0,[⟨1,c.id,c.inst,c.side,c.price,c.qty,c.qty,0⟩]⟩,rfl,rfl,rfl,fun j=>j.k≤ts.length∧j.left=lf+((ts.drop j.k).map (·.qty)).sum∧(⟨1,c.id,c.inst,c.side,c.price,c.qty,c.qty,0⟩::wT m.p c ts c.qty)=j.out++wT m.p c (ts.drop j.k) j.left∧j.out.length≤1+1503*j.k,fun j=>ts.length-j.k,⟨yUq _,by dsimp only;rw[yVr,s2];omega,rfl,yTd _⟩,?_⟩
 rintro⟨left,k,out⟩ ⟨j1,j2,j3,j4⟩
 dsimp only at j1 j2 j3 j4 ⊢
 have e5:(out.map yE).length=out.length:=ySh ..
 refine zK (fun c1=> ?_) (fun c1=> ?_)
 ·obtain⟨t,ht⟩:=z6 (l:=ts) (i:=k) (by omega)
  have hd:ts.drop k=t::ts.drop (k+1):=by rw[yUy (by omega),(ySg.1 ht).2]
  obtain⟨⟨t1,t2,t3⟩,t4⟩:=s1 t (ySo ht)
  have hsd:=zRf (l:=ts.drop (k+1)) fun u hu=>s1 u (yVy hu)
  have hsk:((ts.drop k).map (·.qty)).sum≤(ts.map (·.qty)).sum:=by
   have:=zRf (l:=ts.take k) fun u hu=>s1 u (yYb hu)
   have e:(ts.map (·.qty)).sum=((ts.take k).map (·.qty)).sum+((ts.drop k).map (·.qty)).sum:=by
    rw[← List.sum_append,← ySr,yUm]
   omega
  rw[hd,ySn,yTc]at j2 hsk
  rw[hd,wT]at j3
  have hrl:=zPw m.p c t (left-t.qty)
  have e6:((dZ m.p c t (left-t.qty)).map yE).length=(dZ m.p c t (left-t.qty)).length:=ySh ..
  have hw:IntKind.i64.wrap (left-t.qty)=left-t.qty:=w64 (by omega)
  refine⟨⟨by omega,by omega⟩,t.price,t.qty,t.implied,t.fills.map yV,elA ht (by simp[jX]) rfl,?_⟩
  rw[hw]
  refine⟨⟨⟨m.p,o,zCu m.used c.id⟩,c,t,left-t.qty⟩,rfl,rfl,rfl,rfl,rfl,rfl,rfl,rfl,rfl,rfl,rfl,rfl,rfl,rfl,rfl,rfl,rfl,rfl,rfl,rfl,rfl,rfl,rfl,rfl,rfl,rfl,rfl,⟨⟨hB.pc,hB.ps⟩,⟨by dsimp only;omega,by dsimp only;omega⟩,by dsimp only;omega,hs,fun f hf=>(t2 f hf).1⟩,fun _ _=>⟨by dsimp only;rw[e5,e6];omega,⟨left-t.qty,k+1,out++dZ m.p c t (left-t.qty)⟩,rfl,wjn (by omega),by dsimp only;rw[ySr],⟨by dsimp only;omega,by dsimp only;omega,by dsimp only;rw[j3,ySq],by dsimp only;rw[ySm];omega⟩,by dsimp only;omega,by(repeat'(first|exact trivial|exact rfl|apply And.intro))⟩⟩
 have hk:k=ts.length:=by omega
 subst hk
 rw[List.drop_of_length_le (yTd _)]at j2 j3
 rw[wT,yTg]at j3
 rw[← j3]
 rw[← j3]at e5 j4
 have hRB:=k1.ok
 refine Cv.cnd.mk (fun e=> ?_) (fun e=>Cv.cnd.mk (fun e2=> ?_) (fun e2=> ?_))
 ·have e:lf=0:=by simpa using e
  rw[ySe (by omega),ySe (by omega),yTg]
  exact⟨⟨m.p,o,zCu m.used c.id⟩,rfl,rfl,rfl,rfl,rfl,rfl,rfl,rfl,rfl,rfl,rfl,rfl,rfl,rfl,rfl,ho,rfl⟩
 ·have e:¬lf=0:=by simpa using e
  have e2:c.time=1:=by simpa using e2
  rw[ySe (show ¬(lf≠0∧c.time≠1)by omega),ySf (show lf≠0∧c.time=1 from⟨e,e2⟩),yTg]
  have ha:=(ho.add c.inst c.id (decide (c.side=2)) c.price lf).1
  rw[uC hs]at ha
  exact⟨⟨o,c.inst,c.id,decide (c.side=2),c.price,lf⟩,rfl,rfl,uC hs,rfl,rfl,rfl,ho.fit hRB,fun _ _=>⟨⟨m.p,(MSt.addF ⟨o,c.inst,c.id,decide (c.side=2),c.price,lf⟩).1,zCu m.used c.id⟩,rfl,rfl,rfl,rfl,rfl,rfl,rfl,rfl,rfl,rfl,rfl,rfl,rfl,rfl,rfl,ha,rfl⟩⟩
 ·have e:¬lf=0:=by simpa using e
  have e2:¬c.time=1:=by simpa using e2
  rw[ySf (show lf≠0∧c.time≠1 from⟨e,e2⟩),ySe (show ¬(lf≠0∧c.time=1)by omega)]
  exact⟨by rw[e5];omega,⟨m.p,o,zCu m.used c.id⟩,rfl,rfl,rfl,rfl,rfl,rfl,rfl,rfl,rfl,rfl,rfl,rfl,rfl,by rw[ySr];rfl,rfl,ho,rfl⟩
theorem zXs:enterC.ok Tryz.prog 74:=okw mixed (gokc zZo (gokc z7f (gokc yEk gok0))) 0 (fun _=>[]) (fun i=>yMk i) [] Tryz.func74 yMd
theorem yNz:mcountC.ok Tryz.prog 19:=okw (V:=yFu) mixed (gokc zKd gok0) 0 (fun _=>[]) (fun _=>[]) [0] Tryz.func19 fun(i:MfI) h=>by
 obtain⟨m,p,B,U,id⟩:=i
 have h':m.Rep p B U∧BOk p B:=h
 clear h
 obtain⟨⟨ep,hR,eu⟩,hB⟩:=h'
 subst ep eu
 have:=xV m.p
 have:=hB.bl
 exact⟨⟨m.s,m.p,B,0,false⟩,rfl,⟨hR,by dsimp only;omega⟩,fun _ _=>⟨(),by(repeat'(first|exact trivial|exact rfl|apply And.intro))⟩⟩
theorem zNx:cancelC.ok Tryz.prog 43:=okw (V:=yHl) mixed (gokc zCe gok0) 0 (fun _=>[]) (fun _=>[]) [] Tryz.func43 fun(i:CaI) h=>by
 obtain⟨m,p,B,U,id,q,inst,o,X⟩:=i
 have h':(m.Rep p B U∧BOk p B)∧X=jU B U id inst o:=h
 clear h
 obtain⟨⟨⟨ep,hR,eu⟩,hB⟩,hX⟩:=h'
 subst ep eu hX
 have:=xV m.p
 have:=hB.bl
 exact⟨⟨m.s,m.p,B,id,o.qty⟩,rfl,rfl,rfl,⟨hR,by dsimp only;omega⟩,fun o' ho=>⟨⟨m.p,o',m.used⟩,rfl,rfl,rfl,rfl,rfl,rfl,rfl,rfl,rfl,rfl,rfl,rfl,rfl,rfl,rfl,ho,rfl⟩⟩
theorem zQe:reduceC.ok Tryz.prog 44:=okw (V:=z0u) mixed (gokc zCe gok0) 0 (fun _=>[]) (fun _=>[]) [] Tryz.func44 fun(i:CaI) h=>by
 obtain⟨m,p,B,U,id,q,inst,o,X⟩:=i
 have h':(m.Rep p B U∧BOk p B)∧yY (o.qty-q)∧X=u9 B U id q inst o:=h
 clear h
 obtain⟨⟨⟨ep,hR,eu⟩,hB⟩,hw,hX⟩:=h'
 subst ep eu hX
 have:=xV m.p
 have:=hB.bl
 have hw:=w64 hw
 unfold z0u dI
 dsimp only
 rw[hw]
 exact⟨⟨m.s,m.p,B,id,q⟩,rfl,rfl,rfl,⟨hR,by dsimp only;omega⟩,fun o' ho=>⟨⟨m.p,o',m.used⟩,rfl,rfl,rfl,rfl,rfl,rfl,rfl,rfl,rfl,rfl,rfl,rfl,rfl,rfl,rfl,ho,rfl⟩⟩
theorem zPb {c:Cmd} (h:c.right=0):(if c.kind=1 then c.orderE else if c.kind≠2∧wV c.qty=false then 24 else if c.kind=4∧dM c.price=false then 23 else 0)=0:=by
 rw[Cmd.right]at h
 by_cases c1:c.kind<1∨4<c.kind
 ·rw[ySf c1]at h;cases h
 rw[ySe c1]at h
 by_cases c2:c.id<1∨1099511627776<c.id
 ·rw[ySf c2]at h;cases h
 rw[ySe c2]at h
 exact h
theorem eC {c:Cmd} (h:c.right=0) (hk:c.kind=1):(c.side=1∨c.side=2)∧(1≤c.qty∧c.qty≤1000000)∧(0≤c.least∧c.least≤c.qty):=by
 have h:=zPb h
 rw[ySf hk,Cmd.orderE]at h
 by_cases c1:c.side≠1∧c.side≠2
 ·rw[ySf c1]at h;cases h
 rw[ySe c1]at h
 by_cases c2:c.time<1∨3<c.time
 ·rw[ySf c2]at h;cases h
 rw[ySe c2]at h
 cases c3:wV c.qty with
 |false=>rw[ySf c3]at h;cases h
 |true=>
  rw[ySe (by rw[c3];decide)]at h
  by_cases c4:c.least<0∨c.qty<c.least
  ·rw[ySf c4]at h;cases h
  simp only[wV,ySs,yTj]at c3
  exact⟨by omega,c3,by omega⟩
theorem bC {c:Cmd} (h:c.right=0) (hk:¬c.kind=1) (hk2:¬c.kind=2):1≤c.qty∧c.qty≤1000000:=by
 have h:=zPb h
 rw[ySe hk]at h
 cases c3:wV c.qty with
 |false=>rw[ySf ⟨hk2,c3⟩]at h;cases h
 |true=>
  simp only[wV,ySs,yTj]at c3
  exact c3
theorem yMz (i:EnI) (h:orderC.cnd i):z9n i:=by
 obtain⟨m,p,B,U,c,X⟩:=i
 have h':(m.Rep p B U∧BOk p B)∧c.right=0∧c.kind=1∧X=cM p B U c:=h
 clear h
 obtain⟨⟨hM,hB⟩,hr,hkd,hX⟩:=h'
 obtain⟨ep,hR,eu⟩:=hM
 subst ep eu
 have hM:m.Rep m.p B m.used:=⟨rfl,hR,rfl⟩
 obtain⟨hs,hq,hl⟩:=eC hr hkd
 have hbl:=hB.bl
 have hcl:=xV m.p
 unfold z9n qP tA zDo zAx zDj zFq zEm zGc vT pD m9 x7 dI
 dsimp only
 refine⟨⟨m.p,c.inst,c.price⟩,rfl,rfl,rfl,rfl,rfl,rfl,rfl,rfl,rfl,rfl,rfl,rfl,rfl,hB.ps,fun _ _=>Cv.cnd.mk (fun e=> ?_) (fun e=> ?_)⟩
 ·have e:m.p.price c.inst c.price≠0:=by simpa using e
  have hx:X=⟨B,m.used,cK c (m.p.price c.inst c.price)⟩:=by rw[hX,cM,ySf e]
  exact⟨⟨c,m.p.price c.inst c.price⟩,rfl,rfl,rfl,rfl,rfl,rfl,rfl,rfl,rfl,rfl,trivial,fun _ _=>⟨m,rfl,rfl,rfl,rfl,rfl,rfl,rfl,rfl,rfl,rfl,rfl,rfl,rfl,by rw[hx];rfl,by rw[hx];exact hM⟩⟩
 have hpz:m.p.price c.inst c.price=0:=by simpa using e
 have hin:=zLb hpz
 have hib:0≤c.inst∧c.inst<B.length:=by omega
 rw[cM,ySe (by rw[hpz];decide)]at hX
 refine⟨0,fun l=>l=c.lst,Cv.cnd.mk (fun e=>⟨c.qty,rfl,by rw[Cmd.lst,ySf (by simpa using e)],by(repeat'(first|exact trivial|exact rfl|apply And.intro))⟩) (fun e=>⟨c.least,rfl,by rw[Cmd.lst,ySe (by simpa using e)],by(repeat'(first|exact trivial|exact rfl|apply And.intro))⟩),?_⟩
 rintro _ rfl
 refine⟨zPr _ _,_,_,z8f _ _,zK (fun e=> ?_) (fun e=> ?_)⟩
 ·have hx:X=⟨B,m.used,cK c 25⟩:=by rw[hX,ySf e]
  exact⟨⟨c,25⟩,rfl,rfl,rfl,rfl,rfl,rfl,rfl,rfl,rfl,rfl,trivial,fun _ _=>⟨m,rfl,rfl,rfl,rfl,rfl,rfl,rfl,rfl,rfl,rfl,rfl,rfl,rfl,by rw[hx];rfl,by rw[hx];exact hM⟩⟩
 rw[ySe e]at hX
 refine⟨⟨m.s,m.p,B,0,false⟩,rfl,⟨hR,by dsimp only;omega⟩,fun _ _=>zK (fun e=> ?_) (fun e=> ?_)⟩
 ·have hx:X=⟨B,m.used,cK c 13⟩:=by rw[hX,ySf (by dsimp only at e;omega)]
  exact⟨⟨c,13⟩,rfl,rfl,rfl,rfl,rfl,rfl,rfl,rfl,rfl,rfl,trivial,fun _ _=>⟨m,rfl,rfl,rfl,rfl,rfl,rfl,rfl,rfl,rfl,rfl,rfl,rfl,rfl,by rw[hx];rfl,by rw[hx];exact hM⟩⟩
 rw[ySe (by dsimp only at e;omega)]at hX
 have hok:RunI.ok ⟨m.s,m.p,B,c.inst,decide (c.side=2),c.price,c.qty⟩:=⟨hR,hB,hib,hq.1,hq.2⟩
 refine⟨true,fun b=>b=decide (0<c.lst∧c.qty-(x0 m.p B c.inst (decide (c.side=2)) c.price c.qty).left<c.lst),zK (fun e=>⟨⟨m.s,m.p,B,c.inst,decide (c.side=2),c.price,c.qty⟩,rfl,uC hs,rfl,rfl,rfl,hok,fun _ _=>⟨_,rfl,decide_eq_decide.2 ⟨fun x=>⟨e,x⟩,fun x=>x.2⟩,by(repeat'(first|exact trivial|exact rfl|apply And.intro))⟩⟩) (fun e=>⟨false,rfl,(ySp fun x=>e x.1).symm,by(repeat'(first|exact trivial|exact rfl|apply And.intro))⟩),?_⟩
 rintro _ rfl
 refine zK (fun e=> ?_) (fun e=> ?_)
 ·have hx:X=⟨B,m.used,cK c 28⟩:=by rw[hX,ySf e]
  exact⟨⟨c,28⟩,rfl,rfl,rfl,rfl,rfl,rfl,rfl,rfl,rfl,rfl,trivial,fun _ _=>⟨m,rfl,rfl,rfl,rfl,rfl,rfl,rfl,rfl,rfl,rfl,rfl,rfl,rfl,by rw[hx];rfl,by rw[hx];exact hM⟩⟩
 rw[ySe e]at hX
 refine⟨true,fun b=>b=decide (c.time=1∧dG m.p B c.inst (decide (c.side=2)) c.price c.qty=true),Cv.cnd.mk (fun e=>⟨⟨m.s,m.p,B,c.inst,decide (c.side=2),c.price,c.qty⟩,rfl,uC hs,rfl,rfl,rfl,hok,fun _ _=>⟨_,rfl,?_,by(repeat'(first|exact trivial|exact rfl|apply And.intro))⟩⟩) (fun e=>⟨false,rfl,(ySp fun x=> ?_).symm,by(repeat'(first|exact trivial|exact rfl|apply And.intro))⟩),?_⟩
 ·have e:c.time=1:=by simpa using e
  dsimp only
  cases hb:dG m.p B c.inst (decide (c.side=2)) c.price c.qty with
  |true=>exact(ySw ⟨e,rfl⟩).symm
  |false=>exact(ySp fun x=>by cases x.2).symm
 ·rw[x.1]at e;cases e
 rintro _ rfl
 refine zK (fun e=> ?_) (fun e=> ?_)
 ·have hx:X=⟨B,m.used,cK c 23⟩:=by rw[hX,ySf e]
  exact⟨⟨c,23⟩,rfl,rfl,rfl,rfl,rfl,rfl,rfl,rfl,rfl,rfl,trivial,fun _ _=>⟨m,rfl,rfl,rfl,rfl,rfl,rfl,rfl,rfl,rfl,rfl,rfl,rfl,rfl,by rw[hx];rfl,by rw[hx];exact hM⟩⟩
 rw[ySe e]at hX
 exact⟨⟨m,m.p,B,m.used,c,X⟩,rfl,rfl,rfl,rfl,rfl,rfl,rfl,rfl,rfl,rfl,rfl,rfl,rfl,rfl,rfl,rfl,rfl,rfl,rfl,rfl,rfl,rfl,⟨⟨hM,hB⟩,⟨hib,hq,hs⟩,hpz,hX⟩,fun o ho=>⟨o,rfl,rfl,rfl,rfl,rfl,rfl,rfl,rfl,rfl,rfl,rfl,rfl,rfl,rfl,ho⟩⟩
theorem z9z:orderC.ok Tryz.prog 40:=okw mixed (gokc rY (gokc zYc (gokc zKd (gokc z6q (gokc zWr (gokc zXs gok0)))))) 0 (fun _=>yNc) (fun _=>[]) [] Tryz.func40 yMz
theorem zQr {p:Prd} {B:List (List zD)} (h:BWf p B) {id inst:Int} {o:zD} (hf:zT B id=(inst,o,true)):(0≤inst∧inst<B.length)∧zIh o:=by
 rw[zT]at hf
 split at hf
 ·cases hf
 ·rename_i k hk
  obtain⟨L,hL,hh⟩:=xL hk
  rw[zI hL]at hf
  cases hf
  have hlt:=(ySg.1 hL).1
  obtain⟨o,ho,e⟩:=yTh.1 (hasId_iff.1 hh)
  have hg:=vY (h.od k L hL).2.1 ho
  rw[e]at hg
  rw[hg]
  exact⟨by omega,(h.od k L hL).1 o ho⟩
theorem zKb (p:Prd) (c:Cmd):∀(l:List kM) (left:Int),(∀t∈l,SOk t∧1≤t.qty)→(wT p c l left).length≤1503*l.length
 |[],_,_=>yTd _
 |t::l,left,h=>by
  have a:=zKb p c l (left-t.qty) fun u hu=>h u (ySl _ hu)
  have b:=zPw p c t (left-t.qty)
  have d:=(h t ySk).1.2.2
  rw[wT,ySm,ySx];omega
theorem zAv {p:Prd} {B:List (List zD)} (h:BWf p B) (U:List Int) {c:Cmd} (hi:0≤c.inst∧c.inst<B.length) (hq:1≤c.qty∧c.qty≤1000000):(wF p B U c).R.length≤1503000002:=by
 obtain⟨s1,s2⟩:=zSh (inst:=c.inst) (sd:=decide (c.side=2)) (price:=c.price) _ c.qty B (yTd _) h hi
 have k3:=(cF (inst:=c.inst) (sd:=decide (c.side=2)) (price:=c.price) _ c.qty B (yTd _) h).2.2 (by omega)
 have:=zRf s1
 have:=zKb p c _ c.qty s1
 rw[wK]
 dsimp only
 rw[ySm,ySx]
 split
 ·rw[ySx,yUz];omega
 ·rw[yUz];omega
theorem yDa (i:z6z) (h:replaceC.cnd i):zXp i:=by
 obtain⟨m,p,B,U,c,inst,o,X⟩:=i
 have h':m.Rep p B U∧BOk p B∧zT B c.id=(inst,o,true)∧(1≤c.qty∧c.qty≤1000000)∧X=vF p B U c inst o:=h
 clear h
 obtain⟨hM,hB,hf,hq,hX⟩:=h'
 obtain⟨ep,hR,eu⟩:=hM
 subst ep eu
 have hM:m.Rep m.p B m.used:=⟨rfl,hR,rfl⟩
 have hwf:=hR.wf hB
 obtain⟨hin,hoo⟩:=zQr hwf hf
 have hos:=hoo.s
 have hoq:=hoo.q
 have hbl:=hB.bl
 have hcl:=xV m.p
 unfold zXp lD qP g7 uH pD cT rA x7
 dsimp only
 refine⟨⟨m.p,inst,c.price⟩,rfl,rfl,rfl,rfl,rfl,rfl,rfl,rfl,rfl,rfl,rfl,rfl,rfl,hB.ps,fun _ _=>Cv.cnd.mk (fun e=> ?_) (fun e=> ?_)⟩
 ·have e:m.p.price inst c.price≠0:=by simpa using e
  have hx:X=⟨B,m.used,cK c (m.p.price inst c.price)⟩:=by rw[hX,vF,ySf e]
  exact⟨⟨c,m.p.price inst c.price⟩,rfl,rfl,rfl,rfl,rfl,rfl,rfl,rfl,rfl,rfl,trivial,fun _ _=>⟨m,rfl,rfl,rfl,rfl,rfl,rfl,rfl,rfl,rfl,rfl,rfl,rfl,rfl,by rw[hx];rfl,by rw[hx];exact hM⟩⟩
 have hpz:m.p.price inst c.price=0:=by simpa using e
 rw[vF,ySe (by rw[hpz];decide)]at hX
 have hw:IntKind.i64.wrap (o.qty-c.qty)=o.qty-c.qty:=w64 (by omega)
 rw[hw]
 refine(fun hT=>Cv.cnd.mk (fun e1=>zK (fun e2=> ?_) (fun e2=>hT fun x=>e2 x.2)) (fun e1=>hT fun x=>by rw[x.1]at e1;simp at e1)) (fun(hn:¬(c.price=o.price∧c.qty≤o.qty))=> ?_)
 ·have e1:c.price=o.price:=by simpa using e1
  rw[ySf ⟨e1,e2⟩]at hX
  exact⟨⟨m,m.p,B,m.used,c.id,o.qty-c.qty,inst,o,X⟩,rfl,rfl,rfl,rfl,rfl,rfl,rfl,rfl,rfl,rfl,rfl,rfl,rfl,rfl,rfl,rfl,rfl,rfl,rfl,rfl,rfl,⟨⟨hM,hB⟩,⟨by dsimp only;omega,by dsimp only;omega⟩,hX⟩,fun o' ho=>⟨o',rfl,rfl,rfl,rfl,rfl,rfl,rfl,rfl,rfl,rfl,rfl,rfl,rfl,rfl,ho⟩⟩
 rw[ySe hn]at hX
 have hBt:=hB.take c.id o.qty
 refine⟨m.s,rfl,hR.small hB,fun _ _=>⟨⟨m.s,m.p,B,c.id,o.qty⟩,rfl,rfl,rfl,⟨hR,by dsimp only;omega⟩,fun o' ho'=>⟨⟨o',m.p,(yU B c.id o.qty).1,inst,decide (o.side=2),c.price,c.qty⟩,rfl,uC hos,rfl,rfl,rfl,⟨ho',hBt,by dsimp only;rw[mC];exact hin,hq.1,hq.2⟩,fun _ _=>Cv.cnd.mk (fun e=> ?_) (fun e=> ?_)⟩⟩⟩
 ·have hx:X=⟨B,m.used,cK c 23⟩:=by rw[hX,ySf e]
  exact⟨⟨c,23⟩,rfl,rfl,rfl,rfl,rfl,rfl,rfl,rfl,rfl,rfl,trivial,fun _ _=>⟨m,rfl,rfl,rfl,rfl,rfl,rfl,rfl,rfl,rfl,rfl,rfl,rfl,rfl,by rw[hx];rfl,by rw[hx];exact hM⟩⟩
 rw[ySe (by rw[e];decide)]at hX
 refine⟨⟨m,m.p,B,m.used,c.id,0,inst,o,jU B m.used c.id inst o⟩,rfl,rfl,rfl,rfl,rfl,rfl,rfl,rfl,rfl,rfl,rfl,rfl,rfl,rfl,rfl,rfl,rfl,rfl,rfl,rfl,⟨⟨hM,hB⟩,rfl⟩,fun o1 ho1=>⟨⟨o1,m.p,(yU B c.id o.qty).1,m.used,⟨1,c.id,inst,o.side,c.price,c.qty,0,1,[]⟩,wF m.p (yU B c.id o.qty).1 m.used ⟨1,c.id,inst,o.side,c.price,c.qty,0,1,[]⟩⟩,rfl,rfl,rfl,rfl,rfl,rfl,rfl,rfl,rfl,rfl,rfl,rfl,rfl,rfl,rfl,rfl,rfl,rfl,rfl,rfl,rfl,rfl,⟨⟨ho1,hBt⟩,⟨by dsimp only;rw[mC];exact hin,hq,hos⟩,hpz,rfl⟩,fun o2 ho2=>⟨?_,o2,rfl,rfl,rfl,rfl,rfl,rfl,rfl,rfl,rfl,rfl,rfl,rfl,rfl,?_,?_⟩⟩⟩
 ·have:=zAv (hwf.take c.id o.qty) m.used (c:=⟨1,c.id,inst,o.side,c.price,c.qty,0,1,[]⟩) (by dsimp only;rw[mC];exact hin) hq
  dsimp only
  rw[ySh,ySh]
  have e1:(jU B m.used c.id inst o).R.length=1:=rfl
  omega
 ·rw[hX,← ySr];rfl
 ·rw[hX];exact ho2
theorem z0i:replaceC.ok Tryz.prog 42:=okw mixed (gokc rY (gokc zYc (gokc zBs (gokc zCe (gokc zWr (gokc zNx (gokc zQe (gokc zXs gok0)))))))) 0 (fun _=>[]) (fun _=>[]) [] Tryz.func42 yDa
theorem vdo (i:EnI) (h:doC.cnd i):Vdo i:=by
 obtain⟨m,p,B,U,c,X⟩:=i
 have h':(m.Rep p B U∧BOk p B)∧c.label.length≤140737488355328∧yY c.qty∧X=doF p B U c:=h
 clear h
 obtain⟨⟨hM,hB⟩,hlb,hqr,hX⟩:=h'
 obtain⟨ep,hR,eu⟩:=hM
 subst ep eu
 have hM:m.Rep m.p B m.used:=⟨rfl,hR,rfl⟩
 have hwf:=hR.wf hB
 have hbl:=hB.bl
 have hcl:=xV m.p
 unfold Vdo m9 yDi cT zZe zSg zRa
 dsimp only
 refine⟨c,rfl,rfl,rfl,rfl,rfl,rfl,rfl,rfl,rfl,hlb,fun _ _=>Cv.cnd.mk (fun e=> ?_) (fun e=> ?_)⟩
 ·have e:c.right≠0:=by simpa using e
  have hx:X=⟨B,m.used,cK c c.right⟩:=by rw[hX,doF,ySf e]
  exact⟨⟨c,c.right⟩,rfl,rfl,rfl,rfl,rfl,rfl,rfl,rfl,rfl,rfl,trivial,fun _ _=>⟨m,rfl,rfl,rfl,rfl,rfl,rfl,rfl,rfl,rfl,rfl,rfl,rfl,rfl,by rw[hx];rfl,by rw[hx];exact hM⟩⟩
 have hr:c.right=0:=by simpa using e
 rw[doF,ySe (by rw[hr];decide)]at hX
 refine Cv.cnd.mk (fun e=> ?_) (fun e=> ?_)
 ·have e:c.kind=1:=by simpa using e
  rw[ySf e]at hX
  exact⟨⟨m,m.p,B,m.used,c,X⟩,rfl,rfl,rfl,rfl,rfl,rfl,rfl,rfl,rfl,rfl,rfl,rfl,rfl,rfl,rfl,rfl,rfl,rfl,rfl,rfl,rfl,rfl,⟨⟨hM,hB⟩,hr,e,hX⟩,fun o ho=>⟨o,rfl,rfl,rfl,rfl,rfl,rfl,rfl,rfl,rfl,rfl,rfl,rfl,rfl,rfl,ho⟩⟩
 have hk:¬c.kind=1:=by simpa using e
 rw[ySe hk]at hX
 refine(fun hT=>⟨hT,rfl,trivial,hT⟩) ?_
 refine⟨⟨m.s,m.p,B,c.id,0⟩,rfl,rfl,⟨hR,by dsimp only;omega⟩,fun _ _=>Cv.cnd.mk (fun e=> ?_) (fun e=> ?_)⟩
 ·have e:(zT B c.id).2.2=false:=by simpa using e
  have hx:X=⟨B,m.used,cK c 26⟩:=by rw[hX,ySf e]
  exact⟨⟨c,26⟩,rfl,rfl,rfl,rfl,rfl,rfl,rfl,rfl,rfl,rfl,trivial,fun _ _=>⟨m,rfl,rfl,rfl,rfl,rfl,rfl,rfl,rfl,rfl,rfl,rfl,rfl,rfl,by rw[hx];rfl,by rw[hx];exact hM⟩⟩
 have e:(zT B c.id).2.2=true:=by simpa using e
 rw[ySe (by rw[e];decide)]at hX
 dsimp only
 have hf:zT B c.id=((zT B c.id).1,(zT B c.id).2.1,true):=by rw[← e]
 generalize (zT B c.id).1=inst at*
 generalize (zT B c.id).2.1=o at*
 obtain⟨hin,hoo⟩:=zQr hwf hf
 have hoq:=hoo.q
 refine Cv.cnd.mk (fun e4=> ?_) (fun e4=>Cv.cnd.mk (fun e2=> ?_) (fun e2=>zK (fun e3=> ?_) (fun e3=> ?_)))
 ·have e4:c.kind=4:=by simpa using e4
  rw[ySf e4]at hX
  exact⟨⟨m,m.p,B,m.used,c,inst,o,X⟩,rfl,rfl,rfl,rfl,rfl,rfl,rfl,rfl,rfl,rfl,rfl,rfl,rfl,rfl,rfl,rfl,rfl,rfl,rfl,rfl,rfl,rfl,rfl,rfl,rfl,rfl,rfl,rfl,⟨hM,hB,hf,bC hr hk (by rw[e4];decide),hX⟩,fun o' ho=>⟨o',rfl,rfl,rfl,rfl,rfl,rfl,rfl,rfl,rfl,rfl,rfl,rfl,rfl,rfl,ho⟩⟩
 all_goals
  have e4:¬c.kind=4:=by simpa using e4
  rw[ySe e4]at hX
 ·have e2:c.kind=2:=by simpa using e2
  rw[ySf (.inl e2)]at hX
  exact⟨⟨m,m.p,B,m.used,c.id,0,inst,o,X⟩,rfl,rfl,rfl,rfl,rfl,rfl,rfl,rfl,rfl,rfl,rfl,rfl,rfl,rfl,rfl,rfl,rfl,rfl,rfl,rfl,⟨⟨hM,hB⟩,hX⟩,fun o' ho=>⟨o',rfl,rfl,rfl,rfl,rfl,rfl,rfl,rfl,rfl,rfl,rfl,rfl,rfl,rfl,ho⟩⟩
 ·rw[ySf (.inr (by omega))]at hX
  exact⟨⟨m,m.p,B,m.used,c.id,0,inst,o,X⟩,rfl,rfl,rfl,rfl,rfl,rfl,rfl,rfl,rfl,rfl,rfl,rfl,rfl,rfl,rfl,rfl,rfl,rfl,rfl,rfl,⟨⟨hM,hB⟩,hX⟩,fun o' ho=>⟨o',rfl,rfl,rfl,rfl,rfl,rfl,rfl,rfl,rfl,rfl,rfl,rfl,rfl,rfl,ho⟩⟩
 ·have e2:¬c.kind=2:=by simpa using e2
  have hq:=bC hr hk e2
  rw[ySe (by omega)]at hX
  exact⟨⟨m,m.p,B,m.used,c.id,c.qty,inst,o,X⟩,rfl,rfl,rfl,rfl,rfl,rfl,rfl,rfl,rfl,rfl,rfl,rfl,rfl,rfl,rfl,rfl,rfl,rfl,rfl,rfl,rfl,⟨⟨hM,hB⟩,⟨by dsimp only;omega,by dsimp only;omega⟩,hX⟩,fun o' ho=>⟨o',rfl,rfl,rfl,rfl,rfl,rfl,rfl,rfl,rfl,rfl,rfl,rfl,rfl,rfl,ho⟩⟩
theorem do_ok:doC.ok Tryz.prog 13:=okw mixed (gokc yBw (gokc zYc (gokc z9d (gokc z9z (gokc z0i (gokc zNx (gokc zQe gok0))))))) 0 (fun _=>[]) (fun _=>[]) [0] Tryz.func13 vdo
open Go Cv Go.Proofs
def yQu (t:Nat):SAnn:={ι:=Prd,slots:=fun _=>[(t,.nm 0 0)],rows:=fun p=>[.cells [sV p.code,.own 1,zA p.tick,zA p.low,zA p.high,zA p.wide,zA p.rule,zA p.top,zA p.least,zA p.part,.own 2] 29,.fro 1 (iE p.months),.fro 1 (iE p.settle)]}
open Go Cv Go.Proofs
open Go Cv Go.Proofs
theorem zPk {p:Prd} (hc:p.check=0):1≤p.count∧p.count≤21:=by
 have h1:=dX hc
 have h2:=(qG hc).m2
 have h3:=xV p
 omega
theorem yDg (t:TmI):1≤(qY t).qty∧(qY t).qty≤12:=by
 have:=xK (n:=t.c.qty) (lo:=0) (hi:=11) (by omega)
 have e:(qY t).qty=1+zH t.c.qty 0 11:=by rw[qY];split<;>rfl
 omega
theorem zZb (t:TmI):(qY t).label=[]:=by
 rw[qY];split<;>rfl
open Go Cv Go.Proofs
open Go Cv Go.Proofs
def PS (p:Prd) (T:List Top) (n:Nat) (s:Int) (v:Int):Prop:=∃q∈qC ⟨p,T,n⟩ s,q.price=v
@[reducible] def pG (T:List Top):Prop:=∀k s,-2000000≤(T.getD k top0).price s∧(T.getD k top0).price s≤2000000
theorem yHp {x y:Int} (hx: -2000000≤x∧x≤2000000) (hy: -2000000≤y∧y≤2000000):uL x y=(x-y,true):=by
 have:yY (x-y):=⟨by omega,by omega⟩
 rw[uL,ySf this]
theorem yDy {x y:Int} (hx: -2000000≤x∧x≤2000000) (hy: -2000000≤y∧y≤2000000):vZ x y=(x+y,true):=by
 have:yY (x+y):=⟨by omega,by omega⟩
 rw[vZ,ySf this]
@[reducible] def mkV (T:List Top) (a b:Leg) (less:Bool):Int:=if less=true then(T.getD b.inst.toNat top0).price b.side-(T.getD a.inst.toNat top0).price a.side else(T.getD a.inst.toNat top0).price a.side+(T.getD b.inst.toNat top0).price b.side
theorem z9o {T:List Top} (h:pG T) (a b:Leg) (less:Bool):mkq T a b less=if((T.getD a.inst.toNat top0).has a.side && (T.getD b.inst.toNat top0).has b.side)=true then[⟨mkV T a b less,min ((T.getD a.inst.toNat top0).qty a.side) ((T.getD b.inst.toNat top0).qty b.side),a,b⟩]else[]:=by
 have h1:=h a.inst.toNat a.side
 have h2:=h b.inst.toNat b.side
 cases less with
 |true=>simp only[mkq,yHp h2 h1,if_true,Bool.and_true];rfl
 |false=>simp only[mkq,yDy h1 h2,ySu,if_false,Bool.and_true];rfl
theorem zQs {T:List Top} (h:pG T) (a b:Leg) (less:Bool) (q:Quote):q∈mkq T a b less→(T.getD a.inst.toNat top0).has a.side=true∧(T.getD b.inst.toNat top0).has b.side=true∧q.price=mkV T a b less:=by
 rw[z9o h]
 intro hq
 cases c:((T.getD a.inst.toNat top0).has a.side && (T.getD b.inst.toNat top0).has b.side)with
 |true=>
  rw[ySf c]at hq
  rw[ySs]at c
  rw[yUd.1 hq]
  exact⟨c.1,c.2,rfl⟩
 |false=>rw[ySe (by rw[c];decide)]at hq;cases hq
theorem zQp {T:List Top} (h:pG T) (a b:Leg) (less:Bool) (ha:(T.getD a.inst.toNat top0).has a.side=true) (hb:(T.getD b.inst.toNat top0).has b.side=true):∃q∈mkq T a b less,q.price=mkV T a b less:=by
 rw[z9o h,ySf (by rw[ha,hb];rfl)]
 exact⟨_,yUd.2 rfl,rfl⟩
theorem yHo:∀n≤6,∀k<n+n*(n-1) / 2,n≤k→∃a<n,∃b<n,a<b∧(yG n a:Int)+b-a-1=k:=by decide
theorem zNz {p:Prd} (hc:p.check=0) {a b:Nat} (hab:a<b) (hb:b<p.months.length):(p.spread a b).1=(yG p.months.length a:Int)+b-a-1:=by
 rw[Prd.spread,ySe (by omega)]
 simp
structure Tri (p:Prd) (a b k:Nat):Prop where
 hab:a<b
 hb:b<p.months.length
 hs:(p.spread a b).1=k
 hk:k<p.count
 hm:p.months.length≤k
 hl:p.legs k=((a:Int),(b:Int),true)
theorem zSy {p:Prd} (hc:p.check=0) {a b:Nat} (hab:a<b) (hb:b<p.months.length):∃k,Tri p a b k:=by
 have m6:=(qG hc).m6
 have e:=zNz hc hab hb
 have l:=z4d hc (a:=a) (b:=b-a-1) (by omega) (by omega)
 have lf:=zTu p.months.length m6 a (by omega) (b-a-1) (by omega)
 refine⟨yG p.months.length a+(b-a-1),hab,hb,by rw[e];omega,by rw[gS hc];exact lf.2.1,lf.2.2,?_⟩
 rw[l,show a+1+(b-a-1)=b by omega]
theorem yPt {p:Prd} (hc:p.check=0) {k:Nat} (hk:k<p.count) (hm:p.months.length≤k):∃a b,Tri p a b k:=by
 have m6:=(qG hc).m6
 obtain⟨a,ha,b,hb,hab,e⟩:=yHo p.months.length m6 k (by rw[← gS hc];exact hk) hm
 obtain⟨k',t⟩:=zSy hc hab hb
 have:k'=k:=by have:=t.hs;rw[zNz hc hab hb,e]at this;omega
 exact⟨a,b,this▸t⟩
theorem z1f {p:Prd} (hc:p.check=0) {T:List Top} (h:pG T) (hT:T.length=p.count) {a b k:Nat} (t:Tri p a b k) {s:Int} {v:Int}:
 PS p T k s v↔(T.getD a top0).has s=true∧(T.getD b top0).has (3-s)=true∧v=(T.getD a top0).price s-(T.getD b top0).price (3-s):=by
 have hk:=t.hk
 have e:qC ⟨p,T,k⟩ s=(yM ⟨p,T,k⟩ s).map (fS ⟨p,T,k⟩ s):=by
  rw[qC,ySe (by dsimp only;omega),ySf (by dsimp only;rw[t.hl])]
 have e2:yM ⟨p,T,k⟩ s=mkq T ⟨b,3-s⟩ ⟨a,s⟩ true:=by
  rw[yM];dsimp only;rw[t.hl]
 rw[PS,e,e2]
 constructor
 ·rintro⟨q,hq,rfl⟩
  obtain⟨q',hq',rfl⟩:=yTh.1 hq
  obtain⟨m1,m2,m3⟩:=zQs h _ _ _ _ hq'
  exact⟨m2,m1,m3⟩
 ·rintro⟨h1,h2,rfl⟩
  obtain⟨q,hq,hp⟩:=zQp h ⟨b,3-s⟩ ⟨a,s⟩ true h2 h1
  exact⟨_,yTh.2 ⟨q,hq,rfl⟩,hp⟩
theorem zEx {p:Prd} (hc:p.check=0) {T:List Top} (h:pG T) (hT:T.length=p.count) {n:Nat} (hn:n<p.months.length) {s:Int} {v:Int}:
 PS p T n s v↔(∃b k,Tri p n b k∧(T.getD k top0).has s=true∧(T.getD b top0).has s=true∧v=(T.getD k top0).price s+(T.getD b top0).price s)∨
  (∃a k,Tri p a n k∧(T.getD k top0).has (3-s)=true∧(T.getD a top0).has s=true∧v=(T.getD a top0).price s-(T.getD k top0).price (3-s)):=by
 have hcg:=dX hc
 have hls:(p.legs n).2.2=false:=by rw[zVm hc (by omega) (by omega)];exact ySp (by omega)
 have e:qC ⟨p,T,n⟩ s=qX ⟨p,T,n⟩ s (p.months.length-(n+1))++kB ⟨p,T,n⟩ s n:=by
  rw[qC,ySe (by dsimp only;omega),ySe (by dsimp only;rw[hls];decide)]
  simp
 rw[PS,e]
 have cast:∀j:Nat,(n:Int)+1+j=((n+1+j:Nat):Int):=fun j=>by omega
 constructor
 ·rintro⟨q,hq,rfl⟩
  rcases yTi.1 hq with hq|hq
  ·left
   simp only[qX,yUg,yUv]at hq
   obtain⟨j,hj,hq⟩:=hq
   obtain⟨k,t⟩:=zSy hc (a:=n) (b:=n+1+j) (by omega) (by omega)
   rw[cast,t.hs]at hq
   obtain⟨m1,m2,m3⟩:=zQs h _ _ _ _ hq
   exact⟨_,_,t,m1,m2,m3⟩
  ·right
   simp only[kB,yUg,yUv]at hq
   obtain⟨j,hj,hq⟩:=hq
   obtain⟨k,t⟩:=zSy hc (a:=j) (b:=n) hj hn
   rw[t.hs]at hq
   obtain⟨m1,m2,m3⟩:=zQs h _ _ _ _ hq
   exact⟨_,_,t,m1,m2,m3⟩
 ·rintro(⟨b,k,t,h1,h2,rfl⟩|⟨a,k,t,h1,h2,rfl⟩)
  ·obtain⟨q,hq,hp⟩:=zQp h ⟨k,s⟩ ⟨b,s⟩ false h1 h2
   have hab:=t.hab
   have hb:=t.hb
   refine⟨q,yTr _ ?_,hp⟩
   simp only[qX,yUg,yUv]
   refine⟨b-(n+1),by omega,?_⟩
   rw[cast,show n+1+(b-(n+1))=b by omega,t.hs]
   exact hq
  ·obtain⟨q,hq,hp⟩:=zQp h ⟨k,3-s⟩ ⟨a,s⟩ true h1 h2
   refine⟨q,yTu _ ?_,hp⟩
   simp only[kB,yUg,yUv]
   refine⟨a,t.hab,?_⟩
   rw[t.hs]
   exact hq
theorem yOo (t:Top):t.has 1=t.has1:=rfl
theorem cS (t:Top):t.price 1=t.p1:=rfl
theorem aF (t:Top):t.price 2=t.p2:=rfl
open Go Cv Go.Proofs
theorem yRm {l:List Cmd} {k:Nat} {c:Cmd} (h:l[k]? =some c):zF (l.map cmdE) k 0 9=some [D.v (.int .i64 c.kind),.v (.int .i64 c.id),.v (.int .i64 c.inst),.v (.int .i64 c.side),.v (.int .i64 c.price),.v (.int .i64 c.qty),.v (.int .i64 c.least),.v (.int .i64 c.time),.v (.string (sb c.label))]:=elA h (by simp[cmdE]) rfl
def mk0 (p:Prd):Mkt:=⟨p,h8 p,[]⟩
theorem yHh (p:Prd):(mk0 p).Rep p (List.replicate p.count []) []:=⟨rfl,z0f _,rfl⟩
theorem mdo {m:Mkt} {p:Prd} {B:List (List zD)} {U:List Int} (h:m.Rep p B U) (hB:BOk p B) (c:Cmd):BOk p (doF p B U c).B:=yMj (by have:=h.s;exact this.wf hB) U c
open Go Cv Go.Proofs
structure yPj (p:Prd) (B:List (List zD)) (q:Int) (g:List vA) (k:Nat) (s pr:Int):Prop where
 lt:k<B.length
 s12:s=1∨s=2
 eq:g=yK k s (atL (B.getD k []) s pr) (qI ⟨p,atL (B.getD k []) s pr,q⟩)
 sh:zLu ((atL (B.getD k []) s pr).map (·.qty)) (qI ⟨p,atL (B.getD k []) s pr,q⟩) q
 ne:g≠[]
theorem zNs {inst s:Int}:∀{os:List zD} {sh:List Int},sh.length=os.length→yK inst s os sh=[]→(∀n,0≤sh.getD n 0)→sh.sum=0
 |[],[],_,_,_=>rfl
 |[],_::_,h,_,_=>by cases h
 |_::_,[],h,_,_=>by cases h
 |o::os,x::sh,h,h2,h3=>by
  rw[yK]at h2
  split at h2
  ·cases h2
  ·have:=zNs (os:=os) (sh:=sh) (by simpa using h) h2 fun n=>h3 (n+1)
   have h0:0≤x:=h3 0
   rw[yTc];omega
theorem zSp {p:Prd} {B:List (List zD)} (h:BWf p B) {k:Nat} {L:List zD} (hL:B[k]? =some L) {s:Int} (hs:s=1∨s=2) {q:Int} (hb:(bestL L s).2=true) (hq:1≤q∧q≤(bestL L s).1.qty):
 yPj p B q (y4 p B k s q) k s (bestL L s).1.price:=by
 have ho:=h.od k L hL
 have hsr:=h.srt k L hL s hs
 have hlv:zFj B k s=atL L s (bestL L s).1.price:=by rw[zFj,ySt,zI hL]
 obtain⟨v,vs,hl⟩:∃v vs,wB L s=v::vs:=by
  cases e:wB L s with
  |nil=>rw[bestL,e]at hb;cases hb
  |cons v vs=>exact⟨v,vs,rfl⟩
 have hv:(bestL L s).1=v:=by rw[bestL,hl]
 rw[hv]at hq hlv ⊢
 have hgs:=zFw hsr (v:=v) (vs:=vs) (by rw[← hl];rfl)
 have hat:atL L s v.price=(kX L s).filter fun o=>decide (o.price=v.price):=yDu L s v.price
 have hvq:v.qty=((atL L s v.price).map (·.qty)).sum:=by
  have:=congrArg Lv.qty hgs.1
  rw[hat];exact this
 have hr:yT ((atL L s v.price).map (·.qty)) q=true:=by
  refine z0d ?_ (by omega) (fun x hx=> ?_) (by omega)
  ·rw[ySh];exact yVa (yVk _ _) ho.2.2
  ·obtain⟨o,hm,rfl⟩:=yTh.1 hx
   exact(ho.1 o (yTp.1 hm).1).q
 have hS:=zDf h.ok.pc hr
 have e:y4 p B k s q=yK k s (atL (B.getD k []) s v.price) (qI ⟨p,atL (B.getD k []) s v.price,q⟩):=by
  rw[y4,hlv,zI hL]
 refine⟨(ySg.1 hL).1,hs,e,by rw[zI hL];exact hS,fun e2=> ?_⟩
 rw[e,zI hL]at e2
 have:=zNs (by rw[hS.len,ySh]) e2 fun n=>(hS.bd n).1
 have:=hS.sum
 omega
theorem zGw {j:Nat} {L:List zD}:∀{fs:List vA} {B:List (List zD)},B[j]? =some L→(∀f∈fs,kC L f.id=false)→(yZ B fs)[j]? =some L
 |[],B,h,_=>h
 |f::fs,B,h,hf=>by
  refine zGw (fs:=fs) (B:=(yU B f.id f.qty).1) ?_ fun g hg=>hf g (ySl _ hg)
  rw[yU]
  split
  ·exact h
  ·rename_i k hk
   dsimp only
   have hne:k≠j:=by
    rintro rfl
    obtain⟨L',hL',hh⟩:=xL hk
    rw[h]at hL'
    cases hL'
    rw[hf f ySk]at hh
    cases hh
   rw[List.getElem?_set_ne hne];exact h
theorem lO {inst s:Int} {f:vA}:∀{os:List zD} {sh:List Int},f∈yK inst s os sh→∃o∈os,f.id=o.id
 |[],sh,h=>by cases h
 |o::os,[],h=>by cases h
 |o::os,k::sh,h=>by
  rw[yK]at h
  split at h
  ·rcases ySy.1 h with rfl|h
   ·exact⟨o,ySk,rfl⟩
   ·obtain⟨o',c,d⟩:=lO h
    exact⟨o',ySl _ c,d⟩
  ·obtain⟨o',c,d⟩:=lO h
   exact⟨o',ySl _ c,d⟩
theorem gO {p:Prd} {B:List (List zD)} (h:BWf p B) {k j:Nat} (hne:k≠j) {L L':List zD} (hL:B[k]? =some L) (hL':B[j]? =some L') (s q:Int):(yZ B (y4 p B k s q))[j]? =some L':=by
 refine zGw hL' fun f hf=> ?_
 obtain⟨o,ho,e⟩:=lO hf
 have ho:=(yTp.1 ho).1
 rw[ySt,zI hL]at ho
 cases hh:kC L' f.id with
 |false=>rfl
 |true=>
  have a:=h.inst hL' (hasId_iff.1 hh)
  have b:=h.inst hL (id:=f.id) (by rw[e];exact yTh.2 ⟨o,ho,rfl⟩)
  rw[a]at b
  cases b
  exact absurd rfl hne
open Go Cv Go.Proofs
def lpq (l:List Lv):List (Int×Int):=l.map fun v=>(v.price,v.qty)
def zHh (l:List (Int×Int)) (x:Int):List (Int×Int):=match l with
 |[]=>[]
 |(p,q)::l=>if q≤x then l else(p,q-x)::l
theorem zCl {A:List zD} {id x:Int} (h:∀o∈A,o.id≠id):yQ A id x=A:=by
 rw[yQ]
 induction A with
 |nil=>rfl
 |cons a A ih=>
  rw[yWc,ySe (h a ySk)]
  simp only
  rw[ih fun o ho=>h o (ySl _ ho)]
theorem zVx {id x:Int}:∀{A:List zD} {o:zD},(A.map (·.id)).Nodup→o∈A→o.id=id→((yQ A id x).map (·.qty)).sum=(A.map (·.qty)).sum-x
 |a::A,o,hn,ho,e=>by
  rw[ySn,yUb]at hn
  rw[yQ,yWc]
  by_cases h:a.id=id
  ·have hno:∀y∈A,y.id≠id:=by
    intro y hy e2
    exact hn.1 (by rw[h,← e2];exact yTh.2 ⟨y,hy,rfl⟩)
   have ht:A.filterMap (fun o=>if o.id=id then if o.qty=x then none else some {o with qty:=o.qty-x}else some o)=A:=zCl hno
   rw[ySf h]
   by_cases h2:a.qty=x
   ·rw[ySf h2]
    simp only
    rw[ht,ySn,yTc];omega
   ·rw[ySe h2]
    simp only
    rw[ht,ySn,ySn,yTc,yTc]
    simp only
    omega
  ·rw[ySe h]
   simp only
   have ho:o∈A:=by
    rcases ySy.1 ho with rfl|ho
    ·exact absurd e h
    ·exact ho
   have:=zVx (x:=x) hn.2 ho e
   rw[yQ]at this
   rw[ySn,ySn,yTc,yTc,this];omega
theorem zZx (L:List zD) (id q pr:Int):(yQ L id q).filter (fun o=>decide (o.price=pr))=yQ (L.filter fun o=>decide (o.price=pr)) id q:=by
 rw[yQ,yQ,List.filter_filterMap,List.filterMap_filter]
 refine vK fun o _=> ?_
 by_cases e1:o.id=id
 ·rw[ySf e1]
  by_cases e2:o.qty=q
  ·rw[ySf e2];simp
  ·rw[ySe e2];by_cases e3:o.price=pr<;>simp[Option.filter,e3]
 ·rw[ySe e1];by_cases e3:o.price=pr<;>simp[Option.filter,e3]
theorem zTl (L:List zD) (id q pr:Int):(yQ L id q).filter (fun o=> !decide (o.price=pr))=yQ (L.filter fun o=> !decide (o.price=pr)) id q:=by
 rw[yQ,yQ,List.filter_filterMap,List.filterMap_filter]
 refine vK fun o _=> ?_
 by_cases e1:o.id=id
 ·rw[ySf e1]
  by_cases e2:o.qty=q
  ·rw[ySf e2];simp
  ·rw[ySe e2];by_cases e3:o.price=pr<;>simp[Option.filter,e3]
 ·rw[ySe e1];by_cases e3:o.price=pr<;>simp[Option.filter,e3]
theorem yAi {A:List zD} {id x:Int} {y:zD} (h:y∈yQ A id x):∃z∈A,y.price=z.price:=by
 obtain⟨z,hz,e⟩:=yVv.1 h
 refine⟨z,hz,?_⟩
 split at e
 ·split at e
  ·cases e
  ·cases e;rfl
 ·cases e;rfl
theorem z7p {A:List zD} (h:A≠[]):∃v vs,grp A=v::vs:=by
 cases A with
 |nil=>exact absurd rfl h
 |cons a A=>
  rw[grp]
  split
  ·exact⟨_,_,rfl⟩
  ·split<;>exact⟨_,_,rfl⟩
theorem zMp:∀{l:List Int} {a:Int},(∀q∈l,0≤q)→a∈l→a≤l.sum
 |b::l,a,h,ha=>by
  rw[yTc]
  have h1:=h b ySk
  have h2:=zIi fun q hq=>h q (ySl _ hq)
  rcases ySy.1 ha with rfl|ha
  ·omega
  ·have:=zMp (fun q hq=>h q (ySl _ hq)) ha
   omega
theorem z8i {s:Int} {F:List zD} (hs:zCm s F) (hn:(F.map (·.id)).Nodup) {o:zD} (ho:o∈F) {v:Lv} {vs:List Lv} (hg:grp F=v::vs) (hp:o.price=v.price) {x:Int} (hq:∀y∈yQ F o.id x,1≤y.qty) (hs2:zCm s (yQ F o.id x)):
 lpq (grp (yQ F o.id x))=zHh (lpq (grp F)) x:=by
 obtain⟨a1,a2,a3⟩:=zFw hs hg
 have hol:o∈F.filter fun o=>decide (o.price=v.price):=yTp.2 ⟨ho,by simpa using hp⟩
 have hsum:=zVx (x:=x) (hn.sublist (List.Sublist.map _ (yVq (p:=fun o=>decide (o.price=v.price)) (l:=F)))) hol rfl
 have hv:v.qty=((F.filter fun o=>decide (o.price=v.price)).map (·.qty)).sum:=congrArg Lv.qty a1
 have hout:yQ (F.filter fun o=> !decide (o.price=v.price)) o.id x=F.filter fun o=> !decide (o.price=v.price):=by
  refine zCl fun y hy e=> ?_
  obtain⟨y1,y2⟩:=yTp.1 hy
  have h1:=vY hn y1
  have h2:=vY hn ho
  rw[e,h2]at h1
  rw[← h1]at y2
  simp[hp]at y2
 rw[hg]
 have hd:zHh (lpq (v::vs)) x=if v.qty≤x then lpq vs else(v.price,v.qty-x)::lpq vs:=rfl
 rw[hd]
 rw[← zZx,← hv]at hsum
 rw[← zTl]at hout
 have hmem:∀y∈yQ F o.id x,∃z∈F,y.price=z.price:=fun y hy=>yAi hy
 generalize yQ F o.id x=F' at*
 by_cases hE:F'.filter (fun o=>decide (o.price=v.price))=[]
 ·rw[hE]at hsum
  have hsum:(0:Int)=v.qty-x:=hsum
  rw[ySf (by omega),a2,← hout]
  congr 2
  symm
  rw[yWn]
  intro y hy
  have:=yXu.1 hE y hy
  simpa using this
 ·obtain⟨y,hy⟩:=List.exists_mem_of_ne_nil _ hE
  obtain⟨y1,y2⟩:=yTp.1 hy
  have y2:y.price=v.price:=by simpa using y2
  obtain⟨v',vs',hg'⟩:=z7p (A:=F') (by rintro rfl;cases y1)
  obtain⟨b1,b2,b3⟩:=zFw hs2 hg'
  obtain⟨w,wr,hw,hwp⟩:=sI hg'
  have e1:=b3 y y1
  obtain⟨z,hz,hzp⟩:=hmem w (by rw[hw];exact ySk)
  have e2:=a3 z hz
  rw[← hzp,hwp]at e2
  rw[y2]at e1
  have ep:v'.price=v.price:=yBr e1 e2
  have hv':v'.qty=((F'.filter fun o=>decide (o.price=v'.price)).map (·.qty)).sum:=congrArg Lv.qty b1
  rw[ep,hsum]at hv'
  have hpos:1≤v.qty-x:=by
   rw[← hsum]
   have hyq:=hq y y1
   have h0:∀q∈(F'.filter fun o=>decide (o.price=v.price)).map (·.qty),0≤q:=by
    intro q hq2
    obtain⟨u,hu,rfl⟩:=yTh.1 hq2
    have:=hq u (yTp.1 hu).1
    omega
   have:=zMp h0 (yTh.2 ⟨y,hy,rfl⟩)
   omega
  rw[ySe (by omega),hg',b2,ep,hout,← a2]
  show(v'.price,v'.qty)::lpq vs=_
  rw[ep,hv']
open Go Cv Go.Proofs
theorem yAm {L:List zD} {s pr Q:Int} {rest:List (Int×Int)} (h:lpq (wB L s)=(pr,Q)::rest):∃v vs,wB L s=v::vs∧v.price=pr∧v.qty=Q∧lpq vs=rest:=by
 cases e:wB L s with
 |nil=>rw[e]at h;cases h
 |cons v vs=>rw[e]at h;cases h;exact⟨v,vs,rfl,rfl,rfl,rfl⟩
theorem zPu (L:List zD) (s id q:Int):kX (yQ L id q) s=yQ (kX L s) id q:=by
 rw[kX,kX,yQ,yQ,List.filter_filterMap,List.filterMap_filter]
 refine vK fun o _=> ?_
 by_cases e1:o.id=id
 ·rw[ySf e1]
  by_cases e2:o.qty=q
  ·rw[ySf e2];simp
  ·rw[ySe e2];by_cases e3:o.side=s<;>simp[Option.filter,e3]
 ·rw[ySe e1];by_cases e3:o.side=s<;>simp[Option.filter,e3]
theorem zJg {inst s:Int}:∀{os:List zD} {sh:List Int},(∀n,0≤sh.getD n 0)→sh.sum=0→yK inst s os sh=[]
 |[],sh,_,_=>by rw[yK];simp
 |_::_,[],_,_=>by rw[yK];simp
 |o::os,x::sh,h,h2=>by
  have h0:0≤x:=h 0
  have h1:0≤sh.sum:=zIi fun y hy=>by
   obtain⟨n,hn⟩:=yXe hy
   have:=h (n+1)
   have e:(x::sh).getD (n+1) 0=y:=zI (by rw[yTx];exact hn)
   omega
  rw[yTc]at h2
  rw[yK,ySe (by omega)]
  exact zJg (fun n=>h (n+1)) (by omega)
theorem yEw {pr Q x y:Int} {rest:List (Int×Int)} (h:x<Q):zHh (zHh ((pr,Q)::rest) x) y=zHh ((pr,Q)::rest) (x+y):=by
 have e:zHh ((pr,Q)::rest) x=(pr,Q-x)::rest:=ySe (by omega)
 rw[e]
 show(if Q-x≤y then rest else(pr,Q-x-y)::rest)=if Q≤x+y then rest else(pr,Q-(x+y))::rest
 by_cases c:Q≤x+y
 ·rw[ySf (by omega),ySf c]
 ·rw[ySe (by omega),ySe c,show Q-x-y=Q-(x+y)by omega]
theorem zDx {p:Prd} {k:Nat} {i s pr:Int} (hs:s=1∨s=2):∀{os:List zD} {sh:List Int} {B:List (List zD)} {L:List zD} {Q:Int} {rest:List (Int×Int)},BWf p B→B[k]? =some L→
 (∀o∈os,o∈L∧o.side=s∧o.price=pr)→(os.map (·.id)).Nodup→sh.length=os.length→(∀n,0≤sh.getD n 0∧sh.getD n 0≤(os.map (·.qty)).getD n 0)→lpq (wB L s)=(pr,Q)::rest→sh.sum≤Q→1≤Q→
 ∃L1,(yZ B (yK i s os sh))[k]? =some L1∧lpq (wB L1 s)=zHh ((pr,Q)::rest) sh.sum∧∀z,z≠s→wB L1 z=wB L z
 |[],sh,B,L,Q,rest,h,hL,_,_,hl,_,hd,_,hQ=>by
  have:sh=[]:=List.length_eq_zero_iff.1 hl
  subst this
  refine⟨L,hL,?_,fun _ _=>rfl⟩
  rw[hd,List.sum_nil]
  show _=if Q≤0 then rest else(pr,Q-0)::rest
  rw[ySe (by omega),Int.sub_zero]
 |o::os,[],B,L,Q,rest,h,hL,_,_,hl,_,_,_,_=>by cases hl
 |o::os,x::sh,B,L,Q,rest,h,hL,ho,hn,hl,hb,hd,hsum,hQ=>by
  have hx:0≤x∧x≤o.qty:=hb 0
  have hb':∀n,0≤sh.getD n 0∧sh.getD n 0≤(os.map (·.qty)).getD n 0:=fun n=>hb (n+1)
  have hl':sh.length=os.length:=by simpa using hl
  rw[ySn,yUb]at hn
  obtain⟨ho0,hos,hop⟩:=ho o ySk
  have ho':∀y∈os,y∈L∧y.side=s∧y.price=pr:=fun y hy=>ho y (ySl _ hy)
  rw[yTc]at hsum ⊢
  have hs0:0≤sh.sum:=zIi fun y hy=>by
   obtain⟨n,hn⟩:=yXe hy
   have:=(hb' n).1
   have e:sh.getD n 0=y:=zI hn
   omega
  rw[yK]
  by_cases c:0<x
  ·rw[ySf c]
   have hod:=h.od k L hL
   have hk:=(ySg.1 hL).1
   have hi:=h.inst hL (yTb (f:=(·.id)) ho0)
   have hg:=vY hod.2.1 ho0
   have hh:kC L o.id=true:=hasId_iff.2 (yTb (f:=(·.id)) ho0)
   have ht:(yU B o.id x).1=B.set k (yQ L o.id x):=by
    simp only[yU,hi,zI hL]
    rw[xR,ySe (by rw[hh];decide),ySe (by rw[hg];omega)]
   have hW:=h.take o.id x
   show ∃L1,(yZ (yU B o.id x).1 (yK i s os sh))[k]? =some L1∧_
   rw[ht]at hW ⊢
   have hL':(B.set k (yQ L o.id x))[k]? =some (yQ L o.id x):=wW hk
   obtain⟨v,vs,e1,e2,e3,e4⟩:=yAm hd
   have hF:o∈kX L s:=yTp.2 ⟨ho0,by simpa using hos⟩
   have hsd:=zPu L s o.id x
   have hlt:=z8i (h.srt k L hL s hs) (hod.2.1.sublist (List.Sublist.map _ yVq)) hF (v:=v) (vs:=vs) (by rw[← e1];rfl) (by rw[hop,e2]) (x:=x) (fun y hy=>by
    rw[← hsd]at hy
    exact((hW.od k _ hL').1 y (yTp.1 hy).1).q.1) (by rw[← hsd];exact hW.srt k _ hL' s hs)
   rw[← hsd]at hlt
   have hlt:lpq (wB (yQ L o.id x) s)=zHh (lpq (wB L s)) x:=hlt
   rw[hd]at hlt
   have hoth:∀z,z≠s→wB (yQ L o.id x) z=wB L z:=by
    intro z hz
    show grp (kX (yQ L o.id x) z)=grp (kX L z)
    rw[zPu,zCl fun y hy e=> ?_]
    obtain⟨y1,y2⟩:=yTp.1 hy
    have:=vY hod.2.1 y1
    rw[e,hg]at this
    subst this
    have y2:o.side=z:=by simpa using y2
    exact hz (by rw[← y2,hos])
   by_cases c2:sh.sum=0
   ·rw[zJg (fun n=>(hb' n).1) c2,c2,Int.add_zero]
    exact⟨_,hL',hlt,hoth⟩
   ·have e5:zHh ((pr,Q)::rest) x=(pr,Q-x)::rest:=ySe (by omega)
    have hlt2:=hlt
    rw[e5]at hlt2
    obtain⟨L1,g1,g2,g3⟩:=zDx (i:=i) hs hW hL' (fun y hy=>⟨yVv.2 ⟨y,(ho' y hy).1,ySe fun(e:y.id=o.id)=>hn.1 (e▸yTb (f:=(·.id)) hy)⟩,(ho' y hy).2⟩) hn.2 hl' hb' hlt2 (by omega) (by omega)
    refine⟨L1,g1,?_,fun z hz=>(g3 z hz).trans (hoth z hz)⟩
    rw[g2,← e5,yEw (by omega)]
  ·rw[ySe c]
   have:x=0:=by omega
   subst this
   rw[Int.zero_add]at hsum ⊢
   exact zDx hs h hL ho' hn.2 hl' hb' hd hsum hQ
theorem zDp {p:Prd} {B:List (List zD)} (h:BWf p B) {k:Nat} {L:List zD} (hL:B[k]? =some L) {s:Int} (hs:s=1∨s=2) {q:Int} (hb:(bestL L s).2=true) (hq:1≤q∧q≤(bestL L s).1.qty):
 ∃L1,(yZ B (y4 p B k s q))[k]? =some L1∧lpq (wB L1 s)=zHh (lpq (wB L s)) q∧∀z,z≠s→wB L1 z=wB L z:=by
 have G:=zSp h hL hs hb hq
 have e:=G.eq
 have S:=G.sh
 rw[zI hL]at e S
 have ho:=h.od k L hL
 cases hl:wB L s with
 |nil=>rw[bestL,hl]at hb;cases hb
 |cons v vs=>
  have hv:(bestL L s).1=v:=by rw[bestL,hl]
  rw[hv]at e S hq
  obtain⟨L1,g1,g2,g3⟩:=zDx (i:=k) (pr:=v.price) (Q:=v.qty) (rest:=lpq vs) (os:=atL L s v.price) hs h hL (fun o hm=>by
   obtain⟨a,b⟩:=yTp.1 hm
   simp only[ySs,yTj]at b
   exact⟨a,b⟩) (ho.2.1.sublist (List.Sublist.map _ yVq)) (by rw[S.len,ySh]) S.bd (by rw[hl];rfl) (by rw[S.sum];omega) (by omega)
  rw[e]
  refine⟨L1,g1,?_,g3⟩
  rw[g2,S.sum];rfl
def hdQ:List (Int×Int)→Int×Int×Bool
 |[]=>(0,0,false)
 |(p,q)::_=>(p,q,true)
theorem yHi (L:List zD) (s:Int):((bestL L s).1.price,(bestL L s).1.qty,(bestL L s).2)=hdQ (lpq (wB L s)):=by
 rw[bestL]
 cases wB L s<;>rfl
theorem uJ (B:List (List zD)) (k:Nat) (s:Int) (hs:s=1∨s=2):((B.map xI).getD k top0).has s=(bestL (B.getD k []) s).2∧((B.map xI).getD k top0).qty s=(bestL (B.getD k []) s).1.qty∧((B.map xI).getD k top0).price s=(bestL (B.getD k []) s).1.price:=by
 by_cases h:k<B.length
 ·obtain⟨L,hL⟩:=z6 h
  rw[lW hL,zI hL];exact v8 L hs
 ·rw[ySi,ySi,yTf (by rw[ySh];omega),yTf (by omega)]
  rcases hs with rfl|rfl<;>exact⟨rfl,rfl,rfl⟩
def sJ (inst s:Int) (n:Quote×Bool×Bool) (k:Nat) (z:Int):Prop:=if n.2.1=true then(k=n.1.a.inst.toNat∧z=n.1.a.side)∨(k=n.1.b.inst.toNat∧z=n.1.b.side)else k=inst.toNat∧z=s
def Dec (S:Nat→Int→Prop) (x:Int) (B B':List (List zD)):Prop:=B'.length=B.length∧∀(k:Nat) (s:Int),s=1∨s=2→(S k s→lpq (wB (B'.getD k []) s)=zHh (lpq (wB (B.getD k []) s)) x)∧(¬S k s→lpq (wB (B'.getD k []) s)=lpq (wB (B.getD k []) s))
def goB (p:Prd) (B:List (List zD)) (inst:Int) (sd:Bool) (price:Int):Bool:=(zV p B inst (zB (!sd))).2.2 && (jA sd price (zV p B inst (zB (!sd))).1.price && decide (1≤(zV p B inst (zB (!sd))).1.qty))
theorem yFr {p:Prd} {B:List (List zD)} {inst:Int} {sd:Bool} {price:Int} (h:goB p B inst sd price=false) (q:Int):jF p B inst sd price q=none:=by
 rw[jF]
 dsimp only
 rw[ySe]
 rw[goB]at h
 rw[h];decide
theorem yMf {p:Prd} {B:List (List zD)} (h:BWf p B) {inst:Int} (hi:0≤inst∧inst<B.length) {sd:Bool} {price:Int}:goB p B inst sd price=((zV p B inst (zB (!sd))).2.2 && jA sd price (zV p B inst (zB (!sd))).1.price):=by
 rw[goB]
 cases e:(zV p B inst (zB (!sd))).2.2 with
 |false=>rfl
 |true=>
  have:=(nI h.ok h.od hi (dP (!sd)) e).1
  rw[ySw this.1,Bool.and_true]
theorem z7g {p:Prd} {B:List (List zD)} (h:BWf p B) {inst:Int} (hi:0≤inst∧inst<B.length) {sd:Bool} {price:Int} (hg:goB p B inst sd price=true) {q:Int} (hq:1≤q):
 ∃t B',jF p B inst sd price q=some (t,B')∧t.qty=min q (zV p B inst (zB (!sd))).1.qty∧1≤t.qty∧BWf p B'∧Dec (sJ inst (zB (!sd)) (zV p B inst (zB (!sd)))) t.qty B B':=by
 have hs:zB (!sd)=1∨zB (!sd)=2:=dP _
 have hg0:=hg
 rw[goB]at hg0
 simp only[ySs,yTj]at hg0
 obtain⟨c1,c2,c3⟩:=hg0
 obtain⟨hq1,h1,h2⟩:=nI h.ok h.od hi hs c1
 rw[jF]
 dsimp only
 rw[ySf (by rw[goB]at hg;exact hg)]
 by_cases c:(zV p B inst (zB (!sd))).2.1=true
 ·obtain⟨_,ok⟩:=h1 c
  rw[ySf c]
  refine⟨_,_,rfl,rfl,by dsimp only;omega,h.takes.takes,?_⟩
  dsimp only
  have hlg:sJ inst (zB (!sd)) (zV p B inst (zB (!sd)))=fun k z=>(k=(zV p B inst (zB (!sd))).1.a.inst.toNat∧z=(zV p B inst (zB (!sd))).1.a.side)∨(k=(zV p B inst (zB (!sd))).1.b.inst.toNat∧z=(zV p B inst (zB (!sd))).1.b.side):=by
   funext k z;rw[sJ,ySf c]
  rw[hlg]
  generalize (zV p B inst (zB (!sd))).1=n at*
  obtain⟨np,nq,⟨ai,az⟩,⟨bi,bs⟩⟩:=n
  have a:=ok.a
  have b:=ok.b
  have ne:=ok.ne
  rw[ySh]at a b
  dsimp only at a b ne hq1 c3 ⊢
  obtain⟨ka,rfl⟩:∃k:Nat,ai=k:=⟨ai.toNat,by omega⟩
  obtain⟨kb,rfl⟩:∃k:Nat,bi=k:=⟨bi.toNat,by omega⟩
  have hab:ka≠kb:=fun e=>ne (by rw[e])
  obtain⟨La,hLa⟩:=z6 (l:=B) (i:=ka) (by omega)
  obtain⟨Lb,hLb⟩:=z6 (l:=B) (i:=kb) (by omega)
  have e1:=ok.ha
  have e2:=ok.hb
  have e3:=ok.qty
  have sa:az=1∨az=2:=ok.sa
  have bz:bs=1∨bs=2:=ok.sb
  dsimp only at e1 e2 e3
  rw[ySt,lW hLa]at e1 e3
  rw[ySt,lW hLb]at e2 e3
  rw[(v8 La sa).1]at e1
  rw[(v8 Lb bz).1]at e2
  rw[(v8 La sa).2.1,(v8 Lb bz).2.1]at e3
  have hW1:BWf p (yZ B (y4 p B ka az (min q nq))):=h.takes
  have hl:=gO h (k:=ka) (j:=kb) hab hLa hLb az (min q nq)
  obtain⟨L1,g1,g2,g3⟩:=zDp h hLa sa e1 (q:=min q nq) (by omega)
  obtain⟨L2,f1,f2,f3⟩:=zDp hW1 hl bz e2 (q:=min q nq) (by omega)
  have hl2:=gO hW1 (k:=kb) (j:=ka) (fun e=>hab e.symm) hl g1 bs (min q nq)
  refine⟨by rw[qH,qH],fun k s hs=> ?_⟩
  rw[ySt,ySt]
  by_cases ca:k=ka
  ·subst ca
   rw[zI hl2,zI hLa]
   by_cases cs:s=az
   ·subst cs
    exact⟨fun _=>g2,fun x=>absurd (.inl ⟨rfl,rfl⟩) x⟩
   ·exact⟨fun x=>by rcases x with x|x;exact absurd x.2 cs;exact absurd x.1 hab,fun _=>by rw[g3 s cs]⟩
  by_cases cb:k=kb
  ·subst cb
   rw[zI f1,zI hLb]
   by_cases cs:s=bs
   ·subst cs
    exact⟨fun _=>f2,fun x=>absurd (.inr ⟨rfl,rfl⟩) x⟩
   ·exact⟨fun x=>by rcases x with x|x;exact absurd x.1 ca;exact absurd x.2 cs,fun _=>by rw[f3 s cs]⟩
  refine⟨fun x=>by rcases x with x|x;exact absurd x.1 ca;exact absurd x.1 cb,fun _=> ?_⟩
  by_cases hk:k<B.length
  ·obtain⟨L,hL⟩:=z6 hk
   have m1:=gO h (k:=ka) (j:=k) (fun e=>ca e.symm) hLa hL az (min q nq)
   have m2:=gO hW1 (k:=kb) (j:=k) (fun e=>cb e.symm) hl m1 bs (min q nq)
   rw[zI hL,zI m2]
  ·rw[ySi,ySi,yTf (by rw[qH,qH];omega),yTf (by omega)]
 ·obtain⟨d1,d2,d3⟩:=h2 (by simpa using c)
  rw[ySe c]
  refine⟨_,_,rfl,rfl,by dsimp only;omega,h.takes,?_⟩
  dsimp only
  have hlg:sJ inst (zB (!sd)) (zV p B inst (zB (!sd)))=fun k z=>k=inst.toNat∧z=zB (!sd):=by
   funext k z;rw[sJ,ySe c]
  rw[hlg]
  obtain⟨k0,rfl⟩:∃k:Nat,inst=k:=⟨inst.toNat,by omega⟩
  obtain⟨L,hL⟩:=z6 (l:=B) (i:=k0) (by omega)
  rw[ySt,zI hL]at d1 d3
  rw[ySt]
  obtain⟨L1,g1,g2,g3⟩:=zDp h hL hs d1 (q:=min q (zV p B k0 (zB (!sd))).1.qty) (by omega)
  refine⟨by rw[qH],fun k s hs2=> ?_⟩
  by_cases ca:k=k0
  ·subst ca
   rw[zI g1,zI hL]
   by_cases cs:s=zB (!sd)
   ·rw[cs]
    exact⟨fun _=>g2,fun x=>absurd ⟨rfl,rfl⟩ x⟩
   ·exact⟨fun x=>absurd x.2 cs,fun _=>by rw[g3 s cs]⟩
  refine⟨fun x=>absurd x.1 ca,fun _=> ?_⟩
  by_cases hk:k<B.length
  ·obtain⟨M,hM⟩:=z6 hk
   have m1:=gO h (k:=k0) (j:=k) (fun e=>ca e.symm) hL hM (zB (!sd)) (min q (zV p B k0 (zB (!sd))).1.qty)
   rw[zI hM,zI m1]
  ·rw[ySi,ySi,yTf (by rw[qH];omega),yTf (by omega)]
open Go Cv Go.Proofs
theorem yCj {p:Prd} {B:List (List zD)} (h:BWf p B) {inst:Int} (hi:0≤inst∧inst<B.length) {s:Int} (hs:s=1∨s=2) (hn:(zV p B inst s).2.2=true) {k:Nat} {z:Int} (hl:sJ inst s (zV p B inst s) k z):
 (bestL (B.getD k []) z).2=true∧(zV p B inst s).1.qty≤(bestL (B.getD k []) z).1.qty:=by
 obtain⟨_,h1,h2⟩:=nI h.ok h.od hi hs hn
 rw[sJ]at hl
 split at hl
 ·rename_i c
  obtain⟨_,ok⟩:=h1 c
  have e1:=ok.ha
  have e2:=ok.hb
  have e3:=ok.qty
  have a:=uJ B (zV p B inst s).1.a.inst.toNat _ ok.sa
  have b:=uJ B (zV p B inst s).1.b.inst.toNat _ ok.sb
  rw[a.1]at e1
  rw[b.1]at e2
  rw[a.2.1,b.2.1]at e3
  rcases hl with⟨rfl,rfl⟩|⟨rfl,rfl⟩
  ·exact⟨e1,by omega⟩
  ·exact⟨e2,by omega⟩
 ·rename_i c
  obtain⟨d1,d2,d3⟩:=h2 (by simpa using c)
  obtain⟨rfl,rfl⟩:=hl
  exact⟨d1,by omega⟩
theorem yKr {p:Prd} {B:List (List zD)} {inst:Int} {sd:Bool} {price:Int} (h:goB p B inst sd price=false) (q:Int):x0 p B inst sd price q=⟨[],q,B⟩:=kO (.inr (yFr h q))
open Go Cv Go.Proofs
def kQ (B:List (List zD)):Nat:=(B.map List.length).sum
def spO (o:zD):Int×Int:=(o.side,o.price)
def zXm (B:List (List zD)):List (List (Int×Int)):=B.map fun L=>L.map spO
theorem zRx:∀(B:List (List zD)) (n:Nat),(whL n B).length=kQ B
 |[],n=>rfl
 |L::B,n=>by
  rw[whL,ySm,ySh,zRx B,kQ,kQ,ySn,yTc]
theorem z2z (id q:Int):∀(L:List zD),(yQ L id q).length≤L.length∧((yQ L id q).length=L.length→(yQ L id q).map spO=L.map spO)
 |[]=>⟨yTd _,fun _=>rfl⟩
 |o::L=>by
  obtain⟨i1,i2⟩:=z2z id q L
  rw[yQ]at i1 i2
  rw[yQ,yWc]
  by_cases c:o.id=id
  ·rw[ySf c]
   by_cases d:o.qty=q
   ·rw[ySf d]
    refine⟨Nat.le_succ_of_le i1,fun e=> ?_⟩
    rw[ySx]at e
    dsimp only at e
    omega
   ·rw[ySe d]
    refine⟨Nat.succ_le_succ i1,fun e=> ?_⟩
    rw[ySn,ySn,i2 (Nat.succ.inj e)]
    rfl
  ·rw[ySe c]
   refine⟨Nat.succ_le_succ i1,fun e=> ?_⟩
   rw[ySn,ySn,i2 (Nat.succ.inj e)]
theorem zHo:∀{B:List (List zD)} {k:Nat} {L L':List zD},B[k]? =some L→kQ (B.set k L')+L.length=kQ B+L'.length
 |[],k,L,L',h=>by cases h
 |M::B,0,L,L',h=>by
  cases h
  rw[yWu,kQ,kQ,ySn,ySn,yTc,yTc];omega
 |M::B,k+1,L,L',h=>by
  have:=zHo (B:=B) (k:=k) (L:=L) (L':=L') h
  rw[kQ,kQ]at this
  rw[yVw,kQ,kQ,ySn,ySn,yTc,yTc];omega
theorem zIa (B:List (List zD)) (id q:Int):kQ (yU B id q).1≤kQ B∧(kQ (yU B id q).1=kQ B→zXm (yU B id q).1=zXm B):=by
 rw[yU]
 split
 ·exact⟨yTd _,fun _=>rfl⟩
 ·rename_i k hk
  dsimp only
  obtain⟨L,hL,hh⟩:=xL hk
  rw[zI hL,xR]
  split
  ·rw[kK hL];exact⟨yTd _,fun _=>rfl⟩
  split
  ·rw[kK hL];exact⟨yTd _,fun _=>rfl⟩
  dsimp only
  have:=zHo (L':=yQ L id q) hL
  obtain⟨i1,i2⟩:=z2z id q L
  refine⟨by omega,fun e=> ?_⟩
  rw[zXm,zXm,List.map_set,i2 (by omega)]
  exact kK (by rw[yTy,hL];rfl)
theorem zTq:∀(fs:List vA) (B:List (List zD)),kQ (yZ B fs)≤kQ B∧(kQ (yZ B fs)=kQ B→zXm (yZ B fs)=zXm B)
 |[],B=>⟨yTd _,fun _=>rfl⟩
 |f::fs,B=>by
  obtain⟨i1,i2⟩:=zTq fs (yU B f.id f.qty).1
  obtain⟨j1,j2⟩:=zIa B f.id f.qty
  have e:yZ B (f::fs)=yZ (yU B f.id f.qty).1 fs:=rfl
  rw[e]
  exact⟨by omega,fun h=>(i2 (by omega)).trans (j2 (by omega))⟩
theorem zPv:∀{F F':List zD},F.map (·.price)=F'.map (·.price)→(grp F).map (·.price)=(grp F').map (·.price)
 |[],[],_=>rfl
 |[],_::_,h=>by cases h
 |_::_,[],h=>by cases h
 |o::F,o'::F',h=>by
  rw[ySn,ySn,List.cons.injEq]at h
  have ih:=zPv h.2
  have h1:=h.1
  rw[grp,grp]
  cases e:grp F with
  |nil=>
   rw[e]at ih
   cases e':grp F' with
   |nil=>simp[h1]
   |cons v vs=>rw[e']at ih;cases ih
  |cons v vs=>
   rw[e]at ih
   cases e':grp F' with
   |nil=>rw[e']at ih;cases ih
   |cons w ws=>
    rw[e',ySn,ySn,List.cons.injEq]at ih
    dsimp only
    rw[ih.1,h1]
    split
    ·rw[ySn,ySn,ih.2]
    ·rw[ySn,ySn,ySn,ySn,ih.2,ih.1]
theorem yNk {L L':List zD} (h:L'.map spO=L.map spO) (s:Int):(wB L' s).length=(wB L s).length:=by
 have e:∀L:List zD,(L.filter fun o=>decide (o.side=s)).map (·.price)=((L.map spO).filter fun x=>decide (x.1=s)).map (·.2):=by
  intro L
  rw[List.filter_map,yUx];rfl
 have:=zPv ((e L').trans ((congrArg (fun l=>(List.filter (fun x:Int×Int=>decide (x.1=s)) l).map (·.2)) h).trans (e L).symm))
 have:=congrArg List.length this
 rw[ySh,ySh]at this
 exact this
theorem zMn {p:Prd} {B:List (List zD)} {inst:Int} {sd:Bool} {price q:Int} {t:kM} {B':List (List zD)} (e:jF p B inst sd price q=some (t,B')):B'=yZ B t.fills:=by
 rw[jF]at e
 dsimp only at e
 split at e
 ·split at e
  ·cases e;rw[zOz]
  ·cases e;rfl
 ·cases e
theorem zXa {p:Prd} {B:List (List zD)} (h:BWf p B) {inst:Int} (hi:0≤inst∧inst<B.length) {sd:Bool} {price:Int} (hg:goB p B inst sd price=true) {q:Int} (hq:1≤q):
 ∃t B',jF p B inst sd price q=some (t,B')∧1≤t.qty∧t.qty≤q∧BWf p B'∧B'.length=B.length∧kQ B'≤kQ B∧(t.qty<q→kQ B'<kQ B):=by
 obtain⟨t,B',a1,a2,a3,a4,a5⟩:=z7g h hi hg hq
 have hg0:=hg
 rw[goB]at hg0
 simp only[ySs,yTj]at hg0
 obtain⟨c1,_,c3⟩:=hg0
 have hcs:=zTq t.fills B
 rw[← zMn a1]at hcs
 refine⟨t,B',a1,a3,by omega,a4,a5.1,hcs.1,fun hlt=> ?_⟩
 rcases yUr (kQ B') (kQ B)with x|x
 ·exact x
 exfalso
 have hsh:=hcs.2 (by omega)
 have hs:=dP (!sd)
 obtain⟨_,p1,p2⟩:=nI h.ok h.od hi hs c1
 obtain⟨k,z,hz,hl,he⟩:∃(k:Nat) (z:Int),(z=1∨z=2)∧sJ inst (zB (!sd)) (zV p B inst (zB (!sd))) k z∧(bestL (B.getD k []) z).1.qty=(zV p B inst (zB (!sd))).1.qty:=by
  cases c:(zV p B inst (zB (!sd))).2.1 with
  |true=>
   obtain⟨_,ok⟩:=p1 c
   have q0:=ok.qty
   rw[(uJ B _ _ ok.sa).2.1,(uJ B _ _ ok.sb).2.1]at q0
   rcases Int.le_total (bestL (B.getD (zV p B inst (zB (!sd))).1.a.inst.toNat []) (zV p B inst (zB (!sd))).1.a.side).1.qty (bestL (B.getD (zV p B inst (zB (!sd))).1.b.inst.toNat []) (zV p B inst (zB (!sd))).1.b.side).1.qty with y|y
   ·exact⟨_,_,ok.sa,by rw[sJ,ySf c];exact .inl ⟨rfl,rfl⟩,by omega⟩
   ·exact⟨_,_,ok.sb,by rw[sJ,ySf c];exact .inr ⟨rfl,rfl⟩,by omega⟩
  |false=>
   obtain⟨d1,d2,d3⟩:=p2 c
   exact⟨inst.toNat,_,hs,by rw[sJ,ySe (by rw[c];decide)];exact⟨rfl,rfl⟩,d3.symm⟩
 have hb:=yCj h hi hs c1 hl
 have hd:=(a5.2 k z hz).1 hl
 have hlen:(lpq (wB (B'.getD k []) z)).length=(lpq (wB (B.getD k []) z)).length:=by
  rw[lpq,lpq,ySh,ySh]
  refine yNk ?_ z
  have:=congrArg (fun l=>l.getD k []) hsh
  have ge:∀B:List (List zD),(zXm B).getD k []=(B.getD k []).map spO:=by
   intro B
   rw[zXm,ySi,ySi,yTy]
   cases B[k]? <;>rfl
  rw[ge,ge]at this
  exact this
 have bh:=yHi (B.getD k []) z
 rw[hd]at hlen
 cases el:lpq (wB (B.getD k []) z)with
 |nil=>rw[el]at bh;simp only[hdQ,Prod.mk.injEq]at bh;rw[bh.2.2]at hb;cases hb.1
 |cons v vs=>
  obtain⟨pr,Q⟩:=v
  rw[el]at bh hlen
  simp only[hdQ,Prod.mk.injEq]at bh
  have e2:zHh ((pr,Q)::vs) t.qty=vs:=ySf (by omega)
  rw[e2,ySx]at hlen
  omega
theorem z1m {p:Prd} {inst:Int} {sd:Bool} {price:Int}:∀(m:Nat) (q:Int) (B:List (List zD)),q.toNat≤m→BWf p B→0≤inst∧inst<B.length→
 (x0 p B inst sd price q).steps.length+kQ (x0 p B inst sd price q).B≤kQ B+1∧(q≤0→(x0 p B inst sd price q).steps=[])∧((x0 p B inst sd price q).steps.map (·.qty)).sum=q-(x0 p B inst sd price q).left∧kQ (x0 p B inst sd price q).B≤kQ B
 |m,q,B,hm,h,hi=>by
  by_cases hq:q≤0
  ·rw[kO (.inl hq)]
   exact⟨by dsimp only[List.length_nil];omega,fun _=>rfl,by simp,yTd _⟩
  cases hg:goB p B inst sd price with
  |false=>
   rw[yKr hg]
   exact⟨by dsimp only[List.length_nil];omega,fun _=>rfl,by simp,yTd _⟩
  |true=>
   obtain⟨t,C,a1,a3,a3',a4,a5,a6,a7⟩:=zXa h hi hg (q:=q) (by omega)
   cases m with
   |zero=>omega
   |succ m=>
   obtain⟨i1,i2,i3,i4⟩:=z1m (p:=p) (inst:=inst) (sd:=sd) (price:=price) m (q-t.qty) C (by omega) a4 (by rw[a5];exact hi)
   rw[cC (by omega) a1]
   refine⟨?_,fun x=>absurd x hq,?_,by dsimp only;omega⟩
   ·dsimp only
    rw[ySx]
    by_cases c:t.qty<q
    ·have:=a7 c
     omega
    ·rw[i2 (by omega)]
     rw[yUz];omega
   ·dsimp only
    rw[ySn,yTc,i3];omega
open Go Cv Go.Proofs
def qL:List zD→Int→Int
 |[],_=>0
 |o::L,id=>(if o.id=id then o.qty else 0)+qL L id
def qB:List (List zD)→Int→Int
 |[],_=>0
 |L::B,id=>qL L id+qB B id
theorem zZs (id:Int):∀A B:List zD,qL (A++B) id=qL A id+qL B id
 |[],B=>by rw[yUu,qL];omega
 |o::A,B=>by rw[yTt,qL,qL,zZs id A B];omega
theorem zTh {id:Int}:∀{L:List zD},(∀o∈L,o.id≠id)→qL L id=0
 |[],_=>rfl
 |o::L,h=>by
  rw[qL,ySe (h o ySk),zTh fun x hx=>h x (ySl _ hx)];rfl
theorem zZn {o:zD}:∀{L:List zD},(L.map (·.id)).Nodup→o∈L→qL L o.id=o.qty
 |[],_,h=>by cases h
 |x::L,hn,h=>by
  rw[ySn,yUb]at hn
  rw[qL]
  rcases ySy.1 h with rfl|h
  ·rw[ySf rfl,zTh fun y hy e=>hn.1 (yTh.2 ⟨y,hy,e⟩)];omega
  ·rw[ySe fun e=>hn.1 (yTh.2 ⟨o,h,e.symm⟩),zZn hn.2 h];omega
theorem zLn {id x y:Int} (hy:y≠id):∀L:List zD,qL (yQ L id x) y=qL L y
 |[]=>rfl
 |o::L=>by
  have ih:=zLn (x:=x) hy L
  rw[yQ]at ih ⊢
  rw[yWc,qL]
  by_cases c:o.id=id
  ·have hne:¬o.id=y:=fun e=>hy (by rw[← e,c])
   rw[ySf c,ySe hne]
   by_cases d:o.qty=x
   ·rw[ySf d];dsimp only;rw[ih];omega
   ·rw[ySe d];dsimp only;rw[qL,ih];dsimp only;rw[ySe hne]
  ·rw[ySe c];dsimp only;rw[qL,ih]
theorem z2h {o:zD} {x:Int}:∀{L:List zD},(L.map (·.id)).Nodup→o∈L→qL (yQ L o.id x) o.id=o.qty-x
 |[],_,h=>by cases h
 |y::L,hn,h=>by
  rw[ySn,yUb]at hn
  rcases ySy.1 h with rfl|h
  ·have hno:∀z∈L,z.id≠o.id:=fun z hz e=>hn.1 (e▸yTb (f:=(·.id)) hz)
   have ht:=zCl (x:=x) hno
   rw[yQ]at ht ⊢
   rw[yWc,ySf rfl,ht]
   by_cases d:o.qty=x
   ·rw[ySf d];dsimp only;rw[zTh hno];omega
   ·rw[ySe d];dsimp only;rw[qL,zTh hno];dsimp only;rw[ySf rfl];omega
  ·have hne:¬y.id=o.id:=fun e=>hn.1 (e▸yTb (f:=(·.id)) h)
   have ih:=z2h (x:=x) hn.2 h
   rw[yQ]at ih ⊢
   rw[yWc,ySe hne]
   dsimp only
   rw[qL,ySe hne,ih];omega
theorem zQz {y:Int}:∀{B:List (List zD)} {k:Nat} {L L':List zD},B[k]? =some L→qB (B.set k L') y=qB B y-qL L y+qL L' y
 |[],k,L,L',h=>by cases h
 |M::B,0,L,L',h=>by cases h;rw[yWu,qB,qB];omega
 |M::B,k+1,L,L',h=>by
  have:=zQz (y:=y) (B:=B) (k:=k) (L:=L) (L':=L') h
  rw[yVw,qB,qB,this];omega
theorem zKl {id:Int}:∀{B:List (List zD)},(∀L∈B,∀o∈L,o.id≠id)→qB B id=0
 |[],_=>rfl
 |L::B,h=>by
  rw[qB,zTh (h L ySk),zKl fun M hM=>h M (ySl _ hM)];rfl
theorem zLm {p:Prd} {B:List (List zD)} (h:BWf p B) {k:Nat} {L:List zD} (hL:B[k]? =some L) {o:zD} (ho:o∈L):qB B o.id=o.qty:=by
 have hk:=(ySg.1 hL).1
 have h1:=zQz (y:=o.id) (L':=[]) hL
 have h2:qB (B.set k []) o.id=0:=by
  refine zKl fun M hM x hx e=> ?_
  obtain⟨j,hj⟩:=yUi.1 hM
  rcases vE hj with⟨_,rfl⟩|⟨hne,hj⟩
  ·cases hx
  ·exact hne (zLy h.ub hj hL (e▸yTb (f:=(·.id)) hx) (yTb (f:=(·.id)) ho))
 rw[h2,zZn (h.od k L hL).2.1 ho]at h1
 have:qL [] o.id=0:=rfl
 omega
theorem zJm {p:Prd} {B:List (List zD)} (h:BWf p B) {k:Nat} {L:List zD} (hL:B[k]? =some L) {o:zD} (ho:o∈L) {x:Int} (hx:1≤x∧x≤o.qty):(yU B o.id x).1=B.set k (yQ L o.id x):=by
 have hi:=h.inst hL (yTb (f:=(·.id)) ho)
 have hg:=vY (h.od k L hL).2.1 ho
 have hh:kC L o.id=true:=hasId_iff.2 (yTb (f:=(·.id)) ho)
 simp only[yU,hi,zI hL]
 rw[xR,ySe (by rw[hh];decide),ySe (by rw[hg];omega)]
theorem z1h {p:Prd} {B:List (List zD)} (h:BWf p B) {k:Nat} {L:List zD} (hL:B[k]? =some L) {o:zD} (ho:o∈L) {x:Int} (hx:1≤x∧x≤o.qty) (y:Int):qB (yU B o.id x).1 y=if y=o.id then o.qty-x else qB B y:=by
 rw[zJm h hL ho hx,zQz hL]
 by_cases c:y=o.id
 ·subst c
  rw[ySf rfl,z2h (h.od k L hL).2.1 ho,zZn (h.od k L hL).2.1 ho,zLm h hL ho];omega
 ·rw[ySe c,zLn c];omega
theorem zCo {B:List (List zD)} {id x:Int} {k:Nat} {L:List zD} (h:(yU B id x).1[k]? =some L):∃M,B[k]? =some M∧∀o∈L,∃o'∈M,o'.id=o.id:=by
 rw[yU]at h
 split at h
 ·exact⟨L,h,fun o ho=>⟨o,ho,rfl⟩⟩
 ·rename_i j hj
  dsimp only at h
  obtain⟨M,hM,_⟩:=xL hj
  rcases vE h with⟨rfl,rfl⟩|⟨_,h⟩
  ·refine⟨M,hM,fun o ho=> ?_⟩
   rw[zI hM]at ho
   obtain⟨o',ho',_,_,e⟩:=zBi ho
   exact⟨o',ho',e.symm⟩
  ·exact⟨L,h,fun o ho=>⟨o,ho,rfl⟩⟩
theorem yAx (y s:Int):∀L:List zD,qL (clr L s) y=qL L y
 |[]=>rfl
 |o::L=>by
  have ih:=yAx y s L
  rw[clr]at ih
  rw[clr,ySn,qL,qL,ih]
  split<;>rfl
theorem yLf (L:List zD) (s id p q y:Int):qL (zAk L s id p q) y=(if id=y then q else 0)+qL L y:=by
 have h:∀(X:List zD) (b:Bool),qL (X.takeWhile (before s p)++⟨id,s,p,q,b⟩::X.dropWhile (before s p)) y=(if id=y then q else 0)+qL X y:=fun X b=>by
  have e:=zZs y (X.takeWhile (before s p)) (X.dropWhile (before s p))
  rw[yXd]at e
  rw[zZs,qL,e];dsimp only;omega
 rw[zAk,h]
 by_cases c:uT L s p=true
 ·rw[ySf c,yAx]
 ·rw[ySe c]
structure Stm where
 left:Int→Int
 own:Int→Int
def upd (f:Int→Int) (k v:Int):Int→Int:=fun x=>if x=k then v else f x
def stN (s:Stm) (r:Rep):Stm:=
 if r.kind=1 then⟨upd s.left r.id r.qty,upd s.own r.id r.inst⟩
 else if r.kind=2∨(r.kind=3∧r.inst≠s.own r.id)then s
 else⟨upd s.left r.id r.left,s.own⟩
theorem zEy {s:Stm} {r:Rep} (h1:r.kind≠1) (h2:r.kind≠2) (h3:r.kind=3→r.inst=s.own r.id):stN s r=⟨upd s.left r.id r.left,s.own⟩:=by
 rw[stN,ySe h1,ySe fun h=>h.elim h2 fun h=>h.2 (h3 h.1)]
theorem zSu {s:Stm} {r:Rep} (h:r.kind=3) (h2:r.inst≠s.own r.id):stN s r=s:=by
 rw[stN,ySe (by omega),ySf (.inr ⟨h,h2⟩)]
structure StG (p:Prd) (D:Int→Prop) (s:Stm) (r:Rep):Prop where
 d:D r.id
 i:0≤r.inst∧r.inst<p.count
 q:0≤r.qty∧r.qty≤1000000
 l:0≤r.left∧r.left≤1000000
 k:(r.kind=1∧s.left r.id=0∧1≤r.qty∧r.left=r.qty)∨
  (r.kind=3∧1≤r.qty∧(r.side=1∨r.side=2)∧((r.inst=s.own r.id∧r.qty≤s.left r.id∧r.left=s.left r.id-r.qty)∨
    (r.inst≠s.own r.id∧(p.legs (s.own r.id)).2.2=true∧(r.inst=(p.legs (s.own r.id)).1∨r.inst=(p.legs (s.own r.id)).2.1)∧r.left=s.left r.id)))∨
  (r.kind=4∧1≤r.qty∧r.qty=s.left r.id∧r.left=0)∨
  (r.kind=5∧r.qty<s.left r.id∧r.left=s.left r.id-r.qty)
def dV (p:Prd) (D:Int→Prop):Stm→List Rep→Prop
 |_,[]=>True
 |s,r::l=>StG p D s r∧dV p D (stN s r) l
def vO (s:Stm) (l:List Rep):Stm:=l.foldl stN s
theorem fV {p:Prd} {D:Int→Prop}:∀{s:Stm} {a b:List Rep},dV p D s a→dV p D (vO s a) b→dV p D s (a++b)
 |_,[],_,_,h=>h
 |_,_::_,_,h,h2=>⟨h.1,fV h.2 h2⟩
theorem zDz (s:Stm) (r:Rep):vO s [r]=stN s r:=rfl
theorem cZ (s:Stm) (a b:List Rep):vO s (a++b)=vO (vO s a) b:=yYl
def one (r:Rep) (m:Int):Int:=if r.kind=3∧r.inst=m then(if r.side=1 then r.qty else-r.qty)else 0
def wY:List Rep→Int→Int
 |[],_=>0
 |r::l,m=>one r m+wY l m
theorem bK (m:Int):∀a b:List Rep,wY (a++b) m=wY a m+wY b m
 |[],b=>by rw[yUu,wY];omega
 |r::a,b=>by rw[yTt,wY,wY,bK m a b];omega
def vq (p:Prd) (k s q m:Int):Int:=
 if(p.legs k).2.2=true then(if(p.legs k).1=m then(if s=1 then q else-q)else 0)-(if(p.legs k).2.1=m then(if s=1 then q else-q)else 0)
 else if k=m then(if s=1 then q else-q)else 0
theorem yJk (p:Prd) (k s a b m:Int):vq p k s (a+b) m=vq p k s a m+vq p k s b m:=by
 rw[vq,vq,vq]
 split
 ·repeat' split
  all_goals omega
 ·repeat' split
  all_goals omega
theorem z0e (p:Prd) {s:Int} (hs:s=1∨s=2) (k q m:Int):vq p k (3-s) q m= -vq p k s q m:=by
 rw[vq,vq]
 rcases hs with rfl|rfl
 ·split
  ·repeat' split
   all_goals omega
  ·repeat' split
   all_goals omega
 ·split
  ·repeat' split
   all_goals omega
  ·repeat' split
   all_goals omega
theorem zAy {p:Prd} (hc:p.check=0) {k:Int} (hk:0≤k∧k<p.count) (hs:(p.legs k).2.2=true):(0≤(p.legs k).1∧(p.legs k).1<p.months.length)∧(0≤(p.legs k).2.1∧(p.legs k).2.1<p.months.length)∧(p.months.length:Int)≤k∧(p.legs k).1≠(p.legs k).2.1:=by
 obtain⟨n,rfl⟩:∃n:Nat,k=n:=⟨k.toNat,by omega⟩
 have hn:n<p.count:=by omega
 have hne:=zSq hc hn hs
 rcases vQ hc hn with⟨_,a,b,c,d⟩|⟨e,_⟩
 ·refine⟨⟨a,b⟩,⟨c,d⟩,?_,hne⟩
  rcases Int.lt_or_le (n:Int) p.months.length with x|x
  ·exfalso
   rw[Prd.legs,ySe (by omega),ySf x]at hs
   cases hs
  ·exact x
 ·rw[e]at hs;cases hs
theorem zWp {p:Prd} (hc:p.check=0) {a b:Nat} (hab:a<b) (hb:b<p.months.length):p.legs (p.spread a b).1=((a:Int),(b:Int),true):=by
 obtain⟨k,t⟩:=zSy hc hab hb
 rw[t.hs];exact t.hl
theorem zCk {p:Prd} (hc:p.check=0) {k:Nat} (hk:k<p.months.length):(p.legs k).2.2=false:=by
 rw[Prd.legs]
 split
 ·rfl
 ·rw[ySf (by omega)]
theorem yEp {p:Prd} (hc:p.check=0) {T:List Top} (hT:T.length=p.count) {inst:Int} {s:Int} (hs:s=1∨s=2) {q:Quote} (h:q∈qC ⟨p,T,inst⟩ s) (x m:Int):vq p q.a.inst q.a.side x m+vq p q.b.inst q.b.side x m=vq p inst s x m:=by
 rw[qC]at h
 dsimp only at h
 split at h
 ·cases h
 ·rename_i hn
  obtain⟨k,rfl⟩:∃k:Nat,inst=k:=⟨inst.toNat,by omega⟩
  have hk:k<p.count:=by omega
  have hge:=dX hc
  split at h
  ·rename_i hl
   obtain⟨q',hq',rfl⟩:=yTh.1 h
   obtain⟨l1,l2,l3,l4⟩:=zAy hc (k:=(k:Int)) (by omega) hl
   obtain⟨u,hu⟩:∃u:Nat,(p.legs k).1=u:=⟨(p.legs k).1.toNat,by omega⟩
   obtain⟨v,hv⟩:∃v:Nat,(p.legs k).2.1=v:=⟨(p.legs k).2.1.toNat,by omega⟩
   have mu:=zCk hc (k:=u) (by omega)
   have mv:=zCk hc (k:=v) (by omega)
   dsimp only[fS]
   rw[hu,hv,z0e p hs]
   simp only[vq,mu,mv,hl,hu,hv,if_true,ySu,if_false]
   omega
  ·rename_i hl
   have hl:(p.legs k).2.2=false:=by simpa using hl
   have hm:k<p.months.length:=by
    rcases vQ hc hk with⟨e,_⟩|⟨_,e⟩
    ·rw[hl]at e;cases e
    ·exact e
   rcases yTi.1 h with h|h
   ·obtain⟨j,hj,h⟩:=yUg.1 h
    have hj:=yUv.1 hj
    rw[ySt]at hj
    have s1:=gV hc (a:=k) (b:=k+1+j) (by omega) (by omega)
    have s2:=tG hc (a:=k) (b:=k+1+j) (by omega) (by omega)
    have sl:=zWp hc (a:=k) (b:=k+1+j) (by omega) (by omega)
    have mv:=zCk hc (k:=k+1+j) (by omega)
    have ec:((k:Int)+1+j)=((k+1+j:Nat):Int):=by omega
    rw[ec]at h
    obtain⟨ok,e1,e2⟩:=zMu h (by dsimp only;omega) (by dsimp only;omega) hs hs (by dsimp only;omega)
    rw[e1,e2]
    dsimp only
    simp only[vq,sl,hl,mv,if_true,ySu,if_false]
    omega
   ·obtain⟨j,hj,h⟩:=yUg.1 h
    have hj:=yUv.1 hj
    rw[ySt]at hj
    have s1:=gV hc (a:=j) (b:=k) (by omega) (by omega)
    have s2:=tG hc (a:=j) (b:=k) (by omega) (by omega)
    have sl:=zWp hc (a:=j) (b:=k) (by omega) (by omega)
    have mv:=zCk hc (k:=j) (by omega)
    obtain⟨ok,e1,e2⟩:=zMu h (by dsimp only;omega) (by dsimp only;omega) (by dsimp only;omega) hs (by dsimp only;omega)
    rw[e1,e2]
    dsimp only
    rw[z0e p hs]
    simp only[vq,sl,hl,mv,if_true,ySu,if_false]
    omega
theorem zHt {p:Prd} {r:Rep} (m:Int) (hk:r.kind=3) (hs:r.side=1∨r.side=2):one r m=if r.inst=m then(if r.side=1 then r.qty else-r.qty)else 0:=by
 rw[one]
 by_cases c:r.inst=m
 ·rw[ySf ⟨hk,c⟩,ySf c]
 ·rw[ySe fun h=>c h.2,ySe c]
theorem z0t {p:Prd} (hc:p.check=0) {D:Int→Prop} {S:Stm} (x:kM) {r:Rep} (hd:D r.id) (hk:r.kind=3) (hi:0≤r.inst∧r.inst<p.count) (ho:r.inst=S.own r.id) (hq:1≤r.qty∧r.qty≤S.left r.id∧S.left r.id≤1000000) (hl:r.left=S.left r.id-r.qty) (hs:r.side=1∨r.side=2):
 dV p D S (jI p x r)∧vO S (jI p x r)=⟨upd S.left r.id r.left,S.own⟩∧∀m,0≤m→m<p.months.length→wY (jI p x r) m=vq p r.inst r.side r.qty m:=by
 have hn:stN S r=⟨upd S.left r.id r.left,S.own⟩:=zEy (by omega) (by omega) fun _=>ho
 have hg:StG p D S r:=⟨hd,hi,by omega,by omega,.inr (.inl ⟨hk,hq.1,hs,.inl ⟨ho,hq.2.1,hl⟩⟩)⟩
 rw[jI]
 cases c:(p.legs r.inst).2.2 with
 |false=>
  rw[ySe (by decide)]
  refine⟨⟨hg,trivial⟩,hn,fun m _ _=> ?_⟩
  rw[wY,wY,zHt (p:=p) m hk hs,vq]
  simp only[c,ySu,if_false]
  omega
 |true=>
  obtain⟨l1,l2,l3,l4⟩:=zAy hc hi c
  rw[ySf rfl,zCn]
  have hu:upd S.left r.id r.left r.id=r.left:=by rw[upd,ySf rfl]
  have hc':(p.legs (S.own r.id)).2.2=true:=by rw[← ho];exact c
  have h1:StG p D ⟨upd S.left r.id r.left,S.own⟩ {r with inst:=(p.legs r.inst).1,price:=(qJ p r.inst x).1}:=by
   refine⟨hd,by dsimp only;omega,by dsimp only;omega,by dsimp only;omega,.inr (.inl ⟨hk,hq.1,hs,.inr ⟨?_,hc',.inl ?_,hu.symm⟩⟩)⟩
   ·dsimp only;omega
   ·dsimp only;rw[← ho]
  have h2:StG p D ⟨upd S.left r.id r.left,S.own⟩ {r with inst:=(p.legs r.inst).2.1,side:=3-r.side,price:=(qJ p r.inst x).2}:=by
   refine⟨hd,by dsimp only;omega,by dsimp only;omega,by dsimp only;omega,.inr (.inl ⟨hk,hq.1,by dsimp only;omega,.inr ⟨?_,hc',.inr ?_,hu.symm⟩⟩)⟩
   ·dsimp only;omega
   ·dsimp only;rw[← ho]
  have n1:stN ⟨upd S.left r.id r.left,S.own⟩ {r with inst:=(p.legs r.inst).1,price:=(qJ p r.inst x).1}=⟨upd S.left r.id r.left,S.own⟩:=zSu hk (by dsimp only;omega)
  have n2:stN ⟨upd S.left r.id r.left,S.own⟩ {r with inst:=(p.legs r.inst).2.1,side:=3-r.side,price:=(qJ p r.inst x).2}=⟨upd S.left r.id r.left,S.own⟩:=zSu hk (by dsimp only;omega)
  refine⟨⟨hg,?_⟩,?_,fun m m0 m1=> ?_⟩
  ·rw[hn]
   exact⟨h1,by rw[n1];exact⟨h2,trivial⟩⟩
  ·show stN (stN (stN S r) _) _=_
   rw[hn,n1,n2]
  ·rw[wY,wY,wY,wY,zHt (p:=p) m hk hs,zHt (p:=p) m (r:={r with inst:=(p.legs r.inst).1,price:=(qJ p r.inst x).1}) hk hs,zHt (p:=p) m (r:={r with inst:=(p.legs r.inst).2.1,side:=3-r.side,price:=(qJ p r.inst x).2}) hk (by dsimp only;omega),vq,ySf c,ySe (by omega)]
   dsimp only
   repeat' split
   all_goals omega
structure FitX (D:Int→Prop) (S:Stm) (B:List (List zD)) (id lf inst:Int):Prop where
 rest:∀x,x≠id→S.left x=qB B x
 me:S.left id=lf
 own:∀(k:Nat) (L:List zD),B[k]? =some L→∀o∈L,S.own o.id=k
 mine:S.own id=inst
 no:∀L∈B,∀o∈L,o.id≠id
 d:∀L∈B,∀o∈L,D o.id
 di:D id
theorem FitX.take {D:Int→Prop} {S:Stm} {p:Prd} {B:List (List zD)} {id lf inst:Int} (h:FitX D S B id lf inst) (hB:BWf p B) {k:Nat} {L:List zD} (hL:B[k]? =some L) {o:zD} (ho:o∈L) {x:Int} (hx:1≤x∧x≤o.qty):FitX D ⟨upd S.left o.id (o.qty-x),S.own⟩ (yU B o.id x).1 id lf inst:=by
 have hne:o.id≠id:=h.no L (ySo hL) o ho
 refine⟨fun y hy=> ?_,?_,fun j M hM z hz=> ?_,h.mine,fun M hM z hz=> ?_,fun M hM z hz=> ?_,h.di⟩
 ·rw[z1h hB hL ho hx]
  dsimp only[upd]
  by_cases c:y=o.id
  ·rw[ySf c,ySf c]
  ·rw[ySe c,ySe c];exact h.rest y hy
 ·dsimp only[upd]
  rw[ySe fun e=>hne e.symm];exact h.me
 ·obtain⟨M',h1,h2⟩:=zCo hM
  obtain⟨o',h3,h4⟩:=h2 z hz
  rw[← h4];exact h.own j M' h1 o' h3
 ·obtain⟨j,hj⟩:=yUi.1 hM
  obtain⟨M',h1,h2⟩:=zCo hj
  obtain⟨o',h3,h4⟩:=h2 z hz
  rw[← h4];exact h.no M' (ySo h1) o' h3
 ·obtain⟨j,hj⟩:=yUi.1 hM
  obtain⟨M',h1,h2⟩:=zCo hj
  obtain⟨o',h3,h4⟩:=h2 z hz
  rw[← h4];exact h.d M' (ySo h1) o' h3
theorem zMf {p:Prd} {D:Int→Prop} {k:Nat} {s id lf inst:Int} (hs:s=1∨s=2) (x:kM):∀{os:List zD} {sh:List Int} {B:List (List zD)} {L:List zD} {S:Stm},BWf p B→B[k]? =some L→(∀o∈os,o∈L)→(os.map (·.id)).Nodup→sh.length=os.length→(∀n,0≤sh.getD n 0∧sh.getD n 0≤(os.map (·.qty)).getD n 0)→FitX D S B id lf inst→
 dV p D S ((yK k s os sh).flatMap fun f=>jI p x (fL f))∧FitX D (vO S ((yK k s os sh).flatMap fun f=>jI p x (fL f))) (yZ B (yK k s os sh)) id lf inst∧
 ∀m,0≤m→m<p.months.length→wY ((yK k s os sh).flatMap fun f=>jI p x (fL f)) m=vq p k s sh.sum m
 |[],sh,B,L,S,h,hL,ho,hn,hl,hb,hF=>by
  have:sh=[]:=List.length_eq_zero_iff.1 hl
  subst this
  refine⟨trivial,hF,fun m _ _=> ?_⟩
  show 0=vq p k s 0 m
  rw[vq]
  repeat' split
  all_goals omega
 |o::os,[],B,L,S,h,hL,ho,hn,hl,hb,hF=>by cases hl
 |o::os,y::sh,B,L,S,h,hL,ho,hn,hl,hb,hF=>by
  have hy:0≤y∧y≤o.qty:=hb 0
  have hb':∀n,0≤sh.getD n 0∧sh.getD n 0≤(os.map (·.qty)).getD n 0:=fun n=>hb (n+1)
  have hl':sh.length=os.length:=by simpa using hl
  rw[ySn,yUb]at hn
  have ho0:=ho o ySk
  have ho':∀z∈os,z∈L:=fun z hz=>ho z (ySl _ hz)
  rw[yTc,yK]
  by_cases c:0<y
  ·rw[ySf c]
   have hx:1≤y∧y≤o.qty:=by omega
   have hk:=(ySg.1 hL).1
   have hod:=h.od k L hL
   have hoq:=(hod.1 o ho0).q
   have hne:o.id≠id:=hF.no L (ySo hL) o ho0
   have hlf:S.left o.id=o.qty:=by rw[hF.rest _ hne,zLm h hL ho0]
   have hbl:=h.ok.bl
   obtain⟨t1,t2,t3⟩:=z0t h.ok.pc (D:=D) (S:=S) x (r:=⟨3,o.id,k,s,o.price,y,o.qty-y,0⟩) (hF.d L (ySo hL) o ho0) rfl (by dsimp only;omega) (hF.own k L hL o ho0).symm (by dsimp only;omega) (by dsimp only;rw[hlf]) hs
   have hF':=hF.take h hL ho0 hx
   have hW:=h.take o.id y
   have hL':(yU B o.id y).1[k]? =some (yQ L o.id y):=by rw[zJm h hL ho0 hx];exact wW hk
   obtain⟨i1,i2,i3⟩:=zMf (s:=s) hs x (os:=os) (sh:=sh) hW hL' (fun z hz=>yVv.2 ⟨z,ho' z hz,ySe fun(e:z.id=o.id)=>hn.1 (yTh.2 ⟨z,hz,e⟩)⟩) hn.2 hl' hb' hF'
   rw[yTv]
   show dV p D S (jI p x ⟨3,o.id,k,s,o.price,y,o.qty-y,0⟩++_)∧FitX D (vO S (jI p x ⟨3,o.id,k,s,o.price,y,o.qty-y,0⟩++_)) _ id lf inst∧∀m,0≤m→m<p.months.length→wY (jI p x ⟨3,o.id,k,s,o.price,y,o.qty-y,0⟩++_) m=_
   refine⟨fV t1 ?_,?_,fun m m0 m1=> ?_⟩
   ·rw[t2];exact i1
   ·rw[cZ,t2];exact i2
   ·rw[bK,t3 m m0 m1,i3 m m0 m1,yJk]
  ·rw[ySe c]
   have:y=0:=by omega
   subst this
   rw[Int.zero_add]
   exact zMf hs x h hL ho' hn.2 hl' hb' hF
theorem z0o {p:Prd} {D:Int→Prop} {B:List (List zD)} (h:BWf p B) {q:Int} {g:List vA} {k:Nat} {s pr:Int} (G:yPj p B q g k s pr) {S:Stm} {id lf inst:Int} (hF:FitX D S B id lf inst) (x:kM):
 dV p D S (g.flatMap fun f=>jI p x (fL f))∧FitX D (vO S (g.flatMap fun f=>jI p x (fL f))) (yZ B g) id lf inst∧
 ∀m,0≤m→m<p.months.length→wY (g.flatMap fun f=>jI p x (fL f)) m=vq p k s q m:=by
 obtain⟨L,hL⟩:=z6 G.lt
 have e:=G.eq
 have Sh:=G.sh
 rw[zI hL]at e Sh
 have ho:=h.od k L hL
 have:=zMf (D:=D) (k:=k) G.s12 x (os:=atL L s pr) h hL (fun o ho=>(yTp.1 ho).1) (ho.2.1.sublist (List.Sublist.map _ yVq)) (by rw[Sh.len,ySh]) Sh.bd hF
 rw[Sh.sum,← e]at this
 exact this
theorem yAw {sd:Bool}:zB (!sd)=3-zB sd:=by cases sd<;>rfl
theorem yFe {p:Prd} {D:Int→Prop} {B:List (List zD)} (h:BWf p B) {inst:Int} (hi:0≤inst∧inst<B.length) {sd:Bool} {price q:Int} (hq:1≤q∧q≤1000000) {t:kM} {B':List (List zD)} (e:jF p B inst sd price q=some (t,B')) {c:Cmd} (hci:c.inst=inst) (hcs:c.side=zB sd) {S:Stm} (hF:FitX D S B c.id q inst):
 dV p D S (dZ p c t (q-t.qty))∧FitX D (vO S (dZ p c t (q-t.qty))) B' c.id (q-t.qty) inst∧∀m,0≤m→m<p.months.length→wY (dZ p c t (q-t.qty)) m=0:=by
 have hs:zB (!sd)=1∨zB (!sd)=2:=dP _
 have hsd:zB sd=1∨zB sd=2:=dP _
 have hin:=nI h.ok h.od hi hs
 have hbl:=h.ok.bl
 have htq:=aS hq.1 e
 have key:dV p D S (t.fills.flatMap fun f=>jI p t (fL f))∧FitX D (vO S (t.fills.flatMap fun f=>jI p t (fL f))) B' c.id q inst∧∀m,0≤m→m<p.months.length→wY (t.fills.flatMap fun f=>jI p t (fL f)) m=vq p inst (zB (!sd)) t.qty m:=by
  rw[jF]at e
  dsimp only at e
  split at e
  ·rename_i c0
   have c1:(zV p B inst (zB (!sd))).2.2=true:=by
    cases hx:(zV p B inst (zB (!sd))).2.2 with
    |false=>rw[hx]at c0;cases c0
    |true=>rfl
   obtain⟨hq1,h1,h2⟩:=hin c1
   split at e
   ·rename_i c2
    obtain⟨hall,ok⟩:=h1 c2
    have hv:=yEp h.ok.pc (T:=B.map xI) (by rw[ySh];exact hbl) hs hall t.qty
    generalize (zV p B inst (zB (!sd))).1=n at*
    obtain⟨np,nq,⟨ai,az⟩,⟨bi,bs⟩⟩:=n
    have a:=ok.a
    have b:=ok.b
    have ne:=ok.ne
    rw[ySh]at a b
    dsimp only at a b ne hq1
    obtain⟨ka,rfl⟩:∃k:Nat,ai=k:=⟨ai.toNat,by omega⟩
    obtain⟨kb,rfl⟩:∃k:Nat,bi=k:=⟨bi.toNat,by omega⟩
    obtain⟨La,hLa⟩:=z6 (l:=B) (i:=ka) (by omega)
    obtain⟨Lb,hLb⟩:=z6 (l:=B) (i:=kb) (by omega)
    have e1:=ok.ha
    have e2:=ok.hb
    have e3:=ok.qty
    have sa:az=1∨az=2:=ok.sa
    have bz:bs=1∨bs=2:=ok.sb
    dsimp only at e1 e2 e3 hv
    rw[ySt,lW hLa]at e1 e3
    rw[ySt,lW hLb]at e2 e3
    rw[(v8 La sa).1]at e1
    rw[(v8 Lb bz).1]at e2
    rw[(v8 La sa).2.1,(v8 Lb bz).2.1]at e3
    cases e
    dsimp only at htq hv ⊢
    have hl:=gO h (k:=ka) (j:=kb) (by omega) hLa hLb az (min q nq)
    have hW2:BWf p (yZ B (y4 p B ka az (min q nq))):=h.takes
    obtain⟨i1,i2,i3⟩:=z0o h (zSp h hLa sa e1 (q:=min q nq) (by omega)) hF ⟨np,min q nq,true,y4 p B ka az (min q nq)++y4 p (yZ B (y4 p B ka az (min q nq))) kb bs (min q nq)⟩
    obtain⟨j1,j2,j3⟩:=z0o hW2 (zSp hW2 hl bz e2 (q:=min q nq) (by omega)) i2 ⟨np,min q nq,true,y4 p B ka az (min q nq)++y4 p (yZ B (y4 p B ka az (min q nq))) kb bs (min q nq)⟩
    rw[yUc]
    refine⟨fV i1 j1,by rw[cZ];exact j2,fun m m0 m1=> ?_⟩
    rw[bK,i3 m m0 m1,j3 m m0 m1];exact hv m
   ·rename_i c2
    have c2:(zV p B inst (zB (!sd))).2.1=false:=by simpa using c2
    obtain⟨d1,d2,d3⟩:=h2 c2
    obtain⟨k0,rfl⟩:∃k:Nat,inst=k:=⟨inst.toNat,by omega⟩
    obtain⟨L,hL⟩:=z6 (l:=B) (i:=k0) (by omega)
    rw[ySt,zI hL]at d1 d2 d3
    cases e
    dsimp only at htq ⊢
    exact z0o h (zSp h hL hs d1 (q:=min q (zV p B k0 (zB (!sd))).1.qty) (by omega)) hF _
  ·cases e
 obtain⟨k1,k2,k3⟩:=key
 rw[dZ]
 obtain⟨t1,t2,t3⟩:=z0t h.ok.pc (D:=D) (S:=vO S (t.fills.flatMap fun f=>jI p t (fL f))) t (r:=⟨3,c.id,c.inst,c.side,t.price,t.qty,q-t.qty,0⟩) k2.di rfl (by dsimp only;omega) (by dsimp only;rw[k2.mine,hci]) (by dsimp only;rw[k2.me];omega) (by dsimp only;rw[k2.me]) (by dsimp only;omega)
 refine⟨fV k1 t1,?_,fun m m0 m1=> ?_⟩
 ·rw[cZ,t2]
  exact⟨fun y hy=>by dsimp only[upd];rw[ySe hy];exact k2.rest y hy,by dsimp only[upd];rw[ySf rfl],k2.own,k2.mine,k2.no,k2.d,k2.di⟩
 ·rw[bK,k3 m m0 m1,t3 m m0 m1]
  dsimp only
  rw[hci,hcs,yAw,z0e p hsd];omega
theorem z7d {p:Prd} {D:Int→Prop} {inst:Int} {sd:Bool} {price:Int} {c:Cmd} (hci:c.inst=inst) (hcs:c.side=zB sd):∀(m:Nat) (q:Int) (B:List (List zD)) (S:Stm),q.toNat≤m→0≤q∧q≤1000000→BWf p B→0≤inst∧inst<B.length→FitX D S B c.id q inst→
 dV p D S (wT p c (x0 p B inst sd price q).steps q)∧FitX D (vO S (wT p c (x0 p B inst sd price q).steps q)) (x0 p B inst sd price q).B c.id (x0 p B inst sd price q).left inst∧∀n,0≤n→n<p.months.length→wY (wT p c (x0 p B inst sd price q).steps q) n=0
 |m,q,B,S,hm,hq0,h,hi,hF=>by
  by_cases hq:q≤0
  ·rw[kO (.inl hq)];exact⟨trivial,hF,fun _ _ _=>rfl⟩
  cases hs:jF p B inst sd price q with
  |none=>rw[kO (.inr hs)];exact⟨trivial,hF,fun _ _ _=>rfl⟩
  |some x=>
   obtain⟨t,C⟩:=x
   have htq:=aS (by omega) hs
   obtain⟨hW,hl⟩:=tQ h hs
   obtain⟨i1,i2,i3⟩:=yFe h hi (by omega) hs hci hcs hF
   cases m with
   |zero=>omega
   |succ m=>
   obtain⟨j1,j2,j3⟩:=z7d (price:=price) hci hcs m (q-t.qty) C _ (by omega) (by omega) hW (by rw[hl];exact hi) i2
   rw[cC (by omega) hs]
   dsimp only
   rw[wT]
   refine⟨fV i1 j1,by rw[cZ];exact j2,fun n n0 n1=> ?_⟩
   rw[bK,i3 n n0 n1,j3 n n0 n1];rfl
structure Fits (D:Int→Prop) (S:Stm) (B:List (List zD)):Prop where
 lf:∀x,S.left x=qB B x
 own:∀(k:Nat) (L:List zD),B[k]? =some L→∀o∈L,S.own o.id=k
 d:∀L∈B,∀o∈L,D o.id
theorem yGt (B:List (List zD)):zNk B=kQ B:=zRx B 0
theorem z3w:∀{B:List (List zD)} {L:List zD},L∈B→L.length≤kQ B
 |[],L,h=>by cases h
 |M::B,L,h=>by
  rw[kQ,ySn,yTc]
  rcases ySy.1 h with rfl|h
  ·omega
  ·have:=z3w h
   rw[kQ]at this;omega
theorem yEj {B:List (List zD)} {id:Int} (h:∀L∈B,∀o∈L,o.id≠id):fJ B id=none:=by
 cases e:fJ B id with
 |none=>rfl
 |some k=>
  obtain⟨L,hL,hh⟩:=xL e
  obtain⟨o,ho,e2⟩:=yTh.1 (hasId_iff.1 hh)
  exact absurd e2 (h L (ySo hL) o ho)
theorem yMl {D:Int→Prop} {S:Stm} {p:Prd} {B:List (List zD)} {id lf inst s price:Int} (h:FitX D S B id lf inst) (hi:0≤inst∧inst<B.length) (hq:1≤lf∧lf≤1000000) (hn:kQ B<250) (hp:p.price inst price=0):Fits D S (rF p B inst id s price lf).1:=by
 obtain⟨k,rfl⟩:∃k:Nat,inst=k:=⟨inst.toNat,by omega⟩
 obtain⟨L,hL⟩:=z6 (l:=B) (i:=k) (by omega)
 have hLm:=ySo hL
 have hln:=z3w hLm
 have hh:kC L id=false:=by
  cases e:kC L id with
  |false=>rfl
  |true=>
   obtain⟨o,ho,e2⟩:=yTh.1 (hasId_iff.1 e)
   exact absurd e2 (h.no L hLm o ho)
 have hin:=yEj h.no
 have e:(rF p B k id s price lf).1=B.set k (zAk L s id price lf):=by
  rw[rF,ySe (by omega),hin,ySe (show ¬(none:Option Nat).isSome=true by decide),ySe (by rw[zRx];omega),ySe (by rw[hp];decide),ySt,zI hL,rC,ySe (by omega),hh,ySe (by decide),ySe (by omega)]
 have hmem:∀o∈zAk L s id price lf,o.id=id∨∃o'∈L,o'.id=o.id:=fun o ho=>by
  rcases ySy.1 ((zDe L s id price lf).mem_iff.1 (yTb (f:=(·.id)) ho))with e|hm
  ·exact .inl e
  ·obtain⟨o',ho',e⟩:=yTh.1 hm
   exact .inr ⟨o',ho',e⟩
 rw[e]
 refine⟨fun x=> ?_,fun j M hM o ho=> ?_,fun M hM o ho=> ?_⟩
 ·rw[zQz hL,yLf]
  by_cases c:id=x
  ·subst c
   rw[ySf rfl,h.me,zKl h.no];omega
  ·rw[ySe c,h.rest x fun e=>c e.symm];omega
 ·rcases vE hM with⟨rfl,rfl⟩|⟨_,hM⟩
  ·rcases hmem o ho with e|⟨o',ho',e⟩
   ·rw[e];exact h.mine
   ·rw[← e];exact h.own _ L hL o' ho'
  ·exact h.own j M hM o ho
 ·rcases yWz hM with hM|rfl
  ·exact h.d M hM o ho
  ·rcases hmem o ho with e|⟨o',ho',e⟩
   ·rw[e];exact h.di
   ·rw[← e];exact h.d L hLm o' ho'
theorem FitX.fits {D:Int→Prop} {S:Stm} {B:List (List zD)} {id inst:Int} (h:FitX D S B id 0 inst):Fits D S B:=by
 refine⟨fun x=> ?_,h.own,h.d⟩
 by_cases c:x=id
 ·subst c;rw[h.me,zKl h.no]
 ·exact h.rest x c
theorem zVc {p:Prd} {inst:Int} {sd:Bool} {price:Int} {q:Int} {B:List (List zD)} (h:BWf p B) (hi:0≤inst∧inst<B.length):kQ (x0 p B inst sd price q).B≤kQ B:=(z1m _ q B (yTd _) h hi).2.2.2
theorem zVi {p:Prd} {D:Int→Prop} {B:List (List zD)} (h:BWf p B) (U:List Int) {c:Cmd} (hi:0≤c.inst∧c.inst<B.length) (hs:c.side=1∨c.side=2) (hq:1≤c.qty∧c.qty≤1000000) (hp:p.price c.inst c.price=0) (hn:kQ B<250) {S:Stm} (hF:Fits D S B) (hno:∀L∈B,∀o∈L,o.id≠c.id) (hd:D c.id):
 dV p D S (wF p B U c).R∧Fits D (vO S (wF p B U c).R) (wF p B U c).B∧∀n,0≤n→n<p.months.length→wY (wF p B U c).R n=0:=by
 have hsd:c.side=zB (decide (c.side=2)):=by rcases hs with e|e<;>rw[e]<;>rfl
 have hbl:=h.ok.bl
 have hF0:FitX D (stN S ⟨1,c.id,c.inst,c.side,c.price,c.qty,c.qty,0⟩) B c.id c.qty c.inst:=by
  rw[stN,ySf rfl]
  dsimp only
  refine⟨fun x hx=> ?_,?_,fun k L hL o ho=> ?_,?_,hno,hF.d,hd⟩
  ·dsimp only[upd];rw[ySe hx];exact hF.lf x
  ·dsimp only[upd];rw[ySf rfl]
  ·dsimp only[upd];rw[ySe (hno L (ySo hL) o ho)];exact hF.own k L hL o ho
  ·dsimp only[upd];rw[ySf rfl]
 have g0:StG p D S ⟨1,c.id,c.inst,c.side,c.price,c.qty,c.qty,0⟩:=⟨hd,by dsimp only;omega,by dsimp only;omega,by dsimp only;omega,.inl ⟨rfl,by dsimp only;rw[hF.lf,zKl hno],hq.1,rfl⟩⟩
 obtain⟨i1,i2,i3⟩:=z7d (price:=c.price) (rfl:c.inst=c.inst) hsd _ c.qty B _ (yTd _) (by omega) h hi hF0
 have hcn:=zVc (sd:=decide (c.side=2)) (price:=c.price) (q:=c.qty) h hi
 obtain⟨hW,hl,hleft⟩:=cF (inst:=c.inst) (sd:=decide (c.side=2)) (price:=c.price) _ c.qty B (yTd _) h
 have hleft:=hleft (by omega)
 rw[wK]
 generalize x0 p B c.inst (decide (c.side=2)) c.price c.qty=R at*
 obtain⟨ts,left,B'⟩:=R
 dsimp only at*
 by_cases cl:left=0
 ·subst cl
  rw[ySe fun x=>x.1 rfl,ySe fun x=>x.1 rfl,yTg]
  exact⟨⟨g0,i1⟩,i2.fits,fun n n0 n1=>by rw[wY,i3 n n0 n1,one,ySe (fun x=>absurd x.1 (by show ¬(1:Int)=3;decide))];rfl⟩
 by_cases ct:c.time=1
 ·rw[ySe (show ¬(left≠0∧c.time≠1)from fun x=>x.2 ct),ySf (show left≠0∧c.time=1 from⟨cl,ct⟩),yTg]
  exact⟨⟨g0,i1⟩,yMl i2 (by omega) (by omega) (by omega) hp,fun n n0 n1=>by rw[wY,i3 n n0 n1,one,ySe (fun x=>absurd x.1 (by show ¬(1:Int)=3;decide))];rfl⟩
 ·rw[ySf (show left≠0∧c.time≠1 from⟨cl,ct⟩),ySe (show ¬(left≠0∧c.time=1)from fun x=>ct x.2)]
  have g2:StG p D (vO (stN S ⟨1,c.id,c.inst,c.side,c.price,c.qty,c.qty,0⟩) (wT p c ts c.qty)) ⟨4,c.id,c.inst,c.side,c.price,left,0,0⟩:=⟨hd,by dsimp only;omega,by dsimp only;omega,by dsimp only;omega,.inr (.inr (.inl ⟨rfl,by dsimp only;omega,by dsimp only;rw[i2.me],rfl⟩))⟩
  have n2:stN (vO (stN S ⟨1,c.id,c.inst,c.side,c.price,c.qty,c.qty,0⟩) (wT p c ts c.qty)) ⟨4,c.id,c.inst,c.side,c.price,left,0,0⟩=⟨upd (vO (stN S ⟨1,c.id,c.inst,c.side,c.price,c.qty,c.qty,0⟩) (wT p c ts c.qty)).left c.id 0,(vO (stN S ⟨1,c.id,c.inst,c.side,c.price,c.qty,c.qty,0⟩) (wT p c ts c.qty)).own⟩:=zEy (by show(4:Int)≠1;decide) (by show(4:Int)≠2;decide) fun h=>absurd (show(4:Int)=3 from h) (by decide)
  refine⟨⟨g0,fV i1 ⟨g2,trivial⟩⟩,?_,fun n n0 n1=> ?_⟩
  ·show Fits D (vO (stN S _) (wT p c ts c.qty++[_])) B'
   rw[cZ,zDz,n2]
   refine⟨fun x=> ?_,i2.own,i2.d⟩
   dsimp only[upd]
   by_cases e:x=c.id
   ·rw[ySf e,e,zKl i2.no]
   ·rw[ySe e];exact i2.rest x e
  ·rw[yTt,wY,bK,i3 n n0 n1,wY,wY,one,one,ySe (fun x=>absurd x.1 (by show ¬(1:Int)=3;decide)),ySe (fun x=>absurd x.1 (by show ¬(4:Int)=3;decide))];rfl
theorem Fits.take {D:Int→Prop} {S:Stm} {p:Prd} {B:List (List zD)} (h:Fits D S B) (hB:BWf p B) {k:Nat} {L:List zD} (hL:B[k]? =some L) {o:zD} (ho:o∈L) {x:Int} (hx:1≤x∧x≤o.qty):Fits D ⟨upd S.left o.id (o.qty-x),S.own⟩ (yU B o.id x).1:=by
 refine⟨fun y=> ?_,fun j M hM z hz=> ?_,fun M hM z hz=> ?_⟩
 ·rw[z1h hB hL ho hx]
  dsimp only[upd]
  by_cases c:y=o.id
  ·rw[ySf c,ySf c]
  ·rw[ySe c,ySe c];exact h.lf y
 ·obtain⟨M',h1,h2⟩:=zCo hM
  obtain⟨o',h3,h4⟩:=h2 z hz
  rw[← h4];exact h.own j M' h1 o' h3
 ·obtain⟨j,hj⟩:=yUi.1 hM
  obtain⟨M',h1,h2⟩:=zCo hj
  obtain⟨o',h3,h4⟩:=h2 z hz
  rw[← h4];exact h.d M' (ySo h1) o' h3
theorem zWk {B:List (List zD)} {id:Int} (h:(zT B id).2.2=true):∃(k:Nat) (L:List zD),(zT B id).1=k∧B[k]? =some L∧(zT B id).2.1∈L∧(zT B id).2.1.id=id:=by
 rw[zT]at h ⊢
 split at h
 ·cases h
 ·rename_i k hk
  obtain⟨L,hL,hh⟩:=xL hk
  obtain⟨o,ho,e⟩:=yTh.1 (hasId_iff.1 hh)
  refine⟨k,L,rfl,hL,?_⟩
  dsimp only
  rw[zI hL,fP]
  cases hf:L.find? fun o=>decide (o.id=id)with
  |none=>exact absurd e (by simpa using List.find?_eq_none.1 hf o ho)
  |some y=>exact⟨List.mem_of_find?_eq_some hf,by simpa using List.find?_some hf⟩
theorem z5h {p:Prd} {B:List (List zD)} (h:BWf p B) {k:Nat} {L:List zD} (hL:B[k]? =some L) {o:zD} (ho:o∈L):(∀M∈(yU B o.id o.qty).1,∀y∈M,y.id≠o.id)∧kQ (yU B o.id o.qty).1<kQ B:=by
 have hod:=h.od k L hL
 have hq:=(hod.1 o ho).q
 have hg:=vY hod.2.1 ho
 have hh:kC L o.id=true:=hasId_iff.2 (yTb (f:=(·.id)) ho)
 have ht:=zDw hod.2.1 hh
 rw[hg]at ht
 rw[zJm h hL ho (by omega),ht]
 refine⟨fun M hM y hy e=> ?_,?_⟩
 ·obtain⟨j,hj⟩:=yUi.1 hM
  rcases vE hj with⟨_,rfl⟩|⟨hne,hj⟩
  ·have:=(yTp.1 hy).2
   rw[e]at this;simp at this
  ·exact hne (zLy h.ub hj hL (e▸yTb (f:=(·.id)) hy) (yTb (f:=(·.id)) ho))
 ·have h1:=zHo (L':=L.filter fun y=> !decide (y.id=o.id)) hL
  have h2:(L.filter fun y=> !decide (y.id=o.id)).length<L.length:=List.length_filter_lt_length_iff_exists.2 ⟨o,ho,by simp⟩
  omega
theorem take_zero {B:List (List zD)} {id x:Int} (hx:x<1):(yU B id x).1=B:=by
 rw[yU]
 split
 ·rfl
 ·rename_i k hk
  obtain⟨L,hL,hh⟩:=xL hk
  dsimp only
  rw[zI hL,xR,ySe (by rw[hh];decide),ySf (.inl hx)]
  exact kK hL
theorem zIo {p:Prd} {i n:Int} (h:p.price i n=0):0≤i∧i<p.count:=by
 rw[Prd.price]at h
 split at h
 ·cases h
 split at h
 ·cases h
 ·omega
theorem zNp {p:Prd} {D:Int→Prop} {B:List (List zD)} (h:BWf p B) (U:List Int) {S:Stm} (hF:Fits D S B) {k:Nat} {L:List zD} (hL:B[k]? =some L) {o:zD} (ho:o∈L):
 dV p D S (jU B U o.id k o).R∧Fits D (vO S (jU B U o.id k o).R) (jU B U o.id k o).B∧∀n,wY (jU B U o.id k o).R n=0:=by
 have hq:=((h.od k L hL).1 o ho).q
 have hk:=(ySg.1 hL).1
 have hbl:=h.ok.bl
 have hlf:S.left o.id=o.qty:=by rw[hF.lf,zLm h hL ho]
 have ht:=hF.take h hL ho (x:=o.qty) (by omega)
 rw[Int.sub_self]at ht
 rw[jU]
 refine⟨⟨⟨hF.d L (ySo hL) o ho,by dsimp only;omega,by dsimp only;omega,by dsimp only;omega,.inr (.inr (.inl ⟨rfl,hq.1,hlf.symm,rfl⟩))⟩,trivial⟩,?_,fun n=> ?_⟩
 ·dsimp only
  rw[zDz,zEy (by show(4:Int)≠1;decide) (by show(4:Int)≠2;decide) fun h=>absurd (show(4:Int)=3 from h) (by decide)]
  exact ht
 ·rw[wY,wY,one,ySe (fun x=>absurd x.1 (by show ¬(4:Int)=3;decide))];rfl
theorem zOp {p:Prd} {D:Int→Prop} {B:List (List zD)} (h:BWf p B) (U:List Int) {S:Stm} (hF:Fits D S B) {k:Nat} {L:List zD} (hL:B[k]? =some L) {o:zD} (ho:o∈L) {q:Int} (hx:0≤q∧q<o.qty):
 dV p D S (u9 B U o.id q k o).R∧Fits D (vO S (u9 B U o.id q k o).R) (u9 B U o.id q k o).B∧∀n,wY (u9 B U o.id q k o).R n=0:=by
 have hq:=((h.od k L hL).1 o ho).q
 have hk:=(ySg.1 hL).1
 have hbl:=h.ok.bl
 have hlf:S.left o.id=o.qty:=by rw[hF.lf,zLm h hL ho]
 rw[u9]
 refine⟨⟨⟨hF.d L (ySo hL) o ho,by dsimp only;omega,by dsimp only;omega,by dsimp only;omega,.inr (.inr (.inr ⟨rfl,by dsimp only;omega,by dsimp only;omega⟩))⟩,trivial⟩,?_,fun n=> ?_⟩
 ·dsimp only
  rw[zDz,zEy (by show(5:Int)≠1;decide) (by show(5:Int)≠2;decide) fun h=>absurd (show(5:Int)=3 from h) (by decide)]
  dsimp only
  by_cases c:q<1
  ·have e:q=0:=by omega
   subst e
   rw[take_zero (by decide),Int.sub_zero]
   refine⟨fun y=> ?_,hF.own,hF.d⟩
   dsimp only[upd]
   by_cases e:y=o.id
   ·rw[ySf e,e,zLm h hL ho]
   ·rw[ySe e];exact hF.lf y
  ·exact hF.take h hL ho (by omega)
 ·rw[wY,wY,one,ySe (fun x=>absurd x.1 (by show ¬(5:Int)=3;decide))];rfl
theorem yGc (p:Prd) (B:List (List zD)) (inst id s price q:Int):kQ (rF p B inst id s price q).1≤kQ B+1:=by
 rw[rF]
 repeat' split
 all_goals first|exact Nat.le_succ _|skip
 rename_i c1 _ _ _
 obtain⟨L,hL⟩:=z6 (l:=B) (i:=inst.toNat) (by omega)
 dsimp only
 rw[zI hL]
 have h1:=zHo (L':=(rC L s id price q).1) hL
 have h2:(rC L s id price q).1.length≤L.length+1:=by
  rw[rC]
  repeat' split
  all_goals first|exact Nat.le_succ _|skip
  have:=(zDe L s id price q).length_eq
  rw[ySh,ySx,ySh]at this
  dsimp only;omega
 omega
theorem zNy {p:Prd} {B:List (List zD)} (h:BWf p B) (U:List Int) {c:Cmd} (hi:0≤c.inst∧c.inst<B.length):kQ (wF p B U c).B≤kQ B+1:=by
 have hcn:=zVc (sd:=decide (c.side=2)) (price:=c.price) (q:=c.qty) h hi
 rw[wK]
 dsimp only
 split
 ·exact yVa (yGc ..) (by omega)
 ·omega
theorem yPd {p:Prd} {D:Int→Prop} {B:List (List zD)} (h:BWf p B) {U:List Int} (hA:Acc B U) {c:Cmd} (hd:D c.id) (hn:kQ B≤250) {S:Stm} (hF:Fits D S B):
 (∃w,doF p B U c=⟨B,U,cK c w⟩)∨(kQ (doF p B U c).B≤250∧dV p D S (doF p B U c).R∧Fits D (vO S (doF p B U c).R) (doF p B U c).B∧∀n,0≤n→n<p.months.length→wY (doF p B U c).R n=0):=by
 have hbl:=h.ok.bl
 rw[doF]
 split
 ·exact .inl ⟨_,rfl⟩
 rename_i hr
 have hr:c.right=0:=by simpa using hr
 split
 ·rename_i hk
  obtain⟨hs,hq,_⟩:=eC hr hk
  rw[cM]
  split
  ·exact .inl ⟨_,rfl⟩
  rename_i hp
  have hp:p.price c.inst c.price=0:=by simpa using hp
  have hi:=zIo hp
  split
  ·exact .inl ⟨_,rfl⟩
  rename_i hu
  split
  ·exact .inl ⟨_,rfl⟩
  rename_i h250
  rw[yGt]at h250
  split
  ·exact .inl ⟨_,rfl⟩
  split
  ·exact .inl ⟨_,rfl⟩
  have hcn:=zNy h U (c:=c) (by omega)
  exact .inr ⟨by omega,zVi h U (by omega) hs hq hp (by omega) hF (fun L hL o ho e=>hu (e▸hA L hL o ho)) hd⟩
 rename_i hk
 split
 ·exact .inl ⟨_,rfl⟩
 rename_i hf
 obtain⟨k,L,f1,hL,ho,hid⟩:=zWk (by simpa using hf)
 generalize zT B c.id=F at*
 obtain⟨fi,o,fb⟩:=F
 dsimp only at f1 hL ho hid ⊢
 subst f1
 have hq:=((h.od k L hL).1 o ho).q
 have hklt:=(ySg.1 hL).1
 split
 ·rename_i h4
  have hqc:=bC hr hk (by omega)
  rw[vF]
  split
  ·exact .inl ⟨_,rfl⟩
  rename_i hp
  have hp:p.price k c.price=0:=by simpa using hp
  split
  ·rename_i hless
   right
   have:=zOp h U hF hL ho (q:=o.qty-c.qty) (by omega)
   rw[hid]at this
   exact⟨yVa (zIa B c.id (o.qty-c.qty)).1 hn,this.1,this.2.1,fun n _ _=>this.2.2 n⟩
  split
  ·exact .inl ⟨_,rfl⟩
  right
  obtain⟨c1,c2,c3⟩:=zNp h U hF hL ho
  obtain⟨g1,g2⟩:=z5h h hL ho
  rw[hid]at c1 c2 c3 g1 g2
  have hW:BWf p (yU B c.id o.qty).1:=h.take _ _
  have hbl':=hW.ok.bl
  have hcn:=zNy hW U (c:=⟨1,c.id,k,o.side,c.price,c.qty,0,1,[]⟩) (by dsimp only;omega)
  obtain⟨e1,e2,e3⟩:=zVi hW U (c:=⟨1,c.id,k,o.side,c.price,c.qty,0,1,[]⟩) (by dsimp only;omega) ((h.od k L hL).1 o ho).s hqc hp (by omega) c2 g1 hd
  dsimp only
  refine⟨yVa hcn (by omega),fV c1 e1,by rw[cZ];exact e2,fun n n0 n1=> ?_⟩
  rw[bK,c3,Int.zero_add];exact e3 n n0 n1
 rename_i h4
 split
 ·right
  have:=zNp h U hF hL ho
  rw[hid]at this
  exact⟨yVa (zIa B c.id o.qty).1 hn,this.1,this.2.1,fun n _ _=>this.2.2 n⟩
 ·rename_i h2
  right
  have hqc:=bC hr hk (by omega)
  have:=zOp h U hF hL ho (q:=c.qty) (by omega)
  rw[hid]at this
  exact⟨yVa (zIa B c.id c.qty).1 hn,this.1,this.2.1,fun n _ _=>this.2.2 n⟩
end Sx
