/- Texts of ours, one behind the other: a walk that the kernel reckons, and contracts of functions. No condition. -/
import Derived.Test.YtpgpnnncaidcjaaGreatA9
namespace Sx
set_option linter.unusedVariables false
set_option linter.unusedSimpArgs false
set_option maxRecDepth 100000
open Go Cv Go.Proofs
open Go Cv Go.Proofs
theorem sE {inst s:Int} {f:vD}:∀{os:List zD} {sh:List Int},f∈yM inst s os sh→f.side=s∧f.inst=inst∧∃o∈os,f.price=o.price
 |[],sh,h=>by cases h
 |o::os,[],h=>by cases h
 |o::os,k::sh,h=>by
  rw[yM]at h
  split at h
  ·rcases yTb.1 h with rfl|h
   ·exact⟨rfl,rfl,o,ySp,rfl⟩
   ·obtain⟨a,b,o',c,d⟩:=sE h
    exact⟨a,b,o',ySq _ c,d⟩
  ·obtain⟨a,b,o',c,d⟩:=sE h
   exact⟨a,b,o',ySq _ c,d⟩
def FOk (f:vD):Prop:=(f.side=1∨f.side=2)∧-2000000≤f.price∧f.price≤2000000
theorem zFd {p:Prd} {B:List (List zD)} (h:BOk p B) (inst:Int) {s:Int} (hs:s=1∨s=2) (q:Int):∀f∈y3 p B inst s q,FOk f:=by
 intro f hf
 obtain⟨a,_,o,ho,e⟩:=sE hf
 refine⟨by rw[a];exact hs,?_⟩
 rw[e]
 have ho:=(yTu.1 ho).1
 by_cases hk:inst.toNat<B.length
 ·obtain⟨L,hL⟩:=z9 hk
  rw[zH hL]at ho
  exact h.prices hL o ho
 ·rw[ySn,yTh (by omega)]at ho;cases ho
def SOk (t:kM):Prop:=(-2000000≤t.price∧t.price≤2000000)∧(∀f∈t.fills,FOk f)∧t.fills.length≤500
theorem yEz {p:Prd} {B:List (List zD)} (h:BWf p B) {inst:Int} (hi:0≤inst∧inst<B.length) {s:Int} (hs:s=1∨s=2) (hn:(zW p B inst s).2.2=true): -2000000≤(zW p B inst s).1.price∧(zW p B inst s).1.price≤2000000:=by
 rw[zW]at hn ⊢
 obtain⟨L,hL⟩:=z9 (l:=B) (i:=inst.toNat) (by omega)
 rw[zH hL]at hn ⊢
 split
 ·exact zSs (h.ok.prices hL)
 ·rename_i c
  rw[ySj c]at hn
  have hm:=zQn hn
  have:=(yTu.1 hm).2
  exact zBs h.ok.pc (yVh this)
theorem yEf {p:Prd} {B:List (List zD)} (h:BWf p B) {inst:Int} (hi:0≤inst∧inst<B.length) {sd:Bool} {price q:Int} {t:kM} {B':List (List zD)} (e:jF p B inst sd price q=some (t,B')):SOk t:=by
 have hs:zB (!sd)=1∨zB (!sd)=2:=dQ _
 have hb:=yEz h hi hs
 have hin:=m9 h.ok h.od hi hs
 rw[jF]at e
 dsimp only at e
 split at e
 ·rename_i c
  have c1:(zW p B inst (zB (!sd))).2.2=true:=by
   cases hx:(zW p B inst (zB (!sd))).2.2 with
   |false=>rw[hx]at c;cases c
   |true=>rfl
  have hb:=hb c1
  obtain⟨_,hin,_⟩:=hin c1
  split at e
  ·rename_i c2
   obtain⟨_,ok⟩:=hin c2
   cases e
   refine⟨hb,fun f hf=> ?_,?_⟩
   ·rcases yTp.1 hf with hf|hf
    ·exact zFd h.ok _ ok.sa _ f hf
    ·exact zFd h.ok.takes _ ok.sb _ f hf
   ·dsimp only
    rw[ySr]
    have:=mM (p:=p) h.od (zW p B inst (zB (!sd))).1.a.inst (zW p B inst (zB (!sd))).1.a.side (min q (zW p B inst (zB (!sd))).1.qty)
    have:=mM (p:=p) (h.takes (fs:=y3 p B (zW p B inst (zB (!sd))).1.a.inst (zW p B inst (zB (!sd))).1.a.side (min q (zW p B inst (zB (!sd))).1.qty))).od (zW p B inst (zB (!sd))).1.b.inst (zW p B inst (zB (!sd))).1.b.side (min q (zW p B inst (zB (!sd))).1.qty)
    omega
  ·cases e
   refine⟨hb,fun f hf=>zFd h.ok _ hs _ f hf,?_⟩
   have:=mM (p:=p) h.od inst (zB (!sd)) (min q (zW p B inst (zB (!sd))).1.qty)
   dsimp only
   omega
 ·cases e
open Go Cv Go.Proofs
open Go Cv Go.Proofs
def lN (a:StI):Prop:=zV a.s.wh=zV a.s.wh∧AObj.fro 1 (iE a.s.p.months)=AObj.fro 1 (iE a.s.p.months)∧AObj.fro 1 (iE a.s.p.settle)=AObj.fro 1 (iE a.s.p.settle)∧True
def z8y (i:StI):Prop:=
 (aB i)∧∃(a:Bool),∃(b:Int),(nI i b a)∧cnd (!a) (∃(c:Unit),(zI i.B i.id).fst=0∧(zI i.B i.id).snd.fst.id=0∧(zI i.B i.id).snd.fst.side=0∧(zI i.B i.id).snd.fst.price=0∧(zI i.B i.id).snd.fst.qty=0∧(zI i.B i.id).snd.fst.top=false∧(zI i.B i.id).snd.snd=false∧sb i.s.p.code=sb i.s.p.code∧i.s.p.tick=i.s.p.tick∧i.s.p.low=i.s.p.low∧i.s.p.high=i.s.p.high∧i.s.p.wide=i.s.p.wide∧i.s.p.rule=i.s.p.rule∧i.s.p.top=i.s.p.top∧i.s.p.least=i.s.p.least∧i.s.p.part=i.s.p.part∧AObj.objs 102 Book 6 zT i.s.books none=AObj.objs 102 Book 6 zT i.s.books none∧lN i) ((0≤b∧b<(↑i.s.books.length:Int))∧b.toNat<i.s.books.length∧∃(c:Book),i.s.books[b.toNat]?=some c∧∃(d:FlI),d.id=i.id∧yD d.b=yD c∧d.b.Rep d.L∧∀(e:Unit),True→∃(f:Book),yD d.b=yD f∧b.toNat=b.toNat∧b.toNat<i.s.books.length∧∃(g:Unit),(zI i.B i.id).fst=b∧(zI i.B i.id).snd.fst.id=(fS d.L d.id).id∧(zI i.B i.id).snd.fst.side=(fS d.L d.id).side∧(zI i.B i.id).snd.fst.price=(fS d.L d.id).price∧(zI i.B i.id).snd.fst.qty=(fS d.L d.id).qty∧(zI i.B i.id).snd.fst.top=(fS d.L d.id).top∧(zI i.B i.id).snd.snd=true∧sb i.s.p.code=sb i.s.p.code∧i.s.p.tick=i.s.p.tick∧i.s.p.low=i.s.p.low∧i.s.p.high=i.s.p.high∧i.s.p.wide=i.s.p.wide∧i.s.p.rule=i.s.p.rule∧i.s.p.top=i.s.p.top∧i.s.p.least=i.s.p.least∧i.s.p.part=i.s.p.part∧AObj.objs 102 Book 6 zT i.s.books none=AObj.objs 102 Book 6 zT (i.s.books.set b.toNat f) none∧lN i)
open Go Cv Go.Proofs
theorem yLs (i:StI) (h:sfindC.cnd i):z8y i:=by
 obtain⟨hR,hB⟩:i.s.Rep i.p i.B∧i.B.length≤1000:=h
 have hat:=hR.at_ i.id
 unfold z8y aB nI lN dI
 rw[zI]
 cases hi:g7 i.B i.id with
 |none=>
  rw[hi]at hat
  exact⟨kL _ _,false,0,.inr ⟨by rw[bH,hat];rfl,rfl,rfl⟩,Cv.cnd.mk (fun _=>⟨(),by(repeat'(first|exact trivial|exact rfl|apply And.intro))⟩) (fun e=>absurd e (by decide))⟩
 |some k=>
  rw[hi]at hat
  obtain⟨L,hL,hh⟩:=xK hi
  have hk:=(ySl.1 hL).1
  obtain⟨b,hb⟩:=z9 (l:=i.s.books) (i:=k) (by rw[hR.bl];exact hk)
  have hbR:=hR.bk k b L hb hL
  have hbl:=hR.bl
  refine⟨kL _ _,true,k,.inl ⟨by rw[bH,hat];rfl,rfl⟩,Cv.cnd.mk (fun e=>absurd e (by decide)) (fun _=> ?_)⟩
  dsimp only
  rw[ySy,zH hL]
  have hs:=kK hb
  refine⟨⟨by omega,by omega⟩,by omega,b,hb,⟨b,L,i.id,0⟩,rfl,rfl,hbR,fun _ _=>⟨b,rfl,rfl,by omega,(),?_⟩⟩
  rw[hs]
  (repeat'(first|exact trivial|exact rfl|apply And.intro))
theorem zVk:sfindC.ok Tryz.prog 41:=okw mixed (gokc zUk gok0) 0 (fun _=>[]) (fun _=>[]) [0] Tryz.func41 yLs
open Go Cv Go.Proofs
theorem zPp (id:Int) (U:List Int):∀p∈z6 U,like (Value.int IntKind.i64 id) p.1=true:=by
 intro p hp
 obtain⟨k,_,rfl⟩:=yTk.1 hp
 rfl
theorem zPh (id:Int):∀U:List Int,jL (Value.int IntKind.i64 id) [D.v (.bool true)] (z6 U)=z6 (zCp U id)
 |[]=>rfl
 |k::U=>by
  have ih:=zPh id U
  have e:p9 (Value.int IntKind.i64 id) (Value.int IntKind.i64 k)=decide (id=k):=by simp[p9,keq]
  show(bif p9 (Value.int IntKind.i64 id) (Value.int IntKind.i64 k)then(Value.int IntKind.i64 k,[D.v (.bool true)])::z6 U else(Value.int IntKind.i64 k,[D.v (.bool true)])::jL (Value.int IntKind.i64 id) [D.v (.bool true)] (z6 U))=_
  rw[e,ih]
  by_cases c:id=k
  ·rw[yTd c,cond_true,zCp,ySk (by rw[c];exact ySp)];rfl
  ·rw[ySu c,cond_false,zCp,zCp]
   have hm:id∈k::U↔id∈U:=by simp[c]
   by_cases d:id∈U
   ·rw[ySk d,ySk (hm.2 d)];rfl
   ·rw[ySj d,ySj (fun x=>d (hm.1 x))];rfl
theorem zQg (id:Int):∀U:List Int,j8 (Value.int IntKind.i64 id) (z6 U)=if id∈U then some [D.v (.bool true)]else none
 |[]=>rfl
 |k::U=>by
  have ih:=zQg id U
  have e:p9 (Value.int IntKind.i64 id) (Value.int IntKind.i64 k)=decide (id=k):=by simp[p9,keq]
  show(bif p9 (Value.int IntKind.i64 id) (Value.int IntKind.i64 k)then some [D.v (.bool true)]else j8 (Value.int IntKind.i64 id) (z6 U))=_
  rw[e,ih]
  by_cases c:id=k
  ·rw[yTd c,cond_true,ySk (by rw[c];exact ySp)]
  ·rw[ySu c,cond_false]
   have hm:id∈k::U↔id∈U:=by simp[c]
   by_cases d:id∈U
   ·rw[ySk d,ySk (hm.2 d)]
   ·rw[ySj d,ySj (fun x=>d (hm.1 x))]
theorem z9q (id:Int) (U:List Int):j8 (Value.int IntKind.i64 id) (z6 U)=some [D.v (.bool (decide (id∈U)))]∧decide (id∈U)=true∨j8 (Value.int IntKind.i64 id) (z6 U)=none∧[D.v (.bool (decide (id∈U)))]=[D.v (.bool false)]∧decide (id∈U)=false:=by
 rw[zQg]
 by_cases c:id∈U
 ·rw[ySk c,yTd c];exact .inl ⟨rfl,rfl⟩
 ·rw[ySj c,ySu c];exact .inr ⟨rfl,rfl,rfl⟩
theorem zSe {p:Prd} {inst:Int} {sd:Bool} {price:Int}:∀(m:Nat) (q:Int) (B:List (List zD)),q.toNat≤m→BWf p B→0≤inst∧inst<B.length→
 (∀t∈(xZ p B inst sd price q).steps,SOk t∧1≤t.qty)∧((xZ p B inst sd price q).steps.map (·.qty)).sum=q-(xZ p B inst sd price q).left
 |m,q,B,hm,h,hi=>by
  by_cases hq:q≤0
  ·rw[kU (.inl hq)];exact⟨fun t ht=>(by cases ht),by simp⟩
  cases hs:jF p B inst sd price q with
  |none=>rw[kU (.inr hs)];exact⟨fun t ht=>(by cases ht),by simp⟩
  |some x=>
   obtain⟨t,C⟩:=x
   obtain⟨k1,k2⟩:=sY h hs
   have hq2:=aY (by omega) hs
   cases m with
   |zero=>omega
   |succ m=>
   obtain⟨i1,i2⟩:=zSe (p:=p) (inst:=inst) (sd:=sd) (price:=price) m (q-t.qty) C (by omega) k1 (by rw[k2];exact hi)
   rw[cE (by omega) hs]
   refine⟨fun u hu=> ?_,?_⟩
   ·rcases yTb.1 hu with rfl|hu
    ·exact⟨yEf h hi hs,hq2.1⟩
    ·exact i1 u hu
   ·dsimp only
    rw[ySs,yTg,i2];omega
theorem yIi {α:Type} {f:α→List Rep} (hf:∀x,(f x).length≤3):∀l:List α,(l.flatMap f).length≤3*l.length
 |[]=>yTj _
 |x::l=>by
  have:=yIi hf l
  have:=hf x
  rw[yUa,ySr,yTc];omega
theorem zOx (p:Prd) (c:Cmd) (x:kM) (left:Int):(dZ p c x left).length≤3*x.fills.length+3:=by
 rw[dZ,ySr]
 have:=yIi (fun f=>zMz p x (fL f)) x.fills
 have:=zMz p x ⟨3,c.id,c.inst,c.side,x.price,x.qty,left,0⟩
 omega
theorem zRz {l:List kM} (h:∀t∈l,SOk t∧1≤t.qty):(l.length:Int)≤(l.map (·.qty)).sum:=by
 induction l with
 |nil=>exact yWf _
 |cons t l ih=>
  have:=ih fun u hu=>h u (ySq _ hu)
  have:=(h t ySp).2
  rw[ySs,yTg,yTc];omega
theorem yLc (i:EnI) (h:enterC.cnd i):yCf i:=by
 obtain⟨m,p,B,U,c,X⟩:=i
 have h':(m.Rep p B U∧BOk p B)∧((0≤c.inst∧c.inst<B.length)∧(1≤c.qty∧c.qty≤1000000)∧(c.side=1∨c.side=2))∧p.price c.inst c.price=0∧X=wH p B U c:=h
 clear h
 obtain⟨⟨⟨ep,hR,eu⟩,hB⟩,⟨⟨h0,h1⟩,hq,hs⟩,hpz,hX⟩:=h'
 subst ep eu hX
 have hwf:=hR.wf hB
 obtain⟨k1,k2,k3⟩:=cI (inst:=c.inst) (sd:=decide (c.side=2)) (price:=c.price) _ c.qty B (yTj _) hwf
 have k3:=k3 (by omega)
 obtain⟨s1,s2⟩:=zSe (inst:=c.inst) (sd:=decide (c.side=2)) (price:=c.price) _ c.qty B (yTj _) hwf ⟨h0,h1⟩
 have hX:=wP m.p B m.used c
 have hbd:=zBs hB.pc hpz
 unfold yCf qR vQ zAv dI
 dsimp only
 rw[zPh,hX]
 refine⟨zPp _ _,⟨m.s,m.p,B,c.inst,decide (c.side=2),c.price,c.qty⟩,rfl,uI hs,rfl,rfl,rfl,⟨hR,hB,⟨h0,h1⟩,hq.1,hq.2⟩,fun o ho=> ?_⟩
 have er:RunI.r ⟨m.s,m.p,B,c.inst,decide (c.side=2),c.price,c.qty⟩=xZ m.p B c.inst (decide (c.side=2)) c.price c.qty:=rfl
 rw[er]at ho ⊢
 clear hX er
 generalize xZ m.p B c.inst (decide (c.side=2)) c.price c.qty=R at*
 obtain⟨ts,lf,RB⟩:=R
 dsimp only at*
 have hlen:=zRz s1
 have e4:(ts.map jV).length=ts.length:=ySm ..
 refine⟨⟨c.qty,0,[⟨1,c.id,c.inst,c.side,c.price,c.qty,c.qty,0⟩]⟩,rfl,rfl,rfl,fun j=>j.k≤ts.length∧j.left=lf+((ts.drop j.k).map (·.qty)).sum∧(⟨1,c.id,c.inst,c.side,c.price,c.qty,c.qty,0⟩::wX m.p c ts c.qty)=j.out++wX m.p c (ts.drop j.k) j.left∧j.out.length≤1+1503*j.k,fun j=>ts.length-j.k,⟨yUs _,by dsimp only;rw[yVv,s2];omega,rfl,yTj _⟩,?_⟩
 rintro⟨left,k,out⟩ ⟨j1,j2,j3,j4⟩
 dsimp only at j1 j2 j3 j4 ⊢
 have e5:(out.map yG).length=out.length:=ySm ..
 refine zL (fun c1=> ?_) (fun c1=> ?_)
 ·obtain⟨t,ht⟩:=z9 (l:=ts) (i:=k) (by omega)
  have hd:ts.drop k=t::ts.drop (k+1):=by rw[yVd (by omega),(ySl.1 ht).2]
  obtain⟨⟨t1,t2,t3⟩,t4⟩:=s1 t (ySt ht)
  have hsd:=zRz (l:=ts.drop (k+1)) fun u hu=>s1 u (yWc hu)
  have hsk:((ts.drop k).map (·.qty)).sum≤(ts.map (·.qty)).sum:=by
   have:=zRz (l:=ts.take k) fun u hu=>s1 u (yYe hu)
   have e:(ts.map (·.qty)).sum=((ts.take k).map (·.qty)).sum+((ts.drop k).map (·.qty)).sum:=by
    rw[← List.sum_append,← ySv,yUt]
   omega
  rw[hd,ySs,yTg]at j2 hsk
  rw[hd,wX]at j3
  have hrl:=zOx m.p c t (left-t.qty)
  have e6:((dZ m.p c t (left-t.qty)).map yG).length=(dZ m.p c t (left-t.qty)).length:=ySm ..
  have hw:IntKind.i64.wrap (left-t.qty)=left-t.qty:=w64 (by omega)
  refine⟨⟨by omega,by omega⟩,t.price,t.qty,t.implied,t.fills.map yV,elA ht (by simp[jV]) rfl,?_⟩
  rw[hw]
  refine⟨⟨⟨m.p,o,zCp m.used c.id⟩,c,t,left-t.qty⟩,rfl,rfl,rfl,rfl,rfl,rfl,rfl,rfl,rfl,rfl,rfl,rfl,rfl,rfl,rfl,rfl,rfl,rfl,rfl,rfl,rfl,rfl,rfl,rfl,rfl,rfl,rfl,⟨⟨hB.pc,hB.ps⟩,⟨by dsimp only;omega,by dsimp only;omega⟩,by dsimp only;omega,hs,fun f hf=>(t2 f hf).1⟩,fun _ _=>⟨by dsimp only;rw[e5,e6];omega,⟨left-t.qty,k+1,out++dZ m.p c t (left-t.qty)⟩,rfl,wjn (by omega),by dsimp only;rw[ySv],⟨by dsimp only;omega,by dsimp only;omega,by dsimp only;rw[j3,ySw],by dsimp only;rw[ySr];omega⟩,by dsimp only;omega,by(repeat'(first|exact trivial|exact rfl|apply And.intro))⟩⟩
 have hk:k=ts.length:=by omega
 subst hk
 rw[List.drop_of_length_le (yTj _)]at j2 j3
 rw[wX,yTl]at j3
 rw[← j3]
 rw[← j3]at e5 j4
 have hRB:=k1.ok
 refine Cv.cnd.mk (fun e=> ?_) (fun e=>Cv.cnd.mk (fun e2=> ?_) (fun e2=> ?_))
 ·have e:lf=0:=by simpa using e
  rw[ySj (by omega),ySj (by omega),yTl]
  exact⟨⟨m.p,o,zCp m.used c.id⟩,rfl,rfl,rfl,rfl,rfl,rfl,rfl,rfl,rfl,rfl,rfl,rfl,rfl,rfl,rfl,ho,rfl⟩
 ·have e:¬lf=0:=by simpa using e
  have e2:c.time=1:=by simpa using e2
  rw[ySj (show ¬(lf≠0∧c.time≠1)by omega),ySk (show lf≠0∧c.time=1 from⟨e,e2⟩),yTl]
  have ha:=(ho.add c.inst c.id (decide (c.side=2)) c.price lf).1
  rw[uI hs]at ha
  exact⟨⟨o,c.inst,c.id,decide (c.side=2),c.price,lf⟩,rfl,rfl,uI hs,rfl,rfl,rfl,ho.fit hRB,fun _ _=>⟨⟨m.p,(MSt.addF ⟨o,c.inst,c.id,decide (c.side=2),c.price,lf⟩).1,zCp m.used c.id⟩,rfl,rfl,rfl,rfl,rfl,rfl,rfl,rfl,rfl,rfl,rfl,rfl,rfl,rfl,rfl,ha,rfl⟩⟩
 ·have e:¬lf=0:=by simpa using e
  have e2:¬c.time=1:=by simpa using e2
  rw[ySk (show lf≠0∧c.time≠1 from⟨e,e2⟩),ySj (show ¬(lf≠0∧c.time=1)by omega)]
  exact⟨by rw[e5];omega,⟨m.p,o,zCp m.used c.id⟩,rfl,rfl,rfl,rfl,rfl,rfl,rfl,rfl,rfl,rfl,rfl,rfl,rfl,by rw[ySv];rfl,rfl,ho,rfl⟩
theorem zXe:enterC.ok Tryz.prog 74:=okw mixed (gokc zZc (gokc z8v (gokc yHk gok0))) 0 (fun _=>[]) (fun i=>yLt i) [] Tryz.func74 yLc
theorem yOf:mcountC.ok Tryz.prog 19:=okw (V:=yHh) mixed (gokc zLm gok0) 0 (fun _=>[]) (fun _=>[]) [0] Tryz.func19 fun(i:MfI) h=>by
 obtain⟨m,p,B,U,id⟩:=i
 have h':m.Rep p B U∧BOk p B:=h
 clear h
 obtain⟨⟨ep,hR,eu⟩,hB⟩:=h'
 subst ep eu
 have:=xQ m.p
 have:=hB.bl
 exact⟨⟨m.s,m.p,B,0,false⟩,rfl,⟨hR,by dsimp only;omega⟩,fun _ _=>⟨(),by(repeat'(first|exact trivial|exact rfl|apply And.intro))⟩⟩
theorem mfind_ok:mfindC.ok Tryz.prog 26:=okw (V:=yKv) mixed (gokc zVk gok0) 0 (fun _=>[]) (fun _=>[]) [0] Tryz.func26 fun(i:MfI) h=>by
 obtain⟨m,p,B,U,id⟩:=i
 have h':m.Rep p B U∧BOk p B:=h
 clear h
 obtain⟨⟨ep,hR,eu⟩,hB⟩:=h'
 subst ep eu
 have:=xQ m.p
 have:=hB.bl
 exact⟨⟨m.s,m.p,B,id,0⟩,rfl,rfl,⟨hR,by dsimp only;omega⟩,fun _ _=>⟨(),by(repeat'(first|exact trivial|exact rfl|apply And.intro))⟩⟩
theorem zPe:cancelC.ok Tryz.prog 43:=okw (V:=yHn) mixed (gokc zAz gok0) 0 (fun _=>[]) (fun _=>[]) [] Tryz.func43 fun(i:CaI) h=>by
 obtain⟨m,p,B,U,id,q,inst,o,X⟩:=i
 have h':(m.Rep p B U∧BOk p B)∧X=jT B U id inst o:=h
 clear h
 obtain⟨⟨⟨ep,hR,eu⟩,hB⟩,hX⟩:=h'
 subst ep eu hX
 have:=xQ m.p
 have:=hB.bl
 exact⟨⟨m.s,m.p,B,id,o.qty⟩,rfl,rfl,rfl,⟨hR,by dsimp only;omega⟩,fun o' ho=>⟨⟨m.p,o',m.used⟩,rfl,rfl,rfl,rfl,rfl,rfl,rfl,rfl,rfl,rfl,rfl,rfl,rfl,rfl,rfl,ho,rfl⟩⟩
theorem zOz:reduceC.ok Tryz.prog 44:=okw (V:=z2c) mixed (gokc zAz gok0) 0 (fun _=>[]) (fun _=>[]) [] Tryz.func44 fun(i:CaI) h=>by
 obtain⟨m,p,B,U,id,q,inst,o,X⟩:=i
 have h':(m.Rep p B U∧BOk p B)∧yZ (o.qty-q)∧X=hJ B U id q inst o:=h
 clear h
 obtain⟨⟨⟨ep,hR,eu⟩,hB⟩,hw,hX⟩:=h'
 subst ep eu hX
 have:=xQ m.p
 have:=hB.bl
 have hw:=w64 hw
 unfold z2c dI
 dsimp only
 rw[hw]
 exact⟨⟨m.s,m.p,B,id,q⟩,rfl,rfl,rfl,⟨hR,by dsimp only;omega⟩,fun o' ho=>⟨⟨m.p,o',m.used⟩,rfl,rfl,rfl,rfl,rfl,rfl,rfl,rfl,rfl,rfl,rfl,rfl,rfl,rfl,rfl,ho,rfl⟩⟩
theorem zOf {c:Cmd} (h:c.right=0):(if c.kind=1 then c.orderE else if c.kind≠2∧wV c.qty=false then 24 else if c.kind=4∧dB c.price=false then 23 else 0)=0:=by
 rw[Cmd.right]at h
 by_cases c1:c.kind<1∨4<c.kind
 ·rw[ySk c1]at h;cases h
 rw[ySj c1]at h
 by_cases c2:c.id<1∨1099511627776<c.id
 ·rw[ySk c2]at h;cases h
 rw[ySj c2]at h
 exact h
theorem eR {c:Cmd} (h:c.right=0) (hk:c.kind=1):(c.side=1∨c.side=2)∧(1≤c.qty∧c.qty≤1000000)∧(0≤c.least∧c.least≤c.qty):=by
 have h:=zOf h
 rw[ySk hk,Cmd.orderE]at h
 by_cases c1:c.side≠1∧c.side≠2
 ·rw[ySk c1]at h;cases h
 rw[ySj c1]at h
 by_cases c2:c.time<1∨3<c.time
 ·rw[ySk c2]at h;cases h
 rw[ySj c2]at h
 cases c3:wV c.qty with
 |false=>rw[ySk c3]at h;cases h
 |true=>
  rw[ySj (by rw[c3];decide)]at h
  by_cases c4:c.least<0∨c.qty<c.least
  ·rw[ySk c4]at h;cases h
  simp only[wV,ySx,yTo]at c3
  exact⟨by omega,c3,by omega⟩
theorem cY {c:Cmd} (h:c.right=0) (hk:¬c.kind=1) (hk2:¬c.kind=2):1≤c.qty∧c.qty≤1000000:=by
 have h:=zOf h
 rw[ySj hk]at h
 cases c3:wV c.qty with
 |false=>rw[ySk ⟨hk2,c3⟩]at h;cases h
 |true=>
  simp only[wV,ySx,yTo]at c3
  exact c3
theorem yKn (i:EnI) (h:orderC.cnd i):yBc i:=by
 obtain⟨m,p,B,U,c,X⟩:=i
 have h':(m.Rep p B U∧BOk p B)∧c.right=0∧c.kind=1∧X=cM p B U c:=h
 clear h
 obtain⟨⟨hM,hB⟩,hr,hkd,hX⟩:=h'
 obtain⟨ep,hR,eu⟩:=hM
 subst ep eu
 have hM:m.Rep m.p B m.used:=⟨rfl,hR,rfl⟩
 obtain⟨hs,hq,hl⟩:=eR hr hkd
 have hbl:=hB.bl
 have hcl:=xQ m.p
 unfold yBc qR tD zFv zAe zEi zFu zDk zFr vQ nR pY x9 dI
 dsimp only
 refine⟨⟨m.p,c.inst,c.price⟩,rfl,rfl,rfl,rfl,rfl,rfl,rfl,rfl,rfl,rfl,rfl,rfl,rfl,hB.ps,fun _ _=>Cv.cnd.mk (fun e=> ?_) (fun e=> ?_)⟩
 ·have e:m.p.price c.inst c.price≠0:=by simpa using e
  have hx:X=⟨B,m.used,dX c (m.p.price c.inst c.price)⟩:=by rw[hX,cM,ySk e]
  exact⟨⟨c,m.p.price c.inst c.price⟩,rfl,rfl,rfl,rfl,rfl,rfl,rfl,rfl,rfl,rfl,trivial,fun _ _=>⟨m,rfl,rfl,rfl,rfl,rfl,rfl,rfl,rfl,rfl,rfl,rfl,rfl,rfl,by rw[hx];rfl,by rw[hx];exact hM⟩⟩
 have hpz:m.p.price c.inst c.price=0:=by simpa using e
 have hin:=zJg hpz
 have hib:0≤c.inst∧c.inst<B.length:=by omega
 rw[cM,ySj (by rw[hpz];decide)]at hX
 refine⟨0,fun l=>l=c.lst,Cv.cnd.mk (fun e=>⟨c.qty,rfl,by rw[Cmd.lst,ySk (by simpa using e)],by(repeat'(first|exact trivial|exact rfl|apply And.intro))⟩) (fun e=>⟨c.least,rfl,by rw[Cmd.lst,ySj (by simpa using e)],by(repeat'(first|exact trivial|exact rfl|apply And.intro))⟩),?_⟩
 rintro _ rfl
 refine⟨zPp _ _,_,_,z9q _ _,zL (fun e=> ?_) (fun e=> ?_)⟩
 ·have hx:X=⟨B,m.used,dX c 25⟩:=by rw[hX,ySk e]
  exact⟨⟨c,25⟩,rfl,rfl,rfl,rfl,rfl,rfl,rfl,rfl,rfl,rfl,trivial,fun _ _=>⟨m,rfl,rfl,rfl,rfl,rfl,rfl,rfl,rfl,rfl,rfl,rfl,rfl,rfl,by rw[hx];rfl,by rw[hx];exact hM⟩⟩
 rw[ySj e]at hX
 refine⟨⟨m.s,m.p,B,0,false⟩,rfl,⟨hR,by dsimp only;omega⟩,fun _ _=>zL (fun e=> ?_) (fun e=> ?_)⟩
 ·have hx:X=⟨B,m.used,dX c 13⟩:=by rw[hX,ySk (by dsimp only at e;omega)]
  exact⟨⟨c,13⟩,rfl,rfl,rfl,rfl,rfl,rfl,rfl,rfl,rfl,rfl,trivial,fun _ _=>⟨m,rfl,rfl,rfl,rfl,rfl,rfl,rfl,rfl,rfl,rfl,rfl,rfl,rfl,by rw[hx];rfl,by rw[hx];exact hM⟩⟩
 rw[ySj (by dsimp only at e;omega)]at hX
 have hok:RunI.ok ⟨m.s,m.p,B,c.inst,decide (c.side=2),c.price,c.qty⟩:=⟨hR,hB,hib,hq.1,hq.2⟩
 refine⟨true,fun b=>b=decide (0<c.lst∧c.qty-(xZ m.p B c.inst (decide (c.side=2)) c.price c.qty).left<c.lst),zL (fun e=>⟨⟨m.s,m.p,B,c.inst,decide (c.side=2),c.price,c.qty⟩,rfl,uI hs,rfl,rfl,rfl,hok,fun _ _=>⟨_,rfl,decide_eq_decide.2 ⟨fun x=>⟨e,x⟩,fun x=>x.2⟩,by(repeat'(first|exact trivial|exact rfl|apply And.intro))⟩⟩) (fun e=>⟨false,rfl,(ySu fun x=>e x.1).symm,by(repeat'(first|exact trivial|exact rfl|apply And.intro))⟩),?_⟩
 rintro _ rfl
 refine zL (fun e=> ?_) (fun e=> ?_)
 ·have hx:X=⟨B,m.used,dX c 28⟩:=by rw[hX,ySk e]
  exact⟨⟨c,28⟩,rfl,rfl,rfl,rfl,rfl,rfl,rfl,rfl,rfl,rfl,trivial,fun _ _=>⟨m,rfl,rfl,rfl,rfl,rfl,rfl,rfl,rfl,rfl,rfl,rfl,rfl,rfl,by rw[hx];rfl,by rw[hx];exact hM⟩⟩
 rw[ySj e]at hX
 refine⟨true,fun b=>b=decide (c.time=1∧dJ m.p B c.inst (decide (c.side=2)) c.price c.qty=true),Cv.cnd.mk (fun e=>⟨⟨m.s,m.p,B,c.inst,decide (c.side=2),c.price,c.qty⟩,rfl,uI hs,rfl,rfl,rfl,hok,fun _ _=>⟨_,rfl,?_,by(repeat'(first|exact trivial|exact rfl|apply And.intro))⟩⟩) (fun e=>⟨false,rfl,(ySu fun x=> ?_).symm,by(repeat'(first|exact trivial|exact rfl|apply And.intro))⟩),?_⟩
 ·have e:c.time=1:=by simpa using e
  dsimp only
  cases hb:dJ m.p B c.inst (decide (c.side=2)) c.price c.qty with
  |true=>exact(yTd ⟨e,rfl⟩).symm
  |false=>exact(ySu fun x=>by cases x.2).symm
 ·rw[x.1]at e;cases e
 rintro _ rfl
 refine zL (fun e=> ?_) (fun e=> ?_)
 ·have hx:X=⟨B,m.used,dX c 23⟩:=by rw[hX,ySk e]
  exact⟨⟨c,23⟩,rfl,rfl,rfl,rfl,rfl,rfl,rfl,rfl,rfl,rfl,trivial,fun _ _=>⟨m,rfl,rfl,rfl,rfl,rfl,rfl,rfl,rfl,rfl,rfl,rfl,rfl,rfl,by rw[hx];rfl,by rw[hx];exact hM⟩⟩
 rw[ySj e]at hX
 exact⟨⟨m,m.p,B,m.used,c,X⟩,rfl,rfl,rfl,rfl,rfl,rfl,rfl,rfl,rfl,rfl,rfl,rfl,rfl,rfl,rfl,rfl,rfl,rfl,rfl,rfl,rfl,rfl,⟨⟨hM,hB⟩,⟨hib,hq,hs⟩,hpz,hX⟩,fun o ho=>⟨o,rfl,rfl,rfl,rfl,rfl,rfl,rfl,rfl,rfl,rfl,rfl,rfl,rfl,rfl,ho⟩⟩
theorem yCi:orderC.ok Tryz.prog 40:=okw mixed (gokc sQ (gokc zZi (gokc zLm (gokc z7d (gokc zTx (gokc zXe gok0)))))) 0 (fun _=>yLo) (fun _=>[]) [] Tryz.func40 yKn
theorem zSa {p:Prd} {B:List (List zD)} (h:BWf p B) {id inst:Int} {o:zD} (hf:zI B id=(inst,o,true)):(0≤inst∧inst<B.length)∧zJa o:=by
 rw[zI]at hf
 split at hf
 ·cases hf
 ·rename_i k hk
  obtain⟨L,hL,hh⟩:=xK hk
  rw[zH hL]at hf
  cases hf
  have hlt:=(ySl.1 hL).1
  obtain⟨o,ho,e⟩:=yTk.1 (hasId_iff.1 hh)
  have hg:=vX (h.od k L hL).2.1 ho
  rw[e]at hg
  rw[hg]
  exact⟨by omega,(h.od k L hL).1 o ho⟩
theorem zKq (p:Prd) (c:Cmd):∀(l:List kM) (left:Int),(∀t∈l,SOk t∧1≤t.qty)→(wX p c l left).length≤1503*l.length
 |[],_,_=>yTj _
 |t::l,left,h=>by
  have a:=zKq p c l (left-t.qty) fun u hu=>h u (ySq _ hu)
  have b:=zOx p c t (left-t.qty)
  have d:=(h t ySp).1.2.2
  rw[wX,ySr,yTc];omega
theorem lS {p:Prd} {B:List (List zD)} (h:BWf p B) (U:List Int) {c:Cmd} (hi:0≤c.inst∧c.inst<B.length) (hq:1≤c.qty∧c.qty≤1000000):(wH p B U c).R.length≤1503000002:=by
 obtain⟨s1,s2⟩:=zSe (inst:=c.inst) (sd:=decide (c.side=2)) (price:=c.price) _ c.qty B (yTj _) h hi
 have k3:=(cI (inst:=c.inst) (sd:=decide (c.side=2)) (price:=c.price) _ c.qty B (yTj _) h).2.2 (by omega)
 have:=zRz s1
 have:=zKq p c _ c.qty s1
 rw[wP]
 dsimp only
 rw[ySr,yTc]
 split
 ·rw[yTc,yVe];omega
 ·rw[yVe];omega
theorem yDx (i:z5n) (h:replaceC.cnd i):zWj i:=by
 obtain⟨m,p,B,U,c,inst,o,X⟩:=i
 have h':m.Rep p B U∧BOk p B∧zI B c.id=(inst,o,true)∧(1≤c.qty∧c.qty≤1000000)∧X=vM p B U c inst o:=h
 clear h
 obtain⟨hM,hB,hf,hq,hX⟩:=h'
 obtain⟨ep,hR,eu⟩:=hM
 subst ep eu
 have hM:m.Rep m.p B m.used:=⟨rfl,hR,rfl⟩
 have hwf:=hR.wf hB
 obtain⟨hin,hoo⟩:=zSa hwf hf
 have hos:=hoo.s
 have hoq:=hoo.q
 have hbl:=hB.bl
 have hcl:=xQ m.p
 unfold zWj zAj qR gR wG nR cQ nD x9
 dsimp only
 refine⟨⟨m.p,inst,c.price⟩,rfl,rfl,rfl,rfl,rfl,rfl,rfl,rfl,rfl,rfl,rfl,rfl,rfl,hB.ps,fun _ _=>Cv.cnd.mk (fun e=> ?_) (fun e=> ?_)⟩
 ·have e:m.p.price inst c.price≠0:=by simpa using e
  have hx:X=⟨B,m.used,dX c (m.p.price inst c.price)⟩:=by rw[hX,vM,ySk e]
  exact⟨⟨c,m.p.price inst c.price⟩,rfl,rfl,rfl,rfl,rfl,rfl,rfl,rfl,rfl,rfl,trivial,fun _ _=>⟨m,rfl,rfl,rfl,rfl,rfl,rfl,rfl,rfl,rfl,rfl,rfl,rfl,rfl,by rw[hx];rfl,by rw[hx];exact hM⟩⟩
 have hpz:m.p.price inst c.price=0:=by simpa using e
 rw[vM,ySj (by rw[hpz];decide)]at hX
 have hw:IntKind.i64.wrap (o.qty-c.qty)=o.qty-c.qty:=w64 (by omega)
 rw[hw]
 refine(fun hT=>Cv.cnd.mk (fun e1=>zL (fun e2=> ?_) (fun e2=>hT fun x=>e2 x.2)) (fun e1=>hT fun x=>by rw[x.1]at e1;simp at e1)) (fun(hn:¬(c.price=o.price∧c.qty≤o.qty))=> ?_)
 ·have e1:c.price=o.price:=by simpa using e1
  rw[ySk ⟨e1,e2⟩]at hX
  exact⟨⟨m,m.p,B,m.used,c.id,o.qty-c.qty,inst,o,X⟩,rfl,rfl,rfl,rfl,rfl,rfl,rfl,rfl,rfl,rfl,rfl,rfl,rfl,rfl,rfl,rfl,rfl,rfl,rfl,rfl,rfl,⟨⟨hM,hB⟩,⟨by dsimp only;omega,by dsimp only;omega⟩,hX⟩,fun o' ho=>⟨o',rfl,rfl,rfl,rfl,rfl,rfl,rfl,rfl,rfl,rfl,rfl,rfl,rfl,rfl,ho⟩⟩
 rw[ySj hn]at hX
 have hBt:=hB.take c.id o.qty
 refine⟨m.s,rfl,hR.small hB,fun _ _=>⟨⟨m.s,m.p,B,c.id,o.qty⟩,rfl,rfl,rfl,⟨hR,by dsimp only;omega⟩,fun o' ho'=>⟨⟨o',m.p,(yU B c.id o.qty).1,inst,decide (o.side=2),c.price,c.qty⟩,rfl,uI hos,rfl,rfl,rfl,⟨ho',hBt,by dsimp only;rw[mZ];exact hin,hq.1,hq.2⟩,fun _ _=>Cv.cnd.mk (fun e=> ?_) (fun e=> ?_)⟩⟩⟩
 ·have hx:X=⟨B,m.used,dX c 23⟩:=by rw[hX,ySk e]
  exact⟨⟨c,23⟩,rfl,rfl,rfl,rfl,rfl,rfl,rfl,rfl,rfl,rfl,trivial,fun _ _=>⟨m,rfl,rfl,rfl,rfl,rfl,rfl,rfl,rfl,rfl,rfl,rfl,rfl,rfl,by rw[hx];rfl,by rw[hx];exact hM⟩⟩
 rw[ySj (by rw[e];decide)]at hX
 refine⟨⟨m,m.p,B,m.used,c.id,0,inst,o,jT B m.used c.id inst o⟩,rfl,rfl,rfl,rfl,rfl,rfl,rfl,rfl,rfl,rfl,rfl,rfl,rfl,rfl,rfl,rfl,rfl,rfl,rfl,rfl,⟨⟨hM,hB⟩,rfl⟩,fun o1 ho1=>⟨⟨o1,m.p,(yU B c.id o.qty).1,m.used,⟨1,c.id,inst,o.side,c.price,c.qty,0,1,[]⟩,wH m.p (yU B c.id o.qty).1 m.used ⟨1,c.id,inst,o.side,c.price,c.qty,0,1,[]⟩⟩,rfl,rfl,rfl,rfl,rfl,rfl,rfl,rfl,rfl,rfl,rfl,rfl,rfl,rfl,rfl,rfl,rfl,rfl,rfl,rfl,rfl,rfl,⟨⟨ho1,hBt⟩,⟨by dsimp only;rw[mZ];exact hin,hq,hos⟩,hpz,rfl⟩,fun o2 ho2=>⟨?_,o2,rfl,rfl,rfl,rfl,rfl,rfl,rfl,rfl,rfl,rfl,rfl,rfl,rfl,?_,?_⟩⟩⟩
 ·have:=lS (hwf.take c.id o.qty) m.used (c:=⟨1,c.id,inst,o.side,c.price,c.qty,0,1,[]⟩) (by dsimp only;rw[mZ];exact hin) hq
  dsimp only
  rw[ySm,ySm]
  have e1:(jT B m.used c.id inst o).R.length=1:=rfl
  omega
 ·rw[hX,← ySv];rfl
 ·rw[hX];exact ho2
theorem zYg:replaceC.ok Tryz.prog 42:=okw mixed (gokc sQ (gokc zZi (gokc zCl (gokc zAz (gokc zTx (gokc zPe (gokc zOz (gokc zXe gok0)))))))) 0 (fun _=>[]) (fun _=>[]) [] Tryz.func42 yDx
theorem vdo (i:EnI) (h:doC.cnd i):Vdo i:=by
 obtain⟨m,p,B,U,c,X⟩:=i
 have h':(m.Rep p B U∧BOk p B)∧c.label.length≤140737488355328∧yZ c.qty∧X=doF p B U c:=h
 clear h
 obtain⟨⟨hM,hB⟩,hlb,hqr,hX⟩:=h'
 obtain⟨ep,hR,eu⟩:=hM
 subst ep eu
 have hM:m.Rep m.p B m.used:=⟨rfl,hR,rfl⟩
 have hwf:=hR.wf hB
 have hbl:=hB.bl
 have hcl:=xQ m.p
 unfold Vdo pY yBl cQ z0u zSb zSn
 dsimp only
 refine⟨c,rfl,rfl,rfl,rfl,rfl,rfl,rfl,rfl,rfl,hlb,fun _ _=>Cv.cnd.mk (fun e=> ?_) (fun e=> ?_)⟩
 ·have e:c.right≠0:=by simpa using e
  have hx:X=⟨B,m.used,dX c c.right⟩:=by rw[hX,doF,ySk e]
  exact⟨⟨c,c.right⟩,rfl,rfl,rfl,rfl,rfl,rfl,rfl,rfl,rfl,rfl,trivial,fun _ _=>⟨m,rfl,rfl,rfl,rfl,rfl,rfl,rfl,rfl,rfl,rfl,rfl,rfl,rfl,by rw[hx];rfl,by rw[hx];exact hM⟩⟩
 have hr:c.right=0:=by simpa using e
 rw[doF,ySj (by rw[hr];decide)]at hX
 refine Cv.cnd.mk (fun e=> ?_) (fun e=> ?_)
 ·have e:c.kind=1:=by simpa using e
  rw[ySk e]at hX
  exact⟨⟨m,m.p,B,m.used,c,X⟩,rfl,rfl,rfl,rfl,rfl,rfl,rfl,rfl,rfl,rfl,rfl,rfl,rfl,rfl,rfl,rfl,rfl,rfl,rfl,rfl,rfl,rfl,⟨⟨hM,hB⟩,hr,e,hX⟩,fun o ho=>⟨o,rfl,rfl,rfl,rfl,rfl,rfl,rfl,rfl,rfl,rfl,rfl,rfl,rfl,rfl,ho⟩⟩
 have hk:¬c.kind=1:=by simpa using e
 rw[ySj hk]at hX
 refine(fun hT=>⟨hT,rfl,trivial,hT⟩) ?_
 refine⟨⟨m.s,m.p,B,c.id,0⟩,rfl,rfl,⟨hR,by dsimp only;omega⟩,fun _ _=>Cv.cnd.mk (fun e=> ?_) (fun e=> ?_)⟩
 ·have e:(zI B c.id).2.2=false:=by simpa using e
  have hx:X=⟨B,m.used,dX c 26⟩:=by rw[hX,ySk e]
  exact⟨⟨c,26⟩,rfl,rfl,rfl,rfl,rfl,rfl,rfl,rfl,rfl,rfl,trivial,fun _ _=>⟨m,rfl,rfl,rfl,rfl,rfl,rfl,rfl,rfl,rfl,rfl,rfl,rfl,rfl,by rw[hx];rfl,by rw[hx];exact hM⟩⟩
 have e:(zI B c.id).2.2=true:=by simpa using e
 rw[ySj (by rw[e];decide)]at hX
 dsimp only
 have hf:zI B c.id=((zI B c.id).1,(zI B c.id).2.1,true):=by rw[← e]
 generalize (zI B c.id).1=inst at*
 generalize (zI B c.id).2.1=o at*
 obtain⟨hin,hoo⟩:=zSa hwf hf
 have hoq:=hoo.q
 refine Cv.cnd.mk (fun e4=> ?_) (fun e4=>Cv.cnd.mk (fun e2=> ?_) (fun e2=>zL (fun e3=> ?_) (fun e3=> ?_)))
 ·have e4:c.kind=4:=by simpa using e4
  rw[ySk e4]at hX
  exact⟨⟨m,m.p,B,m.used,c,inst,o,X⟩,rfl,rfl,rfl,rfl,rfl,rfl,rfl,rfl,rfl,rfl,rfl,rfl,rfl,rfl,rfl,rfl,rfl,rfl,rfl,rfl,rfl,rfl,rfl,rfl,rfl,rfl,rfl,rfl,⟨hM,hB,hf,cY hr hk (by rw[e4];decide),hX⟩,fun o' ho=>⟨o',rfl,rfl,rfl,rfl,rfl,rfl,rfl,rfl,rfl,rfl,rfl,rfl,rfl,rfl,ho⟩⟩
 all_goals
  have e4:¬c.kind=4:=by simpa using e4
  rw[ySj e4]at hX
 ·have e2:c.kind=2:=by simpa using e2
  rw[ySk (.inl e2)]at hX
  exact⟨⟨m,m.p,B,m.used,c.id,0,inst,o,X⟩,rfl,rfl,rfl,rfl,rfl,rfl,rfl,rfl,rfl,rfl,rfl,rfl,rfl,rfl,rfl,rfl,rfl,rfl,rfl,rfl,⟨⟨hM,hB⟩,hX⟩,fun o' ho=>⟨o',rfl,rfl,rfl,rfl,rfl,rfl,rfl,rfl,rfl,rfl,rfl,rfl,rfl,rfl,ho⟩⟩
 ·rw[ySk (.inr (by omega))]at hX
  exact⟨⟨m,m.p,B,m.used,c.id,0,inst,o,X⟩,rfl,rfl,rfl,rfl,rfl,rfl,rfl,rfl,rfl,rfl,rfl,rfl,rfl,rfl,rfl,rfl,rfl,rfl,rfl,rfl,⟨⟨hM,hB⟩,hX⟩,fun o' ho=>⟨o',rfl,rfl,rfl,rfl,rfl,rfl,rfl,rfl,rfl,rfl,rfl,rfl,rfl,rfl,ho⟩⟩
 ·have e2:¬c.kind=2:=by simpa using e2
  have hq:=cY hr hk e2
  rw[ySj (by omega)]at hX
  exact⟨⟨m,m.p,B,m.used,c.id,c.qty,inst,o,X⟩,rfl,rfl,rfl,rfl,rfl,rfl,rfl,rfl,rfl,rfl,rfl,rfl,rfl,rfl,rfl,rfl,rfl,rfl,rfl,rfl,rfl,⟨⟨hM,hB⟩,⟨by dsimp only;omega,by dsimp only;omega⟩,hX⟩,fun o' ho=>⟨o',rfl,rfl,rfl,rfl,rfl,rfl,rfl,rfl,rfl,rfl,rfl,rfl,rfl,rfl,ho⟩⟩
theorem do_ok:doC.ok Tryz.prog 13:=okw mixed (gokc z9t (gokc zZi (gokc zVk (gokc yCi (gokc zYg (gokc zPe (gokc zOz gok0))))))) 0 (fun _=>[]) (fun _=>[]) [0] Tryz.func13 vdo
open Go Cv Go.Proofs
def yRu (t:Nat):SAnn:={ι:=Prd,slots:=fun _=>[(t,.nm 0 0)],rows:=fun p=>[.cells [sV p.code,.own 1,zA p.tick,zA p.low,zA p.high,zA p.wide,zA p.rule,zA p.top,zA p.least,zA p.part,.own 2] 29,.fro 1 (iE p.months),.fro 1 (iE p.settle)]}
@[reducible] def AbI.raw (i:AbI):Prop:=i.x.raw∧(∀c∈i.l,c.raw)∧i.l.length≤9223372036854775807
open Go Cv Go.Proofs
open Go Cv Go.Proofs
theorem zOn {p:Prd} (hc:p.check=0):1≤p.count∧p.count≤21:=by
 have h1:=dW hc
 have h2:=(qM hc).m2
 have h3:=xQ p
 omega
theorem yAq (t:TmI):1≤(qZ t).qty∧(qZ t).qty≤12:=by
 have:=xO (n:=t.c.qty) (lo:=0) (hi:=11) (by omega)
 have e:(qZ t).qty=1+zJ t.c.qty 0 11:=by rw[qZ];split<;>rfl
 omega
theorem zYx (t:TmI):(qZ t).label=[]:=by
 rw[qZ];split<;>rfl
open Go Cv Go.Proofs
open Go Cv Go.Proofs
theorem z1t (x:Int):∀(r:List Quote) (q:Quote),((r.foldl (fun b q=>if btr 2 q.price b.price then q else b) q).price≤x↔∃y∈q::r,y.price≤x)
 |[],q=>by simp
 |y::r,q=>by
  rw[yVz,z1t x r]
  simp only[btr,show ¬((2:Int)=1)by decide,if_false,yTo,yTb,exists_eq_or_imp]
  by_cases h:y.price<q.price
  ·simp only[ySk h]
   constructor
   ·rintro(a|a)
    ·exact .inr (.inl a)
    ·exact .inr (.inr a)
   ·rintro(a|a|a)
    ·exact .inl (by omega)
    ·exact .inl a
    ·exact .inr a
  ·simp only[ySj h]
   constructor
   ·rintro(a|a)
    ·exact .inl a
    ·exact .inr (.inr a)
   ·rintro(a|a|a)
    ·exact .inl a
    ·exact .inl (by omega)
    ·exact .inr a
theorem z1x (x:Int):∀(r:List Quote) (q:Quote),(x≤(r.foldl (fun b q=>if btr 1 q.price b.price then q else b) q).price↔∃y∈q::r,x≤y.price)
 |[],q=>by simp
 |y::r,q=>by
  rw[yVz,z1x x r]
  simp only[btr,if_true,yTo,yTb,exists_eq_or_imp]
  by_cases h:q.price<y.price
  ·simp only[ySk h]
   constructor
   ·rintro(a|a)
    ·exact .inr (.inl a)
    ·exact .inr (.inr a)
   ·rintro(a|a|a)
    ·exact .inl (by omega)
    ·exact .inl a
    ·exact .inr a
  ·simp only[ySj h]
   constructor
   ·rintro(a|a)
    ·exact .inl a
    ·exact .inr (.inr a)
   ·rintro(a|a|a)
    ·exact .inl a
    ·exact .inl (by omega)
    ·exact .inr a
theorem yCo (l:List Quote) (x:Int):((z5 l 2).2=true∧(z5 l 2).1.price≤x)↔∃y∈l,y.price≤x:=by
 cases l with
 |nil=>simp[z5]
 |cons q r=>rw[← z1t x r q];simp[z5]
theorem yAg (l:List Quote) (x:Int):((z5 l 1).2=true∧x≤(z5 l 1).1.price)↔∃y∈l,x≤y.price:=by
 cases l with
 |nil=>simp[z5]
 |cons q r=>rw[← z1x x r q];simp[z5]
def PS (p:Prd) (T:List Top) (n:Nat) (s:Int) (v:Int):Prop:=∃q∈qC ⟨p,T,n⟩ s,q.price=v
theorem vR (p:Prd) (T:List Top) (n:Nat):vA p T n=true↔
 (∃v,PS p T n 2 v∧p.price n v=0∧(T.getD n top0).has1=true∧v≤(T.getD n top0).p1)∨
 (∃v,PS p T n 1 v∧p.price n v=0∧(T.getD n top0).has2=true∧(T.getD n top0).p2≤v):=by
 have h1:=yCo (yF ⟨p,T,n⟩ 2) (T.getD n top0).p1
 have h2:=yAg (yF ⟨p,T,n⟩ 1) (T.getD n top0).p2
 have m:∀s (y:Quote),y∈yF ⟨p,T,n⟩ s↔y∈qC ⟨p,T,n⟩ s∧p.price n y.price=0:=by
  intro s y
  simp[yF,yTu]
 simp only[vA,crossB,yVy,ySx,yTo]
 constructor
 ·rintro(⟨⟨a,b⟩,c⟩|⟨⟨a,b⟩,c⟩)
  ·obtain⟨y,hy,hv⟩:=h1.1 ⟨b,c⟩
   exact .inl ⟨_,⟨y,((m _ _).1 hy).1,rfl⟩,((m _ _).1 hy).2,a,hv⟩
  ·obtain⟨y,hy,hv⟩:=h2.1 ⟨b,c⟩
   exact .inr ⟨_,⟨y,((m _ _).1 hy).1,rfl⟩,((m _ _).1 hy).2,a,hv⟩
 ·rintro(⟨v,⟨y,hy,rfl⟩,hp,a,hv⟩|⟨v,⟨y,hy,rfl⟩,hp,a,hv⟩)
  ·obtain⟨b,c⟩:=h1.2 ⟨y,(m _ _).2 ⟨hy,hp⟩,hv⟩
   exact .inl ⟨⟨a,b⟩,c⟩
  ·obtain⟨b,c⟩:=h2.2 ⟨y,(m _ _).2 ⟨hy,hp⟩,hv⟩
   exact .inr ⟨⟨a,b⟩,c⟩
@[reducible] def cK (T:List Top):Prop:=∀k s,-2000000≤(T.getD k top0).price s∧(T.getD k top0).price s≤2000000
theorem yFw {x y:Int} (hx: -2000000≤x∧x≤2000000) (hy: -2000000≤y∧y≤2000000):uM x y=(x-y,true):=by
 have:yZ (x-y):=⟨by omega,by omega⟩
 rw[uM,ySk this]
theorem yEy {x y:Int} (hx: -2000000≤x∧x≤2000000) (hy: -2000000≤y∧y≤2000000):uL x y=(x+y,true):=by
 have:yZ (x+y):=⟨by omega,by omega⟩
 rw[uL,ySk this]
@[reducible] def mkV (T:List Top) (a b:Leg) (less:Bool):Int:=if less=true then(T.getD b.inst.toNat top0).price b.side-(T.getD a.inst.toNat top0).price a.side else(T.getD a.inst.toNat top0).price a.side+(T.getD b.inst.toNat top0).price b.side
theorem z8m {T:List Top} (h:cK T) (a b:Leg) (less:Bool):mkq T a b less=if((T.getD a.inst.toNat top0).has a.side && (T.getD b.inst.toNat top0).has b.side)=true then[⟨mkV T a b less,min ((T.getD a.inst.toNat top0).qty a.side) ((T.getD b.inst.toNat top0).qty b.side),a,b⟩]else[]:=by
 have h1:=h a.inst.toNat a.side
 have h2:=h b.inst.toNat b.side
 cases less with
 |true=>simp only[mkq,yFw h2 h1,if_true,Bool.and_true];rfl
 |false=>simp only[mkq,yEy h1 h2,ySz,if_false,Bool.and_true];rfl
theorem zRj {T:List Top} (h:cK T) (a b:Leg) (less:Bool) (q:Quote):q∈mkq T a b less→(T.getD a.inst.toNat top0).has a.side=true∧(T.getD b.inst.toNat top0).has b.side=true∧q.price=mkV T a b less:=by
 rw[z8m h]
 intro hq
 cases c:((T.getD a.inst.toNat top0).has a.side && (T.getD b.inst.toNat top0).has b.side)with
 |true=>
  rw[ySk c]at hq
  rw[ySx]at c
  rw[yUk.1 hq]
  exact⟨c.1,c.2,rfl⟩
 |false=>rw[ySj (by rw[c];decide)]at hq;cases hq
theorem zRy {T:List Top} (h:cK T) (a b:Leg) (less:Bool) (ha:(T.getD a.inst.toNat top0).has a.side=true) (hb:(T.getD b.inst.toNat top0).has b.side=true):∃q∈mkq T a b less,q.price=mkV T a b less:=by
 rw[z8m h,ySk (by rw[ha,hb];rfl)]
 exact⟨_,yUk.2 rfl,rfl⟩
theorem yFn:∀n≤6,∀k<n+n*(n-1) / 2,n≤k→∃a<n,∃b<n,a<b∧(yI n a:Int)+b-a-1=k:=by decide
theorem zOm {p:Prd} (hc:p.check=0) {a b:Nat} (hab:a<b) (hb:b<p.months.length):(p.spread a b).1=(yI p.months.length a:Int)+b-a-1:=by
 rw[Prd.spread,ySj (by omega)]
 simp
structure Tri (p:Prd) (a b k:Nat):Prop where
 hab:a<b
 hb:b<p.months.length
 hs:(p.spread a b).1=k
 hk:k<p.count
 hm:p.months.length≤k
 hl:p.legs k=((a:Int),(b:Int),true)
theorem zSf {p:Prd} (hc:p.check=0) {a b:Nat} (hab:a<b) (hb:b<p.months.length):∃k,Tri p a b k:=by
 have m6:=(qM hc).m6
 have e:=zOm hc hab hb
 have l:=z1h hc (a:=a) (b:=b-a-1) (by omega) (by omega)
 have lf:=zXd p.months.length m6 a (by omega) (b-a-1) (by omega)
 refine⟨yI p.months.length a+(b-a-1),hab,hb,by rw[e];omega,by rw[gJ hc];exact lf.2.1,lf.2.2,?_⟩
 rw[l,show a+1+(b-a-1)=b by omega]
theorem z0w {p:Prd} (hc:p.check=0) {k:Nat} (hk:k<p.count) (hm:p.months.length≤k):∃a b,Tri p a b k:=by
 have m6:=(qM hc).m6
 obtain⟨a,ha,b,hb,hab,e⟩:=yFn p.months.length m6 k (by rw[← gJ hc];exact hk) hm
 obtain⟨k',t⟩:=zSf hc hab hb
 have:k'=k:=by have:=t.hs;rw[zOm hc hab hb,e]at this;omega
 exact⟨a,b,this▸t⟩
theorem zGn {p:Prd} (hc:p.check=0) {T:List Top} (h:cK T) (hT:T.length=p.count) {a b k:Nat} (t:Tri p a b k) {s:Int} {v:Int}:
 PS p T k s v↔(T.getD a top0).has s=true∧(T.getD b top0).has (3-s)=true∧v=(T.getD a top0).price s-(T.getD b top0).price (3-s):=by
 have hk:=t.hk
 have e:qC ⟨p,T,k⟩ s=(yN ⟨p,T,k⟩ s).map (fU ⟨p,T,k⟩ s):=by
  rw[qC,ySj (by dsimp only;omega),ySk (by dsimp only;rw[t.hl])]
 have e2:yN ⟨p,T,k⟩ s=mkq T ⟨b,3-s⟩ ⟨a,s⟩ true:=by
  rw[yN];dsimp only;rw[t.hl]
 rw[PS,e,e2]
 constructor
 ·rintro⟨q,hq,rfl⟩
  obtain⟨q',hq',rfl⟩:=yTk.1 hq
  obtain⟨m1,m2,m3⟩:=zRj h _ _ _ _ hq'
  exact⟨m2,m1,m3⟩
 ·rintro⟨h1,h2,rfl⟩
  obtain⟨q,hq,hp⟩:=zRy h ⟨b,3-s⟩ ⟨a,s⟩ true h2 h1
  exact⟨_,yTk.2 ⟨q,hq,rfl⟩,hp⟩
theorem cN {p:Prd} (hc:p.check=0) {T:List Top} (h:cK T) (hT:T.length=p.count) {n:Nat} (hn:n<p.months.length) {s:Int} {v:Int}:
 PS p T n s v↔(∃b k,Tri p n b k∧(T.getD k top0).has s=true∧(T.getD b top0).has s=true∧v=(T.getD k top0).price s+(T.getD b top0).price s)∨
  (∃a k,Tri p a n k∧(T.getD k top0).has (3-s)=true∧(T.getD a top0).has s=true∧v=(T.getD a top0).price s-(T.getD k top0).price (3-s)):=by
 have hcg:=dW hc
 have hls:(p.legs n).2.2=false:=by rw[zHa hc (by omega) (by omega)];exact ySu (by omega)
 have e:qC ⟨p,T,n⟩ s=kA ⟨p,T,n⟩ s (p.months.length-(n+1))++kB ⟨p,T,n⟩ s n:=by
  rw[qC,ySj (by dsimp only;omega),ySj (by dsimp only;rw[hls];decide)]
  simp
 rw[PS,e]
 have cast:∀j:Nat,(n:Int)+1+j=((n+1+j:Nat):Int):=fun j=>by omega
 constructor
 ·rintro⟨q,hq,rfl⟩
  rcases yTp.1 hq with hq|hq
  ·left
   simp only[kA,yUj,yUz]at hq
   obtain⟨j,hj,hq⟩:=hq
   obtain⟨k,t⟩:=zSf hc (a:=n) (b:=n+1+j) (by omega) (by omega)
   rw[cast,t.hs]at hq
   obtain⟨m1,m2,m3⟩:=zRj h _ _ _ _ hq
   exact⟨_,_,t,m1,m2,m3⟩
  ·right
   simp only[kB,yUj,yUz]at hq
   obtain⟨j,hj,hq⟩:=hq
   obtain⟨k,t⟩:=zSf hc (a:=j) (b:=n) hj hn
   rw[t.hs]at hq
   obtain⟨m1,m2,m3⟩:=zRj h _ _ _ _ hq
   exact⟨_,_,t,m1,m2,m3⟩
 ·rintro(⟨b,k,t,h1,h2,rfl⟩|⟨a,k,t,h1,h2,rfl⟩)
  ·obtain⟨q,hq,hp⟩:=zRy h ⟨k,s⟩ ⟨b,s⟩ false h1 h2
   have hab:=t.hab
   have hb:=t.hb
   refine⟨q,yTw _ ?_,hp⟩
   simp only[kA,yUj,yUz]
   refine⟨b-(n+1),by omega,?_⟩
   rw[cast,show n+1+(b-(n+1))=b by omega,t.hs]
   exact hq
  ·obtain⟨q,hq,hp⟩:=zRy h ⟨k,3-s⟩ ⟨a,s⟩ true h1 h2
   refine⟨q,yTz _ ?_,hp⟩
   simp only[kB,yUj,yUz]
   refine⟨a,t.hab,?_⟩
   rw[t.hs]
   exact hq
theorem gE {p:Prd} {T:List Top} {a b k:Nat} (t:Tri p a b k):lY p T k=true↔
 ((T.getD a top0).has1=true∧(T.getD b top0).has2=true∧(T.getD k top0).has2=true∧(T.getD k top0).p2≤(T.getD a top0).p1-(T.getD b top0).p2∧
   (p.price k ((T.getD a top0).p1-(T.getD b top0).p2)=0∨p.price a ((T.getD k top0).p2+(T.getD b top0).p2)=0∨p.price b ((T.getD a top0).p1-(T.getD k top0).p2)=0))∨
 ((T.getD a top0).has2=true∧(T.getD b top0).has1=true∧(T.getD k top0).has1=true∧(T.getD a top0).p2-(T.getD b top0).p1≤(T.getD k top0).p1∧
   (p.price k ((T.getD a top0).p2-(T.getD b top0).p1)=0∨p.price a ((T.getD k top0).p1+(T.getD b top0).p1)=0∨p.price b ((T.getD a top0).p2-(T.getD k top0).p1)=0)):=by
 simp only[lY,z0i,t.hl,Top.hs,Top.pr,ySy,yTr,yVy,ySx,yTo,ge_iff_le,if_true,show ¬((1:Nat)=0)by decide,if_false,and_assoc,or_assoc,Nat.sub_zero,yXz]
theorem z2y (t:Top):t.has 1=t.has1:=rfl
theorem yAd (t:Top):t.has 2=t.has2:=rfl
theorem vC (t:Top):t.price 1=t.p1:=rfl
theorem uQ (t:Top):t.price 2=t.p2:=rfl
theorem z4u {p:Prd} (hc:p.check=0) {T:List Top} (h:cK T) (hT:T.length=p.count):(∃n,n<T.length∧vA p T n=true)↔∃k,k<T.length∧lY p T k=true:=by
 constructor
 ·rintro⟨n,hn,hm⟩
  rw[hT]at hn
  rw[vR]at hm
  by_cases hs:p.months.length≤n
  ·obtain⟨a,b,t⟩:=z0w hc hn hs
   refine⟨n,by omega,(gE t).2 ?_⟩
   rcases hm with⟨v,hv,hp,h1,h2⟩|⟨v,hv,hp,h1,h2⟩
   ·obtain⟨q1,q2,rfl⟩:=(zGn hc h hT t).1 hv
    exact .inr ⟨q1,q2,h1,h2,.inl hp⟩
   ·obtain⟨q1,q2,rfl⟩:=(zGn hc h hT t).1 hv
    exact .inl ⟨q1,q2,h1,h2,.inl hp⟩
  ·rcases hm with⟨v,hv,hp,h1,h2⟩|⟨v,hv,hp,h1,h2⟩
   ·rcases(cN hc h hT (by omega)).1 hv with⟨b,k,t,q1,q2,rfl⟩|⟨a,k,t,q1,q2,rfl⟩
    ·simp only[yAd,uQ]at q1 q2 h2 hp
     exact⟨k,by rw[hT];exact t.hk,(gE t).2 (.inl ⟨h1,q2,q1,by omega,.inr (.inl hp)⟩)⟩
    ·simp only[yAd,uQ,show(3:Int)-2=1 by decide,z2y,vC]at q1 q2 h2 hp
     exact⟨k,by rw[hT];exact t.hk,(gE t).2 (.inr ⟨q2,h1,q1,by omega,.inr (.inr hp)⟩)⟩
   ·rcases(cN hc h hT (by omega)).1 hv with⟨b,k,t,q1,q2,rfl⟩|⟨a,k,t,q1,q2,rfl⟩
    ·simp only[z2y,vC]at q1 q2 h2 hp
     exact⟨k,by rw[hT];exact t.hk,(gE t).2 (.inr ⟨h1,q2,q1,by omega,.inr (.inl hp)⟩)⟩
    ·simp only[yAd,uQ,show(3:Int)-1=2 by decide,z2y,vC]at q1 q2 h2 hp
     exact⟨k,by rw[hT];exact t.hk,(gE t).2 (.inl ⟨q2,h1,q1,by omega,.inr (.inr hp)⟩)⟩
 ·rintro⟨k,hk,hm⟩
  rw[hT]at hk
  have hcg:=dW hc
  by_cases hs:p.months.length≤k
  ·obtain⟨a,b,t⟩:=z0w hc hk hs
   have hab:=t.hab
   have hb:=t.hb
   rcases(gE t).1 hm with⟨h1,h2,h3,h4,g|g|g⟩|⟨h1,h2,h3,h4,g|g|g⟩
   ·exact⟨k,by omega,(vR p T k).2 (.inr ⟨_,(zGn hc h hT t).2 ⟨h1,h2,rfl⟩,g,h3,h4⟩)⟩
   ·exact⟨a,by omega,(vR p T a).2 (.inl ⟨_,(cN hc h hT (by omega)).2 (.inl ⟨b,k,t,h3,h2,rfl⟩),g,h1,by rw[uQ,uQ];omega⟩)⟩
   ·exact⟨b,by omega,(vR p T b).2 (.inr ⟨_,(cN hc h hT (by omega)).2 (.inr ⟨a,k,t,h3,h1,rfl⟩),g,h2,by show _≤(T.getD a top0).p1-(T.getD k top0).p2;omega⟩)⟩
   ·exact⟨k,by omega,(vR p T k).2 (.inl ⟨_,(zGn hc h hT t).2 ⟨h1,h2,rfl⟩,g,h3,h4⟩)⟩
   ·exact⟨a,by omega,(vR p T a).2 (.inr ⟨_,(cN hc h hT (by omega)).2 (.inl ⟨b,k,t,h3,h2,rfl⟩),g,h1,by rw[vC,vC];omega⟩)⟩
   ·exact⟨b,by omega,(vR p T b).2 (.inl ⟨_,(cN hc h hT (by omega)).2 (.inr ⟨a,k,t,h3,h1,rfl⟩),g,h2,by show(T.getD a top0).p2-(T.getD k top0).p1≤_;omega⟩)⟩
  ·exfalso
   have hls:(p.legs k).2.2=false:=by rw[zHa hc (by omega) (by omega)];exact ySu (by omega)
   rw[lY,hls]at hm
   cases hm
theorem any_iff {n:Nat} {f:Nat→Bool}:(List.range n).any f=true↔∃k,k<n∧f k=true:=by
 simp[yYh,yUz]
theorem zXp {p:Prd} (hc:p.check=0) {T:List Top} (h:cK T) (hT:T.length=p.count):
 x6 p T=if(List.range T.length).any (zIf T)=true then 23 else if(List.range T.length).any (lY p T)=true then 21 else 0:=by
 have e1:(fun n=>cJ (T.getD n top0))=zIf T:=by
  funext n
  rw[cJ,crossB,zIf,Bool.and_assoc]
 have e2:(List.range T.length).any (vA p T)=(List.range T.length).any (lY p T):=by
  rw[Bool.eq_iff_iff,any_iff,any_iff]
  exact z4u hc h hT
 rw[x6,ySj (by simp[hc]),e1,e2]
open Go Cv Go.Proofs
theorem yRm {l:List Cmd} {k:Nat} {c:Cmd} (h:l[k]? =some c):zF (l.map cmdE) k 0 9=some [D.v (.int .i64 c.kind),.v (.int .i64 c.id),.v (.int .i64 c.inst),.v (.int .i64 c.side),.v (.int .i64 c.price),.v (.int .i64 c.qty),.v (.int .i64 c.least),.v (.int .i64 c.time),.v (.string (sb c.label))]:=elA h (by simp[cmdE]) rfl
def mk0 (p:Prd):Mkt:=⟨p,h9 p,[]⟩
theorem yHm (p:Prd):(mk0 p).Rep p (List.replicate p.count []) []:=⟨rfl,zYf _,rfl⟩
theorem mdo {m:Mkt} {p:Prd} {B:List (List zD)} {U:List Int} (h:m.Rep p B U) (hB:BOk p B) (c:Cmd):BOk p (doF p B U c).B:=yKw (by have:=h.s;exact this.wf hB) U c
open Go Cv Go.Proofs
structure yPp (p:Prd) (B:List (List zD)) (q:Int) (g:List vD) (k:Nat) (s pr:Int):Prop where
 lt:k<B.length
 s12:s=1∨s=2
 eq:g=yM k s (atL (B.getD k []) s pr) (qJ ⟨p,atL (B.getD k []) s pr,q⟩)
 sh:zLk ((atL (B.getD k []) s pr).map (·.qty)) (qJ ⟨p,atL (B.getD k []) s pr,q⟩) q
 ne:g≠[]
theorem zPk {inst s:Int}:∀{os:List zD} {sh:List Int},sh.length=os.length→yM inst s os sh=[]→(∀n,0≤sh.getD n 0)→sh.sum=0
 |[],[],_,_,_=>rfl
 |[],_::_,h,_,_=>by cases h
 |_::_,[],h,_,_=>by cases h
 |o::os,x::sh,h,h2,h3=>by
  rw[yM]at h2
  split at h2
  ·cases h2
  ·have:=zPk (os:=os) (sh:=sh) (by simpa using h) h2 fun n=>h3 (n+1)
   have h0:0≤x:=h3 0
   rw[yTg];omega
theorem zQs {p:Prd} {B:List (List zD)} (h:BWf p B) {k:Nat} {L:List zD} (hL:B[k]? =some L) {s:Int} (hs:s=1∨s=2) {q:Int} (hb:(bestL L s).2=true) (hq:1≤q∧q≤(bestL L s).1.qty):
 yPp p B q (y3 p B k s q) k s (bestL L s).1.price:=by
 have ho:=h.od k L hL
 have hsr:=h.srt k L hL s hs
 have hlv:zEy B k s=atL L s (bestL L s).1.price:=by rw[zEy,ySy,zH hL]
 obtain⟨v,vs,hl⟩:∃v vs,wE L s=v::vs:=by
  cases e:wE L s with
  |nil=>rw[bestL,e]at hb;cases hb
  |cons v vs=>exact⟨v,vs,rfl⟩
 have hv:(bestL L s).1=v:=by rw[bestL,hl]
 rw[hv]at hq hlv ⊢
 have hgs:=zDh hsr (v:=v) (vs:=vs) (by rw[← hl];rfl)
 have hat:atL L s v.price=(kV L s).filter fun o=>decide (o.price=v.price):=z8f L s v.price
 have hvq:v.qty=((atL L s v.price).map (·.qty)).sum:=by
  have:=congrArg Lv.qty hgs.1
  rw[hat];exact this
 have hr:yT ((atL L s v.price).map (·.qty)) q=true:=by
  refine zZa ?_ (by omega) (fun x hx=> ?_) (by omega)
  ·rw[ySm];exact yVg (yVp _ _) ho.2.2
  ·obtain⟨o,hm,rfl⟩:=yTk.1 hx
   exact(ho.1 o (yTu.1 hm).1).q
 have hS:=zCs h.ok.pc hr
 have e:y3 p B k s q=yM k s (atL (B.getD k []) s v.price) (qJ ⟨p,atL (B.getD k []) s v.price,q⟩):=by
  rw[y3,hlv,zH hL]
 refine⟨(ySl.1 hL).1,hs,e,by rw[zH hL];exact hS,fun e2=> ?_⟩
 rw[e,zH hL]at e2
 have:=zPk (by rw[hS.len,ySm]) e2 fun n=>(hS.bd n).1
 have:=hS.sum
 omega
theorem zGx {j:Nat} {L:List zD}:∀{fs:List vD} {B:List (List zD)},B[j]? =some L→(∀f∈fs,kE L f.id=false)→(yY B fs)[j]? =some L
 |[],B,h,_=>h
 |f::fs,B,h,hf=>by
  refine zGx (fs:=fs) (B:=(yU B f.id f.qty).1) ?_ fun g hg=>hf g (ySq _ hg)
  rw[yU]
  split
  ·exact h
  ·rename_i k hk
   dsimp only
   have hne:k≠j:=by
    rintro rfl
    obtain⟨L',hL',hh⟩:=xK hk
    rw[h]at hL'
    cases hL'
    rw[hf f ySp]at hh
    cases hh
   rw[List.getElem?_set_ne hne];exact h
theorem lX {inst s:Int} {f:vD}:∀{os:List zD} {sh:List Int},f∈yM inst s os sh→∃o∈os,f.id=o.id
 |[],sh,h=>by cases h
 |o::os,[],h=>by cases h
 |o::os,k::sh,h=>by
  rw[yM]at h
  split at h
  ·rcases yTb.1 h with rfl|h
   ·exact⟨o,ySp,rfl⟩
   ·obtain⟨o',c,d⟩:=lX h
    exact⟨o',ySq _ c,d⟩
  ·obtain⟨o',c,d⟩:=lX h
   exact⟨o',ySq _ c,d⟩
theorem gZ {p:Prd} {B:List (List zD)} (h:BWf p B) {k j:Nat} (hne:k≠j) {L L':List zD} (hL:B[k]? =some L) (hL':B[j]? =some L') (s q:Int):(yY B (y3 p B k s q))[j]? =some L':=by
 refine zGx hL' fun f hf=> ?_
 obtain⟨o,ho,e⟩:=lX hf
 have ho:=(yTu.1 ho).1
 rw[ySy,zH hL]at ho
 cases hh:kE L' f.id with
 |false=>rfl
 |true=>
  have a:=h.inst hL' (hasId_iff.1 hh)
  have b:=h.inst hL (id:=f.id) (by rw[e];exact yTk.2 ⟨o,ho,rfl⟩)
  rw[a]at b
  cases b
  exact absurd rfl hne
open Go Cv Go.Proofs
def lpq (l:List Lv):List (Int×Int):=l.map fun v=>(v.price,v.qty)
def zHk (l:List (Int×Int)) (x:Int):List (Int×Int):=match l with
 |[]=>[]
 |(p,q)::l=>if q≤x then l else(p,q-x)::l
theorem zDd {A:List zD} {id x:Int} (h:∀o∈A,o.id≠id):yS A id x=A:=by
 rw[yS]
 induction A with
 |nil=>rfl
 |cons a A ih=>
  rw[yWg,ySj (h a ySp)]
  simp only
  rw[ih fun o ho=>h o (ySq _ ho)]
theorem zVa {id x:Int}:∀{A:List zD} {o:zD},(A.map (·.id)).Nodup→o∈A→o.id=id→((yS A id x).map (·.qty)).sum=(A.map (·.qty)).sum-x
 |a::A,o,hn,ho,e=>by
  rw[ySs,yUg]at hn
  rw[yS,yWg]
  by_cases h:a.id=id
  ·have hno:∀y∈A,y.id≠id:=by
    intro y hy e2
    exact hn.1 (by rw[h,← e2];exact yTk.2 ⟨y,hy,rfl⟩)
   have ht:A.filterMap (fun o=>if o.id=id then if o.qty=x then none else some {o with qty:=o.qty-x}else some o)=A:=zDd hno
   rw[ySk h]
   by_cases h2:a.qty=x
   ·rw[ySk h2]
    simp only
    rw[ht,ySs,yTg];omega
   ·rw[ySj h2]
    simp only
    rw[ht,ySs,ySs,yTg,yTg]
    simp only
    omega
  ·rw[ySj h]
   simp only
   have ho:o∈A:=by
    rcases yTb.1 ho with rfl|ho
    ·exact absurd e h
    ·exact ho
   have:=zVa (x:=x) hn.2 ho e
   rw[yS]at this
   rw[ySs,ySs,yTg,yTg,this];omega
theorem z0f (L:List zD) (id q pr:Int):(yS L id q).filter (fun o=>decide (o.price=pr))=yS (L.filter fun o=>decide (o.price=pr)) id q:=by
 rw[yS,yS,List.filter_filterMap,List.filterMap_filter]
 refine vV fun o _=> ?_
 by_cases e1:o.id=id
 ·rw[ySk e1]
  by_cases e2:o.qty=q
  ·rw[ySk e2];simp
  ·rw[ySj e2];by_cases e3:o.price=pr<;>simp[Option.filter,e3]
 ·rw[ySj e1];by_cases e3:o.price=pr<;>simp[Option.filter,e3]
theorem zXx (L:List zD) (id q pr:Int):(yS L id q).filter (fun o=> !decide (o.price=pr))=yS (L.filter fun o=> !decide (o.price=pr)) id q:=by
 rw[yS,yS,List.filter_filterMap,List.filterMap_filter]
 refine vV fun o _=> ?_
 by_cases e1:o.id=id
 ·rw[ySk e1]
  by_cases e2:o.qty=q
  ·rw[ySk e2];simp
  ·rw[ySj e2];by_cases e3:o.price=pr<;>simp[Option.filter,e3]
 ·rw[ySj e1];by_cases e3:o.price=pr<;>simp[Option.filter,e3]
theorem yDn {A:List zD} {id x:Int} {y:zD} (h:y∈yS A id x):∃z∈A,y.price=z.price:=by
 obtain⟨z,hz,e⟩:=yWa.1 h
 refine⟨z,hz,?_⟩
 split at e
 ·split at e
  ·cases e
  ·cases e;rfl
 ·cases e;rfl
theorem z7x {A:List zD} (h:A≠[]):∃v vs,grp A=v::vs:=by
 cases A with
 |nil=>exact absurd rfl h
 |cons a A=>
  rw[grp]
  split
  ·exact⟨_,_,rfl⟩
  ·split<;>exact⟨_,_,rfl⟩
theorem zMq:∀{l:List Int} {a:Int},(∀q∈l,0≤q)→a∈l→a≤l.sum
 |b::l,a,h,ha=>by
  rw[yTg]
  have h1:=h b ySp
  have h2:=zIt fun q hq=>h q (ySq _ hq)
  rcases yTb.1 ha with rfl|ha
  ·omega
  ·have:=zMq (fun q hq=>h q (ySq _ hq)) ha
   omega
theorem z8g {s:Int} {F:List zD} (hs:zBe s F) (hn:(F.map (·.id)).Nodup) {o:zD} (ho:o∈F) {v:Lv} {vs:List Lv} (hg:grp F=v::vs) (hp:o.price=v.price) {x:Int} (hq:∀y∈yS F o.id x,1≤y.qty) (hs2:zBe s (yS F o.id x)):
 lpq (grp (yS F o.id x))=zHk (lpq (grp F)) x:=by
 obtain⟨a1,a2,a3⟩:=zDh hs hg
 have hol:o∈F.filter fun o=>decide (o.price=v.price):=yTu.2 ⟨ho,by simpa using hp⟩
 have hsum:=zVa (x:=x) (hn.sublist (List.Sublist.map _ (yVu (p:=fun o=>decide (o.price=v.price)) (l:=F)))) hol rfl
 have hv:v.qty=((F.filter fun o=>decide (o.price=v.price)).map (·.qty)).sum:=congrArg Lv.qty a1
 have hout:yS (F.filter fun o=> !decide (o.price=v.price)) o.id x=F.filter fun o=> !decide (o.price=v.price):=by
  refine zDd fun y hy e=> ?_
  obtain⟨y1,y2⟩:=yTu.1 hy
  have h1:=vX hn y1
  have h2:=vX hn ho
  rw[e,h2]at h1
  rw[← h1]at y2
  simp[hp]at y2
 rw[hg]
 have hd:zHk (lpq (v::vs)) x=if v.qty≤x then lpq vs else(v.price,v.qty-x)::lpq vs:=rfl
 rw[hd]
 rw[← z0f,← hv]at hsum
 rw[← zXx]at hout
 have hmem:∀y∈yS F o.id x,∃z∈F,y.price=z.price:=fun y hy=>yDn hy
 generalize yS F o.id x=F' at*
 by_cases hE:F'.filter (fun o=>decide (o.price=v.price))=[]
 ·rw[hE]at hsum
  have hsum:(0:Int)=v.qty-x:=hsum
  rw[ySk (by omega),a2,← hout]
  congr 2
  symm
  rw[yWq]
  intro y hy
  have:=yXy.1 hE y hy
  simpa using this
 ·obtain⟨y,hy⟩:=List.exists_mem_of_ne_nil _ hE
  obtain⟨y1,y2⟩:=yTu.1 hy
  have y2:y.price=v.price:=by simpa using y2
  obtain⟨v',vs',hg'⟩:=z7x (A:=F') (by rintro rfl;cases y1)
  obtain⟨b1,b2,b3⟩:=zDh hs2 hg'
  obtain⟨w,wr,hw,hwp⟩:=rQ hg'
  have e1:=b3 y y1
  obtain⟨z,hz,hzp⟩:=hmem w (by rw[hw];exact ySp)
  have e2:=a3 z hz
  rw[← hzp,hwp]at e2
  rw[y2]at e1
  have ep:v'.price=v.price:=yDt e1 e2
  have hv':v'.qty=((F'.filter fun o=>decide (o.price=v'.price)).map (·.qty)).sum:=congrArg Lv.qty b1
  rw[ep,hsum]at hv'
  have hpos:1≤v.qty-x:=by
   rw[← hsum]
   have hyq:=hq y y1
   have h0:∀q∈(F'.filter fun o=>decide (o.price=v.price)).map (·.qty),0≤q:=by
    intro q hq2
    obtain⟨u,hu,rfl⟩:=yTk.1 hq2
    have:=hq u (yTu.1 hu).1
    omega
   have:=zMq h0 (yTk.2 ⟨y,hy,rfl⟩)
   omega
  rw[ySj (by omega),hg',b2,ep,hout,← a2]
  show(v'.price,v'.qty)::lpq vs=_
  rw[ep,hv']
open Go Cv Go.Proofs
theorem yAx {L:List zD} {s pr Q:Int} {rest:List (Int×Int)} (h:lpq (wE L s)=(pr,Q)::rest):∃v vs,wE L s=v::vs∧v.price=pr∧v.qty=Q∧lpq vs=rest:=by
 cases e:wE L s with
 |nil=>rw[e]at h;cases h
 |cons v vs=>rw[e]at h;cases h;exact⟨v,vs,rfl,rfl,rfl,rfl⟩
theorem zPb (L:List zD) (s id q:Int):kV (yS L id q) s=yS (kV L s) id q:=by
 rw[kV,kV,yS,yS,List.filter_filterMap,List.filterMap_filter]
 refine vV fun o _=> ?_
 by_cases e1:o.id=id
 ·rw[ySk e1]
  by_cases e2:o.qty=q
  ·rw[ySk e2];simp
  ·rw[ySj e2];by_cases e3:o.side=s<;>simp[Option.filter,e3]
 ·rw[ySj e1];by_cases e3:o.side=s<;>simp[Option.filter,e3]
theorem zLx {inst s:Int}:∀{os:List zD} {sh:List Int},(∀n,0≤sh.getD n 0)→sh.sum=0→yM inst s os sh=[]
 |[],sh,_,_=>by rw[yM];simp
 |_::_,[],_,_=>by rw[yM];simp
 |o::os,x::sh,h,h2=>by
  have h0:0≤x:=h 0
  have h1:0≤sh.sum:=zIt fun y hy=>by
   obtain⟨n,hn⟩:=yXi hy
   have:=h (n+1)
   have e:(x::sh).getD (n+1) 0=y:=zH (by rw[yUc];exact hn)
   omega
  rw[yTg]at h2
  rw[yM,ySj (by omega)]
  exact zLx (fun n=>h (n+1)) (by omega)
theorem yEj {pr Q x y:Int} {rest:List (Int×Int)} (h:x<Q):zHk (zHk ((pr,Q)::rest) x) y=zHk ((pr,Q)::rest) (x+y):=by
 have e:zHk ((pr,Q)::rest) x=(pr,Q-x)::rest:=ySj (by omega)
 rw[e]
 show(if Q-x≤y then rest else(pr,Q-x-y)::rest)=if Q≤x+y then rest else(pr,Q-(x+y))::rest
 by_cases c:Q≤x+y
 ·rw[ySk (by omega),ySk c]
 ·rw[ySj (by omega),ySj c,show Q-x-y=Q-(x+y)by omega]
theorem zGc {p:Prd} {k:Nat} {i s pr:Int} (hs:s=1∨s=2):∀{os:List zD} {sh:List Int} {B:List (List zD)} {L:List zD} {Q:Int} {rest:List (Int×Int)},BWf p B→B[k]? =some L→
 (∀o∈os,o∈L∧o.side=s∧o.price=pr)→(os.map (·.id)).Nodup→sh.length=os.length→(∀n,0≤sh.getD n 0∧sh.getD n 0≤(os.map (·.qty)).getD n 0)→lpq (wE L s)=(pr,Q)::rest→sh.sum≤Q→1≤Q→
 ∃L1,(yY B (yM i s os sh))[k]? =some L1∧lpq (wE L1 s)=zHk ((pr,Q)::rest) sh.sum∧∀z,z≠s→wE L1 z=wE L z
 |[],sh,B,L,Q,rest,h,hL,_,_,hl,_,hd,_,hQ=>by
  have:sh=[]:=List.length_eq_zero_iff.1 hl
  subst this
  refine⟨L,hL,?_,fun _ _=>rfl⟩
  rw[hd,List.sum_nil]
  show _=if Q≤0 then rest else(pr,Q-0)::rest
  rw[ySj (by omega),Int.sub_zero]
 |o::os,[],B,L,Q,rest,h,hL,_,_,hl,_,_,_,_=>by cases hl
 |o::os,x::sh,B,L,Q,rest,h,hL,ho,hn,hl,hb,hd,hsum,hQ=>by
  have hx:0≤x∧x≤o.qty:=hb 0
  have hb':∀n,0≤sh.getD n 0∧sh.getD n 0≤(os.map (·.qty)).getD n 0:=fun n=>hb (n+1)
  have hl':sh.length=os.length:=by simpa using hl
  rw[ySs,yUg]at hn
  obtain⟨ho0,hos,hop⟩:=ho o ySp
  have ho':∀y∈os,y∈L∧y.side=s∧y.price=pr:=fun y hy=>ho y (ySq _ hy)
  rw[yTg]at hsum ⊢
  have hs0:0≤sh.sum:=zIt fun y hy=>by
   obtain⟨n,hn⟩:=yXi hy
   have:=(hb' n).1
   have e:sh.getD n 0=y:=zH hn
   omega
  rw[yM]
  by_cases c:0<x
  ·rw[ySk c]
   have hod:=h.od k L hL
   have hk:=(ySl.1 hL).1
   have hi:=h.inst hL (yTf (f:=(·.id)) ho0)
   have hg:=vX hod.2.1 ho0
   have hh:kE L o.id=true:=hasId_iff.2 (yTf (f:=(·.id)) ho0)
   have ht:(yU B o.id x).1=B.set k (yS L o.id x):=by
    simp only[yU,hi,zH hL]
    rw[xU,ySj (by rw[hh];decide),ySj (by rw[hg];omega)]
   have hW:=h.take o.id x
   show ∃L1,(yY (yU B o.id x).1 (yM i s os sh))[k]? =some L1∧_
   rw[ht]at hW ⊢
   have hL':(B.set k (yS L o.id x))[k]? =some (yS L o.id x):=wZ hk
   obtain⟨v,vs,e1,e2,e3,e4⟩:=yAx hd
   have hF:o∈kV L s:=yTu.2 ⟨ho0,by simpa using hos⟩
   have hsd:=zPb L s o.id x
   have hlt:=z8g (h.srt k L hL s hs) (hod.2.1.sublist (List.Sublist.map _ yVu)) hF (v:=v) (vs:=vs) (by rw[← e1];rfl) (by rw[hop,e2]) (x:=x) (fun y hy=>by
    rw[← hsd]at hy
    exact((hW.od k _ hL').1 y (yTu.1 hy).1).q.1) (by rw[← hsd];exact hW.srt k _ hL' s hs)
   rw[← hsd]at hlt
   have hlt:lpq (wE (yS L o.id x) s)=zHk (lpq (wE L s)) x:=hlt
   rw[hd]at hlt
   have hoth:∀z,z≠s→wE (yS L o.id x) z=wE L z:=by
    intro z hz
    show grp (kV (yS L o.id x) z)=grp (kV L z)
    rw[zPb,zDd fun y hy e=> ?_]
    obtain⟨y1,y2⟩:=yTu.1 hy
    have:=vX hod.2.1 y1
    rw[e,hg]at this
    subst this
    have y2:o.side=z:=by simpa using y2
    exact hz (by rw[← y2,hos])
   by_cases c2:sh.sum=0
   ·rw[zLx (fun n=>(hb' n).1) c2,c2,Int.add_zero]
    exact⟨_,hL',hlt,hoth⟩
   ·have e5:zHk ((pr,Q)::rest) x=(pr,Q-x)::rest:=ySj (by omega)
    have hlt2:=hlt
    rw[e5]at hlt2
    obtain⟨L1,g1,g2,g3⟩:=zGc (i:=i) hs hW hL' (fun y hy=>⟨yWa.2 ⟨y,(ho' y hy).1,ySj fun(e:y.id=o.id)=>hn.1 (e▸yTf (f:=(·.id)) hy)⟩,(ho' y hy).2⟩) hn.2 hl' hb' hlt2 (by omega) (by omega)
    refine⟨L1,g1,?_,fun z hz=>(g3 z hz).trans (hoth z hz)⟩
    rw[g2,← e5,yEj (by omega)]
  ·rw[ySj c]
   have:x=0:=by omega
   subst this
   rw[Int.zero_add]at hsum ⊢
   exact zGc hs h hL ho' hn.2 hl' hb' hd hsum hQ
theorem zFa {p:Prd} {B:List (List zD)} (h:BWf p B) {k:Nat} {L:List zD} (hL:B[k]? =some L) {s:Int} (hs:s=1∨s=2) {q:Int} (hb:(bestL L s).2=true) (hq:1≤q∧q≤(bestL L s).1.qty):
 ∃L1,(yY B (y3 p B k s q))[k]? =some L1∧lpq (wE L1 s)=zHk (lpq (wE L s)) q∧∀z,z≠s→wE L1 z=wE L z:=by
 have G:=zQs h hL hs hb hq
 have e:=G.eq
 have S:=G.sh
 rw[zH hL]at e S
 have ho:=h.od k L hL
 cases hl:wE L s with
 |nil=>rw[bestL,hl]at hb;cases hb
 |cons v vs=>
  have hv:(bestL L s).1=v:=by rw[bestL,hl]
  rw[hv]at e S hq
  obtain⟨L1,g1,g2,g3⟩:=zGc (i:=k) (pr:=v.price) (Q:=v.qty) (rest:=lpq vs) (os:=atL L s v.price) hs h hL (fun o hm=>by
   obtain⟨a,b⟩:=yTu.1 hm
   simp only[ySx,yTo]at b
   exact⟨a,b⟩) (ho.2.1.sublist (List.Sublist.map _ yVu)) (by rw[S.len,ySm]) S.bd (by rw[hl];rfl) (by rw[S.sum];omega) (by omega)
  rw[e]
  refine⟨L1,g1,?_,g3⟩
  rw[g2,S.sum];rfl
def hdQ:List (Int×Int)→Int×Int×Bool
 |[]=>(0,0,false)
 |(p,q)::_=>(p,q,true)
theorem yFk (L:List zD) (s:Int):((bestL L s).1.price,(bestL L s).1.qty,(bestL L s).2)=hdQ (lpq (wE L s)):=by
 rw[bestL]
 cases wE L s<;>rfl
theorem uE (B:List (List zD)) (k:Nat) (s:Int) (hs:s=1∨s=2):((B.map xF).getD k top0).has s=(bestL (B.getD k []) s).2∧((B.map xF).getD k top0).qty s=(bestL (B.getD k []) s).1.qty∧((B.map xF).getD k top0).price s=(bestL (B.getD k []) s).1.price:=by
 by_cases h:k<B.length
 ·obtain⟨L,hL⟩:=z9 h
  rw[lV hL,zH hL];exact uP L hs
 ·rw[ySn,ySn,yTh (by rw[ySm];omega),yTh (by omega)]
  rcases hs with rfl|rfl<;>exact⟨rfl,rfl,rfl⟩
def rZ (inst s:Int) (n:Quote×Bool×Bool) (k:Nat) (z:Int):Prop:=if n.2.1=true then(k=n.1.a.inst.toNat∧z=n.1.a.side)∨(k=n.1.b.inst.toNat∧z=n.1.b.side)else k=inst.toNat∧z=s
def Dec (S:Nat→Int→Prop) (x:Int) (B B':List (List zD)):Prop:=B'.length=B.length∧∀(k:Nat) (s:Int),s=1∨s=2→(S k s→lpq (wE (B'.getD k []) s)=zHk (lpq (wE (B.getD k []) s)) x)∧(¬S k s→lpq (wE (B'.getD k []) s)=lpq (wE (B.getD k []) s))
def goB (p:Prd) (B:List (List zD)) (inst:Int) (sd:Bool) (price:Int):Bool:=(zW p B inst (zB (!sd))).2.2 && (jC sd price (zW p B inst (zB (!sd))).1.price && decide (1≤(zW p B inst (zB (!sd))).1.qty))
theorem yGp {p:Prd} {B:List (List zD)} {inst:Int} {sd:Bool} {price:Int} (h:goB p B inst sd price=false) (q:Int):jF p B inst sd price q=none:=by
 rw[jF]
 dsimp only
 rw[ySj]
 rw[goB]at h
 rw[h];decide
theorem yKf {p:Prd} {B:List (List zD)} (h:BWf p B) {inst:Int} (hi:0≤inst∧inst<B.length) {sd:Bool} {price:Int}:goB p B inst sd price=((zW p B inst (zB (!sd))).2.2 && jC sd price (zW p B inst (zB (!sd))).1.price):=by
 rw[goB]
 cases e:(zW p B inst (zB (!sd))).2.2 with
 |false=>rfl
 |true=>
  have:=(m9 h.ok h.od hi (dQ (!sd)) e).1
  rw[yTd this.1,Bool.and_true]
theorem yAw {p:Prd} {B:List (List zD)} (h:BWf p B) {inst:Int} (hi:0≤inst∧inst<B.length) {sd:Bool} {price:Int} (hg:goB p B inst sd price=true) {q:Int} (hq:1≤q):
 ∃t B',jF p B inst sd price q=some (t,B')∧t.qty=min q (zW p B inst (zB (!sd))).1.qty∧1≤t.qty∧BWf p B'∧Dec (rZ inst (zB (!sd)) (zW p B inst (zB (!sd)))) t.qty B B':=by
 have hs:zB (!sd)=1∨zB (!sd)=2:=dQ _
 have hg0:=hg
 rw[goB]at hg0
 simp only[ySx,yTo]at hg0
 obtain⟨c1,c2,c3⟩:=hg0
 obtain⟨hq1,h1,h2⟩:=m9 h.ok h.od hi hs c1
 rw[jF]
 dsimp only
 rw[ySk (by rw[goB]at hg;exact hg)]
 by_cases c:(zW p B inst (zB (!sd))).2.1=true
 ·obtain⟨_,ok⟩:=h1 c
  rw[ySk c]
  refine⟨_,_,rfl,rfl,by dsimp only;omega,h.takes.takes,?_⟩
  dsimp only
  have hlg:rZ inst (zB (!sd)) (zW p B inst (zB (!sd)))=fun k z=>(k=(zW p B inst (zB (!sd))).1.a.inst.toNat∧z=(zW p B inst (zB (!sd))).1.a.side)∨(k=(zW p B inst (zB (!sd))).1.b.inst.toNat∧z=(zW p B inst (zB (!sd))).1.b.side):=by
   funext k z;rw[rZ,ySk c]
  rw[hlg]
  generalize (zW p B inst (zB (!sd))).1=n at*
  obtain⟨np,nq,⟨ai,az⟩,⟨bi,bs⟩⟩:=n
  have a:=ok.a
  have b:=ok.b
  have ne:=ok.ne
  rw[ySm]at a b
  dsimp only at a b ne hq1 c3 ⊢
  obtain⟨ka,rfl⟩:∃k:Nat,ai=k:=⟨ai.toNat,by omega⟩
  obtain⟨kb,rfl⟩:∃k:Nat,bi=k:=⟨bi.toNat,by omega⟩
  have hab:ka≠kb:=fun e=>ne (by rw[e])
  obtain⟨La,hLa⟩:=z9 (l:=B) (i:=ka) (by omega)
  obtain⟨Lb,hLb⟩:=z9 (l:=B) (i:=kb) (by omega)
  have e1:=ok.ha
  have e2:=ok.hb
  have e3:=ok.qty
  have sa:az=1∨az=2:=ok.sa
  have bz:bs=1∨bs=2:=ok.sb
  dsimp only at e1 e2 e3
  rw[ySy,lV hLa]at e1 e3
  rw[ySy,lV hLb]at e2 e3
  rw[(uP La sa).1]at e1
  rw[(uP Lb bz).1]at e2
  rw[(uP La sa).2.1,(uP Lb bz).2.1]at e3
  have hW1:BWf p (yY B (y3 p B ka az (min q nq))):=h.takes
  have hl:=gZ h (k:=ka) (j:=kb) hab hLa hLb az (min q nq)
  obtain⟨L1,g1,g2,g3⟩:=zFa h hLa sa e1 (q:=min q nq) (by omega)
  obtain⟨L2,f1,f2,f3⟩:=zFa hW1 hl bz e2 (q:=min q nq) (by omega)
  have hl2:=gZ hW1 (k:=kb) (j:=ka) (fun e=>hab e.symm) hl g1 bs (min q nq)
  refine⟨by rw[qH,qH],fun k s hs=> ?_⟩
  rw[ySy,ySy]
  by_cases ca:k=ka
  ·subst ca
   rw[zH hl2,zH hLa]
   by_cases cs:s=az
   ·subst cs
    exact⟨fun _=>g2,fun x=>absurd (.inl ⟨rfl,rfl⟩) x⟩
   ·exact⟨fun x=>by rcases x with x|x;exact absurd x.2 cs;exact absurd x.1 hab,fun _=>by rw[g3 s cs]⟩
  by_cases cb:k=kb
  ·subst cb
   rw[zH f1,zH hLb]
   by_cases cs:s=bs
   ·subst cs
    exact⟨fun _=>f2,fun x=>absurd (.inr ⟨rfl,rfl⟩) x⟩
   ·exact⟨fun x=>by rcases x with x|x;exact absurd x.1 ca;exact absurd x.2 cs,fun _=>by rw[f3 s cs]⟩
  refine⟨fun x=>by rcases x with x|x;exact absurd x.1 ca;exact absurd x.1 cb,fun _=> ?_⟩
  by_cases hk:k<B.length
  ·obtain⟨L,hL⟩:=z9 hk
   have m1:=gZ h (k:=ka) (j:=k) (fun e=>ca e.symm) hLa hL az (min q nq)
   have m2:=gZ hW1 (k:=kb) (j:=k) (fun e=>cb e.symm) hl m1 bs (min q nq)
   rw[zH hL,zH m2]
  ·rw[ySn,ySn,yTh (by rw[qH,qH];omega),yTh (by omega)]
 ·obtain⟨d1,d2,d3⟩:=h2 (by simpa using c)
  rw[ySj c]
  refine⟨_,_,rfl,rfl,by dsimp only;omega,h.takes,?_⟩
  dsimp only
  have hlg:rZ inst (zB (!sd)) (zW p B inst (zB (!sd)))=fun k z=>k=inst.toNat∧z=zB (!sd):=by
   funext k z;rw[rZ,ySj c]
  rw[hlg]
  obtain⟨k0,rfl⟩:∃k:Nat,inst=k:=⟨inst.toNat,by omega⟩
  obtain⟨L,hL⟩:=z9 (l:=B) (i:=k0) (by omega)
  rw[ySy,zH hL]at d1 d3
  rw[ySy]
  obtain⟨L1,g1,g2,g3⟩:=zFa h hL hs d1 (q:=min q (zW p B k0 (zB (!sd))).1.qty) (by omega)
  refine⟨by rw[qH],fun k s hs2=> ?_⟩
  by_cases ca:k=k0
  ·subst ca
   rw[zH g1,zH hL]
   by_cases cs:s=zB (!sd)
   ·rw[cs]
    exact⟨fun _=>g2,fun x=>absurd ⟨rfl,rfl⟩ x⟩
   ·exact⟨fun x=>absurd x.2 cs,fun _=>by rw[g3 s cs]⟩
  refine⟨fun x=>absurd x.1 ca,fun _=> ?_⟩
  by_cases hk:k<B.length
  ·obtain⟨M,hM⟩:=z9 hk
   have m1:=gZ h (k:=k0) (j:=k) (fun e=>ca e.symm) hL hM (zB (!sd)) (min q (zW p B k0 (zB (!sd))).1.qty)
   rw[zH hM,zH m1]
  ·rw[ySn,ySn,yTh (by rw[qH];omega),yTh (by omega)]
open Go Cv Go.Proofs
theorem z9h {p:Prd} {B:List (List zD)} (h:BWf p B) {inst:Int} (hi:0≤inst∧inst<B.length) {s:Int} (hs:s=1∨s=2) (hn:(zW p B inst s).2.2=true) {k:Nat} {z:Int} (hl:rZ inst s (zW p B inst s) k z):
 (bestL (B.getD k []) z).2=true∧(zW p B inst s).1.qty≤(bestL (B.getD k []) z).1.qty:=by
 obtain⟨_,h1,h2⟩:=m9 h.ok h.od hi hs hn
 rw[rZ]at hl
 split at hl
 ·rename_i c
  obtain⟨_,ok⟩:=h1 c
  have e1:=ok.ha
  have e2:=ok.hb
  have e3:=ok.qty
  have a:=uE B (zW p B inst s).1.a.inst.toNat _ ok.sa
  have b:=uE B (zW p B inst s).1.b.inst.toNat _ ok.sb
  rw[a.1]at e1
  rw[b.1]at e2
  rw[a.2.1,b.2.1]at e3
  rcases hl with⟨rfl,rfl⟩|⟨rfl,rfl⟩
  ·exact⟨e1,by omega⟩
  ·exact⟨e2,by omega⟩
 ·rename_i c
  obtain⟨d1,d2,d3⟩:=h2 (by simpa using c)
  obtain⟨rfl,rfl⟩:=hl
  exact⟨d1,by omega⟩
theorem yLj {p:Prd} {B:List (List zD)} {inst:Int} {sd:Bool} {price:Int} (h:goB p B inst sd price=false) (q:Int):xZ p B inst sd price q=⟨[],q,B⟩:=kU (.inr (yGp h q))
open Go Cv Go.Proofs
def kT (B:List (List zD)):Nat:=(B.map List.length).sum
def spO (o:zD):Int×Int:=(o.side,o.price)
def zVy (B:List (List zD)):List (List (Int×Int)):=B.map fun L=>L.map spO
theorem zRf:∀(B:List (List zD)) (n:Nat),(whL n B).length=kT B
 |[],n=>rfl
 |L::B,n=>by
  rw[whL,ySr,ySm,zRf B,kT,kT,ySs,yTg]
theorem z2l (id q:Int):∀(L:List zD),(yS L id q).length≤L.length∧((yS L id q).length=L.length→(yS L id q).map spO=L.map spO)
 |[]=>⟨yTj _,fun _=>rfl⟩
 |o::L=>by
  obtain⟨i1,i2⟩:=z2l id q L
  rw[yS]at i1 i2
  rw[yS,yWg]
  by_cases c:o.id=id
  ·rw[ySk c]
   by_cases d:o.qty=q
   ·rw[ySk d]
    refine⟨Nat.le_succ_of_le i1,fun e=> ?_⟩
    rw[yTc]at e
    dsimp only at e
    omega
   ·rw[ySj d]
    refine⟨Nat.succ_le_succ i1,fun e=> ?_⟩
    rw[ySs,ySs,i2 (Nat.succ.inj e)]
    rfl
  ·rw[ySj c]
   refine⟨Nat.succ_le_succ i1,fun e=> ?_⟩
   rw[ySs,ySs,i2 (Nat.succ.inj e)]
theorem zHv:∀{B:List (List zD)} {k:Nat} {L L':List zD},B[k]? =some L→kT (B.set k L')+L.length=kT B+L'.length
 |[],k,L,L',h=>by cases h
 |M::B,0,L,L',h=>by
  cases h
  rw[yWx,kT,kT,ySs,ySs,yTg,yTg];omega
 |M::B,k+1,L,L',h=>by
  have:=zHv (B:=B) (k:=k) (L:=L) (L':=L') h
  rw[kT,kT]at this
  rw[yWi,kT,kT,ySs,ySs,yTg,yTg];omega
theorem zIe (B:List (List zD)) (id q:Int):kT (yU B id q).1≤kT B∧(kT (yU B id q).1=kT B→zVy (yU B id q).1=zVy B):=by
 rw[yU]
 split
 ·exact⟨yTj _,fun _=>rfl⟩
 ·rename_i k hk
  dsimp only
  obtain⟨L,hL,hh⟩:=xK hk
  rw[zH hL,xU]
  split
  ·rw[kK hL];exact⟨yTj _,fun _=>rfl⟩
  split
  ·rw[kK hL];exact⟨yTj _,fun _=>rfl⟩
  dsimp only
  have:=zHv (L':=yS L id q) hL
  obtain⟨i1,i2⟩:=z2l id q L
  refine⟨by omega,fun e=> ?_⟩
  rw[zVy,zVy,List.map_set,i2 (by omega)]
  exact kK (by rw[yUd,hL];rfl)
theorem zVl:∀(fs:List vD) (B:List (List zD)),kT (yY B fs)≤kT B∧(kT (yY B fs)=kT B→zVy (yY B fs)=zVy B)
 |[],B=>⟨yTj _,fun _=>rfl⟩
 |f::fs,B=>by
  obtain⟨i1,i2⟩:=zVl fs (yU B f.id f.qty).1
  obtain⟨j1,j2⟩:=zIe B f.id f.qty
  have e:yY B (f::fs)=yY (yU B f.id f.qty).1 fs:=rfl
  rw[e]
  exact⟨by omega,fun h=>(i2 (by omega)).trans (j2 (by omega))⟩
theorem zOw:∀{F F':List zD},F.map (·.price)=F'.map (·.price)→(grp F).map (·.price)=(grp F').map (·.price)
 |[],[],_=>rfl
 |[],_::_,h=>by cases h
 |_::_,[],h=>by cases h
 |o::F,o'::F',h=>by
  rw[ySs,ySs,List.cons.injEq]at h
  have ih:=zOw h.2
  have h1:=h.1
  rw[grp,grp]
  cases e:grp F with
  |nil=>
   rw[e]at ih
   cases e':grp F' with
   |nil=>simp[h1]
   |cons v vs=>rw[e']at ih;cases ih
  |cons v vs=>
   rw[e]at ih
   cases e':grp F' with
   |nil=>rw[e']at ih;cases ih
   |cons w ws=>
    rw[e',ySs,ySs,List.cons.injEq]at ih
    dsimp only
    rw[ih.1,h1]
    split
    ·rw[ySs,ySs,ih.2]
    ·rw[ySs,ySs,ySs,ySs,ih.2,ih.1]
theorem yOc {L L':List zD} (h:L'.map spO=L.map spO) (s:Int):(wE L' s).length=(wE L s).length:=by
 have e:∀L:List zD,(L.filter fun o=>decide (o.side=s)).map (·.price)=((L.map spO).filter fun x=>decide (x.1=s)).map (·.2):=by
  intro L
  rw[List.filter_map,yVc];rfl
 have:=zOw ((e L').trans ((congrArg (fun l=>(List.filter (fun x:Int×Int=>decide (x.1=s)) l).map (·.2)) h).trans (e L).symm))
 have:=congrArg List.length this
 rw[ySm,ySm]at this
 exact this
theorem zKf {p:Prd} {B:List (List zD)} {inst:Int} {sd:Bool} {price q:Int} {t:kM} {B':List (List zD)} (e:jF p B inst sd price q=some (t,B')):B'=yY B t.fills:=by
 rw[jF]at e
 dsimp only at e
 split at e
 ·split at e
  ·cases e;rw[zQb]
  ·cases e;rfl
 ·cases e
theorem zUw {p:Prd} {B:List (List zD)} (h:BWf p B) {inst:Int} (hi:0≤inst∧inst<B.length) {sd:Bool} {price:Int} (hg:goB p B inst sd price=true) {q:Int} (hq:1≤q):
 ∃t B',jF p B inst sd price q=some (t,B')∧1≤t.qty∧t.qty≤q∧BWf p B'∧B'.length=B.length∧kT B'≤kT B∧(t.qty<q→kT B'<kT B):=by
 obtain⟨t,B',a1,a2,a3,a4,a5⟩:=yAw h hi hg hq
 have hg0:=hg
 rw[goB]at hg0
 simp only[ySx,yTo]at hg0
 obtain⟨c1,_,c3⟩:=hg0
 have hcs:=zVl t.fills B
 rw[← zKf a1]at hcs
 refine⟨t,B',a1,a3,by omega,a4,a5.1,hcs.1,fun hlt=> ?_⟩
 rcases yUu (kT B') (kT B)with x|x
 ·exact x
 exfalso
 have hsh:=hcs.2 (by omega)
 have hs:=dQ (!sd)
 obtain⟨_,p1,p2⟩:=m9 h.ok h.od hi hs c1
 obtain⟨k,z,hz,hl,he⟩:∃(k:Nat) (z:Int),(z=1∨z=2)∧rZ inst (zB (!sd)) (zW p B inst (zB (!sd))) k z∧(bestL (B.getD k []) z).1.qty=(zW p B inst (zB (!sd))).1.qty:=by
  cases c:(zW p B inst (zB (!sd))).2.1 with
  |true=>
   obtain⟨_,ok⟩:=p1 c
   have q0:=ok.qty
   rw[(uE B _ _ ok.sa).2.1,(uE B _ _ ok.sb).2.1]at q0
   rcases Int.le_total (bestL (B.getD (zW p B inst (zB (!sd))).1.a.inst.toNat []) (zW p B inst (zB (!sd))).1.a.side).1.qty (bestL (B.getD (zW p B inst (zB (!sd))).1.b.inst.toNat []) (zW p B inst (zB (!sd))).1.b.side).1.qty with y|y
   ·exact⟨_,_,ok.sa,by rw[rZ,ySk c];exact .inl ⟨rfl,rfl⟩,by omega⟩
   ·exact⟨_,_,ok.sb,by rw[rZ,ySk c];exact .inr ⟨rfl,rfl⟩,by omega⟩
  |false=>
   obtain⟨d1,d2,d3⟩:=p2 c
   exact⟨inst.toNat,_,hs,by rw[rZ,ySj (by rw[c];decide)];exact⟨rfl,rfl⟩,d3.symm⟩
 have hb:=z9h h hi hs c1 hl
 have hd:=(a5.2 k z hz).1 hl
 have hlen:(lpq (wE (B'.getD k []) z)).length=(lpq (wE (B.getD k []) z)).length:=by
  rw[lpq,lpq,ySm,ySm]
  refine yOc ?_ z
  have:=congrArg (fun l=>l.getD k []) hsh
  have ge:∀B:List (List zD),(zVy B).getD k []=(B.getD k []).map spO:=by
   intro B
   rw[zVy,ySn,ySn,yUd]
   cases B[k]? <;>rfl
  rw[ge,ge]at this
  exact this
 have bh:=yFk (B.getD k []) z
 rw[hd]at hlen
 cases el:lpq (wE (B.getD k []) z)with
 |nil=>rw[el]at bh;simp only[hdQ,Prod.mk.injEq]at bh;rw[bh.2.2]at hb;cases hb.1
 |cons v vs=>
  obtain⟨pr,Q⟩:=v
  rw[el]at bh hlen
  simp only[hdQ,Prod.mk.injEq]at bh
  have e2:zHk ((pr,Q)::vs) t.qty=vs:=ySk (by omega)
  rw[e2,yTc]at hlen
  omega
theorem z2k {p:Prd} {inst:Int} {sd:Bool} {price:Int}:∀(m:Nat) (q:Int) (B:List (List zD)),q.toNat≤m→BWf p B→0≤inst∧inst<B.length→
 (xZ p B inst sd price q).steps.length+kT (xZ p B inst sd price q).B≤kT B+1∧(q≤0→(xZ p B inst sd price q).steps=[])∧((xZ p B inst sd price q).steps.map (·.qty)).sum=q-(xZ p B inst sd price q).left∧kT (xZ p B inst sd price q).B≤kT B
 |m,q,B,hm,h,hi=>by
  by_cases hq:q≤0
  ·rw[kU (.inl hq)]
   exact⟨by dsimp only[List.length_nil];omega,fun _=>rfl,by simp,yTj _⟩
  cases hg:goB p B inst sd price with
  |false=>
   rw[yLj hg]
   exact⟨by dsimp only[List.length_nil];omega,fun _=>rfl,by simp,yTj _⟩
  |true=>
   obtain⟨t,C,a1,a3,a3',a4,a5,a6,a7⟩:=zUw h hi hg (q:=q) (by omega)
   cases m with
   |zero=>omega
   |succ m=>
   obtain⟨i1,i2,i3,i4⟩:=z2k (p:=p) (inst:=inst) (sd:=sd) (price:=price) m (q-t.qty) C (by omega) a4 (by rw[a5];exact hi)
   rw[cE (by omega) a1]
   refine⟨?_,fun x=>absurd x hq,?_,by dsimp only;omega⟩
   ·dsimp only
    rw[yTc]
    by_cases c:t.qty<q
    ·have:=a7 c
     omega
    ·rw[i2 (by omega)]
     rw[yVe];omega
   ·dsimp only
    rw[ySs,yTg,i3];omega
open Go Cv Go.Proofs
def qL:List zD→Int→Int
 |[],_=>0
 |o::L,id=>(if o.id=id then o.qty else 0)+qL L id
def qB:List (List zD)→Int→Int
 |[],_=>0
 |L::B,id=>qL L id+qB B id
theorem zZt (id:Int):∀A B:List zD,qL (A++B) id=qL A id+qL B id
 |[],B=>by rw[yUy,qL];omega
 |o::A,B=>by rw[yTy,qL,qL,zZt id A B];omega
theorem zWu {id:Int}:∀{L:List zD},(∀o∈L,o.id≠id)→qL L id=0
 |[],_=>rfl
 |o::L,h=>by
  rw[qL,ySj (h o ySp),zWu fun x hx=>h x (ySq _ hx)];rfl
theorem z0t {o:zD}:∀{L:List zD},(L.map (·.id)).Nodup→o∈L→qL L o.id=o.qty
 |[],_,h=>by cases h
 |x::L,hn,h=>by
  rw[ySs,yUg]at hn
  rw[qL]
  rcases yTb.1 h with rfl|h
  ·rw[ySk rfl,zWu fun y hy e=>hn.1 (yTk.2 ⟨y,hy,e⟩)];omega
  ·rw[ySj fun e=>hn.1 (yTk.2 ⟨o,h,e.symm⟩),z0t hn.2 h];omega
theorem zJm {id x y:Int} (hy:y≠id):∀L:List zD,qL (yS L id x) y=qL L y
 |[]=>rfl
 |o::L=>by
  have ih:=zJm (x:=x) hy L
  rw[yS]at ih ⊢
  rw[yWg,qL]
  by_cases c:o.id=id
  ·have hne:¬o.id=y:=fun e=>hy (by rw[← e,c])
   rw[ySk c,ySj hne]
   by_cases d:o.qty=x
   ·rw[ySk d];dsimp only;rw[ih];omega
   ·rw[ySj d];dsimp only;rw[qL,ih];dsimp only;rw[ySj hne]
  ·rw[ySj c];dsimp only;rw[qL,ih]
theorem z4a {o:zD} {x:Int}:∀{L:List zD},(L.map (·.id)).Nodup→o∈L→qL (yS L o.id x) o.id=o.qty-x
 |[],_,h=>by cases h
 |y::L,hn,h=>by
  rw[ySs,yUg]at hn
  rcases yTb.1 h with rfl|h
  ·have hno:∀z∈L,z.id≠o.id:=fun z hz e=>hn.1 (e▸yTf (f:=(·.id)) hz)
   have ht:=zDd (x:=x) hno
   rw[yS]at ht ⊢
   rw[yWg,ySk rfl,ht]
   by_cases d:o.qty=x
   ·rw[ySk d];dsimp only;rw[zWu hno];omega
   ·rw[ySj d];dsimp only;rw[qL,zWu hno];dsimp only;rw[ySk rfl];omega
  ·have hne:¬y.id=o.id:=fun e=>hn.1 (e▸yTf (f:=(·.id)) h)
   have ih:=z4a (x:=x) hn.2 h
   rw[yS]at ih ⊢
   rw[yWg,ySj hne]
   dsimp only
   rw[qL,ySj hne,ih];omega
theorem zRi {y:Int}:∀{B:List (List zD)} {k:Nat} {L L':List zD},B[k]? =some L→qB (B.set k L') y=qB B y-qL L y+qL L' y
 |[],k,L,L',h=>by cases h
 |M::B,0,L,L',h=>by cases h;rw[yWx,qB,qB];omega
 |M::B,k+1,L,L',h=>by
  have:=zRi (y:=y) (B:=B) (k:=k) (L:=L) (L':=L') h
  rw[yWi,qB,qB,this];omega
theorem zHi {id:Int}:∀{B:List (List zD)},(∀L∈B,∀o∈L,o.id≠id)→qB B id=0
 |[],_=>rfl
 |L::B,h=>by
  rw[qB,zWu (h L ySp),zHi fun M hM=>h M (ySq _ hM)];rfl
theorem zEc {p:Prd} {B:List (List zD)} (h:BWf p B) {k:Nat} {L:List zD} (hL:B[k]? =some L) {o:zD} (ho:o∈L):qB B o.id=o.qty:=by
 have hk:=(ySl.1 hL).1
 have h1:=zRi (y:=o.id) (L':=[]) hL
 have h2:qB (B.set k []) o.id=0:=by
  refine zHi fun M hM x hx e=> ?_
  obtain⟨j,hj⟩:=yUn.1 hM
  rcases vG hj with⟨_,rfl⟩|⟨hne,hj⟩
  ·cases hx
  ·exact hne (zIx h.ub hj hL (e▸yTf (f:=(·.id)) hx) (yTf (f:=(·.id)) ho))
 rw[h2,z0t (h.od k L hL).2.1 ho]at h1
 have:qL [] o.id=0:=rfl
 omega
theorem zLy {p:Prd} {B:List (List zD)} (h:BWf p B) {k:Nat} {L:List zD} (hL:B[k]? =some L) {o:zD} (ho:o∈L) {x:Int} (hx:1≤x∧x≤o.qty):(yU B o.id x).1=B.set k (yS L o.id x):=by
 have hi:=h.inst hL (yTf (f:=(·.id)) ho)
 have hg:=vX (h.od k L hL).2.1 ho
 have hh:kE L o.id=true:=hasId_iff.2 (yTf (f:=(·.id)) ho)
 simp only[yU,hi,zH hL]
 rw[xU,ySj (by rw[hh];decide),ySj (by rw[hg];omega)]
theorem z1f {p:Prd} {B:List (List zD)} (h:BWf p B) {k:Nat} {L:List zD} (hL:B[k]? =some L) {o:zD} (ho:o∈L) {x:Int} (hx:1≤x∧x≤o.qty) (y:Int):qB (yU B o.id x).1 y=if y=o.id then o.qty-x else qB B y:=by
 rw[zLy h hL ho hx,zRi hL]
 by_cases c:y=o.id
 ·subst c
  rw[ySk rfl,z4a (h.od k L hL).2.1 ho,z0t (h.od k L hL).2.1 ho,zEc h hL ho];omega
 ·rw[ySj c,zJm c];omega
theorem zDf {B:List (List zD)} {id x:Int} {k:Nat} {L:List zD} (h:(yU B id x).1[k]? =some L):∃M,B[k]? =some M∧∀o∈L,∃o'∈M,o'.id=o.id:=by
 rw[yU]at h
 split at h
 ·exact⟨L,h,fun o ho=>⟨o,ho,rfl⟩⟩
 ·rename_i j hj
  dsimp only at h
  obtain⟨M,hM,_⟩:=xK hj
  rcases vG h with⟨rfl,rfl⟩|⟨_,h⟩
  ·refine⟨M,hM,fun o ho=> ?_⟩
   rw[zH hM]at ho
   obtain⟨o',ho',_,_,e⟩:=zCh ho
   exact⟨o',ho',e.symm⟩
  ·exact⟨L,h,fun o ho=>⟨o,ho,rfl⟩⟩
theorem z9m (y s:Int):∀L:List zD,qL (clr L s) y=qL L y
 |[]=>rfl
 |o::L=>by
  have ih:=z9m y s L
  rw[clr]at ih
  rw[clr,ySs,qL,qL,ih]
  split<;>rfl
theorem yLq (L:List zD) (s id p q y:Int):qL (lE L s id p q) y=(if id=y then q else 0)+qL L y:=by
 have h:∀(X:List zD) (b:Bool),qL (X.takeWhile (before s p)++⟨id,s,p,q,b⟩::X.dropWhile (before s p)) y=(if id=y then q else 0)+qL X y:=fun X b=>by
  have e:=zZt y (X.takeWhile (before s p)) (X.dropWhile (before s p))
  rw[yXh]at e
  rw[zZt,qL,e];dsimp only;omega
 rw[lE,h]
 by_cases c:uV L s p=true
 ·rw[ySk c,z9m]
 ·rw[ySj c]
structure Stm where
 left:Int→Int
 own:Int→Int
def upd (f:Int→Int) (k v:Int):Int→Int:=fun x=>if x=k then v else f x
def stN (s:Stm) (r:Rep):Stm:=
 if r.kind=1 then⟨upd s.left r.id r.qty,upd s.own r.id r.inst⟩
 else if r.kind=2∨(r.kind=3∧r.inst≠s.own r.id)then s
 else⟨upd s.left r.id r.left,s.own⟩
theorem zEg {s:Stm} {r:Rep} (h1:r.kind≠1) (h2:r.kind≠2) (h3:r.kind=3→r.inst=s.own r.id):stN s r=⟨upd s.left r.id r.left,s.own⟩:=by
 rw[stN,ySj h1,ySj fun h=>h.elim h2 fun h=>h.2 (h3 h.1)]
theorem zTh {s:Stm} {r:Rep} (h:r.kind=3) (h2:r.inst≠s.own r.id):stN s r=s:=by
 rw[stN,ySj (by omega),ySk (.inr ⟨h,h2⟩)]
structure StG (p:Prd) (D:Int→Prop) (s:Stm) (r:Rep):Prop where
 d:D r.id
 i:0≤r.inst∧r.inst<p.count
 q:0≤r.qty∧r.qty≤1000000
 l:0≤r.left∧r.left≤1000000
 k:(r.kind=1∧s.left r.id=0∧1≤r.qty∧r.left=r.qty)∨
  (r.kind=3∧1≤r.qty∧(r.side=1∨r.side=2)∧((r.inst=s.own r.id∧r.qty≤s.left r.id∧r.left=s.left r.id-r.qty)∨
    (r.inst≠s.own r.id∧(p.legs (s.own r.id)).2.2=true∧(r.inst=(p.legs (s.own r.id)).1∨r.inst=(p.legs (s.own r.id)).2.1)∧r.left=s.left r.id)))∨
  (r.kind=4∧1≤r.qty∧r.qty=s.left r.id∧r.left=0)∨
  (r.kind=5∧r.qty<s.left r.id∧r.left=s.left r.id-r.qty)
def cO (p:Prd) (D:Int→Prop):Stm→List Rep→Prop
 |_,[]=>True
 |s,r::l=>StG p D s r∧cO p D (stN s r) l
def vT (s:Stm) (l:List Rep):Stm:=l.foldl stN s
theorem dD {p:Prd} {D:Int→Prop}:∀{s:Stm} {a b:List Rep},cO p D s a→cO p D (vT s a) b→cO p D s (a++b)
 |_,[],_,_,h=>h
 |_,_::_,_,h,h2=>⟨h.1,dD h.2 h2⟩
theorem zEj (s:Stm) (r:Rep):vT s [r]=stN s r:=rfl
theorem c9 (s:Stm) (a b:List Rep):vT s (a++b)=vT (vT s a) b:=yYm
def one (r:Rep) (m:Int):Int:=if r.kind=3∧r.inst=m then(if r.side=1 then r.qty else-r.qty)else 0
def wI:List Rep→Int→Int
 |[],_=>0
 |r::l,m=>one r m+wI l m
theorem aA (m:Int):∀a b:List Rep,wI (a++b) m=wI a m+wI b m
 |[],b=>by rw[yUy,wI];omega
 |r::a,b=>by rw[yTy,wI,wI,aA m a b];omega
def vq (p:Prd) (k s q m:Int):Int:=
 if(p.legs k).2.2=true then(if(p.legs k).1=m then(if s=1 then q else-q)else 0)-(if(p.legs k).2.1=m then(if s=1 then q else-q)else 0)
 else if k=m then(if s=1 then q else-q)else 0
theorem yJk (p:Prd) (k s a b m:Int):vq p k s (a+b) m=vq p k s a m+vq p k s b m:=by
 rw[vq,vq,vq]
 split
 ·repeat' split
  all_goals omega
 ·repeat' split
  all_goals omega
theorem z0m (p:Prd) {s:Int} (hs:s=1∨s=2) (k q m:Int):vq p k (3-s) q m= -vq p k s q m:=by
 rw[vq,vq]
 rcases hs with rfl|rfl
 ·split
  ·repeat' split
   all_goals omega
  ·repeat' split
   all_goals omega
 ·split
  ·repeat' split
   all_goals omega
  ·repeat' split
   all_goals omega
theorem zIa {p:Prd} (hc:p.check=0) {k:Int} (hk:0≤k∧k<p.count) (hs:(p.legs k).2.2=true):(0≤(p.legs k).1∧(p.legs k).1<p.months.length)∧(0≤(p.legs k).2.1∧(p.legs k).2.1<p.months.length)∧(p.months.length:Int)≤k∧(p.legs k).1≠(p.legs k).2.1:=by
 obtain⟨n,rfl⟩:∃n:Nat,k=n:=⟨k.toNat,by omega⟩
 have hn:n<p.count:=by omega
 have hne:=zSd hc hn hs
 rcases vO hc hn with⟨_,a,b,c,d⟩|⟨e,_⟩
 ·refine⟨⟨a,b⟩,⟨c,d⟩,?_,hne⟩
  rcases Int.lt_or_le (n:Int) p.months.length with x|x
  ·exfalso
   rw[Prd.legs,ySj (by omega),ySk x]at hs
   cases hs
  ·exact x
 ·rw[e]at hs;cases hs
theorem zWy {p:Prd} (hc:p.check=0) {a b:Nat} (hab:a<b) (hb:b<p.months.length):p.legs (p.spread a b).1=((a:Int),(b:Int),true):=by
 obtain⟨k,t⟩:=zSf hc hab hb
 rw[t.hs];exact t.hl
theorem sK {p:Prd} (hc:p.check=0) {k:Nat} (hk:k<p.months.length):(p.legs k).2.2=false:=by
 rw[Prd.legs]
 split
 ·rfl
 ·rw[ySk (by omega)]
theorem yGm {p:Prd} (hc:p.check=0) {T:List Top} (hT:T.length=p.count) {inst:Int} {s:Int} (hs:s=1∨s=2) {q:Quote} (h:q∈qC ⟨p,T,inst⟩ s) (x m:Int):vq p q.a.inst q.a.side x m+vq p q.b.inst q.b.side x m=vq p inst s x m:=by
 rw[qC]at h
 dsimp only at h
 split at h
 ·cases h
 ·rename_i hn
  obtain⟨k,rfl⟩:∃k:Nat,inst=k:=⟨inst.toNat,by omega⟩
  have hk:k<p.count:=by omega
  have hge:=dW hc
  split at h
  ·rename_i hl
   obtain⟨q',hq',rfl⟩:=yTk.1 h
   obtain⟨l1,l2,l3,l4⟩:=zIa hc (k:=(k:Int)) (by omega) hl
   obtain⟨u,hu⟩:∃u:Nat,(p.legs k).1=u:=⟨(p.legs k).1.toNat,by omega⟩
   obtain⟨v,hv⟩:∃v:Nat,(p.legs k).2.1=v:=⟨(p.legs k).2.1.toNat,by omega⟩
   have mu:=sK hc (k:=u) (by omega)
   have mv:=sK hc (k:=v) (by omega)
   dsimp only[fU]
   rw[hu,hv,z0m p hs]
   simp only[vq,mu,mv,hl,hu,hv,if_true,ySz,if_false]
   omega
  ·rename_i hl
   have hl:(p.legs k).2.2=false:=by simpa using hl
   have hm:k<p.months.length:=by
    rcases vO hc hk with⟨e,_⟩|⟨_,e⟩
    ·rw[hl]at e;cases e
    ·exact e
   rcases yTp.1 h with h|h
   ·obtain⟨j,hj,h⟩:=yUj.1 h
    have hj:=yUz.1 hj
    rw[ySy]at hj
    have s1:=gU hc (a:=k) (b:=k+1+j) (by omega) (by omega)
    have s2:=eA hc (a:=k) (b:=k+1+j) (by omega) (by omega)
    have sl:=zWy hc (a:=k) (b:=k+1+j) (by omega) (by omega)
    have mv:=sK hc (k:=k+1+j) (by omega)
    have ec:((k:Int)+1+j)=((k+1+j:Nat):Int):=by omega
    rw[ec]at h
    obtain⟨ok,e1,e2⟩:=zMf h (by dsimp only;omega) (by dsimp only;omega) hs hs (by dsimp only;omega)
    rw[e1,e2]
    dsimp only
    simp only[vq,sl,hl,mv,if_true,ySz,if_false]
    omega
   ·obtain⟨j,hj,h⟩:=yUj.1 h
    have hj:=yUz.1 hj
    rw[ySy]at hj
    have s1:=gU hc (a:=j) (b:=k) (by omega) (by omega)
    have s2:=eA hc (a:=j) (b:=k) (by omega) (by omega)
    have sl:=zWy hc (a:=j) (b:=k) (by omega) (by omega)
    have mv:=sK hc (k:=j) (by omega)
    obtain⟨ok,e1,e2⟩:=zMf h (by dsimp only;omega) (by dsimp only;omega) (by dsimp only;omega) hs (by dsimp only;omega)
    rw[e1,e2]
    dsimp only
    rw[z0m p hs]
    simp only[vq,sl,hl,mv,if_true,ySz,if_false]
    omega
theorem zHt {p:Prd} {r:Rep} (m:Int) (hk:r.kind=3) (hs:r.side=1∨r.side=2):one r m=if r.inst=m then(if r.side=1 then r.qty else-r.qty)else 0:=by
 rw[one]
 by_cases c:r.inst=m
 ·rw[ySk ⟨hk,c⟩,ySk c]
 ·rw[ySj fun h=>c h.2,ySj c]
theorem z3m {p:Prd} (hc:p.check=0) {D:Int→Prop} {S:Stm} (x:kM) {r:Rep} (hd:D r.id) (hk:r.kind=3) (hi:0≤r.inst∧r.inst<p.count) (ho:r.inst=S.own r.id) (hq:1≤r.qty∧r.qty≤S.left r.id∧S.left r.id≤1000000) (hl:r.left=S.left r.id-r.qty) (hs:r.side=1∨r.side=2):
 cO p D S (jD p x r)∧vT S (jD p x r)=⟨upd S.left r.id r.left,S.own⟩∧∀m,0≤m→m<p.months.length→wI (jD p x r) m=vq p r.inst r.side r.qty m:=by
 have hn:stN S r=⟨upd S.left r.id r.left,S.own⟩:=zEg (by omega) (by omega) fun _=>ho
 have hg:StG p D S r:=⟨hd,hi,by omega,by omega,.inr (.inl ⟨hk,hq.1,hs,.inl ⟨ho,hq.2.1,hl⟩⟩)⟩
 rw[jD]
 cases c:(p.legs r.inst).2.2 with
 |false=>
  rw[ySj (by decide)]
  refine⟨⟨hg,trivial⟩,hn,fun m _ _=> ?_⟩
  rw[wI,wI,zHt (p:=p) m hk hs,vq]
  simp only[c,ySz,if_false]
  omega
 |true=>
  obtain⟨l1,l2,l3,l4⟩:=zIa hc hi c
  rw[ySk rfl,zBm]
  have hu:upd S.left r.id r.left r.id=r.left:=by rw[upd,ySk rfl]
  have hc':(p.legs (S.own r.id)).2.2=true:=by rw[← ho];exact c
  have h1:StG p D ⟨upd S.left r.id r.left,S.own⟩ {r with inst:=(p.legs r.inst).1,price:=(qO p r.inst x).1}:=by
   refine⟨hd,by dsimp only;omega,by dsimp only;omega,by dsimp only;omega,.inr (.inl ⟨hk,hq.1,hs,.inr ⟨?_,hc',.inl ?_,hu.symm⟩⟩)⟩
   ·dsimp only;omega
   ·dsimp only;rw[← ho]
  have h2:StG p D ⟨upd S.left r.id r.left,S.own⟩ {r with inst:=(p.legs r.inst).2.1,side:=3-r.side,price:=(qO p r.inst x).2}:=by
   refine⟨hd,by dsimp only;omega,by dsimp only;omega,by dsimp only;omega,.inr (.inl ⟨hk,hq.1,by dsimp only;omega,.inr ⟨?_,hc',.inr ?_,hu.symm⟩⟩)⟩
   ·dsimp only;omega
   ·dsimp only;rw[← ho]
  have n1:stN ⟨upd S.left r.id r.left,S.own⟩ {r with inst:=(p.legs r.inst).1,price:=(qO p r.inst x).1}=⟨upd S.left r.id r.left,S.own⟩:=zTh hk (by dsimp only;omega)
  have n2:stN ⟨upd S.left r.id r.left,S.own⟩ {r with inst:=(p.legs r.inst).2.1,side:=3-r.side,price:=(qO p r.inst x).2}=⟨upd S.left r.id r.left,S.own⟩:=zTh hk (by dsimp only;omega)
  refine⟨⟨hg,?_⟩,?_,fun m m0 m1=> ?_⟩
  ·rw[hn]
   exact⟨h1,by rw[n1];exact⟨h2,trivial⟩⟩
  ·show stN (stN (stN S r) _) _=_
   rw[hn,n1,n2]
  ·rw[wI,wI,wI,wI,zHt (p:=p) m hk hs,zHt (p:=p) m (r:={r with inst:=(p.legs r.inst).1,price:=(qO p r.inst x).1}) hk hs,zHt (p:=p) m (r:={r with inst:=(p.legs r.inst).2.1,side:=3-r.side,price:=(qO p r.inst x).2}) hk (by dsimp only;omega),vq,ySk c,ySj (by omega)]
   dsimp only
   repeat' split
   all_goals omega
structure FitX (D:Int→Prop) (S:Stm) (B:List (List zD)) (id lf inst:Int):Prop where
 rest:∀x,x≠id→S.left x=qB B x
 me:S.left id=lf
 own:∀(k:Nat) (L:List zD),B[k]? =some L→∀o∈L,S.own o.id=k
 mine:S.own id=inst
 no:∀L∈B,∀o∈L,o.id≠id
 d:∀L∈B,∀o∈L,D o.id
 di:D id
theorem FitX.take {D:Int→Prop} {S:Stm} {p:Prd} {B:List (List zD)} {id lf inst:Int} (h:FitX D S B id lf inst) (hB:BWf p B) {k:Nat} {L:List zD} (hL:B[k]? =some L) {o:zD} (ho:o∈L) {x:Int} (hx:1≤x∧x≤o.qty):FitX D ⟨upd S.left o.id (o.qty-x),S.own⟩ (yU B o.id x).1 id lf inst:=by
 have hne:o.id≠id:=h.no L (ySt hL) o ho
 refine⟨fun y hy=> ?_,?_,fun j M hM z hz=> ?_,h.mine,fun M hM z hz=> ?_,fun M hM z hz=> ?_,h.di⟩
 ·rw[z1f hB hL ho hx]
  dsimp only[upd]
  by_cases c:y=o.id
  ·rw[ySk c,ySk c]
  ·rw[ySj c,ySj c];exact h.rest y hy
 ·dsimp only[upd]
  rw[ySj fun e=>hne e.symm];exact h.me
 ·obtain⟨M',h1,h2⟩:=zDf hM
  obtain⟨o',h3,h4⟩:=h2 z hz
  rw[← h4];exact h.own j M' h1 o' h3
 ·obtain⟨j,hj⟩:=yUn.1 hM
  obtain⟨M',h1,h2⟩:=zDf hj
  obtain⟨o',h3,h4⟩:=h2 z hz
  rw[← h4];exact h.no M' (ySt h1) o' h3
 ·obtain⟨j,hj⟩:=yUn.1 hM
  obtain⟨M',h1,h2⟩:=zDf hj
  obtain⟨o',h3,h4⟩:=h2 z hz
  rw[← h4];exact h.d M' (ySt h1) o' h3
theorem zIk {p:Prd} {D:Int→Prop} {k:Nat} {s id lf inst:Int} (hs:s=1∨s=2) (x:kM):∀{os:List zD} {sh:List Int} {B:List (List zD)} {L:List zD} {S:Stm},BWf p B→B[k]? =some L→(∀o∈os,o∈L)→(os.map (·.id)).Nodup→sh.length=os.length→(∀n,0≤sh.getD n 0∧sh.getD n 0≤(os.map (·.qty)).getD n 0)→FitX D S B id lf inst→
 cO p D S ((yM k s os sh).flatMap fun f=>jD p x (fL f))∧FitX D (vT S ((yM k s os sh).flatMap fun f=>jD p x (fL f))) (yY B (yM k s os sh)) id lf inst∧
 ∀m,0≤m→m<p.months.length→wI ((yM k s os sh).flatMap fun f=>jD p x (fL f)) m=vq p k s sh.sum m
 |[],sh,B,L,S,h,hL,ho,hn,hl,hb,hF=>by
  have:sh=[]:=List.length_eq_zero_iff.1 hl
  subst this
  refine⟨trivial,hF,fun m _ _=> ?_⟩
  show 0=vq p k s 0 m
  rw[vq]
  repeat' split
  all_goals omega
 |o::os,[],B,L,S,h,hL,ho,hn,hl,hb,hF=>by cases hl
 |o::os,y::sh,B,L,S,h,hL,ho,hn,hl,hb,hF=>by
  have hy:0≤y∧y≤o.qty:=hb 0
  have hb':∀n,0≤sh.getD n 0∧sh.getD n 0≤(os.map (·.qty)).getD n 0:=fun n=>hb (n+1)
  have hl':sh.length=os.length:=by simpa using hl
  rw[ySs,yUg]at hn
  have ho0:=ho o ySp
  have ho':∀z∈os,z∈L:=fun z hz=>ho z (ySq _ hz)
  rw[yTg,yM]
  by_cases c:0<y
  ·rw[ySk c]
   have hx:1≤y∧y≤o.qty:=by omega
   have hk:=(ySl.1 hL).1
   have hod:=h.od k L hL
   have hoq:=(hod.1 o ho0).q
   have hne:o.id≠id:=hF.no L (ySt hL) o ho0
   have hlf:S.left o.id=o.qty:=by rw[hF.rest _ hne,zEc h hL ho0]
   have hbl:=h.ok.bl
   obtain⟨t1,t2,t3⟩:=z3m h.ok.pc (D:=D) (S:=S) x (r:=⟨3,o.id,k,s,o.price,y,o.qty-y,0⟩) (hF.d L (ySt hL) o ho0) rfl (by dsimp only;omega) (hF.own k L hL o ho0).symm (by dsimp only;omega) (by dsimp only;rw[hlf]) hs
   have hF':=hF.take h hL ho0 hx
   have hW:=h.take o.id y
   have hL':(yU B o.id y).1[k]? =some (yS L o.id y):=by rw[zLy h hL ho0 hx];exact wZ hk
   obtain⟨i1,i2,i3⟩:=zIk (s:=s) hs x (os:=os) (sh:=sh) hW hL' (fun z hz=>yWa.2 ⟨z,ho' z hz,ySj fun(e:z.id=o.id)=>hn.1 (yTk.2 ⟨z,hz,e⟩)⟩) hn.2 hl' hb' hF'
   rw[yUa]
   show cO p D S (jD p x ⟨3,o.id,k,s,o.price,y,o.qty-y,0⟩++_)∧FitX D (vT S (jD p x ⟨3,o.id,k,s,o.price,y,o.qty-y,0⟩++_)) _ id lf inst∧∀m,0≤m→m<p.months.length→wI (jD p x ⟨3,o.id,k,s,o.price,y,o.qty-y,0⟩++_) m=_
   refine⟨dD t1 ?_,?_,fun m m0 m1=> ?_⟩
   ·rw[t2];exact i1
   ·rw[c9,t2];exact i2
   ·rw[aA,t3 m m0 m1,i3 m m0 m1,yJk]
  ·rw[ySj c]
   have:y=0:=by omega
   subst this
   rw[Int.zero_add]
   exact zIk hs x h hL ho' hn.2 hl' hb' hF
theorem zYo {p:Prd} {D:Int→Prop} {B:List (List zD)} (h:BWf p B) {q:Int} {g:List vD} {k:Nat} {s pr:Int} (G:yPp p B q g k s pr) {S:Stm} {id lf inst:Int} (hF:FitX D S B id lf inst) (x:kM):
 cO p D S (g.flatMap fun f=>jD p x (fL f))∧FitX D (vT S (g.flatMap fun f=>jD p x (fL f))) (yY B g) id lf inst∧
 ∀m,0≤m→m<p.months.length→wI (g.flatMap fun f=>jD p x (fL f)) m=vq p k s q m:=by
 obtain⟨L,hL⟩:=z9 G.lt
 have e:=G.eq
 have Sh:=G.sh
 rw[zH hL]at e Sh
 have ho:=h.od k L hL
 have:=zIk (D:=D) (k:=k) G.s12 x (os:=atL L s pr) h hL (fun o ho=>(yTu.1 ho).1) (ho.2.1.sublist (List.Sublist.map _ yVu)) (by rw[Sh.len,ySm]) Sh.bd hF
 rw[Sh.sum,← e]at this
 exact this
theorem yAa {sd:Bool}:zB (!sd)=3-zB sd:=by cases sd<;>rfl
theorem yFc {p:Prd} {D:Int→Prop} {B:List (List zD)} (h:BWf p B) {inst:Int} (hi:0≤inst∧inst<B.length) {sd:Bool} {price q:Int} (hq:1≤q∧q≤1000000) {t:kM} {B':List (List zD)} (e:jF p B inst sd price q=some (t,B')) {c:Cmd} (hci:c.inst=inst) (hcs:c.side=zB sd) {S:Stm} (hF:FitX D S B c.id q inst):
 cO p D S (dZ p c t (q-t.qty))∧FitX D (vT S (dZ p c t (q-t.qty))) B' c.id (q-t.qty) inst∧∀m,0≤m→m<p.months.length→wI (dZ p c t (q-t.qty)) m=0:=by
 have hs:zB (!sd)=1∨zB (!sd)=2:=dQ _
 have hsd:zB sd=1∨zB sd=2:=dQ _
 have hin:=m9 h.ok h.od hi hs
 have hbl:=h.ok.bl
 have htq:=aY hq.1 e
 have key:cO p D S (t.fills.flatMap fun f=>jD p t (fL f))∧FitX D (vT S (t.fills.flatMap fun f=>jD p t (fL f))) B' c.id q inst∧∀m,0≤m→m<p.months.length→wI (t.fills.flatMap fun f=>jD p t (fL f)) m=vq p inst (zB (!sd)) t.qty m:=by
  rw[jF]at e
  dsimp only at e
  split at e
  ·rename_i c0
   have c1:(zW p B inst (zB (!sd))).2.2=true:=by
    cases hx:(zW p B inst (zB (!sd))).2.2 with
    |false=>rw[hx]at c0;cases c0
    |true=>rfl
   obtain⟨hq1,h1,h2⟩:=hin c1
   split at e
   ·rename_i c2
    obtain⟨hall,ok⟩:=h1 c2
    have hv:=yGm h.ok.pc (T:=B.map xF) (by rw[ySm];exact hbl) hs hall t.qty
    generalize (zW p B inst (zB (!sd))).1=n at*
    obtain⟨np,nq,⟨ai,az⟩,⟨bi,bs⟩⟩:=n
    have a:=ok.a
    have b:=ok.b
    have ne:=ok.ne
    rw[ySm]at a b
    dsimp only at a b ne hq1
    obtain⟨ka,rfl⟩:∃k:Nat,ai=k:=⟨ai.toNat,by omega⟩
    obtain⟨kb,rfl⟩:∃k:Nat,bi=k:=⟨bi.toNat,by omega⟩
    obtain⟨La,hLa⟩:=z9 (l:=B) (i:=ka) (by omega)
    obtain⟨Lb,hLb⟩:=z9 (l:=B) (i:=kb) (by omega)
    have e1:=ok.ha
    have e2:=ok.hb
    have e3:=ok.qty
    have sa:az=1∨az=2:=ok.sa
    have bz:bs=1∨bs=2:=ok.sb
    dsimp only at e1 e2 e3 hv
    rw[ySy,lV hLa]at e1 e3
    rw[ySy,lV hLb]at e2 e3
    rw[(uP La sa).1]at e1
    rw[(uP Lb bz).1]at e2
    rw[(uP La sa).2.1,(uP Lb bz).2.1]at e3
    cases e
    dsimp only at htq hv ⊢
    have hl:=gZ h (k:=ka) (j:=kb) (by omega) hLa hLb az (min q nq)
    have hW2:BWf p (yY B (y3 p B ka az (min q nq))):=h.takes
    obtain⟨i1,i2,i3⟩:=zYo h (zQs h hLa sa e1 (q:=min q nq) (by omega)) hF ⟨np,min q nq,true,y3 p B ka az (min q nq)++y3 p (yY B (y3 p B ka az (min q nq))) kb bs (min q nq)⟩
    obtain⟨j1,j2,j3⟩:=zYo hW2 (zQs hW2 hl bz e2 (q:=min q nq) (by omega)) i2 ⟨np,min q nq,true,y3 p B ka az (min q nq)++y3 p (yY B (y3 p B ka az (min q nq))) kb bs (min q nq)⟩
    rw[yUh]
    refine⟨dD i1 j1,by rw[c9];exact j2,fun m m0 m1=> ?_⟩
    rw[aA,i3 m m0 m1,j3 m m0 m1];exact hv m
   ·rename_i c2
    have c2:(zW p B inst (zB (!sd))).2.1=false:=by simpa using c2
    obtain⟨d1,d2,d3⟩:=h2 c2
    obtain⟨k0,rfl⟩:∃k:Nat,inst=k:=⟨inst.toNat,by omega⟩
    obtain⟨L,hL⟩:=z9 (l:=B) (i:=k0) (by omega)
    rw[ySy,zH hL]at d1 d2 d3
    cases e
    dsimp only at htq ⊢
    exact zYo h (zQs h hL hs d1 (q:=min q (zW p B k0 (zB (!sd))).1.qty) (by omega)) hF _
  ·cases e
 obtain⟨k1,k2,k3⟩:=key
 rw[dZ]
 obtain⟨t1,t2,t3⟩:=z3m h.ok.pc (D:=D) (S:=vT S (t.fills.flatMap fun f=>jD p t (fL f))) t (r:=⟨3,c.id,c.inst,c.side,t.price,t.qty,q-t.qty,0⟩) k2.di rfl (by dsimp only;omega) (by dsimp only;rw[k2.mine,hci]) (by dsimp only;rw[k2.me];omega) (by dsimp only;rw[k2.me]) (by dsimp only;omega)
 refine⟨dD k1 t1,?_,fun m m0 m1=> ?_⟩
 ·rw[c9,t2]
  exact⟨fun y hy=>by dsimp only[upd];rw[ySj hy];exact k2.rest y hy,by dsimp only[upd];rw[ySk rfl],k2.own,k2.mine,k2.no,k2.d,k2.di⟩
 ·rw[aA,k3 m m0 m1,t3 m m0 m1]
  dsimp only
  rw[hci,hcs,yAa,z0m p hsd];omega
theorem yDd {p:Prd} {D:Int→Prop} {inst:Int} {sd:Bool} {price:Int} {c:Cmd} (hci:c.inst=inst) (hcs:c.side=zB sd):∀(m:Nat) (q:Int) (B:List (List zD)) (S:Stm),q.toNat≤m→0≤q∧q≤1000000→BWf p B→0≤inst∧inst<B.length→FitX D S B c.id q inst→
 cO p D S (wX p c (xZ p B inst sd price q).steps q)∧FitX D (vT S (wX p c (xZ p B inst sd price q).steps q)) (xZ p B inst sd price q).B c.id (xZ p B inst sd price q).left inst∧∀n,0≤n→n<p.months.length→wI (wX p c (xZ p B inst sd price q).steps q) n=0
 |m,q,B,S,hm,hq0,h,hi,hF=>by
  by_cases hq:q≤0
  ·rw[kU (.inl hq)];exact⟨trivial,hF,fun _ _ _=>rfl⟩
  cases hs:jF p B inst sd price q with
  |none=>rw[kU (.inr hs)];exact⟨trivial,hF,fun _ _ _=>rfl⟩
  |some x=>
   obtain⟨t,C⟩:=x
   have htq:=aY (by omega) hs
   obtain⟨hW,hl⟩:=sY h hs
   obtain⟨i1,i2,i3⟩:=yFc h hi (by omega) hs hci hcs hF
   cases m with
   |zero=>omega
   |succ m=>
   obtain⟨j1,j2,j3⟩:=yDd (price:=price) hci hcs m (q-t.qty) C _ (by omega) (by omega) hW (by rw[hl];exact hi) i2
   rw[cE (by omega) hs]
   dsimp only
   rw[wX]
   refine⟨dD i1 j1,by rw[c9];exact j2,fun n n0 n1=> ?_⟩
   rw[aA,i3 n n0 n1,j3 n n0 n1];rfl
structure Fits (D:Int→Prop) (S:Stm) (B:List (List zD)):Prop where
 lf:∀x,S.left x=qB B x
 own:∀(k:Nat) (L:List zD),B[k]? =some L→∀o∈L,S.own o.id=k
 d:∀L∈B,∀o∈L,D o.id
theorem yGu (B:List (List zD)):zNd B=kT B:=zRf B 0
theorem z3q:∀{B:List (List zD)} {L:List zD},L∈B→L.length≤kT B
 |[],L,h=>by cases h
 |M::B,L,h=>by
  rw[kT,ySs,yTg]
  rcases yTb.1 h with rfl|h
  ·omega
  ·have:=z3q h
   rw[kT]at this;omega
theorem yEm {B:List (List zD)} {id:Int} (h:∀L∈B,∀o∈L,o.id≠id):g7 B id=none:=by
 cases e:g7 B id with
 |none=>rfl
 |some k=>
  obtain⟨L,hL,hh⟩:=xK e
  obtain⟨o,ho,e2⟩:=yTk.1 (hasId_iff.1 hh)
  exact absurd e2 (h L (ySt hL) o ho)
theorem yNh {D:Int→Prop} {S:Stm} {p:Prd} {B:List (List zD)} {id lf inst s price:Int} (h:FitX D S B id lf inst) (hi:0≤inst∧inst<B.length) (hq:1≤lf∧lf≤1000000) (hn:kT B<250) (hp:p.price inst price=0):Fits D S (rF p B inst id s price lf).1:=by
 obtain⟨k,rfl⟩:∃k:Nat,inst=k:=⟨inst.toNat,by omega⟩
 obtain⟨L,hL⟩:=z9 (l:=B) (i:=k) (by omega)
 have hLm:=ySt hL
 have hln:=z3q hLm
 have hh:kE L id=false:=by
  cases e:kE L id with
  |false=>rfl
  |true=>
   obtain⟨o,ho,e2⟩:=yTk.1 (hasId_iff.1 e)
   exact absurd e2 (h.no L hLm o ho)
 have hin:=yEm h.no
 have e:(rF p B k id s price lf).1=B.set k (lE L s id price lf):=by
  rw[rF,ySj (by omega),hin,ySj (show ¬(none:Option Nat).isSome=true by decide),ySj (by rw[zRf];omega),ySj (by rw[hp];decide),ySy,zH hL,rB,ySj (by omega),hh,ySj (by decide),ySj (by omega)]
 have hmem:∀o∈lE L s id price lf,o.id=id∨∃o'∈L,o'.id=o.id:=fun o ho=>by
  rcases yTb.1 ((zCd L s id price lf).mem_iff.1 (yTf (f:=(·.id)) ho))with e|hm
  ·exact .inl e
  ·obtain⟨o',ho',e⟩:=yTk.1 hm
   exact .inr ⟨o',ho',e⟩
 rw[e]
 refine⟨fun x=> ?_,fun j M hM o ho=> ?_,fun M hM o ho=> ?_⟩
 ·rw[zRi hL,yLq]
  by_cases c:id=x
  ·subst c
   rw[ySk rfl,h.me,zHi h.no];omega
  ·rw[ySj c,h.rest x fun e=>c e.symm];omega
 ·rcases vG hM with⟨rfl,rfl⟩|⟨_,hM⟩
  ·rcases hmem o ho with e|⟨o',ho',e⟩
   ·rw[e];exact h.mine
   ·rw[← e];exact h.own _ L hL o' ho'
  ·exact h.own j M hM o ho
 ·rcases yXd hM with hM|rfl
  ·exact h.d M hM o ho
  ·rcases hmem o ho with e|⟨o',ho',e⟩
   ·rw[e];exact h.di
   ·rw[← e];exact h.d L hLm o' ho'
theorem FitX.fits {D:Int→Prop} {S:Stm} {B:List (List zD)} {id inst:Int} (h:FitX D S B id 0 inst):Fits D S B:=by
 refine⟨fun x=> ?_,h.own,h.d⟩
 by_cases c:x=id
 ·subst c;rw[h.me,zHi h.no]
 ·exact h.rest x c
theorem zVs {p:Prd} {inst:Int} {sd:Bool} {price:Int} {q:Int} {B:List (List zD)} (h:BWf p B) (hi:0≤inst∧inst<B.length):kT (xZ p B inst sd price q).B≤kT B:=(z2k _ q B (yTj _) h hi).2.2.2
theorem zTk {p:Prd} {D:Int→Prop} {B:List (List zD)} (h:BWf p B) (U:List Int) {c:Cmd} (hi:0≤c.inst∧c.inst<B.length) (hs:c.side=1∨c.side=2) (hq:1≤c.qty∧c.qty≤1000000) (hp:p.price c.inst c.price=0) (hn:kT B<250) {S:Stm} (hF:Fits D S B) (hno:∀L∈B,∀o∈L,o.id≠c.id) (hd:D c.id):
 cO p D S (wH p B U c).R∧Fits D (vT S (wH p B U c).R) (wH p B U c).B∧∀n,0≤n→n<p.months.length→wI (wH p B U c).R n=0:=by
 have hsd:c.side=zB (decide (c.side=2)):=by rcases hs with e|e<;>rw[e]<;>rfl
 have hbl:=h.ok.bl
 have hF0:FitX D (stN S ⟨1,c.id,c.inst,c.side,c.price,c.qty,c.qty,0⟩) B c.id c.qty c.inst:=by
  rw[stN,ySk rfl]
  dsimp only
  refine⟨fun x hx=> ?_,?_,fun k L hL o ho=> ?_,?_,hno,hF.d,hd⟩
  ·dsimp only[upd];rw[ySj hx];exact hF.lf x
  ·dsimp only[upd];rw[ySk rfl]
  ·dsimp only[upd];rw[ySj (hno L (ySt hL) o ho)];exact hF.own k L hL o ho
  ·dsimp only[upd];rw[ySk rfl]
 have g0:StG p D S ⟨1,c.id,c.inst,c.side,c.price,c.qty,c.qty,0⟩:=⟨hd,by dsimp only;omega,by dsimp only;omega,by dsimp only;omega,.inl ⟨rfl,by dsimp only;rw[hF.lf,zHi hno],hq.1,rfl⟩⟩
 obtain⟨i1,i2,i3⟩:=yDd (price:=c.price) (rfl:c.inst=c.inst) hsd _ c.qty B _ (yTj _) (by omega) h hi hF0
 have hcn:=zVs (sd:=decide (c.side=2)) (price:=c.price) (q:=c.qty) h hi
 obtain⟨hW,hl,hleft⟩:=cI (inst:=c.inst) (sd:=decide (c.side=2)) (price:=c.price) _ c.qty B (yTj _) h
 have hleft:=hleft (by omega)
 rw[wP]
 generalize xZ p B c.inst (decide (c.side=2)) c.price c.qty=R at*
 obtain⟨ts,left,B'⟩:=R
 dsimp only at*
 by_cases cl:left=0
 ·subst cl
  rw[ySj fun x=>x.1 rfl,ySj fun x=>x.1 rfl,yTl]
  exact⟨⟨g0,i1⟩,i2.fits,fun n n0 n1=>by rw[wI,i3 n n0 n1,one,ySj (fun x=>absurd x.1 (by show ¬(1:Int)=3;decide))];rfl⟩
 by_cases ct:c.time=1
 ·rw[ySj (show ¬(left≠0∧c.time≠1)from fun x=>x.2 ct),ySk (show left≠0∧c.time=1 from⟨cl,ct⟩),yTl]
  exact⟨⟨g0,i1⟩,yNh i2 (by omega) (by omega) (by omega) hp,fun n n0 n1=>by rw[wI,i3 n n0 n1,one,ySj (fun x=>absurd x.1 (by show ¬(1:Int)=3;decide))];rfl⟩
 ·rw[ySk (show left≠0∧c.time≠1 from⟨cl,ct⟩),ySj (show ¬(left≠0∧c.time=1)from fun x=>ct x.2)]
  have g2:StG p D (vT (stN S ⟨1,c.id,c.inst,c.side,c.price,c.qty,c.qty,0⟩) (wX p c ts c.qty)) ⟨4,c.id,c.inst,c.side,c.price,left,0,0⟩:=⟨hd,by dsimp only;omega,by dsimp only;omega,by dsimp only;omega,.inr (.inr (.inl ⟨rfl,by dsimp only;omega,by dsimp only;rw[i2.me],rfl⟩))⟩
  have n2:stN (vT (stN S ⟨1,c.id,c.inst,c.side,c.price,c.qty,c.qty,0⟩) (wX p c ts c.qty)) ⟨4,c.id,c.inst,c.side,c.price,left,0,0⟩=⟨upd (vT (stN S ⟨1,c.id,c.inst,c.side,c.price,c.qty,c.qty,0⟩) (wX p c ts c.qty)).left c.id 0,(vT (stN S ⟨1,c.id,c.inst,c.side,c.price,c.qty,c.qty,0⟩) (wX p c ts c.qty)).own⟩:=zEg (by show(4:Int)≠1;decide) (by show(4:Int)≠2;decide) fun h=>absurd (show(4:Int)=3 from h) (by decide)
  refine⟨⟨g0,dD i1 ⟨g2,trivial⟩⟩,?_,fun n n0 n1=> ?_⟩
  ·show Fits D (vT (stN S _) (wX p c ts c.qty++[_])) B'
   rw[c9,zEj,n2]
   refine⟨fun x=> ?_,i2.own,i2.d⟩
   dsimp only[upd]
   by_cases e:x=c.id
   ·rw[ySk e,e,zHi i2.no]
   ·rw[ySj e];exact i2.rest x e
  ·rw[yTy,wI,aA,i3 n n0 n1,wI,wI,one,one,ySj (fun x=>absurd x.1 (by show ¬(1:Int)=3;decide)),ySj (fun x=>absurd x.1 (by show ¬(4:Int)=3;decide))];rfl
theorem Fits.take {D:Int→Prop} {S:Stm} {p:Prd} {B:List (List zD)} (h:Fits D S B) (hB:BWf p B) {k:Nat} {L:List zD} (hL:B[k]? =some L) {o:zD} (ho:o∈L) {x:Int} (hx:1≤x∧x≤o.qty):Fits D ⟨upd S.left o.id (o.qty-x),S.own⟩ (yU B o.id x).1:=by
 refine⟨fun y=> ?_,fun j M hM z hz=> ?_,fun M hM z hz=> ?_⟩
 ·rw[z1f hB hL ho hx]
  dsimp only[upd]
  by_cases c:y=o.id
  ·rw[ySk c,ySk c]
  ·rw[ySj c,ySj c];exact h.lf y
 ·obtain⟨M',h1,h2⟩:=zDf hM
  obtain⟨o',h3,h4⟩:=h2 z hz
  rw[← h4];exact h.own j M' h1 o' h3
 ·obtain⟨j,hj⟩:=yUn.1 hM
  obtain⟨M',h1,h2⟩:=zDf hj
  obtain⟨o',h3,h4⟩:=h2 z hz
  rw[← h4];exact h.d M' (ySt h1) o' h3
theorem zMx {B:List (List zD)} {id:Int} (h:(zI B id).2.2=true):∃(k:Nat) (L:List zD),(zI B id).1=k∧B[k]? =some L∧(zI B id).2.1∈L∧(zI B id).2.1.id=id:=by
 rw[zI]at h ⊢
 split at h
 ·cases h
 ·rename_i k hk
  obtain⟨L,hL,hh⟩:=xK hk
  obtain⟨o,ho,e⟩:=yTk.1 (hasId_iff.1 hh)
  refine⟨k,L,rfl,hL,?_⟩
  dsimp only
  rw[zH hL,fS]
  cases hf:L.find? fun o=>decide (o.id=id)with
  |none=>exact absurd e (by simpa using List.find?_eq_none.1 hf o ho)
  |some y=>exact⟨List.mem_of_find?_eq_some hf,by simpa using List.find?_some hf⟩
theorem z4m {p:Prd} {B:List (List zD)} (h:BWf p B) {k:Nat} {L:List zD} (hL:B[k]? =some L) {o:zD} (ho:o∈L):(∀M∈(yU B o.id o.qty).1,∀y∈M,y.id≠o.id)∧kT (yU B o.id o.qty).1<kT B:=by
 have hod:=h.od k L hL
 have hq:=(hod.1 o ho).q
 have hg:=vX hod.2.1 ho
 have hh:kE L o.id=true:=hasId_iff.2 (yTf (f:=(·.id)) ho)
 have ht:=zDx hod.2.1 hh
 rw[hg]at ht
 rw[zLy h hL ho (by omega),ht]
 refine⟨fun M hM y hy e=> ?_,?_⟩
 ·obtain⟨j,hj⟩:=yUn.1 hM
  rcases vG hj with⟨_,rfl⟩|⟨hne,hj⟩
  ·have:=(yTu.1 hy).2
   rw[e]at this;simp at this
  ·exact hne (zIx h.ub hj hL (e▸yTf (f:=(·.id)) hy) (yTf (f:=(·.id)) ho))
 ·have h1:=zHv (L':=L.filter fun y=> !decide (y.id=o.id)) hL
  have h2:(L.filter fun y=> !decide (y.id=o.id)).length<L.length:=List.length_filter_lt_length_iff_exists.2 ⟨o,ho,by simp⟩
  omega
theorem take_zero {B:List (List zD)} {id x:Int} (hx:x<1):(yU B id x).1=B:=by
 rw[yU]
 split
 ·rfl
 ·rename_i k hk
  obtain⟨L,hL,hh⟩:=xK hk
  dsimp only
  rw[zH hL,xU,ySj (by rw[hh];decide),ySk (.inl hx)]
  exact kK hL
theorem zKl {p:Prd} {i n:Int} (h:p.price i n=0):0≤i∧i<p.count:=by
 rw[Prd.price]at h
 split at h
 ·cases h
 split at h
 ·cases h
 ·omega
theorem zOh {p:Prd} {D:Int→Prop} {B:List (List zD)} (h:BWf p B) (U:List Int) {S:Stm} (hF:Fits D S B) {k:Nat} {L:List zD} (hL:B[k]? =some L) {o:zD} (ho:o∈L):
 cO p D S (jT B U o.id k o).R∧Fits D (vT S (jT B U o.id k o).R) (jT B U o.id k o).B∧∀n,wI (jT B U o.id k o).R n=0:=by
 have hq:=((h.od k L hL).1 o ho).q
 have hk:=(ySl.1 hL).1
 have hbl:=h.ok.bl
 have hlf:S.left o.id=o.qty:=by rw[hF.lf,zEc h hL ho]
 have ht:=hF.take h hL ho (x:=o.qty) (by omega)
 rw[Int.sub_self]at ht
 rw[jT]
 refine⟨⟨⟨hF.d L (ySt hL) o ho,by dsimp only;omega,by dsimp only;omega,by dsimp only;omega,.inr (.inr (.inl ⟨rfl,hq.1,hlf.symm,rfl⟩))⟩,trivial⟩,?_,fun n=> ?_⟩
 ·dsimp only
  rw[zEj,zEg (by show(4:Int)≠1;decide) (by show(4:Int)≠2;decide) fun h=>absurd (show(4:Int)=3 from h) (by decide)]
  exact ht
 ·rw[wI,wI,one,ySj (fun x=>absurd x.1 (by show ¬(4:Int)=3;decide))];rfl
theorem zOo {p:Prd} {D:Int→Prop} {B:List (List zD)} (h:BWf p B) (U:List Int) {S:Stm} (hF:Fits D S B) {k:Nat} {L:List zD} (hL:B[k]? =some L) {o:zD} (ho:o∈L) {q:Int} (hx:0≤q∧q<o.qty):
 cO p D S (hJ B U o.id q k o).R∧Fits D (vT S (hJ B U o.id q k o).R) (hJ B U o.id q k o).B∧∀n,wI (hJ B U o.id q k o).R n=0:=by
 have hq:=((h.od k L hL).1 o ho).q
 have hk:=(ySl.1 hL).1
 have hbl:=h.ok.bl
 have hlf:S.left o.id=o.qty:=by rw[hF.lf,zEc h hL ho]
 rw[hJ]
 refine⟨⟨⟨hF.d L (ySt hL) o ho,by dsimp only;omega,by dsimp only;omega,by dsimp only;omega,.inr (.inr (.inr ⟨rfl,by dsimp only;omega,by dsimp only;omega⟩))⟩,trivial⟩,?_,fun n=> ?_⟩
 ·dsimp only
  rw[zEj,zEg (by show(5:Int)≠1;decide) (by show(5:Int)≠2;decide) fun h=>absurd (show(5:Int)=3 from h) (by decide)]
  dsimp only
  by_cases c:q<1
  ·have e:q=0:=by omega
   subst e
   rw[take_zero (by decide),Int.sub_zero]
   refine⟨fun y=> ?_,hF.own,hF.d⟩
   dsimp only[upd]
   by_cases e:y=o.id
   ·rw[ySk e,e,zEc h hL ho]
   ·rw[ySj e];exact hF.lf y
  ·exact hF.take h hL ho (by omega)
 ·rw[wI,wI,one,ySj (fun x=>absurd x.1 (by show ¬(5:Int)=3;decide))];rfl
theorem yFm (p:Prd) (B:List (List zD)) (inst id s price q:Int):kT (rF p B inst id s price q).1≤kT B+1:=by
 rw[rF]
 repeat' split
 all_goals first|exact Nat.le_succ _|skip
 rename_i c1 _ _ _
 obtain⟨L,hL⟩:=z9 (l:=B) (i:=inst.toNat) (by omega)
 dsimp only
 rw[zH hL]
 have h1:=zHv (L':=(rB L s id price q).1) hL
 have h2:(rB L s id price q).1.length≤L.length+1:=by
  rw[rB]
  repeat' split
  all_goals first|exact Nat.le_succ _|skip
  have:=(zCd L s id price q).length_eq
  rw[ySm,yTc,ySm]at this
  dsimp only;omega
 omega
theorem zNt {p:Prd} {B:List (List zD)} (h:BWf p B) (U:List Int) {c:Cmd} (hi:0≤c.inst∧c.inst<B.length):kT (wH p B U c).B≤kT B+1:=by
 have hcn:=zVs (sd:=decide (c.side=2)) (price:=c.price) (q:=c.qty) h hi
 rw[wP]
 dsimp only
 split
 ·exact yVg (yFm ..) (by omega)
 ·omega
theorem yQg {p:Prd} {D:Int→Prop} {B:List (List zD)} (h:BWf p B) {U:List Int} (hA:Acc B U) {c:Cmd} (hd:D c.id) (hn:kT B≤250) {S:Stm} (hF:Fits D S B):
 (∃w,doF p B U c=⟨B,U,dX c w⟩)∨(kT (doF p B U c).B≤250∧cO p D S (doF p B U c).R∧Fits D (vT S (doF p B U c).R) (doF p B U c).B∧∀n,0≤n→n<p.months.length→wI (doF p B U c).R n=0):=by
 have hbl:=h.ok.bl
 rw[doF]
 split
 ·exact .inl ⟨_,rfl⟩
 rename_i hr
 have hr:c.right=0:=by simpa using hr
 split
 ·rename_i hk
  obtain⟨hs,hq,_⟩:=eR hr hk
  rw[cM]
  split
  ·exact .inl ⟨_,rfl⟩
  rename_i hp
  have hp:p.price c.inst c.price=0:=by simpa using hp
  have hi:=zKl hp
  split
  ·exact .inl ⟨_,rfl⟩
  rename_i hu
  split
  ·exact .inl ⟨_,rfl⟩
  rename_i h250
  rw[yGu]at h250
  split
  ·exact .inl ⟨_,rfl⟩
  split
  ·exact .inl ⟨_,rfl⟩
  have hcn:=zNt h U (c:=c) (by omega)
  exact .inr ⟨by omega,zTk h U (by omega) hs hq hp (by omega) hF (fun L hL o ho e=>hu (e▸hA L hL o ho)) hd⟩
 rename_i hk
 split
 ·exact .inl ⟨_,rfl⟩
 rename_i hf
 obtain⟨k,L,f1,hL,ho,hid⟩:=zMx (by simpa using hf)
 generalize zI B c.id=F at*
 obtain⟨fi,o,fb⟩:=F
 dsimp only at f1 hL ho hid ⊢
 subst f1
 have hq:=((h.od k L hL).1 o ho).q
 have hklt:=(ySl.1 hL).1
 split
 ·rename_i h4
  have hqc:=cY hr hk (by omega)
  rw[vM]
  split
  ·exact .inl ⟨_,rfl⟩
  rename_i hp
  have hp:p.price k c.price=0:=by simpa using hp
  split
  ·rename_i hless
   right
   have:=zOo h U hF hL ho (q:=o.qty-c.qty) (by omega)
   rw[hid]at this
   exact⟨yVg (zIe B c.id (o.qty-c.qty)).1 hn,this.1,this.2.1,fun n _ _=>this.2.2 n⟩
  split
  ·exact .inl ⟨_,rfl⟩
  right
  obtain⟨c1,c2,c3⟩:=zOh h U hF hL ho
  obtain⟨g1,g2⟩:=z4m h hL ho
  rw[hid]at c1 c2 c3 g1 g2
  have hW:BWf p (yU B c.id o.qty).1:=h.take _ _
  have hbl':=hW.ok.bl
  have hcn:=zNt hW U (c:=⟨1,c.id,k,o.side,c.price,c.qty,0,1,[]⟩) (by dsimp only;omega)
  obtain⟨e1,e2,e3⟩:=zTk hW U (c:=⟨1,c.id,k,o.side,c.price,c.qty,0,1,[]⟩) (by dsimp only;omega) ((h.od k L hL).1 o ho).s hqc hp (by omega) c2 g1 hd
  dsimp only
  refine⟨yVg hcn (by omega),dD c1 e1,by rw[c9];exact e2,fun n n0 n1=> ?_⟩
  rw[aA,c3,Int.zero_add];exact e3 n n0 n1
 rename_i h4
 split
 ·right
  have:=zOh h U hF hL ho
  rw[hid]at this
  exact⟨yVg (zIe B c.id o.qty).1 hn,this.1,this.2.1,fun n _ _=>this.2.2 n⟩
 ·rename_i h2
  right
  have hqc:=cY hr hk (by omega)
  have:=zOo h U hF hL ho (q:=c.qty) (by omega)
  rw[hid]at this
  exact⟨yVg (zIe B c.id c.qty).1 hn,this.1,this.2.1,fun n _ _=>this.2.2 n⟩
end Sx
