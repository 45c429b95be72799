/- Texts of ours, one behind the other: a walk that the kernel reckons, and contracts of functions. No condition. -/
import Derived.Test.YtpgpnnncaidcjaaGreatU9
namespace Sx
set_option linter.unusedVariables false
set_option linter.unusedSimpArgs false
set_option maxRecDepth 100000
open Go Cv Go.Proofs
open Go Cv Go.Proofs
theorem mW {inst s:Int} {f:wO}:∀{os:List zD} {sh:List Int},f∈yN inst s os sh→f.side=s∧f.inst=inst∧∃o∈os,f.price=o.price
 |[],sh,h=>by cases h
 |o::os,[],h=>by cases h
 |o::os,k::sh,h=>by
  rw[yN]at h
  split at h
  ·rcases List.mem_cons.1 h with rfl|h
   ·exact⟨rfl,rfl,o,List.mem_cons_self,rfl⟩
   ·obtain⟨a,b,o',c,d⟩:=mW h
    exact⟨a,b,o',List.mem_cons_of_mem _ c,d⟩
  ·obtain⟨a,b,o',c,d⟩:=mW h
   exact⟨a,b,o',List.mem_cons_of_mem _ c,d⟩
def FOk (f:wO):Prop:=(f.side=1∨f.side=2)∧-2000000≤f.price∧f.price≤2000000
theorem l6 {p:Prd} {B:List (List zD)} (h:BOk p B) (inst:Int) {s:Int} (hs:s=1∨s=2) (q:Int):∀f∈xN p B inst s q,FOk f:=by
 intro f hf
 obtain⟨a,_,o,ho,e⟩:=mW hf
 refine⟨by rw[a];exact hs,?_⟩
 rw[e]
 have ho:=(List.mem_filter.1 ho).1
 by_cases hk:inst.toNat<B.length
 ·obtain⟨L,hL⟩:=yA hk
  rw[zI hL]at ho
  exact h.prices hL o ho
 ·rw[List.getD_eq_getElem?_getD,List.getElem?_eq_none (by omega)]at ho;cases ho
def SOk (t:k6):Prop:=(-2000000≤t.price∧t.price≤2000000)∧(∀f∈t.fills,FOk f)∧t.fills.length≤500
theorem yEq {p:Prd} {B:List (List zD)} (h:BWf p B) {inst:Int} (hi:0≤inst∧inst<B.length) {s:Int} (hs:s=1∨s=2) (hn:(zV p B inst s).2.2=true): -2000000≤(zV p B inst s).1.price∧(zV p B inst s).1.price≤2000000:=by
 rw[zV]at hn ⊢
 obtain⟨L,hL⟩:=yA (l:=B) (i:=inst.toNat) (by omega)
 rw[zI hL]at hn ⊢
 split
 ·exact zNy (h.ok.prices hL)
 ·rename_i c
  rw[if_neg c]at hn
  have hm:=zJp hn
  have:=(List.mem_filter.1 hm).2
  exact eW h.ok.pc (of_decide_eq_true this)
theorem yBa {p:Prd} {B:List (List zD)} (h:BWf p B) {inst:Int} (hi:0≤inst∧inst<B.length) {sd:Bool} {price q:Int} {t:k6} {B':List (List zD)} (e:jK p B inst sd price q=some (t,B')):SOk t:=by
 have hs:zA (!sd)=1∨zA (!sd)=2:=fW _
 have hb:=yEq h hi hs
 have hin:=pL h.ok h.od hi hs
 rw[jK]at e
 dsimp only at e
 split at e
 ·rename_i c
  have c1:(zV p B inst (zA (!sd))).2.2=true:=by
   cases hx:(zV p B inst (zA (!sd))).2.2 with
   |false=>rw[hx]at c;cases c
   |true=>rfl
  have hb:=hb c1
  obtain⟨_,hin,_⟩:=hin c1
  split at e
  ·rename_i c2
   obtain⟨_,ok⟩:=hin c2
   cases e
   refine⟨hb,fun f hf=> ?_,?_⟩
   ·rcases List.mem_append.1 hf with hf|hf
    ·exact l6 h.ok _ ok.sa _ f hf
    ·exact l6 h.ok.takes _ ok.sb _ f hf
   ·dsimp only
    rw[List.length_append]
    have:=bV (p:=p) h.od (zV p B inst (zA (!sd))).1.a.inst (zV p B inst (zA (!sd))).1.a.side (min q (zV p B inst (zA (!sd))).1.qty)
    have:=bV (p:=p) (h.takes (fs:=xN p B (zV p B inst (zA (!sd))).1.a.inst (zV p B inst (zA (!sd))).1.a.side (min q (zV p B inst (zA (!sd))).1.qty))).od (zV p B inst (zA (!sd))).1.b.inst (zV p B inst (zA (!sd))).1.b.side (min q (zV p B inst (zA (!sd))).1.qty)
    omega
  ·cases e
   refine⟨hb,fun f hf=>l6 h.ok _ hs _ f hf,?_⟩
   have:=bV (p:=p) h.od inst (zA (!sd)) (min q (zV p B inst (zA (!sd))).1.qty)
   dsimp only
   omega
 ·cases e
open Go Cv Go.Proofs
open Go Cv Go.Proofs
def tQ (a:StI):Prop:=yR a.s.wh=yR a.s.wh∧AObj.fro 1 (iE a.s.p.months)=AObj.fro 1 (iE a.s.p.months)∧AObj.fro 1 (iE a.s.p.settle)=AObj.fro 1 (iE a.s.p.settle)∧True
def zTv (i:StI):Prop:=
 (dQ i)∧∃(a:Bool),∃(b:Int),(aD i b a)∧cnd (!a) (∃(c:Unit),(z6 i.B i.id).fst=0∧(z6 i.B i.id).snd.fst.id=0∧(z6 i.B i.id).snd.fst.side=0∧(z6 i.B i.id).snd.fst.price=0∧(z6 i.B i.id).snd.fst.qty=0∧(z6 i.B i.id).snd.fst.top=false∧(z6 i.B i.id).snd.snd=false∧sb i.s.p.code=sb i.s.p.code∧i.s.p.tick=i.s.p.tick∧i.s.p.low=i.s.p.low∧i.s.p.high=i.s.p.high∧i.s.p.wide=i.s.p.wide∧i.s.p.rule=i.s.p.rule∧i.s.p.top=i.s.p.top∧i.s.p.least=i.s.p.least∧i.s.p.part=i.s.p.part∧AObj.objs 102 Book 6 zQ i.s.books none=AObj.objs 102 Book 6 zQ i.s.books none∧tQ i) ((0≤b∧b<(↑i.s.books.length:Int))∧b.toNat<i.s.books.length∧∃(c:Book),i.s.books[b.toNat]?=some c∧∃(d:FlI),d.id=i.id∧yB d.b=yB c∧d.b.Rep d.L∧∀(e:Unit),True→∃(f:Book),yB d.b=yB f∧b.toNat=b.toNat∧b.toNat<i.s.books.length∧∃(g:Unit),(z6 i.B i.id).fst=b∧(z6 i.B i.id).snd.fst.id=(gE d.L d.id).id∧(z6 i.B i.id).snd.fst.side=(gE d.L d.id).side∧(z6 i.B i.id).snd.fst.price=(gE d.L d.id).price∧(z6 i.B i.id).snd.fst.qty=(gE d.L d.id).qty∧(z6 i.B i.id).snd.fst.top=(gE d.L d.id).top∧(z6 i.B i.id).snd.snd=true∧sb i.s.p.code=sb i.s.p.code∧i.s.p.tick=i.s.p.tick∧i.s.p.low=i.s.p.low∧i.s.p.high=i.s.p.high∧i.s.p.wide=i.s.p.wide∧i.s.p.rule=i.s.p.rule∧i.s.p.top=i.s.p.top∧i.s.p.least=i.s.p.least∧i.s.p.part=i.s.p.part∧AObj.objs 102 Book 6 zQ i.s.books none=AObj.objs 102 Book 6 zQ (i.s.books.set b.toNat f) none∧tQ i)
theorem yDk (hG:GOk Tryz.prog ([(75,bfindC)])) (h:∀(i:StI),sfindC.cnd i→zTv i):sfindC.ok Tryz.prog 41:=okw mixed hG 0 (fun _=>[]) (fun _=>[]) [0] Tryz.func41 h
open Go Cv Go.Proofs
theorem yGy (i:StI) (h:sfindC.cnd i):zTv i:=by
 obtain⟨hR,hB⟩:i.s.Rep i.p i.B∧i.B.length≤1000:=h
 have hat:=hR.at_ i.id
 unfold zTv dQ aD tQ
 rw[z6]
 cases hi:fD i.B i.id with
 |none=>
  rw[hi]at hat
  exact⟨gW _ _,false,0,.inr ⟨by rw[bF,hat];rfl,rfl,rfl⟩,Cv.cnd.mk (fun _=>⟨(),by(repeat'(first|exact trivial|exact rfl|apply And.intro))⟩) (fun e=>absurd e (by decide))⟩
 |some k=>
  rw[hi]at hat
  obtain⟨L,hL,hh⟩:=xW hi
  have hk:=(List.getElem?_eq_some_iff.1 hL).1
  obtain⟨b,hb⟩:=yA (l:=i.s.books) (i:=k) (by rw[hR.bl];exact hk)
  have hbR:=hR.bk k b L hb hL
  have hbl:=hR.bl
  refine⟨gW _ _,true,k,.inl ⟨by rw[bF,hat];rfl,rfl⟩,Cv.cnd.mk (fun e=>absurd e (by decide)) (fun _=> ?_)⟩
  dsimp only
  rw[Int.toNat_natCast,zI hL]
  have hs:=kH hb
  refine⟨⟨by omega,by omega⟩,by omega,b,hb,⟨b,L,i.id,0⟩,rfl,rfl,hbR,fun _ _=>⟨b,rfl,rfl,by omega,(),?_⟩⟩
  rw[hs]
  (repeat'(first|exact trivial|exact rfl|apply And.intro))
theorem z8s:sfindC.ok Tryz.prog 41:=yDk (gokc zPv gok0) yGy
open Go Cv Go.Proofs
theorem zLg (id:Int) (U:List Int):∀p∈zY U,like (Value.int IntKind.i64 id) p.1=true:=by
 intro p hp
 obtain⟨k,_,rfl⟩:=List.mem_map.1 hp
 rfl
theorem zKf (id:Int):∀U:List Int,h8 (Value.int IntKind.i64 id) [D.v (.bool true)] (zY U)=zY (lM U id)
 |[]=>rfl
 |k::U=>by
  have ih:=zKf id U
  have e:mT (Value.int IntKind.i64 id) (Value.int IntKind.i64 k)=decide (id=k):=by simp[mT,keq]
  show(bif mT (Value.int IntKind.i64 id) (Value.int IntKind.i64 k)then(Value.int IntKind.i64 k,[D.v (.bool true)])::zY U else(Value.int IntKind.i64 k,[D.v (.bool true)])::h8 (Value.int IntKind.i64 id) [D.v (.bool true)] (zY U))=_
  rw[e,ih]
  by_cases c:id=k
  ·rw[decide_eq_true c,cond_true,lM,if_pos (by rw[c];exact List.mem_cons_self)];rfl
  ·rw[decide_eq_false c,cond_false,lM,lM]
   have hm:id∈k::U↔id∈U:=by simp[c]
   by_cases d:id∈U
   ·rw[if_pos d,if_pos (hm.2 d)];rfl
   ·rw[if_neg d,if_neg (fun x=>d (hm.1 x))];rfl
theorem zJz (id:Int):∀U:List Int,vK (Value.int IntKind.i64 id) (zY U)=if id∈U then some [D.v (.bool true)]else none
 |[]=>rfl
 |k::U=>by
  have ih:=zJz id U
  have e:mT (Value.int IntKind.i64 id) (Value.int IntKind.i64 k)=decide (id=k):=by simp[mT,keq]
  show(bif mT (Value.int IntKind.i64 id) (Value.int IntKind.i64 k)then some [D.v (.bool true)]else vK (Value.int IntKind.i64 id) (zY U))=_
  rw[e,ih]
  by_cases c:id=k
  ·rw[decide_eq_true c,cond_true,if_pos (by rw[c];exact List.mem_cons_self)]
  ·rw[decide_eq_false c,cond_false]
   have hm:id∈k::U↔id∈U:=by simp[c]
   by_cases d:id∈U
   ·rw[if_pos d,if_pos (hm.2 d)]
   ·rw[if_neg d,if_neg (fun x=>d (hm.1 x))]
theorem z3b (id:Int) (U:List Int):vK (Value.int IntKind.i64 id) (zY U)=some [D.v (.bool (decide (id∈U)))]∧decide (id∈U)=true∨vK (Value.int IntKind.i64 id) (zY U)=none∧[D.v (.bool (decide (id∈U)))]=[D.v (.bool false)]∧decide (id∈U)=false:=by
 rw[zJz]
 by_cases c:id∈U
 ·rw[if_pos c,decide_eq_true c];exact .inl ⟨rfl,rfl⟩
 ·rw[if_neg c,decide_eq_false c];exact .inr ⟨rfl,rfl,rfl⟩
theorem zMl {p:Prd} {inst:Int} {sd:Bool} {price:Int}:∀(m:Nat) (q:Int) (B:List (List zD)),q.toNat≤m→BWf p B→0≤inst∧inst<B.length→
 (∀t∈(qE p B inst sd price q).steps,SOk t∧1≤t.qty)∧((qE p B inst sd price q).steps.map (·.qty)).sum=q-(qE p B inst sd price q).left
 |m,q,B,hm,h,hi=>by
  by_cases hq:q≤0
  ·rw[jB (.inl hq)];exact⟨fun t ht=>(by cases ht),by simp⟩
  cases hs:jK p B inst sd price q with
  |none=>rw[jB (.inr hs)];exact⟨fun t ht=>(by cases ht),by simp⟩
  |some x=>
   obtain⟨t,C⟩:=x
   obtain⟨k1,k2⟩:=zAh h hs
   have hq2:=pF (by omega) hs
   cases m with
   |zero=>omega
   |succ m=>
   obtain⟨i1,i2⟩:=zMl (p:=p) (inst:=inst) (sd:=sd) (price:=price) m (q-t.qty) C (by omega) k1 (by rw[k2];exact hi)
   rw[fL (by omega) hs]
   refine⟨fun u hu=> ?_,?_⟩
   ·rcases List.mem_cons.1 hu with rfl|hu
    ·exact⟨yBa h hi hs,hq2.1⟩
    ·exact i1 u hu
   ·dsimp only
    rw[List.map_cons,List.sum_cons,i2];omega
theorem yFr {α:Type} {f:α→List Rep} (hf:∀x,(f x).length≤3):∀l:List α,(l.flatMap f).length≤3*l.length
 |[]=>Nat.le_refl _
 |x::l=>by
  have:=yFr hf l
  have:=hf x
  rw[List.flatMap_cons,List.length_append,List.length_cons];omega
theorem zJi (p:Prd) (c:Cmd) (x:k6) (left:Int):(bG p c x left).length≤3*x.fills.length+3:=by
 rw[bG,List.length_append]
 have:=yFr (fun f=>zEa p x (eB f)) x.fills
 have:=zEa p x ⟨3,c.id,c.inst,c.side,x.price,x.qty,left,0⟩
 omega
theorem zMx {l:List k6} (h:∀t∈l,SOk t∧1≤t.qty):(l.length:Int)≤(l.map (·.qty)).sum:=by
 induction l with
 |nil=>exact Int.le_refl _
 |cons t l ih=>
  have:=ih fun u hu=>h u (List.mem_cons_of_mem _ hu)
  have:=(h t List.mem_cons_self).2
  rw[List.map_cons,List.sum_cons,List.length_cons];omega
theorem yGw (i:EnI) (h:enterC.cnd i):zVd i:=by
 obtain⟨m,p,B,U,c,X⟩:=i
 have h':(m.Rep p B U∧BOk p B)∧((0≤c.inst∧c.inst<B.length)∧(1≤c.qty∧c.qty≤1000000)∧(c.side=1∨c.side=2))∧p.price c.inst c.price=0∧X=u6 p B U c:=h
 clear h
 obtain⟨⟨⟨ep,hR,eu⟩,hB⟩,⟨⟨h0,h1⟩,hq,hs⟩,hpz,hX⟩:=h'
 subst ep eu hX
 have hwf:=hR.wf hB
 obtain⟨k1,k2,k3⟩:=dR (inst:=c.inst) (sd:=decide (c.side=2)) (price:=c.price) _ c.qty B (Nat.le_refl _) hwf
 have k3:=k3 (by omega)
 obtain⟨s1,s2⟩:=zMl (inst:=c.inst) (sd:=decide (c.side=2)) (price:=c.price) _ c.qty B (Nat.le_refl _) hwf ⟨h0,h1⟩
 have hX:=bW m.p B m.used c
 have hbd:=eW hB.pc hpz
 unfold zVd qS vC wX wV vE wP wR wQ sD
 dsimp only
 rw[zKf,hX]
 refine⟨zLg _ _,⟨m.s,m.p,B,c.inst,decide (c.side=2),c.price,c.qty⟩,rfl,vG hs,rfl,rfl,rfl,⟨hR,hB,⟨h0,h1⟩,hq.1,hq.2⟩,fun o ho=> ?_⟩
 have er:RunI.r ⟨m.s,m.p,B,c.inst,decide (c.side=2),c.price,c.qty⟩=qE m.p B c.inst (decide (c.side=2)) c.price c.qty:=rfl
 rw[er]at ho ⊢
 clear hX er
 generalize qE m.p B c.inst (decide (c.side=2)) c.price c.qty=R at*
 obtain⟨ts,lf,RB⟩:=R
 dsimp only at*
 have hlen:=zMx s1
 have e4:(ts.map jL).length=ts.length:=List.length_map ..
 refine⟨⟨c.qty,0,[⟨1,c.id,c.inst,c.side,c.price,c.qty,c.qty,0⟩]⟩,rfl,rfl,rfl,fun j=>j.k≤ts.length∧j.left=lf+((ts.drop j.k).map (·.qty)).sum∧(⟨1,c.id,c.inst,c.side,c.price,c.qty,c.qty,0⟩::aO m.p c ts c.qty)=j.out++aO m.p c (ts.drop j.k) j.left∧j.out.length≤1+1503*j.k,fun j=>ts.length-j.k,⟨Nat.zero_le _,by dsimp only;rw[List.drop_zero,s2];omega,rfl,Nat.le_refl _⟩,?_⟩
 rintro⟨left,k,out⟩ ⟨j1,j2,j3,j4⟩
 dsimp only at j1 j2 j3 j4 ⊢
 have e5:(out.map x7).length=out.length:=List.length_map ..
 refine zK (fun c1=> ?_) (fun c1=> ?_)
 ·obtain⟨t,ht⟩:=yA (l:=ts) (i:=k) (by omega)
  have hd:ts.drop k=t::ts.drop (k+1):=by rw[List.drop_eq_getElem_cons (by omega),(List.getElem?_eq_some_iff.1 ht).2]
  obtain⟨⟨t1,t2,t3⟩,t4⟩:=s1 t (List.mem_of_getElem? ht)
  have hsd:=zMx (l:=ts.drop (k+1)) fun u hu=>s1 u (List.mem_of_mem_drop hu)
  have hsk:((ts.drop k).map (·.qty)).sum≤(ts.map (·.qty)).sum:=by
   have:=zMx (l:=ts.take k) fun u hu=>s1 u (List.mem_of_mem_take hu)
   have e:(ts.map (·.qty)).sum=((ts.take k).map (·.qty)).sum+((ts.drop k).map (·.qty)).sum:=by
    rw[← List.sum_append,← List.map_append,List.take_append_drop]
   omega
  rw[hd,List.map_cons,List.sum_cons]at j2 hsk
  rw[hd,aO]at j3
  have hrl:=zJi m.p c t (left-t.qty)
  have e6:((bG m.p c t (left-t.qty)).map x7).length=(bG m.p c t (left-t.qty)).length:=List.length_map ..
  have hw:IntKind.i64.wrap (left-t.qty)=left-t.qty:=w64 (by omega)
  refine⟨⟨by omega,by omega⟩,t.price,t.qty,t.implied,t.fills.map yP,elA ht (by simp[jL]) rfl,?_⟩
  rw[hw]
  refine⟨⟨⟨m.p,o,lM m.used c.id⟩,c,t,left-t.qty⟩,rfl,rfl,rfl,rfl,rfl,rfl,rfl,rfl,rfl,rfl,rfl,rfl,rfl,rfl,rfl,rfl,rfl,rfl,rfl,rfl,rfl,rfl,rfl,rfl,rfl,rfl,rfl,⟨⟨hB.pc,hB.ps⟩,⟨by dsimp only;omega,by dsimp only;omega⟩,by dsimp only;omega,hs,fun f hf=>(t2 f hf).1⟩,fun _ _=>⟨by dsimp only;rw[e5,e6];omega,⟨left-t.qty,k+1,out++bG m.p c t (left-t.qty)⟩,rfl,wjn (by omega),by dsimp only;rw[List.map_append],⟨by dsimp only;omega,by dsimp only;omega,by dsimp only;rw[j3,List.append_assoc],by dsimp only;rw[List.length_append];omega⟩,by dsimp only;omega,by(repeat'(first|exact trivial|exact rfl|apply And.intro))⟩⟩
 have hk:k=ts.length:=by omega
 subst hk
 rw[List.drop_of_length_le (Nat.le_refl _)]at j2 j3
 rw[aO,List.append_nil]at j3
 rw[← j3]
 rw[← j3]at e5 j4
 have hRB:=k1.ok
 refine Cv.cnd.mk (fun e=> ?_) (fun e=>Cv.cnd.mk (fun e2=> ?_) (fun e2=> ?_))
 ·have e:lf=0:=by simpa using e
  rw[if_neg (by omega),if_neg (by omega),List.append_nil]
  exact⟨⟨m.p,o,lM m.used c.id⟩,rfl,rfl,rfl,rfl,rfl,rfl,rfl,rfl,rfl,rfl,rfl,rfl,rfl,rfl,rfl,ho,rfl⟩
 ·have e:¬lf=0:=by simpa using e
  have e2:c.time=1:=by simpa using e2
  rw[if_neg (show ¬(lf≠0∧c.time≠1)by omega),if_pos (show lf≠0∧c.time=1 from⟨e,e2⟩),List.append_nil]
  have ha:=(ho.add c.inst c.id (decide (c.side=2)) c.price lf).1
  rw[vG hs]at ha
  exact⟨⟨o,c.inst,c.id,decide (c.side=2),c.price,lf⟩,rfl,rfl,vG hs,rfl,rfl,rfl,ho.fit hRB,fun _ _=>⟨⟨m.p,(MSt.addF ⟨o,c.inst,c.id,decide (c.side=2),c.price,lf⟩).1,lM m.used c.id⟩,rfl,rfl,rfl,rfl,rfl,rfl,rfl,rfl,rfl,rfl,rfl,rfl,rfl,rfl,rfl,ha,rfl⟩⟩
 ·have e:¬lf=0:=by simpa using e
  have e2:¬c.time=1:=by simpa using e2
  rw[if_pos (show lf≠0∧c.time≠1 from⟨e,e2⟩),if_neg (show ¬(lf≠0∧c.time=1)by omega)]
  exact⟨by rw[e5];omega,⟨m.p,o,lM m.used c.id⟩,rfl,rfl,rfl,rfl,rfl,rfl,rfl,rfl,rfl,rfl,rfl,rfl,rfl,by rw[List.map_append];rfl,rfl,ho,rfl⟩
theorem zQo:enterC.ok Tryz.prog 74:=yBn (gokc zTo (gokc z3n (gokc yBe gok0))) yGw
theorem z0s:mcountC.ok Tryz.prog 19:=z3r (gokc zFc gok0) fun i h=>by
 obtain⟨m,p,B,U,id⟩:=i
 have h':m.Rep p B U∧BOk p B:=h
 clear h
 obtain⟨⟨ep,hR,eu⟩,hB⟩:=h'
 subst ep eu
 have:=qG m.p
 have:=hB.bl
 exact⟨⟨m.s,m.p,B,0,false⟩,rfl,⟨hR,by dsimp only;omega⟩,fun _ _=>⟨(),by(repeat'(first|exact trivial|exact rfl|apply And.intro))⟩⟩
theorem zJk:cancelC.ok Tryz.prog 43:=z4b (gokc tX gok0) fun i h=>by
 obtain⟨m,p,B,U,id,q,inst,o,X⟩:=i
 have h':(m.Rep p B U∧BOk p B)∧X=cP B U id inst o:=h
 clear h
 obtain⟨⟨⟨ep,hR,eu⟩,hB⟩,hX⟩:=h'
 subst ep eu hX
 have:=qG m.p
 have:=hB.bl
 exact⟨⟨m.s,m.p,B,id,o.qty⟩,rfl,rfl,rfl,⟨hR,by dsimp only;omega⟩,fun o' ho=>⟨⟨m.p,o',m.used⟩,rfl,rfl,rfl,rfl,rfl,rfl,rfl,rfl,rfl,rfl,rfl,rfl,rfl,rfl,rfl,ho,rfl⟩⟩
theorem zJo:reduceC.ok Tryz.prog 44:=z8m (gokc tX gok0) fun i h=>by
 obtain⟨m,p,B,U,id,q,inst,o,X⟩:=i
 have h':(m.Rep p B U∧BOk p B)∧yQ (o.qty-q)∧X=tZ B U id q inst o:=h
 clear h
 obtain⟨⟨⟨ep,hR,eu⟩,hB⟩,hw,hX⟩:=h'
 subst ep eu hX
 have:=qG m.p
 have:=hB.bl
 have hw:=w64 hw
 unfold zXa
 dsimp only
 rw[hw]
 exact⟨⟨m.s,m.p,B,id,q⟩,rfl,rfl,rfl,⟨hR,by dsimp only;omega⟩,fun o' ho=>⟨⟨m.p,o',m.used⟩,rfl,rfl,rfl,rfl,rfl,rfl,rfl,rfl,rfl,rfl,rfl,rfl,rfl,rfl,rfl,ho,rfl⟩⟩
theorem zKm {c:Cmd} (h:c.right=0):(if c.kind=1 then c.orderE else if c.kind≠2∧wI c.qty=false then 24 else if c.kind=4∧gU c.price=false then 23 else 0)=0:=by
 rw[Cmd.right]at h
 by_cases c1:c.kind<1∨4<c.kind
 ·rw[if_pos c1]at h;cases h
 rw[if_neg c1]at h
 by_cases c2:c.id<1∨1099511627776<c.id
 ·rw[if_pos c2]at h;cases h
 rw[if_neg c2]at h
 exact h
theorem zJj {c:Cmd} (h:c.right=0) (hk:c.kind=1):(c.side=1∨c.side=2)∧(1≤c.qty∧c.qty≤1000000)∧(0≤c.least∧c.least≤c.qty):=by
 have h:=zKm h
 rw[if_pos hk,Cmd.orderE]at h
 by_cases c1:c.side≠1∧c.side≠2
 ·rw[if_pos c1]at h;cases h
 rw[if_neg c1]at h
 by_cases c2:c.time<1∨3<c.time
 ·rw[if_pos c2]at h;cases h
 rw[if_neg c2]at h
 cases c3:wI c.qty with
 |false=>rw[if_pos c3]at h;cases h
 |true=>
  rw[if_neg (by rw[c3];decide)]at h
  by_cases c4:c.least<0∨c.qty<c.least
  ·rw[if_pos c4]at h;cases h
  simp only[wI,Bool.and_eq_true,decide_eq_true_eq]at c3
  exact⟨by omega,c3,by omega⟩
theorem zCa {c:Cmd} (h:c.right=0) (hk:¬c.kind=1) (hk2:¬c.kind=2):1≤c.qty∧c.qty≤1000000:=by
 have h:=zKm h
 rw[if_neg hk]at h
 cases c3:wI c.qty with
 |false=>rw[if_pos ⟨hk2,c3⟩]at h;cases h
 |true=>
  simp only[wI,Bool.and_eq_true,decide_eq_true_eq]at c3
  exact c3
theorem yLg (i:EnI) (h:orderC.cnd i):zVc i:=by
 obtain⟨m,p,B,U,c,X⟩:=i
 have h':(m.Rep p B U∧BOk p B)∧c.right=0∧c.kind=1∧X=mM p B U c:=h
 clear h
 obtain⟨⟨hM,hB⟩,hr,hkd,hX⟩:=h'
 obtain⟨ep,hR,eu⟩:=hM
 subst ep eu
 have hM:m.Rep m.p B m.used:=⟨rfl,hR,rfl⟩
 obtain⟨hs,hq,hl⟩:=zJj hr hkd
 have hbl:=hB.bl
 have hcl:=qG m.p
 unfold zVc qS uZ rN zBf p8 sN zAq zAa zAc zCb vC wX wV vE wP wR wQ aR
 dsimp only
 refine⟨⟨m.p,c.inst,c.price⟩,rfl,rfl,rfl,rfl,rfl,rfl,rfl,rfl,rfl,rfl,rfl,rfl,rfl,hB.ps,fun _ _=>Cv.cnd.mk (fun e=> ?_) (fun e=> ?_)⟩
 ·have e:m.p.price c.inst c.price≠0:=by simpa using e
  have hx:X=⟨B,m.used,aJ c (m.p.price c.inst c.price)⟩:=by rw[hX,mM,if_pos e]
  exact⟨⟨c,m.p.price c.inst c.price⟩,rfl,rfl,rfl,rfl,rfl,rfl,rfl,rfl,rfl,rfl,trivial,fun _ _=>⟨m,rfl,rfl,rfl,rfl,rfl,rfl,rfl,rfl,rfl,rfl,rfl,rfl,rfl,by rw[hx];rfl,by rw[hx];exact hM⟩⟩
 have hpz:m.p.price c.inst c.price=0:=by simpa using e
 have hin:=zQu hpz
 have hib:0≤c.inst∧c.inst<B.length:=by omega
 rw[mM,if_neg (by rw[hpz];decide)]at hX
 refine⟨0,fun l=>l=c.lst,Cv.cnd.mk (fun e=>⟨c.qty,rfl,by rw[Cmd.lst,if_pos (by simpa using e)],by(repeat'(first|exact trivial|exact rfl|apply And.intro))⟩) (fun e=>⟨c.least,rfl,by rw[Cmd.lst,if_neg (by simpa using e)],by(repeat'(first|exact trivial|exact rfl|apply And.intro))⟩),?_⟩
 rintro _ rfl
 refine⟨zLg _ _,_,_,z3b _ _,zK (fun e=> ?_) (fun e=> ?_)⟩
 ·have hx:X=⟨B,m.used,aJ c 25⟩:=by rw[hX,if_pos e]
  exact⟨⟨c,25⟩,rfl,rfl,rfl,rfl,rfl,rfl,rfl,rfl,rfl,rfl,trivial,fun _ _=>⟨m,rfl,rfl,rfl,rfl,rfl,rfl,rfl,rfl,rfl,rfl,rfl,rfl,rfl,by rw[hx];rfl,by rw[hx];exact hM⟩⟩
 rw[if_neg e]at hX
 refine⟨⟨m.s,m.p,B,0,false⟩,rfl,⟨hR,by dsimp only;omega⟩,fun _ _=>zK (fun e=> ?_) (fun e=> ?_)⟩
 ·have hx:X=⟨B,m.used,aJ c 13⟩:=by rw[hX,if_pos (by dsimp only at e;omega)]
  exact⟨⟨c,13⟩,rfl,rfl,rfl,rfl,rfl,rfl,rfl,rfl,rfl,rfl,trivial,fun _ _=>⟨m,rfl,rfl,rfl,rfl,rfl,rfl,rfl,rfl,rfl,rfl,rfl,rfl,rfl,by rw[hx];rfl,by rw[hx];exact hM⟩⟩
 rw[if_neg (by dsimp only at e;omega)]at hX
 have hok:RunI.ok ⟨m.s,m.p,B,c.inst,decide (c.side=2),c.price,c.qty⟩:=⟨hR,hB,hib,hq.1,hq.2⟩
 refine⟨true,fun b=>b=decide (0<c.lst∧c.qty-(qE m.p B c.inst (decide (c.side=2)) c.price c.qty).left<c.lst),zK (fun e=>⟨⟨m.s,m.p,B,c.inst,decide (c.side=2),c.price,c.qty⟩,rfl,vG hs,rfl,rfl,rfl,hok,fun _ _=>⟨_,rfl,decide_eq_decide.2 ⟨fun x=>⟨e,x⟩,fun x=>x.2⟩,by(repeat'(first|exact trivial|exact rfl|apply And.intro))⟩⟩) (fun e=>⟨false,rfl,(decide_eq_false fun x=>e x.1).symm,by(repeat'(first|exact trivial|exact rfl|apply And.intro))⟩),?_⟩
 rintro _ rfl
 refine zK (fun e=> ?_) (fun e=> ?_)
 ·have hx:X=⟨B,m.used,aJ c 28⟩:=by rw[hX,if_pos e]
  exact⟨⟨c,28⟩,rfl,rfl,rfl,rfl,rfl,rfl,rfl,rfl,rfl,rfl,trivial,fun _ _=>⟨m,rfl,rfl,rfl,rfl,rfl,rfl,rfl,rfl,rfl,rfl,rfl,rfl,rfl,by rw[hx];rfl,by rw[hx];exact hM⟩⟩
 rw[if_neg e]at hX
 refine⟨true,fun b=>b=decide (c.time=1∧fP m.p B c.inst (decide (c.side=2)) c.price c.qty=true),Cv.cnd.mk (fun e=>⟨⟨m.s,m.p,B,c.inst,decide (c.side=2),c.price,c.qty⟩,rfl,vG hs,rfl,rfl,rfl,hok,fun _ _=>⟨_,rfl,?_,by(repeat'(first|exact trivial|exact rfl|apply And.intro))⟩⟩) (fun e=>⟨false,rfl,(decide_eq_false fun x=> ?_).symm,by(repeat'(first|exact trivial|exact rfl|apply And.intro))⟩),?_⟩
 ·have e:c.time=1:=by simpa using e
  dsimp only
  cases hb:fP m.p B c.inst (decide (c.side=2)) c.price c.qty with
  |true=>exact(decide_eq_true ⟨e,rfl⟩).symm
  |false=>exact(decide_eq_false fun x=>by cases x.2).symm
 ·rw[x.1]at e;cases e
 rintro _ rfl
 refine zK (fun e=> ?_) (fun e=> ?_)
 ·have hx:X=⟨B,m.used,aJ c 23⟩:=by rw[hX,if_pos e]
  exact⟨⟨c,23⟩,rfl,rfl,rfl,rfl,rfl,rfl,rfl,rfl,rfl,rfl,trivial,fun _ _=>⟨m,rfl,rfl,rfl,rfl,rfl,rfl,rfl,rfl,rfl,rfl,rfl,rfl,rfl,by rw[hx];rfl,by rw[hx];exact hM⟩⟩
 rw[if_neg e]at hX
 exact⟨⟨m,m.p,B,m.used,c,X⟩,rfl,rfl,rfl,rfl,rfl,rfl,rfl,rfl,rfl,rfl,rfl,rfl,rfl,rfl,rfl,rfl,rfl,rfl,rfl,rfl,rfl,rfl,⟨⟨hM,hB⟩,⟨hib,hq,hs⟩,hpz,hX⟩,fun o ho=>⟨o,rfl,rfl,rfl,rfl,rfl,rfl,rfl,rfl,rfl,rfl,rfl,rfl,rfl,rfl,ho⟩⟩
theorem z6w:orderC.ok Tryz.prog 40:=yEe (gokc nP (gokc zUt (gokc zFc (gokc z1s (gokc zSa (gokc zQo gok0)))))) yLg
theorem zZj {p:Prd} {B:List (List zD)} (h:BWf p B) {id inst:Int} {o:zD} (hf:z6 B id=(inst,o,true)):(0≤inst∧inst<B.length)∧zFl o:=by
 rw[z6]at hf
 split at hf
 ·cases hf
 ·rename_i k hk
  obtain⟨L,hL,hh⟩:=xW hk
  rw[zI hL]at hf
  cases hf
  have hlt:=(List.getElem?_eq_some_iff.1 hL).1
  obtain⟨o,ho,e⟩:=List.mem_map.1 (hasId_iff.1 hh)
  have hg:=uB (h.od k L hL).2.1 ho
  rw[e]at hg
  rw[hg]
  exact⟨by omega,(h.od k L hL).1 o ho⟩
theorem zEo (p:Prd) (c:Cmd):∀(l:List k6) (left:Int),(∀t∈l,SOk t∧1≤t.qty)→(aO p c l left).length≤1503*l.length
 |[],_,_=>Nat.le_refl _
 |t::l,left,h=>by
  have a:=zEo p c l (left-t.qty) fun u hu=>h u (List.mem_cons_of_mem _ hu)
  have b:=zJi p c t (left-t.qty)
  have d:=(h t List.mem_cons_self).1.2.2
  rw[aO,List.length_append,List.length_cons];omega
theorem zTq {p:Prd} {B:List (List zD)} (h:BWf p B) (U:List Int) {c:Cmd} (hi:0≤c.inst∧c.inst<B.length) (hq:1≤c.qty∧c.qty≤1000000):(u6 p B U c).R.length≤1503000002:=by
 obtain⟨s1,s2⟩:=zMl (inst:=c.inst) (sd:=decide (c.side=2)) (price:=c.price) _ c.qty B (Nat.le_refl _) h hi
 have k3:=(dR (inst:=c.inst) (sd:=decide (c.side=2)) (price:=c.price) _ c.qty B (Nat.le_refl _) h).2.2 (by omega)
 have:=zMx s1
 have:=zEo p c _ c.qty s1
 rw[bW]
 dsimp only
 rw[List.length_append,List.length_cons]
 split
 ·rw[List.length_cons,List.length_nil];omega
 ·rw[List.length_nil];omega
theorem z4q (i:zUz) (h:replaceC.cnd i):zEt i:=by
 obtain⟨m,p,B,U,c,inst,o,X⟩:=i
 have h':m.Rep p B U∧BOk p B∧z6 B c.id=(inst,o,true)∧(1≤c.qty∧c.qty≤1000000)∧X=fC p B U c inst o:=h
 clear h
 obtain⟨hM,hB,hf,hq,hX⟩:=h'
 obtain⟨ep,hR,eu⟩:=hM
 subst ep eu
 have hM:m.Rep m.p B m.used:=⟨rfl,hR,rfl⟩
 have hwf:=hR.wf hB
 obtain⟨hin,hoo⟩:=zZj hwf hf
 have hos:=hoo.s
 have hoq:=hoo.q
 have hbl:=hB.bl
 have hcl:=qG m.p
 unfold zEt uZ tD qS uP pT aR fU aW
 dsimp only
 refine⟨⟨m.p,inst,c.price⟩,rfl,rfl,rfl,rfl,rfl,rfl,rfl,rfl,rfl,rfl,rfl,rfl,rfl,hB.ps,fun _ _=>Cv.cnd.mk (fun e=> ?_) (fun e=> ?_)⟩
 ·have e:m.p.price inst c.price≠0:=by simpa using e
  have hx:X=⟨B,m.used,aJ c (m.p.price inst c.price)⟩:=by rw[hX,fC,if_pos e]
  exact⟨⟨c,m.p.price inst c.price⟩,rfl,rfl,rfl,rfl,rfl,rfl,rfl,rfl,rfl,rfl,trivial,fun _ _=>⟨m,rfl,rfl,rfl,rfl,rfl,rfl,rfl,rfl,rfl,rfl,rfl,rfl,rfl,by rw[hx];rfl,by rw[hx];exact hM⟩⟩
 have hpz:m.p.price inst c.price=0:=by simpa using e
 rw[fC,if_neg (by rw[hpz];decide)]at hX
 have hw:IntKind.i64.wrap (o.qty-c.qty)=o.qty-c.qty:=w64 (by omega)
 rw[hw]
 refine(fun hT=>Cv.cnd.mk (fun e1=>zK (fun e2=> ?_) (fun e2=>hT fun x=>e2 x.2)) (fun e1=>hT fun x=>by rw[x.1]at e1;simp at e1)) (fun(hn:¬(c.price=o.price∧c.qty≤o.qty))=> ?_)
 ·have e1:c.price=o.price:=by simpa using e1
  rw[if_pos ⟨e1,e2⟩]at hX
  exact⟨⟨m,m.p,B,m.used,c.id,o.qty-c.qty,inst,o,X⟩,rfl,rfl,rfl,rfl,rfl,rfl,rfl,rfl,rfl,rfl,rfl,rfl,rfl,rfl,rfl,rfl,rfl,rfl,rfl,rfl,rfl,⟨⟨hM,hB⟩,⟨by dsimp only;omega,by dsimp only;omega⟩,hX⟩,fun o' ho=>⟨o',rfl,rfl,rfl,rfl,rfl,rfl,rfl,rfl,rfl,rfl,rfl,rfl,rfl,rfl,ho⟩⟩
 rw[if_neg hn]at hX
 have hBt:=hB.take c.id o.qty
 refine⟨m.s,rfl,hR.small hB,fun _ _=>⟨⟨m.s,m.p,B,c.id,o.qty⟩,rfl,rfl,rfl,⟨hR,by dsimp only;omega⟩,fun o' ho'=>⟨⟨o',m.p,(yT B c.id o.qty).1,inst,decide (o.side=2),c.price,c.qty⟩,rfl,vG hos,rfl,rfl,rfl,⟨ho',hBt,by dsimp only;rw[mY];exact hin,hq.1,hq.2⟩,fun _ _=>Cv.cnd.mk (fun e=> ?_) (fun e=> ?_)⟩⟩⟩
 ·have hx:X=⟨B,m.used,aJ c 23⟩:=by rw[hX,if_pos e]
  exact⟨⟨c,23⟩,rfl,rfl,rfl,rfl,rfl,rfl,rfl,rfl,rfl,rfl,trivial,fun _ _=>⟨m,rfl,rfl,rfl,rfl,rfl,rfl,rfl,rfl,rfl,rfl,rfl,rfl,rfl,by rw[hx];rfl,by rw[hx];exact hM⟩⟩
 rw[if_neg (by rw[e];decide)]at hX
 refine⟨⟨m,m.p,B,m.used,c.id,0,inst,o,cP B m.used c.id inst o⟩,rfl,rfl,rfl,rfl,rfl,rfl,rfl,rfl,rfl,rfl,rfl,rfl,rfl,rfl,rfl,rfl,rfl,rfl,rfl,rfl,⟨⟨hM,hB⟩,rfl⟩,fun o1 ho1=>⟨⟨o1,m.p,(yT B c.id o.qty).1,m.used,⟨1,c.id,inst,o.side,c.price,c.qty,0,1,[]⟩,u6 m.p (yT B c.id o.qty).1 m.used ⟨1,c.id,inst,o.side,c.price,c.qty,0,1,[]⟩⟩,rfl,rfl,rfl,rfl,rfl,rfl,rfl,rfl,rfl,rfl,rfl,rfl,rfl,rfl,rfl,rfl,rfl,rfl,rfl,rfl,rfl,rfl,⟨⟨ho1,hBt⟩,⟨by dsimp only;rw[mY];exact hin,hq,hos⟩,hpz,rfl⟩,fun o2 ho2=>⟨?_,o2,rfl,rfl,rfl,rfl,rfl,rfl,rfl,rfl,rfl,rfl,rfl,rfl,rfl,?_,?_⟩⟩⟩
 ·have:=zTq (hwf.take c.id o.qty) m.used (c:=⟨1,c.id,inst,o.side,c.price,c.qty,0,1,[]⟩) (by dsimp only;rw[mY];exact hin) hq
  dsimp only
  rw[List.length_map,List.length_map]
  have e1:(cP B m.used c.id inst o).R.length=1:=rfl
  omega
 ·rw[hX,← List.map_append];rfl
 ·rw[hX];exact ho2
theorem zSv:replaceC.ok Tryz.prog 42:=z1z (gokc nP (gokc zUt (gokc lO (gokc tX (gokc zSa (gokc zJk (gokc zJo (gokc zQo gok0)))))))) z4q
theorem vdo (i:EnI) (h:doC.cnd i):Vdo i:=by
 obtain⟨m,p,B,U,c,X⟩:=i
 have h':(m.Rep p B U∧BOk p B)∧c.label.length≤140737488355328∧yQ c.qty∧X=doF p B U c:=h
 clear h
 obtain⟨⟨hM,hB⟩,hlb,hqr,hX⟩:=h'
 obtain⟨ep,hR,eu⟩:=hM
 subst ep eu
 have hM:m.Rep m.p B m.used:=⟨rfl,hR,rfl⟩
 have hwf:=hR.wf hB
 have hbl:=hB.bl
 have hcl:=qG m.p
 unfold Vdo rN z6p fU zWf zUj zMy
 dsimp only
 refine⟨c,rfl,rfl,rfl,rfl,rfl,rfl,rfl,rfl,rfl,hlb,fun _ _=>Cv.cnd.mk (fun e=> ?_) (fun e=> ?_)⟩
 ·have e:c.right≠0:=by simpa using e
  have hx:X=⟨B,m.used,aJ c c.right⟩:=by rw[hX,doF,if_pos e]
  exact⟨⟨c,c.right⟩,rfl,rfl,rfl,rfl,rfl,rfl,rfl,rfl,rfl,rfl,trivial,fun _ _=>⟨m,rfl,rfl,rfl,rfl,rfl,rfl,rfl,rfl,rfl,rfl,rfl,rfl,rfl,by rw[hx];rfl,by rw[hx];exact hM⟩⟩
 have hr:c.right=0:=by simpa using e
 rw[doF,if_neg (by rw[hr];decide)]at hX
 refine Cv.cnd.mk (fun e=> ?_) (fun e=> ?_)
 ·have e:c.kind=1:=by simpa using e
  rw[if_pos e]at hX
  exact⟨⟨m,m.p,B,m.used,c,X⟩,rfl,rfl,rfl,rfl,rfl,rfl,rfl,rfl,rfl,rfl,rfl,rfl,rfl,rfl,rfl,rfl,rfl,rfl,rfl,rfl,rfl,rfl,⟨⟨hM,hB⟩,hr,e,hX⟩,fun o ho=>⟨o,rfl,rfl,rfl,rfl,rfl,rfl,rfl,rfl,rfl,rfl,rfl,rfl,rfl,rfl,ho⟩⟩
 have hk:¬c.kind=1:=by simpa using e
 rw[if_neg hk]at hX
 refine(fun hT=>⟨hT,rfl,trivial,hT⟩) ?_
 refine⟨⟨m.s,m.p,B,c.id,0⟩,rfl,rfl,⟨hR,by dsimp only;omega⟩,fun _ _=>Cv.cnd.mk (fun e=> ?_) (fun e=> ?_)⟩
 ·have e:(z6 B c.id).2.2=false:=by simpa using e
  have hx:X=⟨B,m.used,aJ c 26⟩:=by rw[hX,if_pos e]
  exact⟨⟨c,26⟩,rfl,rfl,rfl,rfl,rfl,rfl,rfl,rfl,rfl,rfl,trivial,fun _ _=>⟨m,rfl,rfl,rfl,rfl,rfl,rfl,rfl,rfl,rfl,rfl,rfl,rfl,rfl,by rw[hx];rfl,by rw[hx];exact hM⟩⟩
 have e:(z6 B c.id).2.2=true:=by simpa using e
 rw[if_neg (by rw[e];decide)]at hX
 dsimp only
 have hf:z6 B c.id=((z6 B c.id).1,(z6 B c.id).2.1,true):=by rw[← e]
 generalize (z6 B c.id).1=inst at*
 generalize (z6 B c.id).2.1=o at*
 obtain⟨hin,hoo⟩:=zZj hwf hf
 have hoq:=hoo.q
 refine Cv.cnd.mk (fun e4=> ?_) (fun e4=>Cv.cnd.mk (fun e2=> ?_) (fun e2=>zK (fun e3=> ?_) (fun e3=> ?_)))
 ·have e4:c.kind=4:=by simpa using e4
  rw[if_pos e4]at hX
  exact⟨⟨m,m.p,B,m.used,c,inst,o,X⟩,rfl,rfl,rfl,rfl,rfl,rfl,rfl,rfl,rfl,rfl,rfl,rfl,rfl,rfl,rfl,rfl,rfl,rfl,rfl,rfl,rfl,rfl,rfl,rfl,rfl,rfl,rfl,rfl,⟨hM,hB,hf,zCa hr hk (by rw[e4];decide),hX⟩,fun o' ho=>⟨o',rfl,rfl,rfl,rfl,rfl,rfl,rfl,rfl,rfl,rfl,rfl,rfl,rfl,rfl,ho⟩⟩
 all_goals
  have e4:¬c.kind=4:=by simpa using e4
  rw[if_neg e4]at hX
 ·have e2:c.kind=2:=by simpa using e2
  rw[if_pos (.inl e2)]at hX
  exact⟨⟨m,m.p,B,m.used,c.id,0,inst,o,X⟩,rfl,rfl,rfl,rfl,rfl,rfl,rfl,rfl,rfl,rfl,rfl,rfl,rfl,rfl,rfl,rfl,rfl,rfl,rfl,rfl,⟨⟨hM,hB⟩,hX⟩,fun o' ho=>⟨o',rfl,rfl,rfl,rfl,rfl,rfl,rfl,rfl,rfl,rfl,rfl,rfl,rfl,rfl,ho⟩⟩
 ·rw[if_pos (.inr (by omega))]at hX
  exact⟨⟨m,m.p,B,m.used,c.id,0,inst,o,X⟩,rfl,rfl,rfl,rfl,rfl,rfl,rfl,rfl,rfl,rfl,rfl,rfl,rfl,rfl,rfl,rfl,rfl,rfl,rfl,rfl,⟨⟨hM,hB⟩,hX⟩,fun o' ho=>⟨o',rfl,rfl,rfl,rfl,rfl,rfl,rfl,rfl,rfl,rfl,rfl,rfl,rfl,rfl,ho⟩⟩
 ·have e2:¬c.kind=2:=by simpa using e2
  have hq:=zCa hr hk e2
  rw[if_neg (by omega)]at hX
  exact⟨⟨m,m.p,B,m.used,c.id,c.qty,inst,o,X⟩,rfl,rfl,rfl,rfl,rfl,rfl,rfl,rfl,rfl,rfl,rfl,rfl,rfl,rfl,rfl,rfl,rfl,rfl,rfl,rfl,rfl,⟨⟨hM,hB⟩,⟨by dsimp only;omega,by dsimp only;omega⟩,hX⟩,fun o' ho=>⟨o',rfl,rfl,rfl,rfl,rfl,rfl,rfl,rfl,rfl,rfl,rfl,rfl,rfl,rfl,ho⟩⟩
theorem do_ok:doC.ok Tryz.prog 13:=yPf (gokc z3p (gokc zUt (gokc z8s (gokc z6w (gokc zSv (gokc zJk (gokc zJo gok0))))))) vdo
open Go Cv Go.Proofs
def known17C:Con:=con1 Unit (fun _=>[]) (fun _=>[]) (fun _=>True) (fun _=>yO true) (fun _=>[])
def yPs (t:Nat):SAnn:={ι:=Prd,slots:=fun _=>[(t,.nm 0 0)],rows:=fun p=>[.cells [sV p.code,.own 1,zB p.tick,zB p.low,zB p.high,zB p.wide,zB p.rule,zB p.top,zB p.least,zB p.part,.own 2] 29,.fro 1 (iE p.months),.fro 1 (iE p.settle)]}
def AbI.p (i:AbI):Prd:=xC i.x
def AbI.n (i:AbI) (m:Nat):Nat:=min i.l.length m
@[reducible] def AbI.raw (i:AbI):Prop:=i.x.raw∧(∀c∈i.l,c.raw)∧i.l.length≤9223372036854775807
open Go Cv Go.Proofs
def gD (a:EnI):Prop:=(a.m.Rep a.p a.B a.U∧BOk a.p a.B)∧a.c.label.length≤140737488355328∧((-9223372036854775808)≤a.c.qty∧a.c.qty≤9223372036854775807)∧a.X=doF a.p a.B a.U a.c
def vR (a:EnI):=(↑(List.map x7 a.X.R).length:Int)
def zFj (u:Unit):Prop:=
 ∃(a:Int),a=1∧True∧∀(b:Unit),True→∃(c:Prd),sb c.code=sb [(67:UInt8),(76:UInt8)]∧iE c.months=iE [(320:Int),(321:Int),(323:Int)]∧c.tick=5∧c.low=0∧c.high=1000∧c.wide=200∧c.rule=a∧c.top=4∧c.least=2∧c.part=40∧iE c.settle=iE [(500:Int),(505:Int),(490:Int)]∧(xZ c)∧(∀(d:Unit),c.check=0→∃(e:EnI),e.c.kind=1∧e.c.id=1∧e.c.inst=0∧e.c.side=2∧e.c.price=10∧e.c.qty=5∧e.c.least=0∧e.c.time=1∧sb e.c.label=ByteArray.mk #[]∧AObj.adt Mkt 5 yH e.m=AObj.adt Mkt 5 yH (Mkt.mk c (gJ c) [])∧(gD e)∧∀(f:Mkt),f.Rep e.p e.X.B e.X.U→∃(g:EnI),g.c.kind=1∧g.c.id=2∧g.c.inst=0∧g.c.side=1∧g.c.price=15∧g.c.qty=3∧g.c.least=0∧g.c.time=1∧sb g.c.label=ByteArray.mk #[]∧AObj.adt Mkt 5 yH g.m=AObj.adt Mkt 5 yH f∧(gD g)∧∀(h:Mkt),h.Rep g.p g.X.B g.X.U→cnd ((vR e)==1) (((0:Int)≤(0:Int)∧0<(vR e))∧∃(j:Int),zF (List.map x7 e.X.R) (Int.toNat 0) ((0:Nat)+(0:Nat)) 1=some [D.v (.int .i64 j)]∧cnd (j==1) (cnd ((vR g)==3) (((0:Int)≤(1:Int)∧1<(vR g))∧∃(k:Int),∃(l:Int),∃(m:Int),∃(n:Int),∃(p:Int),∃(q:Int),∃(r:Int),∃(s:Int),zF (List.map x7 g.X.R) (Int.toNat 1) 0 8=some [D.v (.int .i64 k),D.v (.int .i64 l),D.v (.int .i64 m),D.v (.int .i64 n),D.v (.int .i64 p),D.v (.int .i64 q),D.v (.int .i64 r),D.v (.int .i64 s)]∧cnd (k==3 && (l==1 && (m==0 && (n==2 && (p==10 && (q==3 && (r==2 && (s==0 && true)))))))) (((0:Int)≤(2:Int)∧2<(vR g))∧∃(t:Int),∃(v:Int),∃(w:Int),∃(x:Int),∃(y:Int),∃(z:Int),∃(a_1:Int),∃(a_2:Int),zF (List.map x7 g.X.R) (Int.toNat 2) 0 8=some [D.v (.int .i64 t),D.v (.int .i64 v),D.v (.int .i64 w),D.v (.int .i64 x),D.v (.int .i64 y),D.v (.int .i64 z),D.v (.int .i64 a_1),D.v (.int .i64 a_2)]∧cnd (t==3 && (v==2 && (w==0 && (x==1 && (y==10 && (z==3 && (a_1==0 && (a_2==0 && true)))))))) (∃(a_3:MfI),AObj.adt Mkt 5 yH a_3.m=AObj.adt Mkt 5 yH h∧(a_3.m.Rep a_3.p a_3.B a_3.U∧BOk a_3.p a_3.B)∧∀(a_4:Unit),True→∃(a_5:Unit),true=((↑(zGc a_3.B):Int)==1)∧True) (∃(a_3:Unit),true=false∧True)) (∃(t:Unit),true=false∧True)) (∃(k:Unit),true=false∧True)) (∃(k:Unit),true=false∧True)) (∃(j:Unit),true=false∧True))∧∀(d:Unit),c.check≠0→∃(e:Unit),true=false∧True
theorem z1m (hG:GOk Tryz.prog ([(11,threeC),(10,newMC),(13,doC),(19,mcountC)])) (h:∀(u:Unit),known17C.cnd u→zFj u):known17C.ok Tryz.prog 15:=okw mixed hG 0 (fun _=>[]) (fun _=>[]) [] Tryz.func15 h
open Go Cv Go.Proofs
theorem z2c {p:Prd} (hc:p.check=0):1≤p.count∧p.count≤21:=by
 have h1:=m9 hc
 have h2:=(qY hc).m2
 have h3:=qG p
 omega
theorem z5f (t:TmI):1≤(qX t).qty∧(qX t).qty≤12:=by
 have:=xO (n:=t.c.qty) (lo:=0) (hi:=11) (by omega)
 have e:(qX t).qty=1+zJ t.c.qty 0 11:=by rw[qX];split<;>rfl
 omega
theorem zSu (t:TmI):(qX t).label=[]:=by
 rw[qX];split<;>rfl
open Go Cv Go.Proofs
theorem yDt (n:Int): -9223372036854775808≤IntKind.i64.wrap n∧IntKind.i64.wrap n≤9223372036854775807:=by
 have:IntKind.i64.wrap n=if 9223372036854775808≤n % 18446744073709551616 then n % 18446744073709551616-18446744073709551616 else n % 18446744073709551616:=by unfold IntKind.wrap;simp[IntKind.signed,IntKind.bits]
 rw[this]
 split<;>omega
theorem tE {α β:Type} {g:α→β} {f:α→α} (h:∀x,g (f x)=g x):∀(l:List α) (i:Nat),(l.modify i f).map g=l.map g
 |[],i=>by simp
 |a::l,0=>by simp[h]
 |a::l,i+1=>by rw[List.modify_succ_cons,List.map_cons,List.map_cons,tE h l i]
theorem zLi:∀(l:List Bool) (i:Nat) (b:Bool),(l.set i b).count true≤l.count true+1
 |[],i,b=>by simp
 |a::l,0,b=>by cases a<;>cases b<;>simp<;>omega
 |a::l,i+1,b=>by
  have:=zLi l i b
  cases a<;>simp[List.count_cons]<;>omega
def Arena.inv (m n:Nat) (a:Arena):Prop:=a.slots.length=250∧(a.slots.map (·.used)).count true≤n∧a.queues.length≤m∧∀q∈a.queues,(q.last= -1∨(0≤q.last∧q.last<250))∧yQ q.count
theorem Arena.inv.mono {m n m' n':Nat} {a:Arena} (h:a.inv m n) (hm:m≤m') (hn:n≤n'):a.inv m' n':=⟨h.1,Nat.le_trans h.2.1 hn,Nat.le_trans h.2.2.1 hm,h.2.2.2⟩
theorem Arena.inv.free {m n:Nat} {a:Arena} (h:a.inv m n) (hn:n<250):∃s∈a.slots,s.used=false:=by
 apply Classical.byContradiction
 intro hx
 have:(a.slots.map (·.used)).count true=(a.slots.map (·.used)).length:=by
  rw[List.count_eq_length]
  intro b hb
  obtain⟨s,hs,rfl⟩:=List.mem_map.1 hb
  cases hu:s.used with
  |true=>rfl
  |false=>exact absurd ⟨s,hs,hu⟩ hx
 rw[List.length_map,h.1]at this
 have:=h.2.1
 omega
theorem Arena.inv.fit {m n:Nat} {a:Arena} (h:a.inv m n) (hn:n<250):a.fit:=by
 refine⟨by rw[h.1];decide,fun _=>h.free hn,fun q hq=> ?_⟩
 rw[h.1]
 exact(h.2.2.2 q hq).1
theorem Arena.inv.top {m n:Nat} {a:Arena} (h:a.inv m n) (k:Int) (t:Bool):(a.topF k t).inv m n:=by
 rw[Arena.topF]
 split
 ·refine⟨by simpa using h.1,?_,h.2.2.1,h.2.2.2⟩
  dsimp only
  rw[tE (g:=fun s:Slot=>s.used) (f:=fun s:Slot=>{s with top:=t}) (fun _=>rfl)]
  exact h.2.1
 ·exact h
theorem Arena.inv.open {m n:Nat} {a:Arena} (h:a.inv m n):a.openQ.inv (m+1) n:=by
 refine⟨h.1,h.2.1,by have:=h.2.2.1;simp[Arena.openQ];omega,fun q hq=> ?_⟩
 rcases List.mem_append.1 hq with hq|hq
 ·exact h.2.2.2 q hq
 ·rw[List.mem_singleton.1 hq];exact⟨.inl rfl,by decide⟩
theorem Arena.inv.push {m n:Nat} {a:Arena} (h:a.inv m n) (hn:n<250) (k id qty:Int) (top:Bool):(a.push k id qty top).1.inv m (n+1):=by
 have h':a.inv m (n+1):=h.mono (Nat.le_refl m) (Nat.le_succ n)
 rw[Arena.push]
 split
 ·exact h'
 split
 ·exact h'
 split
 ·exact h'
 obtain⟨f,hf,hfl⟩:=zRr (h.free hn)
 rw[h.1]at hfl
 have hc:∀x:Slot,((a.slots.set (qT a.slots).toNat x).map (·.used)).count true≤n+1:=by
  intro x
  rw[List.map_set]
  have:=zLi (a.slots.map (·.used)) (qT a.slots).toNat x.used
  have:=h.2.1
  omega
 refine⟨?_,?_,?_,?_⟩
 ·dsimp only[Arena.put]
  split<;>simp[h.1]
 ·dsimp only[Arena.put]
  split
  ·exact hc _
  ·rw[tE (g:=fun s:Slot=>s.used) (f:=fun s:Slot=>{s with back:=qT a.slots}) (fun _=>rfl)];exact hc _
 ·dsimp only[Arena.put];rw[List.length_set];exact h.2.2.1
 ·intro q hq
  rcases List.mem_or_eq_of_mem_set hq with hq|rfl
  ·exact h.2.2.2 q hq
  ·exact⟨.inr (by dsimp only;omega),yDt _⟩
structure Book.Inv (Q:Int→Prop) (n:Nat) (b:Book):Prop where
 a:b.a.inv n n
 l1:b.buys.length≤n
 l2:b.sells.length≤n
 sp:b.spare=[]
 p1:∀r∈b.buys,Q r.price
 p2:∀r∈b.sells,Q r.price
theorem Book.Inv.fit {Q n b} (h:Book.Inv Q n b) (hn:n<250):b.fit:=by
 have:=h.l1
 have:=h.l2
 have:=h.a.2.2.1
 exact⟨h.a.fit hn,by omega,by omega,by omega,by rw[h.sp];decide⟩
theorem Book.Inv.mono {Q n m b} (h:Book.Inv Q n b) (hm:n≤m):b.Inv Q m:=⟨h.a.mono hm hm,Nat.le_trans h.l1 hm,Nat.le_trans h.l2 hm,h.sp,h.p1,h.p2⟩
theorem Book.Inv.untop {Q n b} (h:Book.Inv Q n b) (s:Int):(b.untop s).inv n n:=by
 rw[Book.untop]
 repeat' split
 all_goals first|exact h.a|exact h.a.top _ _
theorem Book.Inv.led {Q n b} (h:Book.Inv Q n b) (id s p:Int):(b.led id s p).Inv Q n:=by
 rw[Book.led]
 split
 ·rw[Book.leadF]
  split
  all_goals exact⟨h.untop s,h.l1,h.l2,h.sp,h.p1,h.p2⟩
 ·exact h
theorem yCo (b:Book) (s p:Int):(b.ins s p).length=(b.rungs s).length+1:=by
 have:=nE s p (b.rungs s)
 simp[Book.ins];omega
theorem zWz {Q:Int→Prop} {b:Book} {s p:Int} (hp:Q p) (h:∀r∈b.rungs s,Q r.price):∀r∈b.ins s p,Q r.price:=by
 intro r hr
 rw[Book.ins]at hr
 rcases List.mem_append.1 hr with hr|hr
 ·exact h r (List.mem_of_mem_take hr)
 ·rcases List.mem_cons.1 hr with rfl|hr
  ·exact hp
  ·exact h r (List.mem_of_mem_drop hr)
theorem Book.Inv.queue {Q n b} (h:Book.Inv Q n b) (s p:Int) (hp:Q p):(b.queueF s p).1.a.inv (n+1) n∧(b.queueF s p).1.buys.length≤n+1∧(b.queueF s p).1.sells.length≤n+1∧(b.queueF s p).1.spare=[]∧(∀r∈(b.queueF s p).1.buys,Q r.price)∧∀r∈(b.queueF s p).1.sells,Q r.price:=by
 have hl1:=h.l1
 have hl2:=h.l2
 have hq:b.newQ=((b.a.queues.length:Int),b.spare,b.a.openQ):=by rw[Book.newQ,if_pos (by rw[h.sp];rfl)]
 have hi:=yCo b s p
 rw[Book.queueF]
 split
 ·exact⟨h.a.mono (Nat.le_succ n) (Nat.le_refl n),by dsimp only;omega,by dsimp only;omega,h.sp,h.p1,h.p2⟩
 split
 ·rename_i e
  subst e
  rw[cX]at hi
  exact⟨by dsimp only;rw[hq];exact h.a.open,by dsimp only;omega,by dsimp only;omega,by dsimp only;rw[hq];exact h.sp,zWz hp h.p1,h.p2⟩
 ·rename_i e
  have er:b.rungs s=b.sells:=by rw[Book.rungs,if_neg e]
  rw[er]at hi
  exact⟨by dsimp only;rw[hq];exact h.a.open,by dsimp only;omega,by dsimp only;omega,by dsimp only;rw[hq];exact h.sp,h.p1,zWz hp (by rw[er];exact h.p2)⟩
theorem Book.Inv.stand {Q n b} (h:Book.Inv Q n b) (hn:n<250) (s id p qty:Int) (hp:Q p):(b.stand s id p qty).Inv Q (n+1):=by
 obtain⟨q1,q2,q3,q4,q5,q6⟩:=(h.led id s p).queue s p hp
 exact⟨q1.push hn _ _ _ _,q2,q3,q4,q5,q6⟩
theorem Book.Inv.add {Q n b} (h:Book.Inv Q n b) (hn:n<250) (s id p qty:Int) (hp:Q p):(b.addF s id p qty).1.Inv Q (n+1):=by
 rw[Book.addF]
 repeat' split
 all_goals first|exact h.mono (Nat.le_succ n)|exact h.stand hn s id p qty hp
structure MSt.Inv (p:Prd) (n:Nat) (s:MSt):Prop where
 e:s.p=p
 l:s.books.length=p.count
 b:∀(k:Nat) (b:Book),s.books[k]? =some b→b.Inv (fun v=>p.price k v=0) n
theorem MSt.Inv.mono {p n m s} (h:MSt.Inv p n s) (hm:n≤m):s.Inv p m:=⟨h.e,h.l,fun k b hb=>(h.b k b hb).mono hm⟩
theorem MSt.Inv.add {p n s} (h:MSt.Inv p n s) (hn:n<250) (inst id:Int) (sd:Bool) (price qty:Int):(MSt.addF ⟨s,inst,id,sd,price,qty⟩).1.Inv p (n+1):=by
 rw[MSt.addF]
 split
 ·exact h.mono (Nat.le_succ n)
 split
 ·exact h.mono (Nat.le_succ n)
 split
 ·exact h.mono (Nat.le_succ n)
 split
 ·exact h.mono (Nat.le_succ n)
 rename_i c1 _ _ c4
 dsimp only at c1 c4 ⊢
 have c4:s.p.price inst price=0:=by simpa using c4
 rw[h.e]at c4
 refine⟨h.e,by simpa using h.l,fun k b hb=> ?_⟩
 dsimp only at hb
 rw[List.getElem?_set]at hb
 split at hb
 ·rename_i e
  split at hb
  ·cases hb
   obtain⟨x,hx⟩:=yA (l:=s.books) (i:=inst.toNat) (by omega)
   have hba:s.bookAt inst=x:=zI hx
   rw[hba]
   have hx':=h.b _ _ hx
   rw[e]at hx'
   exact hx'.add hn _ _ _ _ (by rw[← e,Int.toNat_of_nonneg (by omega)];exact c4)
  ·cases hb
 ·exact(h.b k b hb).mono (Nat.le_succ n)
theorem MSt.Inv.fit {p n s} (h:MSt.Inv p n s) (hp:p.small) (hn:n<250) (hc:p.count≤1000):s.fit:=by
 refine⟨by rw[h.e];exact hp,by have:=h.l;omega,fun b hb=> ?_⟩
 obtain⟨k,hk⟩:=List.mem_iff_getElem?.1 hb
 exact(h.b k b hk).fit hn
theorem MSt.Inv.cnt {p n s} (h:MSt.Inv p n s) (hc:p.count≤1000):s.cntOk:=by
 refine⟨by have:=h.l;omega,fun b hb q hq=> ?_⟩
 obtain⟨k,hk⟩:=List.mem_iff_getElem?.1 hb
 exact((h.b k b hk).a.2.2.2 q hq).2
structure yPv (p:Prd) (k:Nat) (t:Top):Prop where
 a:t.has1=true→p.price k t.p1=0
 b:t.has2=true→p.price k t.p2=0
 c: -2000000≤t.p1∧t.p1≤2000000
 d: -2000000≤t.p2∧t.p2≤2000000
open Go Cv Go.Proofs
def PS (p:Prd) (T:List Top) (n:Nat) (s:Int) (v:Int):Prop:=∃q∈xG ⟨p,T,n⟩ s,q.price=v
@[reducible] def mG (T:List Top):Prop:=∀k s,-2000000≤(T.getD k top0).price s∧(T.getD k top0).price s≤2000000
theorem yDa {x y:Int} (hx: -2000000≤x∧x≤2000000) (hy: -2000000≤y∧y≤2000000):vN x y=(x-y,true):=by
 have:yQ (x-y):=⟨by omega,by omega⟩
 rw[vN,if_pos this]
theorem yAg {x y:Int} (hx: -2000000≤x∧x≤2000000) (hy: -2000000≤y∧y≤2000000):vH x y=(x+y,true):=by
 have:yQ (x+y):=⟨by omega,by omega⟩
 rw[vH,if_pos this]
@[reducible] def mkV (T:List Top) (a b:Leg) (less:Bool):Int:=if less=true then(T.getD b.inst.toNat top0).price b.side-(T.getD a.inst.toNat top0).price a.side else(T.getD a.inst.toNat top0).price a.side+(T.getD b.inst.toNat top0).price b.side
theorem z8a {T:List Top} (h:mG T) (a b:Leg) (less:Bool):mkq T a b less=if((T.getD a.inst.toNat top0).has a.side && (T.getD b.inst.toNat top0).has b.side)=true then[⟨mkV T a b less,min ((T.getD a.inst.toNat top0).qty a.side) ((T.getD b.inst.toNat top0).qty b.side),a,b⟩]else[]:=by
 have h1:=h a.inst.toNat a.side
 have h2:=h b.inst.toNat b.side
 cases less with
 |true=>simp only[mkq,yDa h2 h1,if_true,Bool.and_true];rfl
 |false=>simp only[mkq,yAg h1 h2,Bool.false_eq_true,if_false,Bool.and_true];rfl
theorem zOk {T:List Top} (h:mG T) (a b:Leg) (less:Bool) (q:Quote):q∈mkq T a b less→(T.getD a.inst.toNat top0).has a.side=true∧(T.getD b.inst.toNat top0).has b.side=true∧q.price=mkV T a b less:=by
 rw[z8a h]
 intro hq
 cases c:((T.getD a.inst.toNat top0).has a.side && (T.getD b.inst.toNat top0).has b.side)with
 |true=>
  rw[if_pos c]at hq
  rw[Bool.and_eq_true]at c
  rw[List.mem_singleton.1 hq]
  exact⟨c.1,c.2,rfl⟩
 |false=>rw[if_neg (by rw[c];decide)]at hq;cases hq
theorem zMv {T:List Top} (h:mG T) (a b:Leg) (less:Bool) (ha:(T.getD a.inst.toNat top0).has a.side=true) (hb:(T.getD b.inst.toNat top0).has b.side=true):∃q∈mkq T a b less,q.price=mkV T a b less:=by
 rw[z8a h,if_pos (by rw[ha,hb];rfl)]
 exact⟨_,List.mem_singleton.2 rfl,rfl⟩
theorem yCx:∀n≤6,∀k<n+n*(n-1) / 2,n≤k→∃a<n,∃b<n,a<b∧(z8 n a:Int)+b-a-1=k:=by decide
theorem zJu {p:Prd} (hc:p.check=0) {a b:Nat} (hab:a<b) (hb:b<p.months.length):(p.spread a b).1=(z8 p.months.length a:Int)+b-a-1:=by
 rw[Prd.spread,if_neg (by omega)]
 simp
structure Tri (p:Prd) (a b k:Nat):Prop where
 hab:a<b
 hb:b<p.months.length
 hs:(p.spread a b).1=k
 hk:k<p.count
 hm:p.months.length≤k
 hl:p.legs k=((a:Int),(b:Int),true)
theorem zWg {p:Prd} (hc:p.check=0) {a b:Nat} (hab:a<b) (hb:b<p.months.length):∃k,Tri p a b k:=by
 have m6:=(qY hc).m6
 have e:=zJu hc hab hb
 have l:=zYu hc (a:=a) (b:=b-a-1) (by omega) (by omega)
 have lf:=zSj p.months.length m6 a (by omega) (b-a-1) (by omega)
 refine⟨z8 p.months.length a+(b-a-1),hab,hb,by rw[e];omega,by rw[uT hc];exact lf.2.1,lf.2.2,?_⟩
 rw[l,show a+1+(b-a-1)=b by omega]
theorem yLu {p:Prd} (hc:p.check=0) {k:Nat} (hk:k<p.count) (hm:p.months.length≤k):∃a b,Tri p a b k:=by
 have m6:=(qY hc).m6
 obtain⟨a,ha,b,hb,hab,e⟩:=yCx p.months.length m6 k (by rw[← uT hc];exact hk) hm
 obtain⟨k',t⟩:=zWg hc hab hb
 have:k'=k:=by have:=t.hs;rw[zJu hc hab hb,e]at this;omega
 exact⟨a,b,this▸t⟩
theorem zZg {p:Prd} (hc:p.check=0) {T:List Top} (h:mG T) (hT:T.length=p.count) {a b k:Nat} (t:Tri p a b k) {s:Int} {v:Int}:
 PS p T k s v↔(T.getD a top0).has s=true∧(T.getD b top0).has (3-s)=true∧v=(T.getD a top0).price s-(T.getD b top0).price (3-s):=by
 have hk:=t.hk
 have e:xG ⟨p,T,k⟩ s=(zU ⟨p,T,k⟩ s).map (jO ⟨p,T,k⟩ s):=by
  rw[xG,if_neg (by dsimp only;omega),if_pos (by dsimp only;rw[t.hl])]
 have e2:zU ⟨p,T,k⟩ s=mkq T ⟨b,3-s⟩ ⟨a,s⟩ true:=by
  rw[zU];dsimp only;rw[t.hl]
 rw[PS,e,e2]
 constructor
 ·rintro⟨q,hq,rfl⟩
  obtain⟨q',hq',rfl⟩:=List.mem_map.1 hq
  obtain⟨m1,m2,m3⟩:=zOk h _ _ _ _ hq'
  exact⟨m2,m1,m3⟩
 ·rintro⟨h1,h2,rfl⟩
  obtain⟨q,hq,hp⟩:=zMv h ⟨b,3-s⟩ ⟨a,s⟩ true h2 h1
  exact⟨_,List.mem_map.2 ⟨q,hq,rfl⟩,hp⟩
theorem lZ {p:Prd} (hc:p.check=0) {T:List Top} (h:mG T) (hT:T.length=p.count) {n:Nat} (hn:n<p.months.length) {s:Int} {v:Int}:
 PS p T n s v↔(∃b k,Tri p n b k∧(T.getD k top0).has s=true∧(T.getD b top0).has s=true∧v=(T.getD k top0).price s+(T.getD b top0).price s)∨
  (∃a k,Tri p a n k∧(T.getD k top0).has (3-s)=true∧(T.getD a top0).has s=true∧v=(T.getD a top0).price s-(T.getD k top0).price (3-s)):=by
 have hcg:=m9 hc
 have hls:(p.legs n).2.2=false:=by rw[zPl hc (by omega) (by omega)];exact decide_eq_false (by omega)
 have e:xG ⟨p,T,n⟩ s=x0 ⟨p,T,n⟩ s (p.months.length-(n+1))++xM ⟨p,T,n⟩ s n:=by
  rw[xG,if_neg (by dsimp only;omega),if_neg (by dsimp only;rw[hls];decide)]
  simp
 rw[PS,e]
 have cast:∀j:Nat,(n:Int)+1+j=((n+1+j:Nat):Int):=fun j=>by omega
 constructor
 ·rintro⟨q,hq,rfl⟩
  rcases List.mem_append.1 hq with hq|hq
  ·left
   simp only[x0,List.mem_flatMap,List.mem_range]at hq
   obtain⟨j,hj,hq⟩:=hq
   obtain⟨k,t⟩:=zWg hc (a:=n) (b:=n+1+j) (by omega) (by omega)
   rw[cast,t.hs]at hq
   obtain⟨m1,m2,m3⟩:=zOk h _ _ _ _ hq
   exact⟨_,_,t,m1,m2,m3⟩
  ·right
   simp only[xM,List.mem_flatMap,List.mem_range]at hq
   obtain⟨j,hj,hq⟩:=hq
   obtain⟨k,t⟩:=zWg hc (a:=j) (b:=n) hj hn
   rw[t.hs]at hq
   obtain⟨m1,m2,m3⟩:=zOk h _ _ _ _ hq
   exact⟨_,_,t,m1,m2,m3⟩
 ·rintro(⟨b,k,t,h1,h2,rfl⟩|⟨a,k,t,h1,h2,rfl⟩)
  ·obtain⟨q,hq,hp⟩:=zMv h ⟨k,s⟩ ⟨b,s⟩ false h1 h2
   have hab:=t.hab
   have hb:=t.hb
   refine⟨q,List.mem_append_left _ ?_,hp⟩
   simp only[x0,List.mem_flatMap,List.mem_range]
   refine⟨b-(n+1),by omega,?_⟩
   rw[cast,show n+1+(b-(n+1))=b by omega,t.hs]
   exact hq
  ·obtain⟨q,hq,hp⟩:=zMv h ⟨k,3-s⟩ ⟨a,s⟩ true h1 h2
   refine⟨q,List.mem_append_right _ ?_,hp⟩
   simp only[xM,List.mem_flatMap,List.mem_range]
   refine⟨a,t.hab,?_⟩
   rw[t.hs]
   exact hq
theorem yNj (t:Top):t.has 1=t.has1:=rfl
theorem fZ (t:Top):t.price 1=t.p1:=rfl
theorem cS (t:Top):t.price 2=t.p2:=rfl
open Go Cv Go.Proofs
theorem yPh {l:List Cmd} {k:Nat} {c:Cmd} (h:l[k]? =some c):zF (l.map cmdE) k 0 9=some [D.v (.int .i64 c.kind),.v (.int .i64 c.id),.v (.int .i64 c.inst),.v (.int .i64 c.side),.v (.int .i64 c.price),.v (.int .i64 c.qty),.v (.int .i64 c.least),.v (.int .i64 c.time),.v (.string (sb c.label))]:=elA h (by simp[cmdE]) rfl
def mk0 (p:Prd):Mkt:=⟨p,gJ p,[]⟩
theorem zXf (p:Prd):(mk0 p).Rep p (List.replicate p.count []) []:=⟨rfl,zTn _,rfl⟩
theorem mdo {m:Mkt} {p:Prd} {B:List (List zD)} {U:List Int} (h:m.Rep p B U) (hB:BOk p B) (c:Cmd):BOk p (doF p B U c).B:=yHu (by have:=h.s;exact this.wf hB) U c
def kc1:Cmd:=⟨1,1,0,2,10,5,0,1,[]⟩
def kc2:Cmd:=⟨1,2,0,1,15,3,0,1,[]⟩
def kX1:MkX:=doF (cA 1) (List.replicate (cA 1).count []) [] kc1
def kX2:MkX:=doF (cA 1) kX1.B kX1.U kc2
theorem kR1:kX1.R=[⟨1,1,0,2,10,5,5,0⟩]:=by kernel_rfl
theorem kR2:kX2.R=[⟨1,2,0,1,15,3,3,0⟩,⟨3,1,0,2,10,3,2,0⟩,⟨3,2,0,1,10,3,0,0⟩]:=by kernel_rfl
theorem kN2:zGc kX2.B=1:=by kernel_rfl
theorem z3c (u:Unit) (h:known17C.cnd u):zFj u:=by
 have hc:(cA 1).check=0:=by decide+kernel
 have hp:(cA 1).small:=by refine⟨?_,?_,?_⟩<;>decide
 have hB0:=BOk.new hc hp
 have hM0:=zXf (cA 1)
 have hB1:BOk (cA 1) kX1.B:=mdo hM0 hB0 kc1
 unfold zFj vR gD xZ
 refine⟨1,rfl,trivial,fun _ _=>⟨cA 1,rfl,rfl,rfl,rfl,rfl,rfl,rfl,rfl,rfl,rfl,rfl,hp,fun _ _=>⟨⟨mk0 (cA 1),cA 1,List.replicate (cA 1).count [],[],kc1,kX1⟩,rfl,rfl,rfl,rfl,rfl,rfl,rfl,rfl,rfl,rfl,⟨⟨hM0,hB0⟩,by decide,by decide,by dsimp only;rw[kX1]⟩,fun o1 ho1=> ?_⟩,fun _ hx=>absurd hc hx⟩⟩
 have hB2:BOk (cA 1) kX2.B:=mdo ho1 hB1 kc2
 refine⟨⟨o1,cA 1,kX1.B,kX1.U,kc2,kX2⟩,rfl,rfl,rfl,rfl,rfl,rfl,rfl,rfl,rfl,rfl,⟨⟨ho1,hB1⟩,Nat.zero_le _,(by decide:yQ 3),by dsimp only;rw[kX2]⟩,fun o2 ho2=> ?_⟩
 dsimp only at ho2 ⊢
 rw[kR1,kR2]
 refine Cv.cnd.mk (fun _=>⟨⟨by decide,by decide⟩,_,rfl,Cv.cnd.mk (fun _=>Cv.cnd.mk (fun _=>⟨⟨by decide,by decide⟩,_,_,_,_,_,_,_,_,rfl,Cv.cnd.mk (fun _=>⟨⟨by decide,by decide⟩,_,_,_,_,_,_,_,_,rfl,Cv.cnd.mk (fun _=>⟨⟨o2,cA 1,kX2.B,kX2.U,0⟩,rfl,⟨ho2,hB2⟩,fun _ _=>⟨(),?_,trivial⟩⟩) (fun e=>absurd e (by decide))⟩) (fun e=>absurd e (by decide))⟩) (fun e=>absurd e (by decide))) (fun e=>absurd e (by decide))⟩) (fun e=>absurd e (by decide))
 dsimp only
 rw[kN2];rfl
theorem known17_ok:known17C.ok Tryz.prog 15:=z1m (gokc z9p (gokc newM_ok (gokc do_ok (gokc z0s gok0)))) z3c
open Go Cv Go.Proofs
structure yPa (p:Prd) (B:List (List zD)) (q:Int) (g:List wO) (k:Nat) (s pr:Int):Prop where
 lt:k<B.length
 s12:s=1∨s=2
 eq:g=yN k s (atL (B.getD k []) s pr) (qM ⟨p,atL (B.getD k []) s pr,q⟩)
 sh:zGn ((atL (B.getD k []) s pr).map (·.qty)) (qM ⟨p,atL (B.getD k []) s pr,q⟩) q
 ne:g≠[]
theorem zLm {inst s:Int}:∀{os:List zD} {sh:List Int},sh.length=os.length→yN inst s os sh=[]→(∀n,0≤sh.getD n 0)→sh.sum=0
 |[],[],_,_,_=>rfl
 |[],_::_,h,_,_=>by cases h
 |_::_,[],h,_,_=>by cases h
 |o::os,x::sh,h,h2,h3=>by
  rw[yN]at h2
  split at h2
  ·cases h2
  ·have:=zLm (os:=os) (sh:=sh) (by simpa using h) h2 fun n=>h3 (n+1)
   have h0:0≤x:=h3 0
   rw[List.sum_cons];omega
theorem yFw {p:Prd} {B:List (List zD)} (h:BWf p B) {k:Nat} {L:List zD} (hL:B[k]? =some L) {s:Int} (hs:s=1∨s=2) {q:Int} (hb:(bestL L s).2=true) (hq:1≤q∧q≤(bestL L s).1.qty):
 yPa p B q (xN p B k s q) k s (bestL L s).1.price:=by
 have ho:=h.od k L hL
 have hsr:=h.srt k L hL s hs
 have hlv:zAz B k s=atL L s (bestL L s).1.price:=by rw[zAz,Int.toNat_natCast,zI hL]
 obtain⟨v,vs,hl⟩:∃v vs,jR L s=v::vs:=by
  cases e:jR L s with
  |nil=>rw[bestL,e]at hb;cases hb
  |cons v vs=>exact⟨v,vs,rfl⟩
 have hv:(bestL L s).1=v:=by rw[bestL,hl]
 rw[hv]at hq hlv ⊢
 have hgs:=zBv hsr (v:=v) (vs:=vs) (by rw[← hl];rfl)
 have hat:atL L s v.price=(kM L s).filter fun o=>decide (o.price=v.price):=z3o L s v.price
 have hvq:v.qty=((atL L s v.price).map (·.qty)).sum:=by
  have:=congrArg Lv.qty hgs.1
  rw[hat];exact this
 have hr:yM ((atL L s v.price).map (·.qty)) q=true:=by
  refine zUr ?_ (by omega) (fun x hx=> ?_) (by omega)
  ·rw[List.length_map];exact Nat.le_trans (List.length_filter_le _ _) ho.2.2
  ·obtain⟨o,hm,rfl⟩:=List.mem_map.1 hx
   exact(ho.1 o (List.mem_filter.1 hm).1).q
 have hS:=eM h.ok.pc hr
 have e:xN p B k s q=yN k s (atL (B.getD k []) s v.price) (qM ⟨p,atL (B.getD k []) s v.price,q⟩):=by
  rw[xN,hlv,zI hL]
 refine⟨(List.getElem?_eq_some_iff.1 hL).1,hs,e,by rw[zI hL];exact hS,fun e2=> ?_⟩
 rw[e,zI hL]at e2
 have:=zLm (by rw[hS.len,List.length_map]) e2 fun n=>(hS.bd n).1
 have:=hS.sum
 omega
theorem zDb {j:Nat} {L:List zD}:∀{fs:List wO} {B:List (List zD)},B[j]? =some L→(∀f∈fs,kQ L f.id=false)→(xF B fs)[j]? =some L
 |[],B,h,_=>h
 |f::fs,B,h,hf=>by
  refine zDb (fs:=fs) (B:=(yT B f.id f.qty).1) ?_ fun g hg=>hf g (List.mem_cons_of_mem _ hg)
  rw[yT]
  split
  ·exact h
  ·rename_i k hk
   dsimp only
   have hne:k≠j:=by
    rintro rfl
    obtain⟨L',hL',hh⟩:=xW hk
    rw[h]at hL'
    cases hL'
    rw[hf f List.mem_cons_self]at hh
    cases hh
   rw[List.getElem?_set_ne hne];exact h
theorem sZ {inst s:Int} {f:wO}:∀{os:List zD} {sh:List Int},f∈yN inst s os sh→∃o∈os,f.id=o.id
 |[],sh,h=>by cases h
 |o::os,[],h=>by cases h
 |o::os,k::sh,h=>by
  rw[yN]at h
  split at h
  ·rcases List.mem_cons.1 h with rfl|h
   ·exact⟨o,List.mem_cons_self,rfl⟩
   ·obtain⟨o',c,d⟩:=sZ h
    exact⟨o',List.mem_cons_of_mem _ c,d⟩
  ·obtain⟨o',c,d⟩:=sZ h
   exact⟨o',List.mem_cons_of_mem _ c,d⟩
theorem fG {p:Prd} {B:List (List zD)} (h:BWf p B) {k j:Nat} (hne:k≠j) {L L':List zD} (hL:B[k]? =some L) (hL':B[j]? =some L') (s q:Int):(xF B (xN p B k s q))[j]? =some L':=by
 refine zDb hL' fun f hf=> ?_
 obtain⟨o,ho,e⟩:=sZ hf
 have ho:=(List.mem_filter.1 ho).1
 rw[Int.toNat_natCast,zI hL]at ho
 cases hh:kQ L' f.id with
 |false=>rfl
 |true=>
  have a:=h.inst hL' (hasId_iff.1 hh)
  have b:=h.inst hL (id:=f.id) (by rw[e];exact List.mem_map.2 ⟨o,ho,rfl⟩)
  rw[a]at b
  cases b
  exact absurd rfl hne
open Go Cv Go.Proofs
def lpq (l:List Lv):List (Int×Int):=l.map fun v=>(v.price,v.qty)
def zDi (l:List (Int×Int)) (x:Int):List (Int×Int):=match l with
 |[]=>[]
 |(p,q)::l=>if q≤x then l else(p,q-x)::l
theorem eO {A:List zD} {id x:Int} (h:∀o∈A,o.id≠id):yL A id x=A:=by
 rw[yL]
 induction A with
 |nil=>rfl
 |cons a A ih=>
  rw[List.filterMap_cons,if_neg (h a List.mem_cons_self)]
  simp only
  rw[ih fun o ho=>h o (List.mem_cons_of_mem _ ho)]
theorem zRm {id x:Int}:∀{A:List zD} {o:zD},(A.map (·.id)).Nodup→o∈A→o.id=id→((yL A id x).map (·.qty)).sum=(A.map (·.qty)).sum-x
 |a::A,o,hn,ho,e=>by
  rw[List.map_cons,List.nodup_cons]at hn
  rw[yL,List.filterMap_cons]
  by_cases h:a.id=id
  ·have hno:∀y∈A,y.id≠id:=by
    intro y hy e2
    exact hn.1 (by rw[h,← e2];exact List.mem_map.2 ⟨y,hy,rfl⟩)
   have ht:A.filterMap (fun o=>if o.id=id then if o.qty=x then none else some {o with qty:=o.qty-x}else some o)=A:=eO hno
   rw[if_pos h]
   by_cases h2:a.qty=x
   ·rw[if_pos h2]
    simp only
    rw[ht,List.map_cons,List.sum_cons];omega
   ·rw[if_neg h2]
    simp only
    rw[ht,List.map_cons,List.map_cons,List.sum_cons,List.sum_cons]
    simp only
    omega
  ·rw[if_neg h]
   simp only
   have ho:o∈A:=by
    rcases List.mem_cons.1 ho with rfl|ho
    ·exact absurd e h
    ·exact ho
   have:=zRm (x:=x) hn.2 ho e
   rw[yL]at this
   rw[List.map_cons,List.map_cons,List.sum_cons,List.sum_cons,this];omega
theorem zTj (L:List zD) (id q pr:Int):(yL L id q).filter (fun o=>decide (o.price=pr))=yL (L.filter fun o=>decide (o.price=pr)) id q:=by
 rw[yL,yL,List.filter_filterMap,List.filterMap_filter]
 refine wS fun o _=> ?_
 by_cases e1:o.id=id
 ·rw[if_pos e1]
  by_cases e2:o.qty=q
  ·rw[if_pos e2];simp
  ·rw[if_neg e2];by_cases e3:o.price=pr<;>simp[Option.filter,e3]
 ·rw[if_neg e1];by_cases e3:o.price=pr<;>simp[Option.filter,e3]
theorem zRf (L:List zD) (id q pr:Int):(yL L id q).filter (fun o=> !decide (o.price=pr))=yL (L.filter fun o=> !decide (o.price=pr)) id q:=by
 rw[yL,yL,List.filter_filterMap,List.filterMap_filter]
 refine wS fun o _=> ?_
 by_cases e1:o.id=id
 ·rw[if_pos e1]
  by_cases e2:o.qty=q
  ·rw[if_pos e2];simp
  ·rw[if_neg e2];by_cases e3:o.price=pr<;>simp[Option.filter,e3]
 ·rw[if_neg e1];by_cases e3:o.price=pr<;>simp[Option.filter,e3]
theorem z4t {A:List zD} {id x:Int} {y:zD} (h:y∈yL A id x):∃z∈A,y.price=z.price:=by
 obtain⟨z,hz,e⟩:=List.mem_filterMap.1 h
 refine⟨z,hz,?_⟩
 split at e
 ·split at e
  ·cases e
  ·cases e;rfl
 ·cases e;rfl
theorem z3v {A:List zD} (h:A≠[]):∃v vs,grp A=v::vs:=by
 cases A with
 |nil=>exact absurd rfl h
 |cons a A=>
  rw[grp]
  split
  ·exact⟨_,_,rfl⟩
  ·split<;>exact⟨_,_,rfl⟩
theorem zFt:∀{l:List Int} {a:Int},(∀q∈l,0≤q)→a∈l→a≤l.sum
 |b::l,a,h,ha=>by
  rw[List.sum_cons]
  have h1:=h b List.mem_cons_self
  have h2:=zFs fun q hq=>h q (List.mem_cons_of_mem _ hq)
  rcases List.mem_cons.1 ha with rfl|ha
  ·omega
  ·have:=zFt (fun q hq=>h q (List.mem_cons_of_mem _ hq)) ha
   omega
theorem z7t {s:Int} {F:List zD} (hs:eD s F) (hn:(F.map (·.id)).Nodup) {o:zD} (ho:o∈F) {v:Lv} {vs:List Lv} (hg:grp F=v::vs) (hp:o.price=v.price) {x:Int} (hq:∀y∈yL F o.id x,1≤y.qty) (hs2:eD s (yL F o.id x)):
 lpq (grp (yL F o.id x))=zDi (lpq (grp F)) x:=by
 obtain⟨a1,a2,a3⟩:=zBv hs hg
 have hol:o∈F.filter fun o=>decide (o.price=v.price):=List.mem_filter.2 ⟨ho,by simpa using hp⟩
 have hsum:=zRm (x:=x) (hn.sublist (List.Sublist.map _ (List.filter_sublist (p:=fun o=>decide (o.price=v.price)) (l:=F)))) hol rfl
 have hv:v.qty=((F.filter fun o=>decide (o.price=v.price)).map (·.qty)).sum:=congrArg Lv.qty a1
 have hout:yL (F.filter fun o=> !decide (o.price=v.price)) o.id x=F.filter fun o=> !decide (o.price=v.price):=by
  refine eO fun y hy e=> ?_
  obtain⟨y1,y2⟩:=List.mem_filter.1 hy
  have h1:=uB hn y1
  have h2:=uB hn ho
  rw[e,h2]at h1
  rw[← h1]at y2
  simp[hp]at y2
 rw[hg]
 have hd:zDi (lpq (v::vs)) x=if v.qty≤x then lpq vs else(v.price,v.qty-x)::lpq vs:=rfl
 rw[hd]
 rw[← zTj,← hv]at hsum
 rw[← zRf]at hout
 have hmem:∀y∈yL F o.id x,∃z∈F,y.price=z.price:=fun y hy=>z4t hy
 generalize yL F o.id x=F' at*
 by_cases hE:F'.filter (fun o=>decide (o.price=v.price))=[]
 ·rw[hE]at hsum
  have hsum:(0:Int)=v.qty-x:=hsum
  rw[if_pos (by omega),a2,← hout]
  congr 2
  symm
  rw[List.filter_eq_self]
  intro y hy
  have:=List.filter_eq_nil_iff.1 hE y hy
  simpa using this
 ·obtain⟨y,hy⟩:=List.exists_mem_of_ne_nil _ hE
  obtain⟨y1,y2⟩:=List.mem_filter.1 hy
  have y2:y.price=v.price:=by simpa using y2
  obtain⟨v',vs',hg'⟩:=z3v (A:=F') (by rintro rfl;cases y1)
  obtain⟨b1,b2,b3⟩:=zBv hs2 hg'
  obtain⟨w,wr,hw,hwp⟩:=pA hg'
  have e1:=b3 y y1
  obtain⟨z,hz,hzp⟩:=hmem w (by rw[hw];exact List.mem_cons_self)
  have e2:=a3 z hz
  rw[← hzp,hwp]at e2
  rw[y2]at e1
  have ep:v'.price=v.price:=z7g e1 e2
  have hv':v'.qty=((F'.filter fun o=>decide (o.price=v'.price)).map (·.qty)).sum:=congrArg Lv.qty b1
  rw[ep,hsum]at hv'
  have hpos:1≤v.qty-x:=by
   rw[← hsum]
   have hyq:=hq y y1
   have h0:∀q∈(F'.filter fun o=>decide (o.price=v.price)).map (·.qty),0≤q:=by
    intro q hq2
    obtain⟨u,hu,rfl⟩:=List.mem_map.1 hq2
    have:=hq u (List.mem_filter.1 hu).1
    omega
   have:=zFt h0 (List.mem_map.2 ⟨y,hy,rfl⟩)
   omega
  rw[if_neg (by omega),hg',b2,ep,hout,← a2]
  show(v'.price,v'.qty)::lpq vs=_
  rw[ep,hv']
open Go Cv Go.Proofs
theorem z3x {L:List zD} {s pr Q:Int} {rest:List (Int×Int)} (h:lpq (jR L s)=(pr,Q)::rest):∃v vs,jR L s=v::vs∧v.price=pr∧v.qty=Q∧lpq vs=rest:=by
 cases e:jR L s with
 |nil=>rw[e]at h;cases h
 |cons v vs=>rw[e]at h;cases h;exact⟨v,vs,rfl,rfl,rfl,rfl⟩
theorem zLb (L:List zD) (s id q:Int):kM (yL L id q) s=yL (kM L s) id q:=by
 rw[kM,kM,yL,yL,List.filter_filterMap,List.filterMap_filter]
 refine wS fun o _=> ?_
 by_cases e1:o.id=id
 ·rw[if_pos e1]
  by_cases e2:o.qty=q
  ·rw[if_pos e2];simp
  ·rw[if_neg e2];by_cases e3:o.side=s<;>simp[Option.filter,e3]
 ·rw[if_neg e1];by_cases e3:o.side=s<;>simp[Option.filter,e3]
theorem zEr {inst s:Int}:∀{os:List zD} {sh:List Int},(∀n,0≤sh.getD n 0)→sh.sum=0→yN inst s os sh=[]
 |[],sh,_,_=>by rw[yN];simp
 |_::_,[],_,_=>by rw[yN];simp
 |o::os,x::sh,h,h2=>by
  have h0:0≤x:=h 0
  have h1:0≤sh.sum:=zFs fun y hy=>by
   obtain⟨n,hn⟩:=List.getElem?_of_mem hy
   have:=h (n+1)
   have e:(x::sh).getD (n+1) 0=y:=zI (by rw[List.getElem?_cons_succ];exact hn)
   omega
  rw[List.sum_cons]at h2
  rw[yN,if_neg (by omega)]
  exact zEr (fun n=>h (n+1)) (by omega)
theorem yDp {pr Q x y:Int} {rest:List (Int×Int)} (h:x<Q):zDi (zDi ((pr,Q)::rest) x) y=zDi ((pr,Q)::rest) (x+y):=by
 have e:zDi ((pr,Q)::rest) x=(pr,Q-x)::rest:=if_neg (by omega)
 rw[e]
 show(if Q-x≤y then rest else(pr,Q-x-y)::rest)=if Q≤x+y then rest else(pr,Q-(x+y))::rest
 by_cases c:Q≤x+y
 ·rw[if_pos (by omega),if_pos c]
 ·rw[if_neg (by omega),if_neg c,show Q-x-y=Q-(x+y)by omega]
theorem zBa {p:Prd} {k:Nat} {i s pr:Int} (hs:s=1∨s=2):∀{os:List zD} {sh:List Int} {B:List (List zD)} {L:List zD} {Q:Int} {rest:List (Int×Int)},BWf p B→B[k]? =some L→
 (∀o∈os,o∈L∧o.side=s∧o.price=pr)→(os.map (·.id)).Nodup→sh.length=os.length→(∀n,0≤sh.getD n 0∧sh.getD n 0≤(os.map (·.qty)).getD n 0)→lpq (jR L s)=(pr,Q)::rest→sh.sum≤Q→1≤Q→
 ∃L1,(xF B (yN i s os sh))[k]? =some L1∧lpq (jR L1 s)=zDi ((pr,Q)::rest) sh.sum∧∀z,z≠s→jR L1 z=jR L z
 |[],sh,B,L,Q,rest,h,hL,_,_,hl,_,hd,_,hQ=>by
  have:sh=[]:=List.length_eq_zero_iff.1 hl
  subst this
  refine⟨L,hL,?_,fun _ _=>rfl⟩
  rw[hd,List.sum_nil]
  show _=if Q≤0 then rest else(pr,Q-0)::rest
  rw[if_neg (by omega),Int.sub_zero]
 |o::os,[],B,L,Q,rest,h,hL,_,_,hl,_,_,_,_=>by cases hl
 |o::os,x::sh,B,L,Q,rest,h,hL,ho,hn,hl,hb,hd,hsum,hQ=>by
  have hx:0≤x∧x≤o.qty:=hb 0
  have hb':∀n,0≤sh.getD n 0∧sh.getD n 0≤(os.map (·.qty)).getD n 0:=fun n=>hb (n+1)
  have hl':sh.length=os.length:=by simpa using hl
  rw[List.map_cons,List.nodup_cons]at hn
  obtain⟨ho0,hos,hop⟩:=ho o List.mem_cons_self
  have ho':∀y∈os,y∈L∧y.side=s∧y.price=pr:=fun y hy=>ho y (List.mem_cons_of_mem _ hy)
  rw[List.sum_cons]at hsum ⊢
  have hs0:0≤sh.sum:=zFs fun y hy=>by
   obtain⟨n,hn⟩:=List.getElem?_of_mem hy
   have:=(hb' n).1
   have e:sh.getD n 0=y:=zI hn
   omega
  rw[yN]
  by_cases c:0<x
  ·rw[if_pos c]
   have hod:=h.od k L hL
   have hk:=(List.getElem?_eq_some_iff.1 hL).1
   have hi:=h.inst hL (List.mem_map_of_mem (f:=(·.id)) ho0)
   have hg:=uB hod.2.1 ho0
   have hh:kQ L o.id=true:=hasId_iff.2 (List.mem_map_of_mem (f:=(·.id)) ho0)
   have ht:(yT B o.id x).1=B.set k (yL L o.id x):=by
    simp only[yT,hi,zI hL]
    rw[xS,if_neg (by rw[hh];decide),if_neg (by rw[hg];omega)]
   have hW:=h.take o.id x
   show ∃L1,(xF (yT B o.id x).1 (yN i s os sh))[k]? =some L1∧_
   rw[ht]at hW ⊢
   have hL':(B.set k (yL L o.id x))[k]? =some (yL L o.id x):=vD hk
   obtain⟨v,vs,e1,e2,e3,e4⟩:=z3x hd
   have hF:o∈kM L s:=List.mem_filter.2 ⟨ho0,by simpa using hos⟩
   have hsd:=zLb L s o.id x
   have hlt:=z7t (h.srt k L hL s hs) (hod.2.1.sublist (List.Sublist.map _ List.filter_sublist)) hF (v:=v) (vs:=vs) (by rw[← e1];rfl) (by rw[hop,e2]) (x:=x) (fun y hy=>by
    rw[← hsd]at hy
    exact((hW.od k _ hL').1 y (List.mem_filter.1 hy).1).q.1) (by rw[← hsd];exact hW.srt k _ hL' s hs)
   rw[← hsd]at hlt
   have hlt:lpq (jR (yL L o.id x) s)=zDi (lpq (jR L s)) x:=hlt
   rw[hd]at hlt
   have hoth:∀z,z≠s→jR (yL L o.id x) z=jR L z:=by
    intro z hz
    show grp (kM (yL L o.id x) z)=grp (kM L z)
    rw[zLb,eO fun y hy e=> ?_]
    obtain⟨y1,y2⟩:=List.mem_filter.1 hy
    have:=uB hod.2.1 y1
    rw[e,hg]at this
    subst this
    have y2:o.side=z:=by simpa using y2
    exact hz (by rw[← y2,hos])
   by_cases c2:sh.sum=0
   ·rw[zEr (fun n=>(hb' n).1) c2,c2,Int.add_zero]
    exact⟨_,hL',hlt,hoth⟩
   ·have e5:zDi ((pr,Q)::rest) x=(pr,Q-x)::rest:=if_neg (by omega)
    have hlt2:=hlt
    rw[e5]at hlt2
    obtain⟨L1,g1,g2,g3⟩:=zBa (i:=i) hs hW hL' (fun y hy=>⟨List.mem_filterMap.2 ⟨y,(ho' y hy).1,if_neg fun(e:y.id=o.id)=>hn.1 (e▸List.mem_map_of_mem (f:=(·.id)) hy)⟩,(ho' y hy).2⟩) hn.2 hl' hb' hlt2 (by omega) (by omega)
    refine⟨L1,g1,?_,fun z hz=>(g3 z hz).trans (hoth z hz)⟩
    rw[g2,← e5,yDp (by omega)]
  ·rw[if_neg c]
   have:x=0:=by omega
   subst this
   rw[Int.zero_add]at hsum ⊢
   exact zBa hs h hL ho' hn.2 hl' hb' hd hsum hQ
theorem zBq {p:Prd} {B:List (List zD)} (h:BWf p B) {k:Nat} {L:List zD} (hL:B[k]? =some L) {s:Int} (hs:s=1∨s=2) {q:Int} (hb:(bestL L s).2=true) (hq:1≤q∧q≤(bestL L s).1.qty):
 ∃L1,(xF B (xN p B k s q))[k]? =some L1∧lpq (jR L1 s)=zDi (lpq (jR L s)) q∧∀z,z≠s→jR L1 z=jR L z:=by
 have G:=yFw h hL hs hb hq
 have e:=G.eq
 have S:=G.sh
 rw[zI hL]at e S
 have ho:=h.od k L hL
 cases hl:jR L s with
 |nil=>rw[bestL,hl]at hb;cases hb
 |cons v vs=>
  have hv:(bestL L s).1=v:=by rw[bestL,hl]
  rw[hv]at e S hq
  obtain⟨L1,g1,g2,g3⟩:=zBa (i:=k) (pr:=v.price) (Q:=v.qty) (rest:=lpq vs) (os:=atL L s v.price) hs h hL (fun o hm=>by
   obtain⟨a,b⟩:=List.mem_filter.1 hm
   simp only[Bool.and_eq_true,decide_eq_true_eq]at b
   exact⟨a,b⟩) (ho.2.1.sublist (List.Sublist.map _ List.filter_sublist)) (by rw[S.len,List.length_map]) S.bd (by rw[hl];rfl) (by rw[S.sum];omega) (by omega)
  rw[e]
  refine⟨L1,g1,?_,g3⟩
  rw[g2,S.sum];rfl
def hdQ:List (Int×Int)→Int×Int×Bool
 |[]=>(0,0,false)
 |(p,q)::_=>(p,q,true)
theorem zNb (L:List zD) (s:Int):((bestL L s).1.price,(bestL L s).1.qty,(bestL L s).2)=hdQ (lpq (jR L s)):=by
 rw[bestL]
 cases jR L s<;>rfl
def PEq (B B':List (List zD)):Prop:=B'.length=B.length∧∀(k:Nat) (s:Int),s=1∨s=2→(bestL (B'.getD k []) s).1.price=(bestL (B.getD k []) s).1.price∧(bestL (B'.getD k []) s).2=(bestL (B.getD k []) s).2
def LadEq (B B':List (List zD)):Prop:=B'.length=B.length∧∀(k:Nat) (s:Int),s=1∨s=2→lpq (jR (B'.getD k []) s)=lpq (jR (B.getD k []) s)
theorem LadEq.refl (B:List (List zD)):LadEq B B:=⟨rfl,fun _ _ _=>rfl⟩
theorem LadEq.best {B B':List (List zD)} (h:LadEq B B') (k:Nat) {s:Int} (hs:s=1∨s=2):(bestL (B'.getD k []) s).1.price=(bestL (B.getD k []) s).1.price∧(bestL (B'.getD k []) s).1.qty=(bestL (B.getD k []) s).1.qty∧(bestL (B'.getD k []) s).2=(bestL (B.getD k []) s).2:=by
 have a:=zNb (B'.getD k []) s
 rw[h.2 k s hs,← zNb]at a
 simp only[Prod.mk.injEq]at a
 exact a
theorem LadEq.p {B B':List (List zD)} (h:LadEq B B'):PEq B B':=⟨h.1,fun k s hs=>⟨(h.best k hs).1,(h.best k hs).2.2⟩⟩
def TEq (T T':List Top):Prop:=T'.length=T.length∧∀k s,s=1∨s=2→((T'.getD k top0).has s=(T.getD k top0).has s∧(T'.getD k top0).price s=(T.getD k top0).price s)
theorem jZ (B:List (List zD)) (k:Nat) (s:Int) (hs:s=1∨s=2):((B.map yV).getD k top0).has s=(bestL (B.getD k []) s).2∧((B.map yV).getD k top0).qty s=(bestL (B.getD k []) s).1.qty∧((B.map yV).getD k top0).price s=(bestL (B.getD k []) s).1.price:=by
 by_cases h:k<B.length
 ·obtain⟨L,hL⟩:=yA h
  rw[zEi hL,zI hL];exact fY L hs
 ·rw[List.getD_eq_getElem?_getD,List.getD_eq_getElem?_getD,List.getElem?_eq_none (by rw[List.length_map];omega),List.getElem?_eq_none (by omega)]
  rcases hs with rfl|rfl<;>exact⟨rfl,rfl,rfl⟩
theorem PEq.t {B B':List (List zD)} (h:PEq B B'):TEq (B.map yV) (B'.map yV):=by
 refine⟨by rw[List.length_map,List.length_map,h.1],fun k s hs=> ?_⟩
 have a:=jZ B k s hs
 have b:=jZ B' k s hs
 have c:=h.2 k s hs
 exact⟨by rw[a.1,b.1,c.2],by rw[a.2.2,b.2.2,c.1]⟩
def pE (inst s:Int) (n:Quote×Bool×Bool) (k:Nat) (z:Int):Prop:=if n.2.1=true then(k=n.1.a.inst.toNat∧z=n.1.a.side)∨(k=n.1.b.inst.toNat∧z=n.1.b.side)else k=inst.toNat∧z=s
def Dec (S:Nat→Int→Prop) (x:Int) (B B':List (List zD)):Prop:=B'.length=B.length∧∀(k:Nat) (s:Int),s=1∨s=2→(S k s→lpq (jR (B'.getD k []) s)=zDi (lpq (jR (B.getD k []) s)) x)∧(¬S k s→lpq (jR (B'.getD k []) s)=lpq (jR (B.getD k []) s))
theorem Dec.eq {S:Nat→Int→Prop} {x:Int} {B B' C C':List (List zD)} (h:Dec S x B C) (h':Dec S x B' C') (e:LadEq B B'):LadEq C C':=by
 refine⟨by rw[h'.1,h.1,e.1],fun k s hs=> ?_⟩
 by_cases c:S k s
 ·rw[((h'.2 k s hs).1 c),((h.2 k s hs).1 c),e.2 k s hs]
 ·rw[((h'.2 k s hs).2 c),((h.2 k s hs).2 c),e.2 k s hs]
def goB (p:Prd) (B:List (List zD)) (inst:Int) (sd:Bool) (price:Int):Bool:=(zV p B inst (zA (!sd))).2.2 && (jH sd price (zV p B inst (zA (!sd))).1.price && decide (1≤(zV p B inst (zA (!sd))).1.qty))
theorem yCp {p:Prd} {B:List (List zD)} {inst:Int} {sd:Bool} {price:Int} (h:goB p B inst sd price=false) (q:Int):jK p B inst sd price q=none:=by
 rw[jK]
 dsimp only
 rw[if_neg]
 rw[goB]at h
 rw[h];decide
theorem yJc {p:Prd} {B:List (List zD)} (h:BWf p B) {inst:Int} (hi:0≤inst∧inst<B.length) {sd:Bool} {price:Int}:goB p B inst sd price=((zV p B inst (zA (!sd))).2.2 && jH sd price (zV p B inst (zA (!sd))).1.price):=by
 rw[goB]
 cases e:(zV p B inst (zA (!sd))).2.2 with
 |false=>rfl
 |true=>
  have:=(pL h.ok h.od hi (fW (!sd)) e).1
  rw[decide_eq_true this.1,Bool.and_true]
theorem zOz {p:Prd} {B:List (List zD)} (h:BWf p B) {inst:Int} (hi:0≤inst∧inst<B.length) {sd:Bool} {price:Int} (hg:goB p B inst sd price=true) {q:Int} (hq:1≤q):
 ∃t B',jK p B inst sd price q=some (t,B')∧t.qty=min q (zV p B inst (zA (!sd))).1.qty∧1≤t.qty∧BWf p B'∧Dec (pE inst (zA (!sd)) (zV p B inst (zA (!sd)))) t.qty B B':=by
 have hs:zA (!sd)=1∨zA (!sd)=2:=fW _
 have hg0:=hg
 rw[goB]at hg0
 simp only[Bool.and_eq_true,decide_eq_true_eq]at hg0
 obtain⟨c1,c2,c3⟩:=hg0
 obtain⟨hq1,h1,h2⟩:=pL h.ok h.od hi hs c1
 rw[jK]
 dsimp only
 rw[if_pos (by rw[goB]at hg;exact hg)]
 by_cases c:(zV p B inst (zA (!sd))).2.1=true
 ·obtain⟨_,ok⟩:=h1 c
  rw[if_pos c]
  refine⟨_,_,rfl,rfl,by dsimp only;omega,h.takes.takes,?_⟩
  dsimp only
  have hlg:pE inst (zA (!sd)) (zV p B inst (zA (!sd)))=fun k z=>(k=(zV p B inst (zA (!sd))).1.a.inst.toNat∧z=(zV p B inst (zA (!sd))).1.a.side)∨(k=(zV p B inst (zA (!sd))).1.b.inst.toNat∧z=(zV p B inst (zA (!sd))).1.b.side):=by
   funext k z;rw[pE,if_pos c]
  rw[hlg]
  generalize (zV p B inst (zA (!sd))).1=n at*
  obtain⟨np,nq,⟨ai,az⟩,⟨bi,bs⟩⟩:=n
  have a:=ok.a
  have b:=ok.b
  have ne:=ok.ne
  rw[List.length_map]at a b
  dsimp only at a b ne hq1 c3 ⊢
  obtain⟨ka,rfl⟩:∃k:Nat,ai=k:=⟨ai.toNat,by omega⟩
  obtain⟨kb,rfl⟩:∃k:Nat,bi=k:=⟨bi.toNat,by omega⟩
  have hab:ka≠kb:=fun e=>ne (by rw[e])
  obtain⟨La,hLa⟩:=yA (l:=B) (i:=ka) (by omega)
  obtain⟨Lb,hLb⟩:=yA (l:=B) (i:=kb) (by omega)
  have e1:=ok.ha
  have e2:=ok.hb
  have e3:=ok.qty
  have sa:az=1∨az=2:=ok.sa
  have bz:bs=1∨bs=2:=ok.sb
  dsimp only at e1 e2 e3
  rw[Int.toNat_natCast,zEi hLa]at e1 e3
  rw[Int.toNat_natCast,zEi hLb]at e2 e3
  rw[(fY La sa).1]at e1
  rw[(fY Lb bz).1]at e2
  rw[(fY La sa).2.1,(fY Lb bz).2.1]at e3
  have hW1:BWf p (xF B (xN p B ka az (min q nq))):=h.takes
  have hl:=fG h (k:=ka) (j:=kb) hab hLa hLb az (min q nq)
  obtain⟨L1,g1,g2,g3⟩:=zBq h hLa sa e1 (q:=min q nq) (by omega)
  obtain⟨L2,f1,f2,f3⟩:=zBq hW1 hl bz e2 (q:=min q nq) (by omega)
  have hl2:=fG hW1 (k:=kb) (j:=ka) (fun e=>hab e.symm) hl g1 bs (min q nq)
  refine⟨by rw[qK,qK],fun k s hs=> ?_⟩
  rw[Int.toNat_natCast,Int.toNat_natCast]
  by_cases ca:k=ka
  ·subst ca
   rw[zI hl2,zI hLa]
   by_cases cs:s=az
   ·subst cs
    exact⟨fun _=>g2,fun x=>absurd (.inl ⟨rfl,rfl⟩) x⟩
   ·exact⟨fun x=>by rcases x with x|x;exact absurd x.2 cs;exact absurd x.1 hab,fun _=>by rw[g3 s cs]⟩
  by_cases cb:k=kb
  ·subst cb
   rw[zI f1,zI hLb]
   by_cases cs:s=bs
   ·subst cs
    exact⟨fun _=>f2,fun x=>absurd (.inr ⟨rfl,rfl⟩) x⟩
   ·exact⟨fun x=>by rcases x with x|x;exact absurd x.1 ca;exact absurd x.2 cs,fun _=>by rw[f3 s cs]⟩
  refine⟨fun x=>by rcases x with x|x;exact absurd x.1 ca;exact absurd x.1 cb,fun _=> ?_⟩
  by_cases hk:k<B.length
  ·obtain⟨L,hL⟩:=yA hk
   have m1:=fG h (k:=ka) (j:=k) (fun e=>ca e.symm) hLa hL az (min q nq)
   have m2:=fG hW1 (k:=kb) (j:=k) (fun e=>cb e.symm) hl m1 bs (min q nq)
   rw[zI hL,zI m2]
  ·rw[List.getD_eq_getElem?_getD,List.getD_eq_getElem?_getD,List.getElem?_eq_none (by rw[qK,qK];omega),List.getElem?_eq_none (by omega)]
 ·obtain⟨d1,d2,d3⟩:=h2 (by simpa using c)
  rw[if_neg c]
  refine⟨_,_,rfl,rfl,by dsimp only;omega,h.takes,?_⟩
  dsimp only
  have hlg:pE inst (zA (!sd)) (zV p B inst (zA (!sd)))=fun k z=>k=inst.toNat∧z=zA (!sd):=by
   funext k z;rw[pE,if_neg c]
  rw[hlg]
  obtain⟨k0,rfl⟩:∃k:Nat,inst=k:=⟨inst.toNat,by omega⟩
  obtain⟨L,hL⟩:=yA (l:=B) (i:=k0) (by omega)
  rw[Int.toNat_natCast,zI hL]at d1 d3
  rw[Int.toNat_natCast]
  obtain⟨L1,g1,g2,g3⟩:=zBq h hL hs d1 (q:=min q (zV p B k0 (zA (!sd))).1.qty) (by omega)
  refine⟨by rw[qK],fun k s hs2=> ?_⟩
  by_cases ca:k=k0
  ·subst ca
   rw[zI g1,zI hL]
   by_cases cs:s=zA (!sd)
   ·rw[cs]
    exact⟨fun _=>g2,fun x=>absurd ⟨rfl,rfl⟩ x⟩
   ·exact⟨fun x=>absurd x.2 cs,fun _=>by rw[g3 s cs]⟩
  refine⟨fun x=>absurd x.1 ca,fun _=> ?_⟩
  by_cases hk:k<B.length
  ·obtain⟨M,hM⟩:=yA hk
   have m1:=fG h (k:=k0) (j:=k) (fun e=>ca e.symm) hL hM (zA (!sd)) (min q (zV p B k0 (zA (!sd))).1.qty)
   rw[zI hM,zI m1]
  ·rw[List.getD_eq_getElem?_getD,List.getD_eq_getElem?_getD,List.getElem?_eq_none (by rw[qK];omega),List.getElem?_eq_none (by omega)]
open Go Cv Go.Proofs
theorem z4u {p:Prd} {B:List (List zD)} (h:BWf p B) {inst:Int} (hi:0≤inst∧inst<B.length) {s:Int} (hs:s=1∨s=2) (hn:(zV p B inst s).2.2=true) {k:Nat} {z:Int} (hl:pE inst s (zV p B inst s) k z):
 (bestL (B.getD k []) z).2=true∧(zV p B inst s).1.qty≤(bestL (B.getD k []) z).1.qty:=by
 obtain⟨_,h1,h2⟩:=pL h.ok h.od hi hs hn
 rw[pE]at hl
 split at hl
 ·rename_i c
  obtain⟨_,ok⟩:=h1 c
  have e1:=ok.ha
  have e2:=ok.hb
  have e3:=ok.qty
  have a:=jZ B (zV p B inst s).1.a.inst.toNat _ ok.sa
  have b:=jZ B (zV p B inst s).1.b.inst.toNat _ ok.sb
  rw[a.1]at e1
  rw[b.1]at e2
  rw[a.2.1,b.2.1]at e3
  rcases hl with⟨rfl,rfl⟩|⟨rfl,rfl⟩
  ·exact⟨e1,by omega⟩
  ·exact⟨e2,by omega⟩
 ·rename_i c
  obtain⟨d1,d2,d3⟩:=h2 (by simpa using c)
  obtain⟨rfl,rfl⟩:=hl
  exact⟨d1,by omega⟩
theorem LadEq.tops {B B':List (List zD)} (h:LadEq B B'):B'.map yV=B.map yV:=by
 apply List.ext_getElem?
 intro k
 rw[List.getElem?_map,List.getElem?_map]
 by_cases c:k<B.length
 ·obtain⟨L,hL⟩:=yA c
  obtain⟨L',hL'⟩:=yA (l:=B') (i:=k) (by rw[h.1];exact c)
  rw[hL,hL']
  have a:=h.best k (.inl rfl)
  have b:=h.best k (.inr rfl)
  rw[zI hL,zI hL']at a b
  obtain⟨x1,x2,x3,x4,x5,x6⟩:=tY L
  obtain⟨y1,y2,y3,y4,y5,y6⟩:=tY L'
  show some (yV L')=some (yV L)
  congr 1
  generalize yV L'=t' at*
  generalize yV L=t at*
  cases t';cases t
  dsimp only at*
  simp[x1,x2,x3,x4,x5,x6,y1,y2,y3,y4,y5,y6,a,b]
 ·rw[List.getElem?_eq_none (by rw[h.1];omega),List.getElem?_eq_none (by omega)]
theorem LadEq.next {B B':List (List zD)} (h:LadEq B B') (p:Prd) (inst:Int) {s:Int} (hs:s=1∨s=2):zV p B' inst s=zV p B inst s:=by
 have a:=h.best inst.toNat hs
 rw[zV,zV,h.tops,a.1,a.2.1,a.2.2]
theorem LadEq.go {B B':List (List zD)} (h:LadEq B B') (p:Prd) (inst:Int) (sd:Bool) (price:Int):goB p B' inst sd price=goB p B inst sd price:=by
 rw[goB,goB,h.next p inst (fW _)]
def zAe (p:Prd) (B:List (List zD)) (inst:Int) (sd:Bool) (price q:Int):Int:=q-(qE p B inst sd price q).left
theorem z6o {p:Prd} {B:List (List zD)} {inst:Int} {sd:Bool} {price:Int} (h:goB p B inst sd price=false) (q:Int):qE p B inst sd price q=⟨[],q,B⟩:=jB (.inr (yCp h q))
theorem yGr {p:Prd} {B:List (List zD)} {inst:Int} {sd:Bool} {price:Int} (h:goB p B inst sd price=false) (q:Int):zAe p B inst sd price q=0:=by
 rw[zAe,z6o h];dsimp only;omega
theorem z4p {p:Prd} {B:List (List zD)} {inst:Int} {sd:Bool} {price:Int} {q:Int} (h:q≤0):zAe p B inst sd price q=0:=by
 rw[zAe,jB (.inl h)];dsimp only;omega
theorem zQv {p:Prd} {B:List (List zD)} {inst:Int} {sd:Bool} {price q:Int} {t:k6} {B':List (List zD)} (hq:1≤q) (h:jK p B inst sd price q=some (t,B')):zAe p B inst sd price q=t.qty+zAe p B' inst sd price (q-t.qty):=by
 rw[zAe,zAe,fL hq h];dsimp only;omega
theorem BWf.run {p:Prd} {inst:Int} {sd:Bool} {price:Int}:∀(m:Nat) (q:Int) (B:List (List zD)),q.toNat≤m→BWf p B→0≤inst∧inst<B.length→BWf p (qE p B inst sd price q).B∧(qE p B inst sd price q).B.length=B.length∧
 (0<(qE p B inst sd price q).left→0<q∧goB p (qE p B inst sd price q).B inst sd price=false)∧(0≤q→0≤(qE p B inst sd price q).left∧(qE p B inst sd price q).left≤q)∧((qE p B inst sd price q).steps=[]→zAe p B inst sd price q=0)∧(zAe p B inst sd price q=0→0≤q→(qE p B inst sd price q).steps=[])
 |m,q,B,hm,h,hi=>by
  by_cases hq:q≤0
  ·rw[z4p hq,jB (.inl hq)]
   exact⟨h,rfl,fun x=>by dsimp only at x;omega,fun x=>⟨x,Int.le_refl _⟩,fun _=>rfl,fun _ _=>rfl⟩
  cases hg:goB p B inst sd price with
  |false=>
   rw[yGr hg,z6o hg]
   exact⟨h,rfl,fun _=>⟨by omega,hg⟩,fun x=>⟨x,Int.le_refl _⟩,fun _=>rfl,fun _ _=>rfl⟩
  |true=>
   obtain⟨t,C,a1,a2,a3,a4,a5⟩:=zOz h hi hg (q:=q) (by omega)
   cases m with
   |zero=>omega
   |succ m=>
   obtain⟨i1,i2,i3,i4,i5,i6⟩:=BWf.run (p:=p) (inst:=inst) (sd:=sd) (price:=price) m (q-t.qty) C (by omega) a4 (by rw[a5.1];exact hi)
   have i4:=i4 (by omega)
   have hc:=zQv (by omega) a1
   rw[zAe]at hc
   rw[zAe]at hc
   rw[fL (by omega) a1]
   refine⟨i1,i2.trans a5.1,fun x=>⟨by omega,(i3 x).2⟩,fun _=>⟨i4.1,by dsimp only;omega⟩,fun x=>(by cases x),fun x=> ?_⟩
   rw[zQv (by omega) a1,zAe]at x
   omega
open Go Cv Go.Proofs
def cG (B:List (List zD)):Nat:=(B.map List.length).sum
def spO (o:zD):Int×Int:=(o.side,o.price)
def zPr (B:List (List zD)):List (List (Int×Int)):=B.map fun L=>L.map spO
theorem zYo (id q:Int):∀(L:List zD),(yL L id q).length≤L.length∧((yL L id q).length=L.length→(yL L id q).map spO=L.map spO)
 |[]=>⟨Nat.le_refl _,fun _=>rfl⟩
 |o::L=>by
  obtain⟨i1,i2⟩:=zYo id q L
  rw[yL]at i1 i2
  rw[yL,List.filterMap_cons]
  by_cases c:o.id=id
  ·rw[if_pos c]
   by_cases d:o.qty=q
   ·rw[if_pos d]
    refine⟨Nat.le_succ_of_le i1,fun e=> ?_⟩
    rw[List.length_cons]at e
    dsimp only at e
    omega
   ·rw[if_neg d]
    refine⟨Nat.succ_le_succ i1,fun e=> ?_⟩
    rw[List.map_cons,List.map_cons,i2 (Nat.succ.inj e)]
    rfl
  ·rw[if_neg c]
   refine⟨Nat.succ_le_succ i1,fun e=> ?_⟩
   rw[List.map_cons,List.map_cons,i2 (Nat.succ.inj e)]
theorem zYn:∀{B:List (List zD)} {k:Nat} {L L':List zD},B[k]? =some L→cG (B.set k L')+L.length=cG B+L'.length
 |[],k,L,L',h=>by cases h
 |M::B,0,L,L',h=>by
  cases h
  rw[List.set_cons_zero,cG,cG,List.map_cons,List.map_cons,List.sum_cons,List.sum_cons];omega
 |M::B,k+1,L,L',h=>by
  have:=zYn (B:=B) (k:=k) (L:=L) (L':=L') h
  rw[cG,cG]at this
  rw[List.set_cons_succ,cG,cG,List.map_cons,List.map_cons,List.sum_cons,List.sum_cons];omega
theorem yEr (B:List (List zD)) (id q:Int):cG (yT B id q).1≤cG B∧(cG (yT B id q).1=cG B→zPr (yT B id q).1=zPr B):=by
 rw[yT]
 split
 ·exact⟨Nat.le_refl _,fun _=>rfl⟩
 ·rename_i k hk
  dsimp only
  obtain⟨L,hL,hh⟩:=xW hk
  rw[zI hL,xS]
  split
  ·rw[kH hL];exact⟨Nat.le_refl _,fun _=>rfl⟩
  split
  ·rw[kH hL];exact⟨Nat.le_refl _,fun _=>rfl⟩
  dsimp only
  have:=zYn (L':=yL L id q) hL
  obtain⟨i1,i2⟩:=zYo id q L
  refine⟨by omega,fun e=> ?_⟩
  rw[zPr,zPr,List.map_set,i2 (by omega)]
  exact kH (by rw[List.getElem?_map,hL];rfl)
theorem zPb:∀(fs:List wO) (B:List (List zD)),cG (xF B fs)≤cG B∧(cG (xF B fs)=cG B→zPr (xF B fs)=zPr B)
 |[],B=>⟨Nat.le_refl _,fun _=>rfl⟩
 |f::fs,B=>by
  obtain⟨i1,i2⟩:=zPb fs (yT B f.id f.qty).1
  obtain⟨j1,j2⟩:=yEr B f.id f.qty
  have e:xF B (f::fs)=xF (yT B f.id f.qty).1 fs:=rfl
  rw[e]
  exact⟨by omega,fun h=>(i2 (by omega)).trans (j2 (by omega))⟩
theorem zKz:∀{F F':List zD},F.map (·.price)=F'.map (·.price)→(grp F).map (·.price)=(grp F').map (·.price)
 |[],[],_=>rfl
 |[],_::_,h=>by cases h
 |_::_,[],h=>by cases h
 |o::F,o'::F',h=>by
  rw[List.map_cons,List.map_cons,List.cons.injEq]at h
  have ih:=zKz h.2
  have h1:=h.1
  rw[grp,grp]
  cases e:grp F with
  |nil=>
   rw[e]at ih
   cases e':grp F' with
   |nil=>simp[h1]
   |cons v vs=>rw[e']at ih;cases ih
  |cons v vs=>
   rw[e]at ih
   cases e':grp F' with
   |nil=>rw[e']at ih;cases ih
   |cons w ws=>
    rw[e',List.map_cons,List.map_cons,List.cons.injEq]at ih
    dsimp only
    rw[ih.1,h1]
    split
    ·rw[List.map_cons,List.map_cons,ih.2]
    ·rw[List.map_cons,List.map_cons,List.map_cons,List.map_cons,ih.2,ih.1]
theorem yIl {L L':List zD} (h:L'.map spO=L.map spO) (s:Int):(jR L' s).length=(jR L s).length:=by
 have e:∀L:List zD,(L.filter fun o=>decide (o.side=s)).map (·.price)=((L.map spO).filter fun x=>decide (x.1=s)).map (·.2):=by
  intro L
  rw[List.filter_map,List.map_map];rfl
 have:=zKz ((e L').trans ((congrArg (fun l=>(List.filter (fun x:Int×Int=>decide (x.1=s)) l).map (·.2)) h).trans (e L).symm))
 have:=congrArg List.length this
 rw[List.length_map,List.length_map]at this
 exact this
theorem zHm {p:Prd} {B:List (List zD)} {inst:Int} {sd:Bool} {price q:Int} {t:k6} {B':List (List zD)} (e:jK p B inst sd price q=some (t,B')):B'=xF B t.fills:=by
 rw[jK]at e
 dsimp only at e
 split at e
 ·split at e
  ·cases e;rw[zKg]
  ·cases e;rfl
 ·cases e
theorem z4r {p:Prd} {B:List (List zD)} (h:BWf p B) {inst:Int} (hi:0≤inst∧inst<B.length) {sd:Bool} {price:Int} (hg:goB p B inst sd price=true) {q:Int} (hq:1≤q):
 ∃t B',jK p B inst sd price q=some (t,B')∧1≤t.qty∧t.qty≤q∧BWf p B'∧B'.length=B.length∧cG B'≤cG B∧(t.qty<q→cG B'<cG B):=by
 obtain⟨t,B',a1,a2,a3,a4,a5⟩:=zOz h hi hg hq
 have hg0:=hg
 rw[goB]at hg0
 simp only[Bool.and_eq_true,decide_eq_true_eq]at hg0
 obtain⟨c1,_,c3⟩:=hg0
 have hcs:=zPb t.fills B
 rw[← zHm a1]at hcs
 refine⟨t,B',a1,a3,by omega,a4,a5.1,hcs.1,fun hlt=> ?_⟩
 rcases Nat.lt_or_ge (cG B') (cG B)with x|x
 ·exact x
 exfalso
 have hsh:=hcs.2 (by omega)
 have hs:=fW (!sd)
 obtain⟨_,p1,p2⟩:=pL h.ok h.od hi hs c1
 obtain⟨k,z,hz,hl,he⟩:∃(k:Nat) (z:Int),(z=1∨z=2)∧pE inst (zA (!sd)) (zV p B inst (zA (!sd))) k z∧(bestL (B.getD k []) z).1.qty=(zV p B inst (zA (!sd))).1.qty:=by
  cases c:(zV p B inst (zA (!sd))).2.1 with
  |true=>
   obtain⟨_,ok⟩:=p1 c
   have q0:=ok.qty
   rw[(jZ B _ _ ok.sa).2.1,(jZ B _ _ ok.sb).2.1]at q0
   rcases Int.le_total (bestL (B.getD (zV p B inst (zA (!sd))).1.a.inst.toNat []) (zV p B inst (zA (!sd))).1.a.side).1.qty (bestL (B.getD (zV p B inst (zA (!sd))).1.b.inst.toNat []) (zV p B inst (zA (!sd))).1.b.side).1.qty with y|y
   ·exact⟨_,_,ok.sa,by rw[pE,if_pos c];exact .inl ⟨rfl,rfl⟩,by omega⟩
   ·exact⟨_,_,ok.sb,by rw[pE,if_pos c];exact .inr ⟨rfl,rfl⟩,by omega⟩
  |false=>
   obtain⟨d1,d2,d3⟩:=p2 c
   exact⟨inst.toNat,_,hs,by rw[pE,if_neg (by rw[c];decide)];exact⟨rfl,rfl⟩,d3.symm⟩
 have hb:=z4u h hi hs c1 hl
 have hd:=(a5.2 k z hz).1 hl
 have hlen:(lpq (jR (B'.getD k []) z)).length=(lpq (jR (B.getD k []) z)).length:=by
  rw[lpq,lpq,List.length_map,List.length_map]
  refine yIl ?_ z
  have:=congrArg (fun l=>l.getD k []) hsh
  have ge:∀B:List (List zD),(zPr B).getD k []=(B.getD k []).map spO:=by
   intro B
   rw[zPr,List.getD_eq_getElem?_getD,List.getD_eq_getElem?_getD,List.getElem?_map]
   cases B[k]? <;>rfl
  rw[ge,ge]at this
  exact this
 have bh:=zNb (B.getD k []) z
 rw[hd]at hlen
 cases el:lpq (jR (B.getD k []) z)with
 |nil=>rw[el]at bh;simp only[hdQ,Prod.mk.injEq]at bh;rw[bh.2.2]at hb;cases hb.1
 |cons v vs=>
  obtain⟨pr,Q⟩:=v
  rw[el]at bh hlen
  simp only[hdQ,Prod.mk.injEq]at bh
  have e2:zDi ((pr,Q)::vs) t.qty=vs:=if_pos (by omega)
  rw[e2,List.length_cons]at hlen
  omega
def gvn:List wO→Int→Int
 |[],_=>0
 |f::l,k=>(if f.inst=k then f.qty else 0)+gvn l k
structure yPu (inst:Int) (sd:Bool) (price:Int) (t:k6):Prop where
 pr:jH sd price t.price=true
 fl:∀f∈t.fills,(0≤f.inst∧f.inst<32)∧1≤f.qty∧f.qty≤1000000∧0≤f.left∧(t.implied=false→f.price=t.price∧f.inst=inst∧f.side=zA (!sd))
 len:t.fills.length≤500
 S:∃S:List Int,S.Nodup∧(∀k∈S,0≤k∧k<32)∧(S.length:Int)=(if t.implied=true then 2 else 1)∧∀k,gvn t.fills k=if k∈S then t.qty else 0
open Go Cv Go.Proofs
def qL:List zD→Int→Int
 |[],_=>0
 |o::L,id=>(if o.id=id then o.qty else 0)+qL L id
def qB:List (List zD)→Int→Int
 |[],_=>0
 |L::B,id=>qL L id+qB B id
theorem zSn {id:Int}:∀{L:List zD},(∀o∈L,o.id≠id)→qL L id=0
 |[],_=>rfl
 |o::L,h=>by
  rw[qL,if_neg (h o List.mem_cons_self),zSn fun x hx=>h x (List.mem_cons_of_mem _ hx)];rfl
theorem zTi {o:zD}:∀{L:List zD},(L.map (·.id)).Nodup→o∈L→qL L o.id=o.qty
 |[],_,h=>by cases h
 |x::L,hn,h=>by
  rw[List.map_cons,List.nodup_cons]at hn
  rw[qL]
  rcases List.mem_cons.1 h with rfl|h
  ·rw[if_pos rfl,zSn fun y hy e=>hn.1 (List.mem_map.2 ⟨y,hy,e⟩)];omega
  ·rw[if_neg fun e=>hn.1 (List.mem_map.2 ⟨o,h,e.symm⟩),zTi hn.2 h];omega
theorem zEf {id x y:Int} (hy:y≠id):∀L:List zD,qL (yL L id x) y=qL L y
 |[]=>rfl
 |o::L=>by
  have ih:=zEf (x:=x) hy L
  rw[yL]at ih ⊢
  rw[List.filterMap_cons,qL]
  by_cases c:o.id=id
  ·have hne:¬o.id=y:=fun e=>hy (by rw[← e,c])
   rw[if_pos c,if_neg hne]
   by_cases d:o.qty=x
   ·rw[if_pos d];dsimp only;rw[ih];omega
   ·rw[if_neg d];dsimp only;rw[qL,ih];dsimp only;rw[if_neg hne]
  ·rw[if_neg c];dsimp only;rw[qL,ih]
theorem zYr {o:zD} {x:Int}:∀{L:List zD},(L.map (·.id)).Nodup→o∈L→qL (yL L o.id x) o.id=o.qty-x
 |[],_,h=>by cases h
 |y::L,hn,h=>by
  rw[List.map_cons,List.nodup_cons]at hn
  rcases List.mem_cons.1 h with rfl|h
  ·have hno:∀z∈L,z.id≠o.id:=fun z hz e=>hn.1 (e▸List.mem_map_of_mem (f:=(·.id)) hz)
   have ht:=eO (x:=x) hno
   rw[yL]at ht ⊢
   rw[List.filterMap_cons,if_pos rfl,ht]
   by_cases d:o.qty=x
   ·rw[if_pos d];dsimp only;rw[zSn hno];omega
   ·rw[if_neg d];dsimp only;rw[qL,zSn hno];dsimp only;rw[if_pos rfl];omega
  ·have hne:¬y.id=o.id:=fun e=>hn.1 (e▸List.mem_map_of_mem (f:=(·.id)) h)
   have ih:=zYr (x:=x) hn.2 h
   rw[yL]at ih ⊢
   rw[List.filterMap_cons,if_neg hne]
   dsimp only
   rw[qL,if_neg hne,ih];omega
theorem zVn {y:Int}:∀{B:List (List zD)} {k:Nat} {L L':List zD},B[k]? =some L→qB (B.set k L') y=qB B y-qL L y+qL L' y
 |[],k,L,L',h=>by cases h
 |M::B,0,L,L',h=>by cases h;rw[List.set_cons_zero,qB,qB];omega
 |M::B,k+1,L,L',h=>by
  have:=zVn (y:=y) (B:=B) (k:=k) (L:=L) (L':=L') h
  rw[List.set_cons_succ,qB,qB,this];omega
theorem yEw {id:Int}:∀{B:List (List zD)},(∀L∈B,∀o∈L,o.id≠id)→qB B id=0
 |[],_=>rfl
 |L::B,h=>by
  rw[qB,zSn (h L List.mem_cons_self),yEw fun M hM=>h M (List.mem_cons_of_mem _ hM)];rfl
theorem yGl {p:Prd} {B:List (List zD)} (h:BWf p B) {k:Nat} {L:List zD} (hL:B[k]? =some L) {o:zD} (ho:o∈L):qB B o.id=o.qty:=by
 have hk:=(List.getElem?_eq_some_iff.1 hL).1
 have h1:=zVn (y:=o.id) (L':=[]) hL
 have h2:qB (B.set k []) o.id=0:=by
  refine yEw fun M hM x hx e=> ?_
  obtain⟨j,hj⟩:=List.mem_iff_getElem?.1 hM
  rcases uC hj with⟨_,rfl⟩|⟨hne,hj⟩
  ·cases hx
  ·exact hne (zQx h.ub hj hL (e▸List.mem_map_of_mem (f:=(·.id)) hx) (List.mem_map_of_mem (f:=(·.id)) ho))
 rw[h2,zTi (h.od k L hL).2.1 ho]at h1
 have:qL [] o.id=0:=rfl
 omega
theorem z6n {p:Prd} {B:List (List zD)} (h:BWf p B) {k:Nat} {L:List zD} (hL:B[k]? =some L) {o:zD} (ho:o∈L) {x:Int} (hx:1≤x∧x≤o.qty):(yT B o.id x).1=B.set k (yL L o.id x):=by
 have hi:=h.inst hL (List.mem_map_of_mem (f:=(·.id)) ho)
 have hg:=uB (h.od k L hL).2.1 ho
 have hh:kQ L o.id=true:=hasId_iff.2 (List.mem_map_of_mem (f:=(·.id)) ho)
 simp only[yT,hi,zI hL]
 rw[xS,if_neg (by rw[hh];decide),if_neg (by rw[hg];omega)]
theorem zZd {p:Prd} {B:List (List zD)} (h:BWf p B) {k:Nat} {L:List zD} (hL:B[k]? =some L) {o:zD} (ho:o∈L) {x:Int} (hx:1≤x∧x≤o.qty) (y:Int):qB (yT B o.id x).1 y=if y=o.id then o.qty-x else qB B y:=by
 rw[z6n h hL ho hx,zVn hL]
 by_cases c:y=o.id
 ·subst c
  rw[if_pos rfl,zYr (h.od k L hL).2.1 ho,zTi (h.od k L hL).2.1 ho,yGl h hL ho];omega
 ·rw[if_neg c,zEf c];omega
theorem lE {B:List (List zD)} {id x:Int} {k:Nat} {L:List zD} (h:(yT B id x).1[k]? =some L):∃M,B[k]? =some M∧∀o∈L,∃o'∈M,o'.id=o.id:=by
 rw[yT]at h
 split at h
 ·exact⟨L,h,fun o ho=>⟨o,ho,rfl⟩⟩
 ·rename_i j hj
  dsimp only at h
  obtain⟨M,hM,_⟩:=xW hj
  rcases uC h with⟨rfl,rfl⟩|⟨_,h⟩
  ·refine⟨M,hM,fun o ho=> ?_⟩
   rw[zI hM]at ho
   obtain⟨o',ho',_,_,e⟩:=eF ho
   exact⟨o',ho',e.symm⟩
  ·exact⟨L,h,fun o ho=>⟨o,ho,rfl⟩⟩
structure Stm where
 left:Int→Int
 own:Int→Int
def upd (f:Int→Int) (k v:Int):Int→Int:=fun x=>if x=k then v else f x
structure StG (p:Prd) (D:Int→Prop) (s:Stm) (r:Rep):Prop where
 d:D r.id
 i:0≤r.inst∧r.inst<p.count
 q:0≤r.qty∧r.qty≤1000000
 l:0≤r.left∧r.left≤1000000
 k:(r.kind=1∧s.left r.id=0∧1≤r.qty∧r.left=r.qty)∨
  (r.kind=3∧1≤r.qty∧(r.side=1∨r.side=2)∧((r.inst=s.own r.id∧r.qty≤s.left r.id∧r.left=s.left r.id-r.qty)∨
    (r.inst≠s.own r.id∧(p.legs (s.own r.id)).2.2=true∧(r.inst=(p.legs (s.own r.id)).1∨r.inst=(p.legs (s.own r.id)).2.1)∧r.left=s.left r.id)))∨
  (r.kind=4∧1≤r.qty∧r.qty=s.left r.id∧r.left=0)∨
  (r.kind=5∧r.qty<s.left r.id∧r.left=s.left r.id-r.qty)
def one (r:Rep) (m:Int):Int:=if r.kind=3∧r.inst=m then(if r.side=1 then r.qty else-r.qty)else 0
def vq (p:Prd) (k s q m:Int):Int:=
 if(p.legs k).2.2=true then(if(p.legs k).1=m then(if s=1 then q else-q)else 0)-(if(p.legs k).2.1=m then(if s=1 then q else-q)else 0)
 else if k=m then(if s=1 then q else-q)else 0
structure FitX (D:Int→Prop) (S:Stm) (B:List (List zD)) (id lf inst:Int):Prop where
 rest:∀x,x≠id→S.left x=qB B x
 me:S.left id=lf
 own:∀(k:Nat) (L:List zD),B[k]? =some L→∀o∈L,S.own o.id=k
 mine:S.own id=inst
 no:∀L∈B,∀o∈L,o.id≠id
 d:∀L∈B,∀o∈L,D o.id
 di:D id
theorem FitX.take {D:Int→Prop} {S:Stm} {p:Prd} {B:List (List zD)} {id lf inst:Int} (h:FitX D S B id lf inst) (hB:BWf p B) {k:Nat} {L:List zD} (hL:B[k]? =some L) {o:zD} (ho:o∈L) {x:Int} (hx:1≤x∧x≤o.qty):FitX D ⟨upd S.left o.id (o.qty-x),S.own⟩ (yT B o.id x).1 id lf inst:=by
 have hne:o.id≠id:=h.no L (List.mem_of_getElem? hL) o ho
 refine⟨fun y hy=> ?_,?_,fun j M hM z hz=> ?_,h.mine,fun M hM z hz=> ?_,fun M hM z hz=> ?_,h.di⟩
 ·rw[zZd hB hL ho hx]
  dsimp only[upd]
  by_cases c:y=o.id
  ·rw[if_pos c,if_pos c]
  ·rw[if_neg c,if_neg c];exact h.rest y hy
 ·dsimp only[upd]
  rw[if_neg fun e=>hne e.symm];exact h.me
 ·obtain⟨M',h1,h2⟩:=lE hM
  obtain⟨o',h3,h4⟩:=h2 z hz
  rw[← h4];exact h.own j M' h1 o' h3
 ·obtain⟨j,hj⟩:=List.mem_iff_getElem?.1 hM
  obtain⟨M',h1,h2⟩:=lE hj
  obtain⟨o',h3,h4⟩:=h2 z hz
  rw[← h4];exact h.no M' (List.mem_of_getElem? h1) o' h3
 ·obtain⟨j,hj⟩:=List.mem_iff_getElem?.1 hM
  obtain⟨M',h1,h2⟩:=lE hj
  obtain⟨o',h3,h4⟩:=h2 z hz
  rw[← h4];exact h.d M' (List.mem_of_getElem? h1) o' h3
structure Fits (D:Int→Prop) (S:Stm) (B:List (List zD)):Prop where
 lf:∀x,S.left x=qB B x
 own:∀(k:Nat) (L:List zD),B[k]? =some L→∀o∈L,S.own o.id=k
 d:∀L∈B,∀o∈L,D o.id
theorem Fits.take {D:Int→Prop} {S:Stm} {p:Prd} {B:List (List zD)} (h:Fits D S B) (hB:BWf p B) {k:Nat} {L:List zD} (hL:B[k]? =some L) {o:zD} (ho:o∈L) {x:Int} (hx:1≤x∧x≤o.qty):Fits D ⟨upd S.left o.id (o.qty-x),S.own⟩ (yT B o.id x).1:=by
 refine⟨fun y=> ?_,fun j M hM z hz=> ?_,fun M hM z hz=> ?_⟩
 ·rw[zZd hB hL ho hx]
  dsimp only[upd]
  by_cases c:y=o.id
  ·rw[if_pos c,if_pos c]
  ·rw[if_neg c,if_neg c];exact h.lf y
 ·obtain⟨M',h1,h2⟩:=lE hM
  obtain⟨o',h3,h4⟩:=h2 z hz
  rw[← h4];exact h.own j M' h1 o' h3
 ·obtain⟨j,hj⟩:=List.mem_iff_getElem?.1 hM
  obtain⟨M',h1,h2⟩:=lE hj
  obtain⟨o',h3,h4⟩:=h2 z hz
  rw[← h4];exact h.d M' (List.mem_of_getElem? h1) o' h3
theorem z7o {B:List (List zD)} {id:Int} (h:(z6 B id).2.2=true):∃(k:Nat) (L:List zD),(z6 B id).1=k∧B[k]? =some L∧(z6 B id).2.1∈L∧(z6 B id).2.1.id=id:=by
 rw[z6]at h ⊢
 split at h
 ·cases h
 ·rename_i k hk
  obtain⟨L,hL,hh⟩:=xW hk
  obtain⟨o,ho,e⟩:=List.mem_map.1 (hasId_iff.1 hh)
  refine⟨k,L,rfl,hL,?_⟩
  dsimp only
  rw[zI hL,gE]
  cases hf:L.find? fun o=>decide (o.id=id)with
  |none=>exact absurd e (by simpa using List.find?_eq_none.1 hf o ho)
  |some y=>exact⟨List.mem_of_find?_eq_some hf,by simpa using List.find?_some hf⟩
theorem take_zero {B:List (List zD)} {id x:Int} (hx:x<1):(yT B id x).1=B:=by
 rw[yT]
 split
 ·rfl
 ·rename_i k hk
  obtain⟨L,hL,hh⟩:=xW hk
  dsimp only
  rw[zI hL,xS,if_neg (by rw[hh];decide),if_pos (.inl hx)]
  exact kH hL
theorem zTg {p:Prd} {i n:Int} (h:p.price i n=0):0≤i∧i<p.count:=by
 rw[Prd.price]at h
 split at h
 ·cases h
 split at h
 ·cases h
 ·omega
end Sx
