/- Texts of ours, one behind the other: a walk that the kernel reckons, and contracts of functions. No condition. -/
import Derived.Test.YtpgpnnncaidcjaaGreatM9
namespace Sx
set_option linter.unusedVariables false
set_option linter.unusedSimpArgs false
set_option maxRecDepth 100000
open Go Cv Go.Proofs
open Go Cv Go.Proofs
theorem m7 {inst s:Int} {f:wL}:∀{os:List zD} {sh:List Int},f∈yH inst s os sh→f.side=s∧f.inst=inst∧∃o∈os,f.price=o.price
 |[],sh,h=>by cases h
 |o::os,[],h=>by cases h
 |o::os,k::sh,h=>by
  rw[yH]at h
  split at h
  ·rcases List.mem_cons.1 h with rfl|h
   ·exact⟨rfl,rfl,o,List.mem_cons_self,rfl⟩
   ·obtain⟨a,b,o',c,d⟩:=m7 h
    exact⟨a,b,o',List.mem_cons_of_mem _ c,d⟩
  ·obtain⟨a,b,o',c,d⟩:=m7 h
   exact⟨a,b,o',List.mem_cons_of_mem _ c,d⟩
def FOk (f:wL):Prop:=(f.side=1∨f.side=2)∧-2000000≤f.price∧f.price≤2000000
theorem zCo {p:Prd} {B:List (List zD)} (h:BOk p B) (inst:Int) {s:Int} (hs:s=1∨s=2) (q:Int):∀f∈yW p B inst s q,FOk f:=by
 intro f hf
 obtain⟨a,_,o,ho,e⟩:=m7 hf
 refine⟨by rw[a];exact hs,?_⟩
 rw[e]
 have ho:=(List.mem_filter.1 ho).1
 by_cases hk:inst.toNat<B.length
 ·obtain⟨L,hL⟩:=z9 hk
  rw[zI hL]at ho
  exact h.prices hL o ho
 ·rw[List.getD_eq_getElem?_getD,List.getElem?_eq_none (by omega)]at ho;cases ho
def SOk (t:qZ):Prop:=(-2000000≤t.price∧t.price≤2000000)∧(∀f∈t.fills,FOk f)∧t.fills.length≤500
theorem yCk {p:Prd} {B:List (List zD)} (h:BWf p B) {inst:Int} (hi:0≤inst∧inst<B.length) {s:Int} (hs:s=1∨s=2) (hn:(zT p B inst s).2.2=true): -2000000≤(zT p B inst s).1.price∧(zT p B inst s).1.price≤2000000:=by
 rw[zT]at hn ⊢
 obtain⟨L,hL⟩:=z9 (l:=B) (i:=inst.toNat) (by omega)
 rw[zI hL]at hn ⊢
 split
 ·exact zOh (h.ok.prices hL)
 ·rename_i c
  rw[if_neg c]at hn
  have hm:=zLd hn
  have:=(List.mem_filter.1 hm).2
  exact l5 h.ok.pc (of_decide_eq_true this)
theorem yCg {p:Prd} {B:List (List zD)} (h:BWf p B) {inst:Int} (hi:0≤inst∧inst<B.length) {sd:Bool} {price q:Int} {t:qZ} {B':List (List zD)} (e:jG p B inst sd price q=some (t,B')):SOk t:=by
 have hs:zA (!sd)=1∨zA (!sd)=2:=fN _
 have hb:=yCk h hi hs
 have hin:=rM h.ok h.od hi hs
 rw[jG]at e
 dsimp only at e
 split at e
 ·rename_i c
  have c1:(zT p B inst (zA (!sd))).2.2=true:=by
   cases hx:(zT p B inst (zA (!sd))).2.2 with
   |false=>rw[hx]at c;cases c
   |true=>rfl
  have hb:=hb c1
  obtain⟨_,hin,_⟩:=hin c1
  split at e
  ·rename_i c2
   obtain⟨_,ok⟩:=hin c2
   cases e
   refine⟨hb,fun f hf=> ?_,?_⟩
   ·rcases List.mem_append.1 hf with hf|hf
    ·exact zCo h.ok _ ok.sa _ f hf
    ·exact zCo h.ok.takes _ ok.sb _ f hf
   ·dsimp only
    rw[List.length_append]
    have:=bI (p:=p) h.od (zT p B inst (zA (!sd))).1.a.inst (zT p B inst (zA (!sd))).1.a.side (min q (zT p B inst (zA (!sd))).1.qty)
    have:=bI (p:=p) (h.takes (fs:=yW p B (zT p B inst (zA (!sd))).1.a.inst (zT p B inst (zA (!sd))).1.a.side (min q (zT p B inst (zA (!sd))).1.qty))).od (zT p B inst (zA (!sd))).1.b.inst (zT p B inst (zA (!sd))).1.b.side (min q (zT p B inst (zA (!sd))).1.qty)
    omega
  ·cases e
   refine⟨hb,fun f hf=>zCo h.ok _ hs _ f hf,?_⟩
   have:=bI (p:=p) h.od inst (zA (!sd)) (min q (zT p B inst (zA (!sd))).1.qty)
   dsimp only
   omega
 ·cases e
open Go Cv Go.Proofs
open Go Cv Go.Proofs
def eA (a:StI):Prop:=yU a.s.wh=yU a.s.wh∧AObj.fro 1 (iE a.s.p.months)=AObj.fro 1 (iE a.s.p.months)∧AObj.fro 1 (iE a.s.p.settle)=AObj.fro 1 (iE a.s.p.settle)∧True
def zXa (i:StI):Prop:=
 (dU i)∧∃(a:Bool),∃(b:Int),(aP i b a)∧cnd (!a) (∃(c:Unit),(zJ i.B i.id).fst=0∧(zJ i.B i.id).snd.fst.id=0∧(zJ i.B i.id).snd.fst.side=0∧(zJ i.B i.id).snd.fst.price=0∧(zJ i.B i.id).snd.fst.qty=0∧(zJ i.B i.id).snd.fst.top=false∧(zJ i.B i.id).snd.snd=false∧sb i.s.p.code=sb i.s.p.code∧i.s.p.tick=i.s.p.tick∧i.s.p.low=i.s.p.low∧i.s.p.high=i.s.p.high∧i.s.p.wide=i.s.p.wide∧i.s.p.rule=i.s.p.rule∧i.s.p.top=i.s.p.top∧i.s.p.least=i.s.p.least∧i.s.p.part=i.s.p.part∧AObj.objs 102 Book 6 zS i.s.books none=AObj.objs 102 Book 6 zS i.s.books none∧eA i) ((0≤b∧b<(↑i.s.books.length:Int))∧b.toNat<i.s.books.length∧∃(c:Book),i.s.books[b.toNat]?=some c∧∃(d:FlI),d.id=i.id∧yC d.b=yC c∧d.b.Rep d.L∧∀(e:Unit),True→∃(f:Book),yC d.b=yC f∧b.toNat=b.toNat∧b.toNat<i.s.books.length∧∃(g:Unit),(zJ i.B i.id).fst=b∧(zJ i.B i.id).snd.fst.id=(gN d.L d.id).id∧(zJ i.B i.id).snd.fst.side=(gN d.L d.id).side∧(zJ i.B i.id).snd.fst.price=(gN d.L d.id).price∧(zJ i.B i.id).snd.fst.qty=(gN d.L d.id).qty∧(zJ i.B i.id).snd.fst.top=(gN d.L d.id).top∧(zJ i.B i.id).snd.snd=true∧sb i.s.p.code=sb i.s.p.code∧i.s.p.tick=i.s.p.tick∧i.s.p.low=i.s.p.low∧i.s.p.high=i.s.p.high∧i.s.p.wide=i.s.p.wide∧i.s.p.rule=i.s.p.rule∧i.s.p.top=i.s.p.top∧i.s.p.least=i.s.p.least∧i.s.p.part=i.s.p.part∧AObj.objs 102 Book 6 zS i.s.books none=AObj.objs 102 Book 6 zS (i.s.books.set b.toNat f) none∧eA i)
theorem yCb (hG:GOk Tryz.prog ([(75,bfindC)])) (h:∀(i:StI),sfindC.cnd i→zXa i):sfindC.ok Tryz.prog 41:=okw mixed hG 0 (fun _=>[]) (fun _=>[]) [0] Tryz.func41 h
open Go Cv Go.Proofs
theorem yHm (i:StI) (h:sfindC.cnd i):zXa i:=by
 obtain⟨hR,hB⟩:i.s.Rep i.p i.B∧i.B.length≤1000:=h
 have hat:=hR.at_ i.id
 unfold zXa dU aP eA
 rw[zJ]
 cases hi:h8 i.B i.id with
 |none=>
  rw[hi]at hat
  exact⟨gR _ _,false,0,.inr ⟨by rw[b8,hat];rfl,rfl,rfl⟩,Cv.cnd.mk (fun _=>⟨(),by(repeat'(first|exact trivial|exact rfl|apply And.intro))⟩) (fun e=>absurd e (by decide))⟩
 |some k=>
  rw[hi]at hat
  obtain⟨L,hL,hh⟩:=xM hi
  have hk:=(List.getElem?_eq_some_iff.1 hL).1
  obtain⟨b,hb⟩:=z9 (l:=i.s.books) (i:=k) (by rw[hR.bl];exact hk)
  have hbR:=hR.bk k b L hb hL
  have hbl:=hR.bl
  refine⟨gR _ _,true,k,.inl ⟨by rw[b8,hat];rfl,rfl⟩,Cv.cnd.mk (fun e=>absurd e (by decide)) (fun _=> ?_)⟩
  dsimp only
  rw[Int.toNat_natCast,zI hL]
  have hs:=kU hb
  refine⟨⟨by omega,by omega⟩,by omega,b,hb,⟨b,L,i.id,0⟩,rfl,rfl,hbR,fun _ _=>⟨b,rfl,rfl,by omega,(),?_⟩⟩
  rw[hs]
  (repeat'(first|exact trivial|exact rfl|apply And.intro))
theorem zTm:sfindC.ok Tryz.prog 41:=yCb (gokc zQy gok0) yHm
open Go Cv Go.Proofs
theorem zMb (id:Int) (U:List Int):∀p∈zX U,like (Value.int IntKind.i64 id) p.1=true:=by
 intro p hp
 obtain⟨k,_,rfl⟩:=List.mem_map.1 hp
 rfl
theorem zKp (id:Int):∀U:List Int,gG (Value.int IntKind.i64 id) [D.v (.bool true)] (zX U)=zX (l8 U id)
 |[]=>rfl
 |k::U=>by
  have ih:=zKp id U
  have e:mU (Value.int IntKind.i64 id) (Value.int IntKind.i64 k)=decide (id=k):=by simp[mU,keq]
  show(bif mU (Value.int IntKind.i64 id) (Value.int IntKind.i64 k)then(Value.int IntKind.i64 k,[D.v (.bool true)])::zX U else(Value.int IntKind.i64 k,[D.v (.bool true)])::gG (Value.int IntKind.i64 id) [D.v (.bool true)] (zX U))=_
  rw[e,ih]
  by_cases c:id=k
  ·rw[decide_eq_true c,cond_true,l8,if_pos (by rw[c];exact List.mem_cons_self)];rfl
  ·rw[decide_eq_false c,cond_false,l8,l8]
   have hm:id∈k::U↔id∈U:=by simp[c]
   by_cases d:id∈U
   ·rw[if_pos d,if_pos (hm.2 d)];rfl
   ·rw[if_neg d,if_neg (fun x=>d (hm.1 x))];rfl
theorem zKm (id:Int):∀U:List Int,vU (Value.int IntKind.i64 id) (zX U)=if id∈U then some [D.v (.bool true)]else none
 |[]=>rfl
 |k::U=>by
  have ih:=zKm id U
  have e:mU (Value.int IntKind.i64 id) (Value.int IntKind.i64 k)=decide (id=k):=by simp[mU,keq]
  show(bif mU (Value.int IntKind.i64 id) (Value.int IntKind.i64 k)then some [D.v (.bool true)]else vU (Value.int IntKind.i64 id) (zX U))=_
  rw[e,ih]
  by_cases c:id=k
  ·rw[decide_eq_true c,cond_true,if_pos (by rw[c];exact List.mem_cons_self)]
  ·rw[decide_eq_false c,cond_false]
   have hm:id∈k::U↔id∈U:=by simp[c]
   by_cases d:id∈U
   ·rw[if_pos d,if_pos (hm.2 d)]
   ·rw[if_neg d,if_neg (fun x=>d (hm.1 x))]
theorem z8b (id:Int) (U:List Int):vU (Value.int IntKind.i64 id) (zX U)=some [D.v (.bool (decide (id∈U)))]∧decide (id∈U)=true∨vU (Value.int IntKind.i64 id) (zX U)=none∧[D.v (.bool (decide (id∈U)))]=[D.v (.bool false)]∧decide (id∈U)=false:=by
 rw[zKm]
 by_cases c:id∈U
 ·rw[if_pos c,decide_eq_true c];exact .inl ⟨rfl,rfl⟩
 ·rw[if_neg c,decide_eq_false c];exact .inr ⟨rfl,rfl,rfl⟩
theorem zMz {p:Prd} {inst:Int} {sd:Bool} {price:Int}:∀(m:Nat) (q:Int) (B:List (List zD)),q.toNat≤m→BWf p B→0≤inst∧inst<B.length→
 (∀t∈(xS p B inst sd price q).steps,SOk t∧1≤t.qty)∧((xS p B inst sd price q).steps.map (·.qty)).sum=q-(xS p B inst sd price q).left
 |m,q,B,hm,h,hi=>by
  by_cases hq:q≤0
  ·rw[jP (.inl hq)];exact⟨fun t ht=>(by cases ht),by simp⟩
  cases hs:jG p B inst sd price q with
  |none=>rw[jP (.inr hs)];exact⟨fun t ht=>(by cases ht),by simp⟩
  |some x=>
   obtain⟨t,C⟩:=x
   obtain⟨k1,k2⟩:=zCi h hs
   have hq2:=nC (by omega) hs
   cases m with
   |zero=>omega
   |succ m=>
   obtain⟨i1,i2⟩:=zMz (p:=p) (inst:=inst) (sd:=sd) (price:=price) m (q-t.qty) C (by omega) k1 (by rw[k2];exact hi)
   rw[fW (by omega) hs]
   refine⟨fun u hu=> ?_,?_⟩
   ·rcases List.mem_cons.1 hu with rfl|hu
    ·exact⟨yCg h hi hs,hq2.1⟩
    ·exact i1 u hu
   ·dsimp only
    rw[List.map_cons,List.sum_cons,i2];omega
theorem yGu {α:Type} {f:α→List Rep} (hf:∀x,(f x).length≤3):∀l:List α,(l.flatMap f).length≤3*l.length
 |[]=>Nat.le_refl _
 |x::l=>by
  have:=yGu hf l
  have:=hf x
  rw[List.flatMap_cons,List.length_append,List.length_cons];omega
theorem zKa (p:Prd) (c:Cmd) (x:qZ) (left:Int):(fP p c x left).length≤3*x.fills.length+3:=by
 rw[fP,List.length_append]
 have:=yGu (fun f=>zIw p x (gK f)) x.fills
 have:=zIw p x ⟨3,c.id,c.inst,c.side,x.price,x.qty,left,0⟩
 omega
theorem zOb {l:List qZ} (h:∀t∈l,SOk t∧1≤t.qty):(l.length:Int)≤(l.map (·.qty)).sum:=by
 induction l with
 |nil=>exact Int.le_refl _
 |cons t l ih=>
  have:=ih fun u hu=>h u (List.mem_cons_of_mem _ hu)
  have:=(h t List.mem_cons_self).2
  rw[List.map_cons,List.sum_cons,List.length_cons];omega
theorem yLf (i:EnI) (h:enterC.cnd i):zTy i:=by
 obtain⟨m,p,B,U,c,X⟩:=i
 have h':(m.Rep p B U∧BOk p B)∧((0≤c.inst∧c.inst<B.length)∧(1≤c.qty∧c.qty≤1000000)∧(c.side=1∨c.side=2))∧p.price c.inst c.price=0∧X=wX p B U c:=h
 clear h
 obtain⟨⟨⟨ep,hR,eu⟩,hB⟩,⟨⟨h0,h1⟩,hq,hs⟩,hpz,hX⟩:=h'
 subst ep eu hX
 have hwf:=hR.wf hB
 obtain⟨k1,k2,k3⟩:=dL (inst:=c.inst) (sd:=decide (c.side=2)) (price:=c.price) _ c.qty B (Nat.le_refl _) hwf
 have k3:=k3 (by omega)
 obtain⟨s1,s2⟩:=zMz (inst:=c.inst) (sd:=decide (c.side=2)) (price:=c.price) _ c.qty B (Nat.le_refl _) hwf ⟨h0,h1⟩
 have hX:=vT m.p B m.used c
 have hbd:=l5 hB.pc hpz
 unfold zTy qP vC wY vD wV wS wZ wQ tR
 dsimp only
 rw[zKp,hX]
 refine⟨zMb _ _,⟨m.s,m.p,B,c.inst,decide (c.side=2),c.price,c.qty⟩,rfl,uX hs,rfl,rfl,rfl,⟨hR,hB,⟨h0,h1⟩,hq.1,hq.2⟩,fun o ho=> ?_⟩
 have er:RunI.r ⟨m.s,m.p,B,c.inst,decide (c.side=2),c.price,c.qty⟩=xS m.p B c.inst (decide (c.side=2)) c.price c.qty:=rfl
 rw[er]at ho ⊢
 clear hX er
 generalize xS m.p B c.inst (decide (c.side=2)) c.price c.qty=R at*
 obtain⟨ts,lf,RB⟩:=R
 dsimp only at*
 have hlen:=zOb s1
 have e4:(ts.map jQ).length=ts.length:=List.length_map ..
 refine⟨⟨c.qty,0,[⟨1,c.id,c.inst,c.side,c.price,c.qty,c.qty,0⟩]⟩,rfl,rfl,rfl,fun j=>j.k≤ts.length∧j.left=lf+((ts.drop j.k).map (·.qty)).sum∧(⟨1,c.id,c.inst,c.side,c.price,c.qty,c.qty,0⟩::wF m.p c ts c.qty)=j.out++wF m.p c (ts.drop j.k) j.left∧j.out.length≤1+1503*j.k,fun j=>ts.length-j.k,⟨Nat.zero_le _,by dsimp only;rw[List.drop_zero,s2];omega,rfl,Nat.le_refl _⟩,?_⟩
 rintro⟨left,k,out⟩ ⟨j1,j2,j3,j4⟩
 dsimp only at j1 j2 j3 j4 ⊢
 have e5:(out.map yM).length=out.length:=List.length_map ..
 refine zL (fun c1=> ?_) (fun c1=> ?_)
 ·obtain⟨t,ht⟩:=z9 (l:=ts) (i:=k) (by omega)
  have hd:ts.drop k=t::ts.drop (k+1):=by rw[List.drop_eq_getElem_cons (by omega),(List.getElem?_eq_some_iff.1 ht).2]
  obtain⟨⟨t1,t2,t3⟩,t4⟩:=s1 t (List.mem_of_getElem? ht)
  have hsd:=zOb (l:=ts.drop (k+1)) fun u hu=>s1 u (List.mem_of_mem_drop hu)
  have hsk:((ts.drop k).map (·.qty)).sum≤(ts.map (·.qty)).sum:=by
   have:=zOb (l:=ts.take k) fun u hu=>s1 u (List.mem_of_mem_take hu)
   have e:(ts.map (·.qty)).sum=((ts.take k).map (·.qty)).sum+((ts.drop k).map (·.qty)).sum:=by
    rw[← List.sum_append,← List.map_append,List.take_append_drop]
   omega
  rw[hd,List.map_cons,List.sum_cons]at j2 hsk
  rw[hd,wF]at j3
  have hrl:=zKa m.p c t (left-t.qty)
  have e6:((fP m.p c t (left-t.qty)).map yM).length=(fP m.p c t (left-t.qty)).length:=List.length_map ..
  have hw:IntKind.i64.wrap (left-t.qty)=left-t.qty:=w64 (by omega)
  refine⟨⟨by omega,by omega⟩,t.price,t.qty,t.implied,t.fills.map yQ,elA ht (by simp[jQ]) rfl,?_⟩
  rw[hw]
  refine⟨⟨⟨m.p,o,l8 m.used c.id⟩,c,t,left-t.qty⟩,rfl,rfl,rfl,rfl,rfl,rfl,rfl,rfl,rfl,rfl,rfl,rfl,rfl,rfl,rfl,rfl,rfl,rfl,rfl,rfl,rfl,rfl,rfl,rfl,rfl,rfl,rfl,⟨⟨hB.pc,hB.ps⟩,⟨by dsimp only;omega,by dsimp only;omega⟩,by dsimp only;omega,hs,fun f hf=>(t2 f hf).1⟩,fun _ _=>⟨by dsimp only;rw[e5,e6];omega,⟨left-t.qty,k+1,out++fP m.p c t (left-t.qty)⟩,rfl,wjn (by omega),by dsimp only;rw[List.map_append],⟨by dsimp only;omega,by dsimp only;omega,by dsimp only;rw[j3,List.append_assoc],by dsimp only;rw[List.length_append];omega⟩,by dsimp only;omega,by(repeat'(first|exact trivial|exact rfl|apply And.intro))⟩⟩
 have hk:k=ts.length:=by omega
 subst hk
 rw[List.drop_of_length_le (Nat.le_refl _)]at j2 j3
 rw[wF,List.append_nil]at j3
 rw[← j3]
 rw[← j3]at e5 j4
 have hRB:=k1.ok
 refine Cv.cnd.mk (fun e=> ?_) (fun e=>Cv.cnd.mk (fun e2=> ?_) (fun e2=> ?_))
 ·have e:lf=0:=by simpa using e
  rw[if_neg (by omega),if_neg (by omega),List.append_nil]
  exact⟨⟨m.p,o,l8 m.used c.id⟩,rfl,rfl,rfl,rfl,rfl,rfl,rfl,rfl,rfl,rfl,rfl,rfl,rfl,rfl,rfl,ho,rfl⟩
 ·have e:¬lf=0:=by simpa using e
  have e2:c.time=1:=by simpa using e2
  rw[if_neg (show ¬(lf≠0∧c.time≠1)by omega),if_pos (show lf≠0∧c.time=1 from⟨e,e2⟩),List.append_nil]
  have ha:=(ho.add c.inst c.id (decide (c.side=2)) c.price lf).1
  rw[uX hs]at ha
  exact⟨⟨o,c.inst,c.id,decide (c.side=2),c.price,lf⟩,rfl,rfl,uX hs,rfl,rfl,rfl,ho.fit hRB,fun _ _=>⟨⟨m.p,(MSt.addF ⟨o,c.inst,c.id,decide (c.side=2),c.price,lf⟩).1,l8 m.used c.id⟩,rfl,rfl,rfl,rfl,rfl,rfl,rfl,rfl,rfl,rfl,rfl,rfl,rfl,rfl,rfl,ha,rfl⟩⟩
 ·have e:¬lf=0:=by simpa using e
  have e2:¬c.time=1:=by simpa using e2
  rw[if_pos (show lf≠0∧c.time≠1 from⟨e,e2⟩),if_neg (show ¬(lf≠0∧c.time=1)by omega)]
  exact⟨by rw[e5];omega,⟨m.p,o,l8 m.used c.id⟩,rfl,rfl,rfl,rfl,rfl,rfl,rfl,rfl,rfl,rfl,rfl,rfl,rfl,by rw[List.map_append];rfl,rfl,ho,rfl⟩
theorem zTq:enterC.ok Tryz.prog 74:=yFk (gokc zUp (gokc z4t (gokc yCt gok0))) yLf
theorem z3e:mcountC.ok Tryz.prog 19:=z7s (gokc zGe gok0) fun i h=>by
 obtain⟨m,p,B,U,id⟩:=i
 have h':m.Rep p B U∧BOk p B:=h
 clear h
 obtain⟨⟨ep,hR,eu⟩,hB⟩:=h'
 subst ep eu
 have:=x0 m.p
 have:=hB.bl
 exact⟨⟨m.s,m.p,B,0,false⟩,rfl,⟨hR,by dsimp only;omega⟩,fun _ _=>⟨(),by(repeat'(first|exact trivial|exact rfl|apply And.intro))⟩⟩
theorem mfind_ok:mfindC.ok Tryz.prog 26:=yEu (gokc zTm gok0) fun i h=>by
 obtain⟨m,p,B,U,id⟩:=i
 have h':m.Rep p B U∧BOk p B:=h
 clear h
 obtain⟨⟨ep,hR,eu⟩,hB⟩:=h'
 subst ep eu
 have:=x0 m.p
 have:=hB.bl
 exact⟨⟨m.s,m.p,B,id,0⟩,rfl,rfl,⟨hR,by dsimp only;omega⟩,fun _ _=>⟨(),by(repeat'(first|exact trivial|exact rfl|apply And.intro))⟩⟩
theorem zKl:cancelC.ok Tryz.prog 43:=yAg (gokc lY gok0) fun i h=>by
 obtain⟨m,p,B,U,id,q,inst,o,X⟩:=i
 have h':(m.Rep p B U∧BOk p B)∧X=jJ B U id inst o:=h
 clear h
 obtain⟨⟨⟨ep,hR,eu⟩,hB⟩,hX⟩:=h'
 subst ep eu hX
 have:=x0 m.p
 have:=hB.bl
 exact⟨⟨m.s,m.p,B,id,o.qty⟩,rfl,rfl,rfl,⟨hR,by dsimp only;omega⟩,fun o' ho=>⟨⟨m.p,o',m.used⟩,rfl,rfl,rfl,rfl,rfl,rfl,rfl,rfl,rfl,rfl,rfl,rfl,rfl,rfl,rfl,ho,rfl⟩⟩
theorem zJw:reduceC.ok Tryz.prog 44:=z4r (gokc lY gok0) fun i h=>by
 obtain⟨m,p,B,U,id,q,inst,o,X⟩:=i
 have h':(m.Rep p B U∧BOk p B)∧yR (o.qty-q)∧X=uK B U id q inst o:=h
 clear h
 obtain⟨⟨⟨ep,hR,eu⟩,hB⟩,hw,hX⟩:=h'
 subst ep eu hX
 have:=x0 m.p
 have:=hB.bl
 have hw:=w64 hw
 unfold z0a
 dsimp only
 rw[hw]
 exact⟨⟨m.s,m.p,B,id,q⟩,rfl,rfl,rfl,⟨hR,by dsimp only;omega⟩,fun o' ho=>⟨⟨m.p,o',m.used⟩,rfl,rfl,rfl,rfl,rfl,rfl,rfl,rfl,rfl,rfl,rfl,rfl,rfl,rfl,rfl,ho,rfl⟩⟩
theorem zKu {c:Cmd} (h:c.right=0):(if c.kind=1 then c.orderE else if c.kind≠2∧wH c.qty=false then 24 else if c.kind=4∧gW c.price=false then 23 else 0)=0:=by
 rw[Cmd.right]at h
 by_cases c1:c.kind<1∨4<c.kind
 ·rw[if_pos c1]at h;cases h
 rw[if_neg c1]at h
 by_cases c2:c.id<1∨1099511627776<c.id
 ·rw[if_pos c2]at h;cases h
 rw[if_neg c2]at h
 exact h
theorem zAy {c:Cmd} (h:c.right=0) (hk:c.kind=1):(c.side=1∨c.side=2)∧(1≤c.qty∧c.qty≤1000000)∧(0≤c.least∧c.least≤c.qty):=by
 have h:=zKu h
 rw[if_pos hk,Cmd.orderE]at h
 by_cases c1:c.side≠1∧c.side≠2
 ·rw[if_pos c1]at h;cases h
 rw[if_neg c1]at h
 by_cases c2:c.time<1∨3<c.time
 ·rw[if_pos c2]at h;cases h
 rw[if_neg c2]at h
 cases c3:wH c.qty with
 |false=>rw[if_pos c3]at h;cases h
 |true=>
  rw[if_neg (by rw[c3];decide)]at h
  by_cases c4:c.least<0∨c.qty<c.least
  ·rw[if_pos c4]at h;cases h
  simp only[wH,Bool.and_eq_true,decide_eq_true_eq]at c3
  exact⟨by omega,c3,by omega⟩
theorem bV {c:Cmd} (h:c.right=0) (hk:¬c.kind=1) (hk2:¬c.kind=2):1≤c.qty∧c.qty≤1000000:=by
 have h:=zKu h
 rw[if_neg hk]at h
 cases c3:wH c.qty with
 |false=>rw[if_pos ⟨hk2,c3⟩]at h;cases h
 |true=>
  simp only[wH,Bool.and_eq_true,decide_eq_true_eq]at c3
  exact c3
theorem yIh (i:EnI) (h:orderC.cnd i):zYa i:=by
 obtain⟨m,p,B,U,c,X⟩:=i
 have h':(m.Rep p B U∧BOk p B)∧c.right=0∧c.kind=1∧X=dQ p B U c:=h
 clear h
 obtain⟨⟨hM,hB⟩,hr,hkd,hX⟩:=h'
 obtain⟨ep,hR,eu⟩:=hM
 subst ep eu
 have hM:m.Rep m.p B m.used:=⟨rfl,hR,rfl⟩
 obtain⟨hs,hq,hl⟩:=zAy hr hkd
 have hbl:=hB.bl
 have hcl:=x0 m.p
 unfold zYa qP u9 rB zBb pS sF zCd zAx zBe zBy vC wY vD wV wS wZ wQ mN
 dsimp only
 refine⟨⟨m.p,c.inst,c.price⟩,rfl,rfl,rfl,rfl,rfl,rfl,rfl,rfl,rfl,rfl,rfl,rfl,rfl,hB.ps,fun _ _=>Cv.cnd.mk (fun e=> ?_) (fun e=> ?_)⟩
 ·have e:m.p.price c.inst c.price≠0:=by simpa using e
  have hx:X=⟨B,m.used,f0 c (m.p.price c.inst c.price)⟩:=by rw[hX,dQ,if_pos e]
  exact⟨⟨c,m.p.price c.inst c.price⟩,rfl,rfl,rfl,rfl,rfl,rfl,rfl,rfl,rfl,rfl,trivial,fun _ _=>⟨m,rfl,rfl,rfl,rfl,rfl,rfl,rfl,rfl,rfl,rfl,rfl,rfl,rfl,by rw[hx];rfl,by rw[hx];exact hM⟩⟩
 have hpz:m.p.price c.inst c.price=0:=by simpa using e
 have hin:=zHf hpz
 have hib:0≤c.inst∧c.inst<B.length:=by omega
 rw[dQ,if_neg (by rw[hpz];decide)]at hX
 refine⟨0,fun l=>l=c.lst,Cv.cnd.mk (fun e=>⟨c.qty,rfl,by rw[Cmd.lst,if_pos (by simpa using e)],by(repeat'(first|exact trivial|exact rfl|apply And.intro))⟩) (fun e=>⟨c.least,rfl,by rw[Cmd.lst,if_neg (by simpa using e)],by(repeat'(first|exact trivial|exact rfl|apply And.intro))⟩),?_⟩
 rintro _ rfl
 refine⟨zMb _ _,_,_,z8b _ _,zL (fun e=> ?_) (fun e=> ?_)⟩
 ·have hx:X=⟨B,m.used,f0 c 25⟩:=by rw[hX,if_pos e]
  exact⟨⟨c,25⟩,rfl,rfl,rfl,rfl,rfl,rfl,rfl,rfl,rfl,rfl,trivial,fun _ _=>⟨m,rfl,rfl,rfl,rfl,rfl,rfl,rfl,rfl,rfl,rfl,rfl,rfl,rfl,by rw[hx];rfl,by rw[hx];exact hM⟩⟩
 rw[if_neg e]at hX
 refine⟨⟨m.s,m.p,B,0,false⟩,rfl,⟨hR,by dsimp only;omega⟩,fun _ _=>zL (fun e=> ?_) (fun e=> ?_)⟩
 ·have hx:X=⟨B,m.used,f0 c 13⟩:=by rw[hX,if_pos (by dsimp only at e;omega)]
  exact⟨⟨c,13⟩,rfl,rfl,rfl,rfl,rfl,rfl,rfl,rfl,rfl,rfl,trivial,fun _ _=>⟨m,rfl,rfl,rfl,rfl,rfl,rfl,rfl,rfl,rfl,rfl,rfl,rfl,rfl,by rw[hx];rfl,by rw[hx];exact hM⟩⟩
 rw[if_neg (by dsimp only at e;omega)]at hX
 have hok:RunI.ok ⟨m.s,m.p,B,c.inst,decide (c.side=2),c.price,c.qty⟩:=⟨hR,hB,hib,hq.1,hq.2⟩
 refine⟨true,fun b=>b=decide (0<c.lst∧c.qty-(xS m.p B c.inst (decide (c.side=2)) c.price c.qty).left<c.lst),zL (fun e=>⟨⟨m.s,m.p,B,c.inst,decide (c.side=2),c.price,c.qty⟩,rfl,uX hs,rfl,rfl,rfl,hok,fun _ _=>⟨_,rfl,decide_eq_decide.2 ⟨fun x=>⟨e,x⟩,fun x=>x.2⟩,by(repeat'(first|exact trivial|exact rfl|apply And.intro))⟩⟩) (fun e=>⟨false,rfl,(decide_eq_false fun x=>e x.1).symm,by(repeat'(first|exact trivial|exact rfl|apply And.intro))⟩),?_⟩
 rintro _ rfl
 refine zL (fun e=> ?_) (fun e=> ?_)
 ·have hx:X=⟨B,m.used,f0 c 28⟩:=by rw[hX,if_pos e]
  exact⟨⟨c,28⟩,rfl,rfl,rfl,rfl,rfl,rfl,rfl,rfl,rfl,rfl,trivial,fun _ _=>⟨m,rfl,rfl,rfl,rfl,rfl,rfl,rfl,rfl,rfl,rfl,rfl,rfl,rfl,by rw[hx];rfl,by rw[hx];exact hM⟩⟩
 rw[if_neg e]at hX
 refine⟨true,fun b=>b=decide (c.time=1∧cW m.p B c.inst (decide (c.side=2)) c.price c.qty=true),Cv.cnd.mk (fun e=>⟨⟨m.s,m.p,B,c.inst,decide (c.side=2),c.price,c.qty⟩,rfl,uX hs,rfl,rfl,rfl,hok,fun _ _=>⟨_,rfl,?_,by(repeat'(first|exact trivial|exact rfl|apply And.intro))⟩⟩) (fun e=>⟨false,rfl,(decide_eq_false fun x=> ?_).symm,by(repeat'(first|exact trivial|exact rfl|apply And.intro))⟩),?_⟩
 ·have e:c.time=1:=by simpa using e
  dsimp only
  cases hb:cW m.p B c.inst (decide (c.side=2)) c.price c.qty with
  |true=>exact(decide_eq_true ⟨e,rfl⟩).symm
  |false=>exact(decide_eq_false fun x=>by cases x.2).symm
 ·rw[x.1]at e;cases e
 rintro _ rfl
 refine zL (fun e=> ?_) (fun e=> ?_)
 ·have hx:X=⟨B,m.used,f0 c 23⟩:=by rw[hX,if_pos e]
  exact⟨⟨c,23⟩,rfl,rfl,rfl,rfl,rfl,rfl,rfl,rfl,rfl,rfl,trivial,fun _ _=>⟨m,rfl,rfl,rfl,rfl,rfl,rfl,rfl,rfl,rfl,rfl,rfl,rfl,rfl,by rw[hx];rfl,by rw[hx];exact hM⟩⟩
 rw[if_neg e]at hX
 exact⟨⟨m,m.p,B,m.used,c,X⟩,rfl,rfl,rfl,rfl,rfl,rfl,rfl,rfl,rfl,rfl,rfl,rfl,rfl,rfl,rfl,rfl,rfl,rfl,rfl,rfl,rfl,rfl,⟨⟨hM,hB⟩,⟨hib,hq,hs⟩,hpz,hX⟩,fun o ho=>⟨o,rfl,rfl,rfl,rfl,rfl,rfl,rfl,rfl,rfl,rfl,rfl,rfl,rfl,rfl,ho⟩⟩
theorem z9f:orderC.ok Tryz.prog 40:=yEk (gokc m8 (gokc zVg (gokc zGe (gokc z1q (gokc zQr (gokc zTq gok0)))))) yIh
theorem zPm {p:Prd} {B:List (List zD)} (h:BWf p B) {id inst:Int} {o:zD} (hf:zJ B id=(inst,o,true)):(0≤inst∧inst<B.length)∧zGr o:=by
 rw[zJ]at hf
 split at hf
 ·cases hf
 ·rename_i k hk
  obtain⟨L,hL,hh⟩:=xM hk
  rw[zI hL]at hf
  cases hf
  have hlt:=(List.getElem?_eq_some_iff.1 hL).1
  obtain⟨o,ho,e⟩:=List.mem_map.1 (hasId_iff.1 hh)
  have hg:=vL (h.od k L hL).2.1 ho
  rw[e]at hg
  rw[hg]
  exact⟨by omega,(h.od k L hL).1 o ho⟩
theorem zFr (p:Prd) (c:Cmd):∀(l:List qZ) (left:Int),(∀t∈l,SOk t∧1≤t.qty)→(wF p c l left).length≤1503*l.length
 |[],_,_=>Nat.le_refl _
 |t::l,left,h=>by
  have a:=zFr p c l (left-t.qty) fun u hu=>h u (List.mem_cons_of_mem _ hu)
  have b:=zKa p c t (left-t.qty)
  have d:=(h t List.mem_cons_self).1.2.2
  rw[wF,List.length_append,List.length_cons];omega
theorem sX {p:Prd} {B:List (List zD)} (h:BWf p B) (U:List Int) {c:Cmd} (hi:0≤c.inst∧c.inst<B.length) (hq:1≤c.qty∧c.qty≤1000000):(wX p B U c).R.length≤1503000002:=by
 obtain⟨s1,s2⟩:=zMz (inst:=c.inst) (sd:=decide (c.side=2)) (price:=c.price) _ c.qty B (Nat.le_refl _) h hi
 have k3:=(dL (inst:=c.inst) (sd:=decide (c.side=2)) (price:=c.price) _ c.qty B (Nat.le_refl _) h).2.2 (by omega)
 have:=zOb s1
 have:=zFr p c _ c.qty s1
 rw[vT]
 dsimp only
 rw[List.length_append,List.length_cons]
 split
 ·rw[List.length_cons,List.length_nil];omega
 ·rw[List.length_nil];omega
theorem z6w (i:zYc) (h:replaceC.cnd i):zGd i:=by
 obtain⟨m,p,B,U,c,inst,o,X⟩:=i
 have h':m.Rep p B U∧BOk p B∧zJ B c.id=(inst,o,true)∧(1≤c.qty∧c.qty≤1000000)∧X=uG p B U c inst o:=h
 clear h
 obtain⟨hM,hB,hf,hq,hX⟩:=h'
 obtain⟨ep,hR,eu⟩:=hM
 subst ep eu
 have hM:m.Rep m.p B m.used:=⟨rfl,hR,rfl⟩
 have hwf:=hR.wf hB
 obtain⟨hin,hoo⟩:=zPm hwf hf
 have hos:=hoo.s
 have hoq:=hoo.q
 have hbl:=hB.bl
 have hcl:=x0 m.p
 unfold zGd u9 sD qP u0 mN dA aE
 dsimp only
 refine⟨⟨m.p,inst,c.price⟩,rfl,rfl,rfl,rfl,rfl,rfl,rfl,rfl,rfl,rfl,rfl,rfl,rfl,hB.ps,fun _ _=>Cv.cnd.mk (fun e=> ?_) (fun e=> ?_)⟩
 ·have e:m.p.price inst c.price≠0:=by simpa using e
  have hx:X=⟨B,m.used,f0 c (m.p.price inst c.price)⟩:=by rw[hX,uG,if_pos e]
  exact⟨⟨c,m.p.price inst c.price⟩,rfl,rfl,rfl,rfl,rfl,rfl,rfl,rfl,rfl,rfl,trivial,fun _ _=>⟨m,rfl,rfl,rfl,rfl,rfl,rfl,rfl,rfl,rfl,rfl,rfl,rfl,rfl,by rw[hx];rfl,by rw[hx];exact hM⟩⟩
 have hpz:m.p.price inst c.price=0:=by simpa using e
 rw[uG,if_neg (by rw[hpz];decide)]at hX
 have hw:IntKind.i64.wrap (o.qty-c.qty)=o.qty-c.qty:=w64 (by omega)
 rw[hw]
 refine(fun hT=>Cv.cnd.mk (fun e1=>zL (fun e2=> ?_) (fun e2=>hT fun x=>e2 x.2)) (fun e1=>hT fun x=>by rw[x.1]at e1;simp at e1)) (fun(hn:¬(c.price=o.price∧c.qty≤o.qty))=> ?_)
 ·have e1:c.price=o.price:=by simpa using e1
  rw[if_pos ⟨e1,e2⟩]at hX
  exact⟨⟨m,m.p,B,m.used,c.id,o.qty-c.qty,inst,o,X⟩,rfl,rfl,rfl,rfl,rfl,rfl,rfl,rfl,rfl,rfl,rfl,rfl,rfl,rfl,rfl,rfl,rfl,rfl,rfl,rfl,rfl,⟨⟨hM,hB⟩,⟨by dsimp only;omega,by dsimp only;omega⟩,hX⟩,fun o' ho=>⟨o',rfl,rfl,rfl,rfl,rfl,rfl,rfl,rfl,rfl,rfl,rfl,rfl,rfl,rfl,ho⟩⟩
 rw[if_neg hn]at hX
 have hBt:=hB.take c.id o.qty
 refine⟨m.s,rfl,hR.small hB,fun _ _=>⟨⟨m.s,m.p,B,c.id,o.qty⟩,rfl,rfl,rfl,⟨hR,by dsimp only;omega⟩,fun o' ho'=>⟨⟨o',m.p,(yT B c.id o.qty).1,inst,decide (o.side=2),c.price,c.qty⟩,rfl,uX hos,rfl,rfl,rfl,⟨ho',hBt,by dsimp only;rw[bY];exact hin,hq.1,hq.2⟩,fun _ _=>Cv.cnd.mk (fun e=> ?_) (fun e=> ?_)⟩⟩⟩
 ·have hx:X=⟨B,m.used,f0 c 23⟩:=by rw[hX,if_pos e]
  exact⟨⟨c,23⟩,rfl,rfl,rfl,rfl,rfl,rfl,rfl,rfl,rfl,rfl,trivial,fun _ _=>⟨m,rfl,rfl,rfl,rfl,rfl,rfl,rfl,rfl,rfl,rfl,rfl,rfl,rfl,by rw[hx];rfl,by rw[hx];exact hM⟩⟩
 rw[if_neg (by rw[e];decide)]at hX
 refine⟨⟨m,m.p,B,m.used,c.id,0,inst,o,jJ B m.used c.id inst o⟩,rfl,rfl,rfl,rfl,rfl,rfl,rfl,rfl,rfl,rfl,rfl,rfl,rfl,rfl,rfl,rfl,rfl,rfl,rfl,rfl,⟨⟨hM,hB⟩,rfl⟩,fun o1 ho1=>⟨⟨o1,m.p,(yT B c.id o.qty).1,m.used,⟨1,c.id,inst,o.side,c.price,c.qty,0,1,[]⟩,wX m.p (yT B c.id o.qty).1 m.used ⟨1,c.id,inst,o.side,c.price,c.qty,0,1,[]⟩⟩,rfl,rfl,rfl,rfl,rfl,rfl,rfl,rfl,rfl,rfl,rfl,rfl,rfl,rfl,rfl,rfl,rfl,rfl,rfl,rfl,rfl,rfl,⟨⟨ho1,hBt⟩,⟨by dsimp only;rw[bY];exact hin,hq,hos⟩,hpz,rfl⟩,fun o2 ho2=>⟨?_,o2,rfl,rfl,rfl,rfl,rfl,rfl,rfl,rfl,rfl,rfl,rfl,rfl,rfl,?_,?_⟩⟩⟩
 ·have:=sX (hwf.take c.id o.qty) m.used (c:=⟨1,c.id,inst,o.side,c.price,c.qty,0,1,[]⟩) (by dsimp only;rw[bY];exact hin) hq
  dsimp only
  rw[List.length_map,List.length_map]
  have e1:(jJ B m.used c.id inst o).R.length=1:=rfl
  omega
 ·rw[hX,← List.map_append];rfl
 ·rw[hX];exact ho2
theorem zXr:replaceC.ok Tryz.prog 42:=z3s (gokc m8 (gokc zVg (gokc zIa (gokc lY (gokc zQr (gokc zKl (gokc zJw (gokc zTq gok0)))))))) z6w
theorem vdo (i:EnI) (h:doC.cnd i):Vdo i:=by
 obtain⟨m,p,B,U,c,X⟩:=i
 have h':(m.Rep p B U∧BOk p B)∧c.label.length≤140737488355328∧yR c.qty∧X=doF p B U c:=h
 clear h
 obtain⟨⟨hM,hB⟩,hlb,hqr,hX⟩:=h'
 obtain⟨ep,hR,eu⟩:=hM
 subst ep eu
 have hM:m.Rep m.p B m.used:=⟨rfl,hR,rfl⟩
 have hwf:=hR.wf hB
 have hbl:=hB.bl
 have hcl:=x0 m.p
 unfold Vdo rB z6z dA zWc zXm zNb
 dsimp only
 refine⟨c,rfl,rfl,rfl,rfl,rfl,rfl,rfl,rfl,rfl,hlb,fun _ _=>Cv.cnd.mk (fun e=> ?_) (fun e=> ?_)⟩
 ·have e:c.right≠0:=by simpa using e
  have hx:X=⟨B,m.used,f0 c c.right⟩:=by rw[hX,doF,if_pos e]
  exact⟨⟨c,c.right⟩,rfl,rfl,rfl,rfl,rfl,rfl,rfl,rfl,rfl,rfl,trivial,fun _ _=>⟨m,rfl,rfl,rfl,rfl,rfl,rfl,rfl,rfl,rfl,rfl,rfl,rfl,rfl,by rw[hx];rfl,by rw[hx];exact hM⟩⟩
 have hr:c.right=0:=by simpa using e
 rw[doF,if_neg (by rw[hr];decide)]at hX
 refine Cv.cnd.mk (fun e=> ?_) (fun e=> ?_)
 ·have e:c.kind=1:=by simpa using e
  rw[if_pos e]at hX
  exact⟨⟨m,m.p,B,m.used,c,X⟩,rfl,rfl,rfl,rfl,rfl,rfl,rfl,rfl,rfl,rfl,rfl,rfl,rfl,rfl,rfl,rfl,rfl,rfl,rfl,rfl,rfl,rfl,⟨⟨hM,hB⟩,hr,e,hX⟩,fun o ho=>⟨o,rfl,rfl,rfl,rfl,rfl,rfl,rfl,rfl,rfl,rfl,rfl,rfl,rfl,rfl,ho⟩⟩
 have hk:¬c.kind=1:=by simpa using e
 rw[if_neg hk]at hX
 refine(fun hT=>⟨hT,rfl,trivial,hT⟩) ?_
 refine⟨⟨m.s,m.p,B,c.id,0⟩,rfl,rfl,⟨hR,by dsimp only;omega⟩,fun _ _=>Cv.cnd.mk (fun e=> ?_) (fun e=> ?_)⟩
 ·have e:(zJ B c.id).2.2=false:=by simpa using e
  have hx:X=⟨B,m.used,f0 c 26⟩:=by rw[hX,if_pos e]
  exact⟨⟨c,26⟩,rfl,rfl,rfl,rfl,rfl,rfl,rfl,rfl,rfl,rfl,trivial,fun _ _=>⟨m,rfl,rfl,rfl,rfl,rfl,rfl,rfl,rfl,rfl,rfl,rfl,rfl,rfl,by rw[hx];rfl,by rw[hx];exact hM⟩⟩
 have e:(zJ B c.id).2.2=true:=by simpa using e
 rw[if_neg (by rw[e];decide)]at hX
 dsimp only
 have hf:zJ B c.id=((zJ B c.id).1,(zJ B c.id).2.1,true):=by rw[← e]
 generalize (zJ B c.id).1=inst at*
 generalize (zJ B c.id).2.1=o at*
 obtain⟨hin,hoo⟩:=zPm hwf hf
 have hoq:=hoo.q
 refine Cv.cnd.mk (fun e4=> ?_) (fun e4=>Cv.cnd.mk (fun e2=> ?_) (fun e2=>zL (fun e3=> ?_) (fun e3=> ?_)))
 ·have e4:c.kind=4:=by simpa using e4
  rw[if_pos e4]at hX
  exact⟨⟨m,m.p,B,m.used,c,inst,o,X⟩,rfl,rfl,rfl,rfl,rfl,rfl,rfl,rfl,rfl,rfl,rfl,rfl,rfl,rfl,rfl,rfl,rfl,rfl,rfl,rfl,rfl,rfl,rfl,rfl,rfl,rfl,rfl,rfl,⟨hM,hB,hf,bV hr hk (by rw[e4];decide),hX⟩,fun o' ho=>⟨o',rfl,rfl,rfl,rfl,rfl,rfl,rfl,rfl,rfl,rfl,rfl,rfl,rfl,rfl,ho⟩⟩
 all_goals
  have e4:¬c.kind=4:=by simpa using e4
  rw[if_neg e4]at hX
 ·have e2:c.kind=2:=by simpa using e2
  rw[if_pos (.inl e2)]at hX
  exact⟨⟨m,m.p,B,m.used,c.id,0,inst,o,X⟩,rfl,rfl,rfl,rfl,rfl,rfl,rfl,rfl,rfl,rfl,rfl,rfl,rfl,rfl,rfl,rfl,rfl,rfl,rfl,rfl,⟨⟨hM,hB⟩,hX⟩,fun o' ho=>⟨o',rfl,rfl,rfl,rfl,rfl,rfl,rfl,rfl,rfl,rfl,rfl,rfl,rfl,rfl,ho⟩⟩
 ·rw[if_pos (.inr (by omega))]at hX
  exact⟨⟨m,m.p,B,m.used,c.id,0,inst,o,X⟩,rfl,rfl,rfl,rfl,rfl,rfl,rfl,rfl,rfl,rfl,rfl,rfl,rfl,rfl,rfl,rfl,rfl,rfl,rfl,rfl,⟨⟨hM,hB⟩,hX⟩,fun o' ho=>⟨o',rfl,rfl,rfl,rfl,rfl,rfl,rfl,rfl,rfl,rfl,rfl,rfl,rfl,rfl,ho⟩⟩
 ·have e2:¬c.kind=2:=by simpa using e2
  have hq:=bV hr hk e2
  rw[if_neg (by omega)]at hX
  exact⟨⟨m,m.p,B,m.used,c.id,c.qty,inst,o,X⟩,rfl,rfl,rfl,rfl,rfl,rfl,rfl,rfl,rfl,rfl,rfl,rfl,rfl,rfl,rfl,rfl,rfl,rfl,rfl,rfl,rfl,⟨⟨hM,hB⟩,⟨by dsimp only;omega,by dsimp only;omega⟩,hX⟩,fun o' ho=>⟨o',rfl,rfl,rfl,rfl,rfl,rfl,rfl,rfl,rfl,rfl,rfl,rfl,rfl,rfl,ho⟩⟩
theorem do_ok:doC.ok Tryz.prog 13:=yPz (gokc z6d (gokc zVg (gokc zTm (gokc z9f (gokc zXr (gokc zKl (gokc zJw gok0))))))) vdo
open Go Cv Go.Proofs
def known17C:Con:=con1 Unit (fun _=>[]) (fun _=>[]) (fun _=>True) (fun _=>yO true) (fun _=>[])
def yQi (t:Nat):SAnn:={ι:=Prd,slots:=fun _=>[(t,.nm 0 0)],rows:=fun p=>[.cells [sV p.code,.own 1,zB p.tick,zB p.low,zB p.high,zB p.wide,zB p.rule,zB p.top,zB p.least,zB p.part,.own 2] 29,.fro 1 (iE p.months),.fro 1 (iE p.settle)]}
def AbI.p (i:AbI):Prd:=xU i.x
def AbI.n (i:AbI) (m:Nat):Nat:=min i.l.length m
@[reducible] def AbI.raw (i:AbI):Prop:=i.x.raw∧(∀c∈i.l,c.raw)∧i.l.length≤9223372036854775807
open Go Cv Go.Proofs
def gM (a:EnI):Prop:=(a.m.Rep a.p a.B a.U∧BOk a.p a.B)∧a.c.label.length≤140737488355328∧((-9223372036854775808)≤a.c.qty∧a.c.qty≤9223372036854775807)∧a.X=doF a.p a.B a.U a.c
def vQ (a:EnI):=(↑(List.map yM a.X.R).length:Int)
def zHe (u:Unit):Prop:=
 ∃(a:Int),a=1∧True∧∀(b:Unit),True→∃(c:Prd),sb c.code=sb [(67:UInt8),(76:UInt8)]∧iE c.months=iE [(320:Int),(321:Int),(323:Int)]∧c.tick=5∧c.low=0∧c.high=1000∧c.wide=200∧c.rule=a∧c.top=4∧c.least=2∧c.part=40∧iE c.settle=iE [(500:Int),(505:Int),(490:Int)]∧(xZ c)∧(∀(d:Unit),c.check=0→∃(e:EnI),e.c.kind=1∧e.c.id=1∧e.c.inst=0∧e.c.side=2∧e.c.price=10∧e.c.qty=5∧e.c.least=0∧e.c.time=1∧sb e.c.label=ByteArray.mk #[]∧AObj.adt Mkt 5 yI e.m=AObj.adt Mkt 5 yI (Mkt.mk c (gX c) [])∧(gM e)∧∀(f:Mkt),f.Rep e.p e.X.B e.X.U→∃(g:EnI),g.c.kind=1∧g.c.id=2∧g.c.inst=0∧g.c.side=1∧g.c.price=15∧g.c.qty=3∧g.c.least=0∧g.c.time=1∧sb g.c.label=ByteArray.mk #[]∧AObj.adt Mkt 5 yI g.m=AObj.adt Mkt 5 yI f∧(gM g)∧∀(h:Mkt),h.Rep g.p g.X.B g.X.U→cnd ((vQ e)==1) (((0:Int)≤(0:Int)∧0<(vQ e))∧∃(j:Int),zF (List.map yM e.X.R) (Int.toNat 0) ((0:Nat)+(0:Nat)) 1=some [D.v (.int .i64 j)]∧cnd (j==1) (cnd ((vQ g)==3) (((0:Int)≤(1:Int)∧1<(vQ g))∧∃(k:Int),∃(l:Int),∃(m:Int),∃(n:Int),∃(p:Int),∃(q:Int),∃(r:Int),∃(s:Int),zF (List.map yM g.X.R) (Int.toNat 1) 0 8=some [D.v (.int .i64 k),D.v (.int .i64 l),D.v (.int .i64 m),D.v (.int .i64 n),D.v (.int .i64 p),D.v (.int .i64 q),D.v (.int .i64 r),D.v (.int .i64 s)]∧cnd (k==3 && (l==1 && (m==0 && (n==2 && (p==10 && (q==3 && (r==2 && (s==0 && true)))))))) (((0:Int)≤(2:Int)∧2<(vQ g))∧∃(t:Int),∃(v:Int),∃(w:Int),∃(x:Int),∃(y:Int),∃(z:Int),∃(a_1:Int),∃(a_2:Int),zF (List.map yM g.X.R) (Int.toNat 2) 0 8=some [D.v (.int .i64 t),D.v (.int .i64 v),D.v (.int .i64 w),D.v (.int .i64 x),D.v (.int .i64 y),D.v (.int .i64 z),D.v (.int .i64 a_1),D.v (.int .i64 a_2)]∧cnd (t==3 && (v==2 && (w==0 && (x==1 && (y==10 && (z==3 && (a_1==0 && (a_2==0 && true)))))))) (∃(a_3:MfI),AObj.adt Mkt 5 yI a_3.m=AObj.adt Mkt 5 yI h∧(a_3.m.Rep a_3.p a_3.B a_3.U∧BOk a_3.p a_3.B)∧∀(a_4:Unit),True→∃(a_5:Unit),true=((↑(zDr a_3.B):Int)==1)∧True) (∃(a_3:Unit),true=false∧True)) (∃(t:Unit),true=false∧True)) (∃(k:Unit),true=false∧True)) (∃(k:Unit),true=false∧True)) (∃(j:Unit),true=false∧True))∧∀(d:Unit),c.check≠0→∃(e:Unit),true=false∧True
theorem z2d (hG:GOk Tryz.prog ([(11,threeC),(10,newMC),(13,doC),(19,mcountC)])) (h:∀(u:Unit),known17C.cnd u→zHe u):known17C.ok Tryz.prog 15:=okw mixed hG 0 (fun _=>[]) (fun _=>[]) [] Tryz.func15 h
open Go Cv Go.Proofs
theorem z2f {p:Prd} (hc:p.check=0):1≤p.count∧p.count≤21:=by
 have h1:=nN hc
 have h2:=(kA hc).m2
 have h3:=x0 p
 omega
theorem z8a (t:TmI):1≤(qN t).qty∧(qN t).qty≤12:=by
 have:=xK (n:=t.c.qty) (lo:=0) (hi:=11) (by omega)
 have e:(qN t).qty=1+zK t.c.qty 0 11:=by rw[qN];split<;>rfl
 omega
theorem zTs (t:TmI):(qN t).label=[]:=by
 rw[qN];split<;>rfl
open Go Cv Go.Proofs
theorem yFz (n:Int): -9223372036854775808≤IntKind.i64.wrap n∧IntKind.i64.wrap n≤9223372036854775807:=by
 have:IntKind.i64.wrap n=if 9223372036854775808≤n % 18446744073709551616 then n % 18446744073709551616-18446744073709551616 else n % 18446744073709551616:=by unfold IntKind.wrap;simp[IntKind.signed,IntKind.bits]
 rw[this]
 split<;>omega
theorem sU {α β:Type} {g:α→β} {f:α→α} (h:∀x,g (f x)=g x):∀(l:List α) (i:Nat),(l.modify i f).map g=l.map g
 |[],i=>by simp
 |a::l,0=>by simp[h]
 |a::l,i+1=>by rw[List.modify_succ_cons,List.map_cons,List.map_cons,sU h l i]
theorem zJy:∀(l:List Bool) (i:Nat) (b:Bool),(l.set i b).count true≤l.count true+1
 |[],i,b=>by simp
 |a::l,0,b=>by cases a<;>cases b<;>simp<;>omega
 |a::l,i+1,b=>by
  have:=zJy l i b
  cases a<;>simp[List.count_cons]<;>omega
def Arena.inv (m n:Nat) (a:Arena):Prop:=a.slots.length=250∧(a.slots.map (·.used)).count true≤n∧a.queues.length≤m∧∀q∈a.queues,(q.last= -1∨(0≤q.last∧q.last<250))∧yR q.count
theorem Arena.inv.mono {m n m' n':Nat} {a:Arena} (h:a.inv m n) (hm:m≤m') (hn:n≤n'):a.inv m' n':=⟨h.1,Nat.le_trans h.2.1 hn,Nat.le_trans h.2.2.1 hm,h.2.2.2⟩
theorem Arena.inv.free {m n:Nat} {a:Arena} (h:a.inv m n) (hn:n<250):∃s∈a.slots,s.used=false:=by
 apply Classical.byContradiction
 intro hx
 have:(a.slots.map (·.used)).count true=(a.slots.map (·.used)).length:=by
  rw[List.count_eq_length]
  intro b hb
  obtain⟨s,hs,rfl⟩:=List.mem_map.1 hb
  cases hu:s.used with
  |true=>rfl
  |false=>exact absurd ⟨s,hs,hu⟩ hx
 rw[List.length_map,h.1]at this
 have:=h.2.1
 omega
theorem Arena.inv.fit {m n:Nat} {a:Arena} (h:a.inv m n) (hn:n<250):a.fit:=by
 refine⟨by rw[h.1];decide,fun _=>h.free hn,fun q hq=> ?_⟩
 rw[h.1]
 exact(h.2.2.2 q hq).1
theorem Arena.inv.top {m n:Nat} {a:Arena} (h:a.inv m n) (k:Int) (t:Bool):(a.topF k t).inv m n:=by
 rw[Arena.topF]
 split
 ·refine⟨by simpa using h.1,?_,h.2.2.1,h.2.2.2⟩
  dsimp only
  rw[sU (g:=fun s:Slot=>s.used) (f:=fun s:Slot=>{s with top:=t}) (fun _=>rfl)]
  exact h.2.1
 ·exact h
theorem Arena.inv.open {m n:Nat} {a:Arena} (h:a.inv m n):a.openQ.inv (m+1) n:=by
 refine⟨h.1,h.2.1,by have:=h.2.2.1;simp[Arena.openQ];omega,fun q hq=> ?_⟩
 rcases List.mem_append.1 hq with hq|hq
 ·exact h.2.2.2 q hq
 ·rw[List.mem_singleton.1 hq];exact⟨.inl rfl,by decide⟩
theorem Arena.inv.push {m n:Nat} {a:Arena} (h:a.inv m n) (hn:n<250) (k id qty:Int) (top:Bool):(a.push k id qty top).1.inv m (n+1):=by
 have h':a.inv m (n+1):=h.mono (Nat.le_refl m) (Nat.le_succ n)
 rw[Arena.push]
 split
 ·exact h'
 split
 ·exact h'
 split
 ·exact h'
 obtain⟨f,hf,hfl⟩:=zQl (h.free hn)
 rw[h.1]at hfl
 have hc:∀x:Slot,((a.slots.set (qS a.slots).toNat x).map (·.used)).count true≤n+1:=by
  intro x
  rw[List.map_set]
  have:=zJy (a.slots.map (·.used)) (qS a.slots).toNat x.used
  have:=h.2.1
  omega
 refine⟨?_,?_,?_,?_⟩
 ·dsimp only[Arena.put]
  split<;>simp[h.1]
 ·dsimp only[Arena.put]
  split
  ·exact hc _
  ·rw[sU (g:=fun s:Slot=>s.used) (f:=fun s:Slot=>{s with back:=qS a.slots}) (fun _=>rfl)];exact hc _
 ·dsimp only[Arena.put];rw[List.length_set];exact h.2.2.1
 ·intro q hq
  rcases List.mem_or_eq_of_mem_set hq with hq|rfl
  ·exact h.2.2.2 q hq
  ·exact⟨.inr (by dsimp only;omega),yFz _⟩
structure Book.Inv (Q:Int→Prop) (n:Nat) (b:Book):Prop where
 a:b.a.inv n n
 l1:b.buys.length≤n
 l2:b.sells.length≤n
 sp:b.spare=[]
 p1:∀r∈b.buys,Q r.price
 p2:∀r∈b.sells,Q r.price
theorem Book.Inv.fit {Q n b} (h:Book.Inv Q n b) (hn:n<250):b.fit:=by
 have:=h.l1
 have:=h.l2
 have:=h.a.2.2.1
 exact⟨h.a.fit hn,by omega,by omega,by omega,by rw[h.sp];decide⟩
theorem Book.Inv.mono {Q n m b} (h:Book.Inv Q n b) (hm:n≤m):b.Inv Q m:=⟨h.a.mono hm hm,Nat.le_trans h.l1 hm,Nat.le_trans h.l2 hm,h.sp,h.p1,h.p2⟩
theorem Book.Inv.untop {Q n b} (h:Book.Inv Q n b) (s:Int):(b.untop s).inv n n:=by
 rw[Book.untop]
 repeat' split
 all_goals first|exact h.a|exact h.a.top _ _
theorem Book.Inv.led {Q n b} (h:Book.Inv Q n b) (id s p:Int):(b.led id s p).Inv Q n:=by
 rw[Book.led]
 split
 ·rw[Book.leadF]
  split
  all_goals exact⟨h.untop s,h.l1,h.l2,h.sp,h.p1,h.p2⟩
 ·exact h
theorem yBh (b:Book) (s p:Int):(b.ins s p).length=(b.rungs s).length+1:=by
 have:=pB s p (b.rungs s)
 simp[Book.ins];omega
theorem zYt {Q:Int→Prop} {b:Book} {s p:Int} (hp:Q p) (h:∀r∈b.rungs s,Q r.price):∀r∈b.ins s p,Q r.price:=by
 intro r hr
 rw[Book.ins]at hr
 rcases List.mem_append.1 hr with hr|hr
 ·exact h r (List.mem_of_mem_take hr)
 ·rcases List.mem_cons.1 hr with rfl|hr
  ·exact hp
  ·exact h r (List.mem_of_mem_drop hr)
theorem Book.Inv.queue {Q n b} (h:Book.Inv Q n b) (s p:Int) (hp:Q p):(b.queueF s p).1.a.inv (n+1) n∧(b.queueF s p).1.buys.length≤n+1∧(b.queueF s p).1.sells.length≤n+1∧(b.queueF s p).1.spare=[]∧(∀r∈(b.queueF s p).1.buys,Q r.price)∧∀r∈(b.queueF s p).1.sells,Q r.price:=by
 have hl1:=h.l1
 have hl2:=h.l2
 have hq:b.newQ=((b.a.queues.length:Int),b.spare,b.a.openQ):=by rw[Book.newQ,if_pos (by rw[h.sp];rfl)]
 have hi:=yBh b s p
 rw[Book.queueF]
 split
 ·exact⟨h.a.mono (Nat.le_succ n) (Nat.le_refl n),by dsimp only;omega,by dsimp only;omega,h.sp,h.p1,h.p2⟩
 split
 ·rename_i e
  subst e
  rw[cZ]at hi
  exact⟨by dsimp only;rw[hq];exact h.a.open,by dsimp only;omega,by dsimp only;omega,by dsimp only;rw[hq];exact h.sp,zYt hp h.p1,h.p2⟩
 ·rename_i e
  have er:b.rungs s=b.sells:=by rw[Book.rungs,if_neg e]
  rw[er]at hi
  exact⟨by dsimp only;rw[hq];exact h.a.open,by dsimp only;omega,by dsimp only;omega,by dsimp only;rw[hq];exact h.sp,h.p1,zYt hp (by rw[er];exact h.p2)⟩
theorem Book.Inv.stand {Q n b} (h:Book.Inv Q n b) (hn:n<250) (s id p qty:Int) (hp:Q p):(b.stand s id p qty).Inv Q (n+1):=by
 obtain⟨q1,q2,q3,q4,q5,q6⟩:=(h.led id s p).queue s p hp
 exact⟨q1.push hn _ _ _ _,q2,q3,q4,q5,q6⟩
theorem Book.Inv.add {Q n b} (h:Book.Inv Q n b) (hn:n<250) (s id p qty:Int) (hp:Q p):(b.addF s id p qty).1.Inv Q (n+1):=by
 rw[Book.addF]
 repeat' split
 all_goals first|exact h.mono (Nat.le_succ n)|exact h.stand hn s id p qty hp
structure MSt.Inv (p:Prd) (n:Nat) (s:MSt):Prop where
 e:s.p=p
 l:s.books.length=p.count
 b:∀(k:Nat) (b:Book),s.books[k]? =some b→b.Inv (fun v=>p.price k v=0) n
theorem MSt.Inv.mono {p n m s} (h:MSt.Inv p n s) (hm:n≤m):s.Inv p m:=⟨h.e,h.l,fun k b hb=>(h.b k b hb).mono hm⟩
theorem MSt.Inv.add {p n s} (h:MSt.Inv p n s) (hn:n<250) (inst id:Int) (sd:Bool) (price qty:Int):(MSt.addF ⟨s,inst,id,sd,price,qty⟩).1.Inv p (n+1):=by
 rw[MSt.addF]
 split
 ·exact h.mono (Nat.le_succ n)
 split
 ·exact h.mono (Nat.le_succ n)
 split
 ·exact h.mono (Nat.le_succ n)
 split
 ·exact h.mono (Nat.le_succ n)
 rename_i c1 _ _ c4
 dsimp only at c1 c4 ⊢
 have c4:s.p.price inst price=0:=by simpa using c4
 rw[h.e]at c4
 refine⟨h.e,by simpa using h.l,fun k b hb=> ?_⟩
 dsimp only at hb
 rw[List.getElem?_set]at hb
 split at hb
 ·rename_i e
  split at hb
  ·cases hb
   obtain⟨x,hx⟩:=z9 (l:=s.books) (i:=inst.toNat) (by omega)
   have hba:s.bookAt inst=x:=zI hx
   rw[hba]
   have hx':=h.b _ _ hx
   rw[e]at hx'
   exact hx'.add hn _ _ _ _ (by rw[← e,Int.toNat_of_nonneg (by omega)];exact c4)
  ·cases hb
 ·exact(h.b k b hb).mono (Nat.le_succ n)
theorem MSt.Inv.fit {p n s} (h:MSt.Inv p n s) (hp:p.small) (hn:n<250) (hc:p.count≤1000):s.fit:=by
 refine⟨by rw[h.e];exact hp,by have:=h.l;omega,fun b hb=> ?_⟩
 obtain⟨k,hk⟩:=List.mem_iff_getElem?.1 hb
 exact(h.b k b hk).fit hn
theorem MSt.Inv.cnt {p n s} (h:MSt.Inv p n s) (hc:p.count≤1000):s.cntOk:=by
 refine⟨by have:=h.l;omega,fun b hb q hq=> ?_⟩
 obtain⟨k,hk⟩:=List.mem_iff_getElem?.1 hb
 exact((h.b k b hk).a.2.2.2 q hq).2
structure yRd (p:Prd) (k:Nat) (t:Top):Prop where
 a:t.has1=true→p.price k t.p1=0
 b:t.has2=true→p.price k t.p2=0
 c: -2000000≤t.p1∧t.p1≤2000000
 d: -2000000≤t.p2∧t.p2≤2000000
open Go Cv Go.Proofs
theorem z4h {p:Prd} (hc:p.check=0) {a b:Nat} (hab:a<b) (hb:b<p.months.length):(p.spread a b).1=(yA p.months.length a:Int)+b-a-1:=by
 rw[Prd.spread,if_neg (by omega)]
 simp
structure Tri (p:Prd) (a b k:Nat):Prop where
 hab:a<b
 hb:b<p.months.length
 hs:(p.spread a b).1=k
 hk:k<p.count
 hm:p.months.length≤k
 hl:p.legs k=((a:Int),(b:Int),true)
theorem yJj {p:Prd} (hc:p.check=0) {a b:Nat} (hab:a<b) (hb:b<p.months.length):∃k,Tri p a b k:=by
 have m6:=(kA hc).m6
 have e:=z4h hc hab hb
 have l:=z0k hc (a:=a) (b:=b-a-1) (by omega) (by omega)
 have lf:=zTo p.months.length m6 a (by omega) (b-a-1) (by omega)
 refine⟨yA p.months.length a+(b-a-1),hab,hb,by rw[e];omega,by rw[dG hc];exact lf.2.1,lf.2.2,?_⟩
 rw[l,show a+1+(b-a-1)=b by omega]
open Go Cv Go.Proofs
theorem yQt {l:List Cmd} {k:Nat} {c:Cmd} (h:l[k]? =some c):zF (l.map cmdE) k 0 9=some [D.v (.int .i64 c.kind),.v (.int .i64 c.id),.v (.int .i64 c.inst),.v (.int .i64 c.side),.v (.int .i64 c.price),.v (.int .i64 c.qty),.v (.int .i64 c.least),.v (.int .i64 c.time),.v (.string (sb c.label))]:=elA h (by simp[cmdE]) rfl
def mk0 (p:Prd):Mkt:=⟨p,gX p,[]⟩
theorem z0j (p:Prd):(mk0 p).Rep p (List.replicate p.count []) []:=⟨rfl,zWa _,rfl⟩
theorem mdo {m:Mkt} {p:Prd} {B:List (List zD)} {U:List Int} (h:m.Rep p B U) (hB:BOk p B) (c:Cmd):BOk p (doF p B U c).B:=yIi (by have:=h.s;exact this.wf hB) U c
def kc1:Cmd:=⟨1,1,0,2,10,5,0,1,[]⟩
def kc2:Cmd:=⟨1,2,0,1,15,3,0,1,[]⟩
def kX1:MkX:=doF (dJ 1) (List.replicate (dJ 1).count []) [] kc1
def kX2:MkX:=doF (dJ 1) kX1.B kX1.U kc2
theorem kR1:kX1.R=[⟨1,1,0,2,10,5,5,0⟩]:=by kernel_rfl
theorem kR2:kX2.R=[⟨1,2,0,1,15,3,3,0⟩,⟨3,1,0,2,10,3,2,0⟩,⟨3,2,0,1,10,3,0,0⟩]:=by kernel_rfl
theorem kN2:zDr kX2.B=1:=by kernel_rfl
theorem yAe (u:Unit) (h:known17C.cnd u):zHe u:=by
 have hc:(dJ 1).check=0:=by decide+kernel
 have hp:(dJ 1).small:=by refine⟨?_,?_,?_⟩<;>decide
 have hB0:=BOk.new hc hp
 have hM0:=z0j (dJ 1)
 have hB1:BOk (dJ 1) kX1.B:=mdo hM0 hB0 kc1
 unfold zHe vQ gM xZ
 refine⟨1,rfl,trivial,fun _ _=>⟨dJ 1,rfl,rfl,rfl,rfl,rfl,rfl,rfl,rfl,rfl,rfl,rfl,hp,fun _ _=>⟨⟨mk0 (dJ 1),dJ 1,List.replicate (dJ 1).count [],[],kc1,kX1⟩,rfl,rfl,rfl,rfl,rfl,rfl,rfl,rfl,rfl,rfl,⟨⟨hM0,hB0⟩,by decide,by decide,by dsimp only;rw[kX1]⟩,fun o1 ho1=> ?_⟩,fun _ hx=>absurd hc hx⟩⟩
 have hB2:BOk (dJ 1) kX2.B:=mdo ho1 hB1 kc2
 refine⟨⟨o1,dJ 1,kX1.B,kX1.U,kc2,kX2⟩,rfl,rfl,rfl,rfl,rfl,rfl,rfl,rfl,rfl,rfl,⟨⟨ho1,hB1⟩,Nat.zero_le _,(by decide:yR 3),by dsimp only;rw[kX2]⟩,fun o2 ho2=> ?_⟩
 dsimp only at ho2 ⊢
 rw[kR1,kR2]
 refine Cv.cnd.mk (fun _=>⟨⟨by decide,by decide⟩,_,rfl,Cv.cnd.mk (fun _=>Cv.cnd.mk (fun _=>⟨⟨by decide,by decide⟩,_,_,_,_,_,_,_,_,rfl,Cv.cnd.mk (fun _=>⟨⟨by decide,by decide⟩,_,_,_,_,_,_,_,_,rfl,Cv.cnd.mk (fun _=>⟨⟨o2,dJ 1,kX2.B,kX2.U,0⟩,rfl,⟨ho2,hB2⟩,fun _ _=>⟨(),?_,trivial⟩⟩) (fun e=>absurd e (by decide))⟩) (fun e=>absurd e (by decide))⟩) (fun e=>absurd e (by decide))) (fun e=>absurd e (by decide))⟩) (fun e=>absurd e (by decide))
 dsimp only
 rw[kN2];rfl
theorem known17_ok:known17C.ok Tryz.prog 15:=z2d (gokc z9y (gokc newM_ok (gokc do_ok (gokc z3e gok0)))) yAe
open Go Cv Go.Proofs
structure yOv (p:Prd) (B:List (List zD)) (q:Int) (g:List wL) (k:Nat) (s pr:Int):Prop where
 lt:k<B.length
 s12:s=1∨s=2
 eq:g=yH k s (atL (B.getD k []) s pr) (qH ⟨p,atL (B.getD k []) s pr,q⟩)
 sh:zGi ((atL (B.getD k []) s pr).map (·.qty)) (qH ⟨p,atL (B.getD k []) s pr,q⟩) q
 ne:g≠[]
theorem zLm {inst s:Int}:∀{os:List zD} {sh:List Int},sh.length=os.length→yH inst s os sh=[]→(∀n,0≤sh.getD n 0)→sh.sum=0
 |[],[],_,_,_=>rfl
 |[],_::_,h,_,_=>by cases h
 |_::_,[],h,_,_=>by cases h
 |o::os,x::sh,h,h2,h3=>by
  rw[yH]at h2
  split at h2
  ·cases h2
  ·have:=zLm (os:=os) (sh:=sh) (by simpa using h) h2 fun n=>h3 (n+1)
   have h0:0≤x:=h3 0
   rw[List.sum_cons];omega
theorem zNy {p:Prd} {B:List (List zD)} (h:BWf p B) {k:Nat} {L:List zD} (hL:B[k]? =some L) {s:Int} (hs:s=1∨s=2) {q:Int} (hb:(bestL L s).2=true) (hq:1≤q∧q≤(bestL L s).1.qty):
 yOv p B q (yW p B k s q) k s (bestL L s).1.price:=by
 have ho:=h.od k L hL
 have hsr:=h.srt k L hL s hs
 have hlv:zBc B k s=atL L s (bestL L s).1.price:=by rw[zBc,Int.toNat_natCast,zI hL]
 obtain⟨v,vs,hl⟩:∃v vs,j0 L s=v::vs:=by
  cases e:j0 L s with
  |nil=>rw[bestL,e]at hb;cases hb
  |cons v vs=>exact⟨v,vs,rfl⟩
 have hv:(bestL L s).1=v:=by rw[bestL,hl]
 rw[hv]at hq hlv ⊢
 have hgs:=zAj hsr (v:=v) (vs:=vs) (by rw[← hl];rfl)
 have hat:atL L s v.price=(v9 L s).filter fun o=>decide (o.price=v.price):=z9x L s v.price
 have hvq:v.qty=((atL L s v.price).map (·.qty)).sum:=by
  have:=congrArg Lv.qty hgs.1
  rw[hat];exact this
 have hr:yP ((atL L s v.price).map (·.qty)) q=true:=by
  refine zUo ?_ (by omega) (fun x hx=> ?_) (by omega)
  ·rw[List.length_map];exact Nat.le_trans (List.length_filter_le _ _) ho.2.2
  ·obtain⟨o,hm,rfl⟩:=List.mem_map.1 hx
   exact(ho.1 o (List.mem_filter.1 hm).1).q
 have hS:=zAb h.ok.pc hr
 have e:yW p B k s q=yH k s (atL (B.getD k []) s v.price) (qH ⟨p,atL (B.getD k []) s v.price,q⟩):=by
  rw[yW,hlv,zI hL]
 refine⟨(List.getElem?_eq_some_iff.1 hL).1,hs,e,by rw[zI hL];exact hS,fun e2=> ?_⟩
 rw[e,zI hL]at e2
 have:=zLm (by rw[hS.len,List.length_map]) e2 fun n=>(hS.bd n).1
 have:=hS.sum
 omega
theorem zDl {j:Nat} {L:List zD}:∀{fs:List wL} {B:List (List zD)},B[j]? =some L→(∀f∈fs,qX L f.id=false)→(yX B fs)[j]? =some L
 |[],B,h,_=>h
 |f::fs,B,h,hf=>by
  refine zDl (fs:=fs) (B:=(yT B f.id f.qty).1) ?_ fun g hg=>hf g (List.mem_cons_of_mem _ hg)
  rw[yT]
  split
  ·exact h
  ·rename_i k hk
   dsimp only
   have hne:k≠j:=by
    rintro rfl
    obtain⟨L',hL',hh⟩:=xM hk
    rw[h]at hL'
    cases hL'
    rw[hf f List.mem_cons_self]at hh
    cases hh
   rw[List.getElem?_set_ne hne];exact h
theorem sS {inst s:Int} {f:wL}:∀{os:List zD} {sh:List Int},f∈yH inst s os sh→∃o∈os,f.id=o.id
 |[],sh,h=>by cases h
 |o::os,[],h=>by cases h
 |o::os,k::sh,h=>by
  rw[yH]at h
  split at h
  ·rcases List.mem_cons.1 h with rfl|h
   ·exact⟨o,List.mem_cons_self,rfl⟩
   ·obtain⟨o',c,d⟩:=sS h
    exact⟨o',List.mem_cons_of_mem _ c,d⟩
  ·obtain⟨o',c,d⟩:=sS h
   exact⟨o',List.mem_cons_of_mem _ c,d⟩
theorem hD {p:Prd} {B:List (List zD)} (h:BWf p B) {k j:Nat} (hne:k≠j) {L L':List zD} (hL:B[k]? =some L) (hL':B[j]? =some L') (s q:Int):(yX B (yW p B k s q))[j]? =some L':=by
 refine zDl hL' fun f hf=> ?_
 obtain⟨o,ho,e⟩:=sS hf
 have ho:=(List.mem_filter.1 ho).1
 rw[Int.toNat_natCast,zI hL]at ho
 cases hh:qX L' f.id with
 |false=>rfl
 |true=>
  have a:=h.inst hL' (hasId_iff.1 hh)
  have b:=h.inst hL (id:=f.id) (by rw[e];exact List.mem_map.2 ⟨o,ho,rfl⟩)
  rw[a]at b
  cases b
  exact absurd rfl hne
open Go Cv Go.Proofs
def lpq (l:List Lv):List (Int×Int):=l.map fun v=>(v.price,v.qty)
def zDp (l:List (Int×Int)) (x:Int):List (Int×Int):=match l with
 |[]=>[]
 |(p,q)::l=>if q≤x then l else(p,q-x)::l
theorem zAd {A:List zD} {id x:Int} (h:∀o∈A,o.id≠id):yN A id x=A:=by
 rw[yN]
 induction A with
 |nil=>rfl
 |cons a A ih=>
  rw[List.filterMap_cons,if_neg (h a List.mem_cons_self)]
  simp only
  rw[ih fun o ho=>h o (List.mem_cons_of_mem _ ho)]
theorem zPq {id x:Int}:∀{A:List zD} {o:zD},(A.map (·.id)).Nodup→o∈A→o.id=id→((yN A id x).map (·.qty)).sum=(A.map (·.qty)).sum-x
 |a::A,o,hn,ho,e=>by
  rw[List.map_cons,List.nodup_cons]at hn
  rw[yN,List.filterMap_cons]
  by_cases h:a.id=id
  ·have hno:∀y∈A,y.id≠id:=by
    intro y hy e2
    exact hn.1 (by rw[h,← e2];exact List.mem_map.2 ⟨y,hy,rfl⟩)
   have ht:A.filterMap (fun o=>if o.id=id then if o.qty=x then none else some {o with qty:=o.qty-x}else some o)=A:=zAd hno
   rw[if_pos h]
   by_cases h2:a.qty=x
   ·rw[if_pos h2]
    simp only
    rw[ht,List.map_cons,List.sum_cons];omega
   ·rw[if_neg h2]
    simp only
    rw[ht,List.map_cons,List.map_cons,List.sum_cons,List.sum_cons]
    simp only
    omega
  ·rw[if_neg h]
   simp only
   have ho:o∈A:=by
    rcases List.mem_cons.1 ho with rfl|ho
    ·exact absurd e h
    ·exact ho
   have:=zPq (x:=x) hn.2 ho e
   rw[yN]at this
   rw[List.map_cons,List.map_cons,List.sum_cons,List.sum_cons,this];omega
theorem zWw (L:List zD) (id q pr:Int):(yN L id q).filter (fun o=>decide (o.price=pr))=yN (L.filter fun o=>decide (o.price=pr)) id q:=by
 rw[yN,yN,List.filter_filterMap,List.filterMap_filter]
 refine wT fun o _=> ?_
 by_cases e1:o.id=id
 ·rw[if_pos e1]
  by_cases e2:o.qty=q
  ·rw[if_pos e2];simp
  ·rw[if_neg e2];by_cases e3:o.price=pr<;>simp[Option.filter,e3]
 ·rw[if_neg e1];by_cases e3:o.price=pr<;>simp[Option.filter,e3]
theorem zRz (L:List zD) (id q pr:Int):(yN L id q).filter (fun o=> !decide (o.price=pr))=yN (L.filter fun o=> !decide (o.price=pr)) id q:=by
 rw[yN,yN,List.filter_filterMap,List.filterMap_filter]
 refine wT fun o _=> ?_
 by_cases e1:o.id=id
 ·rw[if_pos e1]
  by_cases e2:o.qty=q
  ·rw[if_pos e2];simp
  ·rw[if_neg e2];by_cases e3:o.price=pr<;>simp[Option.filter,e3]
 ·rw[if_neg e1];by_cases e3:o.price=pr<;>simp[Option.filter,e3]
theorem yAm {A:List zD} {id x:Int} {y:zD} (h:y∈yN A id x):∃z∈A,y.price=z.price:=by
 obtain⟨z,hz,e⟩:=List.mem_filterMap.1 h
 refine⟨z,hz,?_⟩
 split at e
 ·split at e
  ·cases e
  ·cases e;rfl
 ·cases e;rfl
theorem yHt {A:List zD} (h:A≠[]):∃v vs,grp A=v::vs:=by
 cases A with
 |nil=>exact absurd rfl h
 |cons a A=>
  rw[grp]
  split
  ·exact⟨_,_,rfl⟩
  ·split<;>exact⟨_,_,rfl⟩
theorem zFu:∀{l:List Int} {a:Int},(∀q∈l,0≤q)→a∈l→a≤l.sum
 |b::l,a,h,ha=>by
  rw[List.sum_cons]
  have h1:=h b List.mem_cons_self
  have h2:=zGh fun q hq=>h q (List.mem_cons_of_mem _ hq)
  rcases List.mem_cons.1 ha with rfl|ha
  ·omega
  ·have:=zFu (fun q hq=>h q (List.mem_cons_of_mem _ hq)) ha
   omega
theorem yAh {s:Int} {F:List zD} (hs:zDq s F) (hn:(F.map (·.id)).Nodup) {o:zD} (ho:o∈F) {v:Lv} {vs:List Lv} (hg:grp F=v::vs) (hp:o.price=v.price) {x:Int} (hq:∀y∈yN F o.id x,1≤y.qty) (hs2:zDq s (yN F o.id x)):
 lpq (grp (yN F o.id x))=zDp (lpq (grp F)) x:=by
 obtain⟨a1,a2,a3⟩:=zAj hs hg
 have hol:o∈F.filter fun o=>decide (o.price=v.price):=List.mem_filter.2 ⟨ho,by simpa using hp⟩
 have hsum:=zPq (x:=x) (hn.sublist (List.Sublist.map _ (List.filter_sublist (p:=fun o=>decide (o.price=v.price)) (l:=F)))) hol rfl
 have hv:v.qty=((F.filter fun o=>decide (o.price=v.price)).map (·.qty)).sum:=congrArg Lv.qty a1
 have hout:yN (F.filter fun o=> !decide (o.price=v.price)) o.id x=F.filter fun o=> !decide (o.price=v.price):=by
  refine zAd fun y hy e=> ?_
  obtain⟨y1,y2⟩:=List.mem_filter.1 hy
  have h1:=vL hn y1
  have h2:=vL hn ho
  rw[e,h2]at h1
  rw[← h1]at y2
  simp[hp]at y2
 rw[hg]
 have hd:zDp (lpq (v::vs)) x=if v.qty≤x then lpq vs else(v.price,v.qty-x)::lpq vs:=rfl
 rw[hd]
 rw[← zWw,← hv]at hsum
 rw[← zRz]at hout
 have hmem:∀y∈yN F o.id x,∃z∈F,y.price=z.price:=fun y hy=>yAm hy
 generalize yN F o.id x=F' at*
 by_cases hE:F'.filter (fun o=>decide (o.price=v.price))=[]
 ·rw[hE]at hsum
  have hsum:(0:Int)=v.qty-x:=hsum
  rw[if_pos (by omega),a2,← hout]
  congr 2
  symm
  rw[List.filter_eq_self]
  intro y hy
  have:=List.filter_eq_nil_iff.1 hE y hy
  simpa using this
 ·obtain⟨y,hy⟩:=List.exists_mem_of_ne_nil _ hE
  obtain⟨y1,y2⟩:=List.mem_filter.1 hy
  have y2:y.price=v.price:=by simpa using y2
  obtain⟨v',vs',hg'⟩:=yHt (A:=F') (by rintro rfl;cases y1)
  obtain⟨b1,b2,b3⟩:=zAj hs2 hg'
  obtain⟨w,wr,hw,hwp⟩:=lG hg'
  have e1:=b3 y y1
  obtain⟨z,hz,hzp⟩:=hmem w (by rw[hw];exact List.mem_cons_self)
  have e2:=a3 z hz
  rw[← hzp,hwp]at e2
  rw[y2]at e1
  have ep:v'.price=v.price:=z4n e1 e2
  have hv':v'.qty=((F'.filter fun o=>decide (o.price=v'.price)).map (·.qty)).sum:=congrArg Lv.qty b1
  rw[ep,hsum]at hv'
  have hpos:1≤v.qty-x:=by
   rw[← hsum]
   have hyq:=hq y y1
   have h0:∀q∈(F'.filter fun o=>decide (o.price=v.price)).map (·.qty),0≤q:=by
    intro q hq2
    obtain⟨u,hu,rfl⟩:=List.mem_map.1 hq2
    have:=hq u (List.mem_filter.1 hu).1
    omega
   have:=zFu h0 (List.mem_map.2 ⟨y,hy,rfl⟩)
   omega
  rw[if_neg (by omega),hg',b2,ep,hout,← a2]
  show(v'.price,v'.qty)::lpq vs=_
  rw[ep,hv']
open Go Cv Go.Proofs
theorem z6k {L:List zD} {s pr Q:Int} {rest:List (Int×Int)} (h:lpq (j0 L s)=(pr,Q)::rest):∃v vs,j0 L s=v::vs∧v.price=pr∧v.qty=Q∧lpq vs=rest:=by
 cases e:j0 L s with
 |nil=>rw[e]at h;cases h
 |cons v vs=>rw[e]at h;cases h;exact⟨v,vs,rfl,rfl,rfl,rfl⟩
theorem zMh (L:List zD) (s id q:Int):v9 (yN L id q) s=yN (v9 L s) id q:=by
 rw[v9,v9,yN,yN,List.filter_filterMap,List.filterMap_filter]
 refine wT fun o _=> ?_
 by_cases e1:o.id=id
 ·rw[if_pos e1]
  by_cases e2:o.qty=q
  ·rw[if_pos e2];simp
  ·rw[if_neg e2];by_cases e3:o.side=s<;>simp[Option.filter,e3]
 ·rw[if_neg e1];by_cases e3:o.side=s<;>simp[Option.filter,e3]
theorem zGw {inst s:Int}:∀{os:List zD} {sh:List Int},(∀n,0≤sh.getD n 0)→sh.sum=0→yH inst s os sh=[]
 |[],sh,_,_=>by rw[yH];simp
 |_::_,[],_,_=>by rw[yH];simp
 |o::os,x::sh,h,h2=>by
  have h0:0≤x:=h 0
  have h1:0≤sh.sum:=zGh fun y hy=>by
   obtain⟨n,hn⟩:=List.getElem?_of_mem hy
   have:=h (n+1)
   have e:(x::sh).getD (n+1) 0=y:=zI (by rw[List.getElem?_cons_succ];exact hn)
   omega
  rw[List.sum_cons]at h2
  rw[yH,if_neg (by omega)]
  exact zGw (fun n=>h (n+1)) (by omega)
theorem yDz {pr Q x y:Int} {rest:List (Int×Int)} (h:x<Q):zDp (zDp ((pr,Q)::rest) x) y=zDp ((pr,Q)::rest) (x+y):=by
 have e:zDp ((pr,Q)::rest) x=(pr,Q-x)::rest:=if_neg (by omega)
 rw[e]
 show(if Q-x≤y then rest else(pr,Q-x-y)::rest)=if Q≤x+y then rest else(pr,Q-(x+y))::rest
 by_cases c:Q≤x+y
 ·rw[if_pos (by omega),if_pos c]
 ·rw[if_neg (by omega),if_neg c,show Q-x-y=Q-(x+y)by omega]
theorem zBh {p:Prd} {k:Nat} {i s pr:Int} (hs:s=1∨s=2):∀{os:List zD} {sh:List Int} {B:List (List zD)} {L:List zD} {Q:Int} {rest:List (Int×Int)},BWf p B→B[k]? =some L→
 (∀o∈os,o∈L∧o.side=s∧o.price=pr)→(os.map (·.id)).Nodup→sh.length=os.length→(∀n,0≤sh.getD n 0∧sh.getD n 0≤(os.map (·.qty)).getD n 0)→lpq (j0 L s)=(pr,Q)::rest→sh.sum≤Q→1≤Q→
 ∃L1,(yX B (yH i s os sh))[k]? =some L1∧lpq (j0 L1 s)=zDp ((pr,Q)::rest) sh.sum∧∀z,z≠s→j0 L1 z=j0 L z
 |[],sh,B,L,Q,rest,h,hL,_,_,hl,_,hd,_,hQ=>by
  have:sh=[]:=List.length_eq_zero_iff.1 hl
  subst this
  refine⟨L,hL,?_,fun _ _=>rfl⟩
  rw[hd,List.sum_nil]
  show _=if Q≤0 then rest else(pr,Q-0)::rest
  rw[if_neg (by omega),Int.sub_zero]
 |o::os,[],B,L,Q,rest,h,hL,_,_,hl,_,_,_,_=>by cases hl
 |o::os,x::sh,B,L,Q,rest,h,hL,ho,hn,hl,hb,hd,hsum,hQ=>by
  have hx:0≤x∧x≤o.qty:=hb 0
  have hb':∀n,0≤sh.getD n 0∧sh.getD n 0≤(os.map (·.qty)).getD n 0:=fun n=>hb (n+1)
  have hl':sh.length=os.length:=by simpa using hl
  rw[List.map_cons,List.nodup_cons]at hn
  obtain⟨ho0,hos,hop⟩:=ho o List.mem_cons_self
  have ho':∀y∈os,y∈L∧y.side=s∧y.price=pr:=fun y hy=>ho y (List.mem_cons_of_mem _ hy)
  rw[List.sum_cons]at hsum ⊢
  have hs0:0≤sh.sum:=zGh fun y hy=>by
   obtain⟨n,hn⟩:=List.getElem?_of_mem hy
   have:=(hb' n).1
   have e:sh.getD n 0=y:=zI hn
   omega
  rw[yH]
  by_cases c:0<x
  ·rw[if_pos c]
   have hod:=h.od k L hL
   have hk:=(List.getElem?_eq_some_iff.1 hL).1
   have hi:=h.inst hL (List.mem_map_of_mem (f:=(·.id)) ho0)
   have hg:=vL hod.2.1 ho0
   have hh:qX L o.id=true:=hasId_iff.2 (List.mem_map_of_mem (f:=(·.id)) ho0)
   have ht:(yT B o.id x).1=B.set k (yN L o.id x):=by
    simp only[yT,hi,zI hL]
    rw[xQ,if_neg (by rw[hh];decide),if_neg (by rw[hg];omega)]
   have hW:=h.take o.id x
   show ∃L1,(yX (yT B o.id x).1 (yH i s os sh))[k]? =some L1∧_
   rw[ht]at hW ⊢
   have hL':(B.set k (yN L o.id x))[k]? =some (yN L o.id x):=vZ hk
   obtain⟨v,vs,e1,e2,e3,e4⟩:=z6k hd
   have hF:o∈v9 L s:=List.mem_filter.2 ⟨ho0,by simpa using hos⟩
   have hsd:=zMh L s o.id x
   have hlt:=yAh (h.srt k L hL s hs) (hod.2.1.sublist (List.Sublist.map _ List.filter_sublist)) hF (v:=v) (vs:=vs) (by rw[← e1];rfl) (by rw[hop,e2]) (x:=x) (fun y hy=>by
    rw[← hsd]at hy
    exact((hW.od k _ hL').1 y (List.mem_filter.1 hy).1).q.1) (by rw[← hsd];exact hW.srt k _ hL' s hs)
   rw[← hsd]at hlt
   have hlt:lpq (j0 (yN L o.id x) s)=zDp (lpq (j0 L s)) x:=hlt
   rw[hd]at hlt
   have hoth:∀z,z≠s→j0 (yN L o.id x) z=j0 L z:=by
    intro z hz
    show grp (v9 (yN L o.id x) z)=grp (v9 L z)
    rw[zMh,zAd fun y hy e=> ?_]
    obtain⟨y1,y2⟩:=List.mem_filter.1 hy
    have:=vL hod.2.1 y1
    rw[e,hg]at this
    subst this
    have y2:o.side=z:=by simpa using y2
    exact hz (by rw[← y2,hos])
   by_cases c2:sh.sum=0
   ·rw[zGw (fun n=>(hb' n).1) c2,c2,Int.add_zero]
    exact⟨_,hL',hlt,hoth⟩
   ·have e5:zDp ((pr,Q)::rest) x=(pr,Q-x)::rest:=if_neg (by omega)
    have hlt2:=hlt
    rw[e5]at hlt2
    obtain⟨L1,g1,g2,g3⟩:=zBh (i:=i) hs hW hL' (fun y hy=>⟨List.mem_filterMap.2 ⟨y,(ho' y hy).1,if_neg fun(e:y.id=o.id)=>hn.1 (e▸List.mem_map_of_mem (f:=(·.id)) hy)⟩,(ho' y hy).2⟩) hn.2 hl' hb' hlt2 (by omega) (by omega)
    refine⟨L1,g1,?_,fun z hz=>(g3 z hz).trans (hoth z hz)⟩
    rw[g2,← e5,yDz (by omega)]
  ·rw[if_neg c]
   have:x=0:=by omega
   subst this
   rw[Int.zero_add]at hsum ⊢
   exact zBh hs h hL ho' hn.2 hl' hb' hd hsum hQ
theorem zCc {p:Prd} {B:List (List zD)} (h:BWf p B) {k:Nat} {L:List zD} (hL:B[k]? =some L) {s:Int} (hs:s=1∨s=2) {q:Int} (hb:(bestL L s).2=true) (hq:1≤q∧q≤(bestL L s).1.qty):
 ∃L1,(yX B (yW p B k s q))[k]? =some L1∧lpq (j0 L1 s)=zDp (lpq (j0 L s)) q∧∀z,z≠s→j0 L1 z=j0 L z:=by
 have G:=zNy h hL hs hb hq
 have e:=G.eq
 have S:=G.sh
 rw[zI hL]at e S
 have ho:=h.od k L hL
 cases hl:j0 L s with
 |nil=>rw[bestL,hl]at hb;cases hb
 |cons v vs=>
  have hv:(bestL L s).1=v:=by rw[bestL,hl]
  rw[hv]at e S hq
  obtain⟨L1,g1,g2,g3⟩:=zBh (i:=k) (pr:=v.price) (Q:=v.qty) (rest:=lpq vs) (os:=atL L s v.price) hs h hL (fun o hm=>by
   obtain⟨a,b⟩:=List.mem_filter.1 hm
   simp only[Bool.and_eq_true,decide_eq_true_eq]at b
   exact⟨a,b⟩) (ho.2.1.sublist (List.Sublist.map _ List.filter_sublist)) (by rw[S.len,List.length_map]) S.bd (by rw[hl];rfl) (by rw[S.sum];omega) (by omega)
  rw[e]
  refine⟨L1,g1,?_,g3⟩
  rw[g2,S.sum];rfl
def hdQ:List (Int×Int)→Int×Int×Bool
 |[]=>(0,0,false)
 |(p,q)::_=>(p,q,true)
theorem zMq (L:List zD) (s:Int):((bestL L s).1.price,(bestL L s).1.qty,(bestL L s).2)=hdQ (lpq (j0 L s)):=by
 rw[bestL]
 cases j0 L s<;>rfl
def PEq (B B':List (List zD)):Prop:=B'.length=B.length∧∀(k:Nat) (s:Int),s=1∨s=2→(bestL (B'.getD k []) s).1.price=(bestL (B.getD k []) s).1.price∧(bestL (B'.getD k []) s).2=(bestL (B.getD k []) s).2
def LadEq (B B':List (List zD)):Prop:=B'.length=B.length∧∀(k:Nat) (s:Int),s=1∨s=2→lpq (j0 (B'.getD k []) s)=lpq (j0 (B.getD k []) s)
theorem LadEq.refl (B:List (List zD)):LadEq B B:=⟨rfl,fun _ _ _=>rfl⟩
theorem LadEq.best {B B':List (List zD)} (h:LadEq B B') (k:Nat) {s:Int} (hs:s=1∨s=2):(bestL (B'.getD k []) s).1.price=(bestL (B.getD k []) s).1.price∧(bestL (B'.getD k []) s).1.qty=(bestL (B.getD k []) s).1.qty∧(bestL (B'.getD k []) s).2=(bestL (B.getD k []) s).2:=by
 have a:=zMq (B'.getD k []) s
 rw[h.2 k s hs,← zMq]at a
 simp only[Prod.mk.injEq]at a
 exact a
theorem LadEq.p {B B':List (List zD)} (h:LadEq B B'):PEq B B':=⟨h.1,fun k s hs=>⟨(h.best k hs).1,(h.best k hs).2.2⟩⟩
def TEq (T T':List Top):Prop:=T'.length=T.length∧∀k s,s=1∨s=2→((T'.getD k top0).has s=(T.getD k top0).has s∧(T'.getD k top0).price s=(T.getD k top0).price s)
theorem p7 (B:List (List zD)) (k:Nat) (s:Int) (hs:s=1∨s=2):((B.map jR).getD k top0).has s=(bestL (B.getD k []) s).2∧((B.map jR).getD k top0).qty s=(bestL (B.getD k []) s).1.qty∧((B.map jR).getD k top0).price s=(bestL (B.getD k []) s).1.price:=by
 by_cases h:k<B.length
 ·obtain⟨L,hL⟩:=z9 h
  rw[sQ hL,zI hL];exact vP L hs
 ·rw[List.getD_eq_getElem?_getD,List.getD_eq_getElem?_getD,List.getElem?_eq_none (by rw[List.length_map];omega),List.getElem?_eq_none (by omega)]
  rcases hs with rfl|rfl<;>exact⟨rfl,rfl,rfl⟩
theorem PEq.t {B B':List (List zD)} (h:PEq B B'):TEq (B.map jR) (B'.map jR):=by
 refine⟨by rw[List.length_map,List.length_map,h.1],fun k s hs=> ?_⟩
 have a:=p7 B k s hs
 have b:=p7 B' k s hs
 have c:=h.2 k s hs
 exact⟨by rw[a.1,b.1,c.2],by rw[a.2.2,b.2.2,c.1]⟩
def pC (inst s:Int) (n:Quote×Bool×Bool) (k:Nat) (z:Int):Prop:=if n.2.1=true then(k=n.1.a.inst.toNat∧z=n.1.a.side)∨(k=n.1.b.inst.toNat∧z=n.1.b.side)else k=inst.toNat∧z=s
def Dec (S:Nat→Int→Prop) (x:Int) (B B':List (List zD)):Prop:=B'.length=B.length∧∀(k:Nat) (s:Int),s=1∨s=2→(S k s→lpq (j0 (B'.getD k []) s)=zDp (lpq (j0 (B.getD k []) s)) x)∧(¬S k s→lpq (j0 (B'.getD k []) s)=lpq (j0 (B.getD k []) s))
theorem Dec.eq {S:Nat→Int→Prop} {x:Int} {B B' C C':List (List zD)} (h:Dec S x B C) (h':Dec S x B' C') (e:LadEq B B'):LadEq C C':=by
 refine⟨by rw[h'.1,h.1,e.1],fun k s hs=> ?_⟩
 by_cases c:S k s
 ·rw[((h'.2 k s hs).1 c),((h.2 k s hs).1 c),e.2 k s hs]
 ·rw[((h'.2 k s hs).2 c),((h.2 k s hs).2 c),e.2 k s hs]
def goB (p:Prd) (B:List (List zD)) (inst:Int) (sd:Bool) (price:Int):Bool:=(zT p B inst (zA (!sd))).2.2 && (f7 sd price (zT p B inst (zA (!sd))).1.price && decide (1≤(zT p B inst (zA (!sd))).1.qty))
theorem yFt {p:Prd} {B:List (List zD)} {inst:Int} {sd:Bool} {price:Int} (h:goB p B inst sd price=false) (q:Int):jG p B inst sd price q=none:=by
 rw[jG]
 dsimp only
 rw[if_neg]
 rw[goB]at h
 rw[h];decide
theorem zQe {p:Prd} {B:List (List zD)} (h:BWf p B) {inst:Int} (hi:0≤inst∧inst<B.length) {sd:Bool} {price:Int} (hg:goB p B inst sd price=true) {q:Int} (hq:1≤q):
 ∃t B',jG p B inst sd price q=some (t,B')∧t.qty=min q (zT p B inst (zA (!sd))).1.qty∧1≤t.qty∧BWf p B'∧Dec (pC inst (zA (!sd)) (zT p B inst (zA (!sd)))) t.qty B B':=by
 have hs:zA (!sd)=1∨zA (!sd)=2:=fN _
 have hg0:=hg
 rw[goB]at hg0
 simp only[Bool.and_eq_true,decide_eq_true_eq]at hg0
 obtain⟨c1,c2,c3⟩:=hg0
 obtain⟨hq1,h1,h2⟩:=rM h.ok h.od hi hs c1
 rw[jG]
 dsimp only
 rw[if_pos (by rw[goB]at hg;exact hg)]
 by_cases c:(zT p B inst (zA (!sd))).2.1=true
 ·obtain⟨_,ok⟩:=h1 c
  rw[if_pos c]
  refine⟨_,_,rfl,rfl,by dsimp only;omega,h.takes.takes,?_⟩
  dsimp only
  have hlg:pC inst (zA (!sd)) (zT p B inst (zA (!sd)))=fun k z=>(k=(zT p B inst (zA (!sd))).1.a.inst.toNat∧z=(zT p B inst (zA (!sd))).1.a.side)∨(k=(zT p B inst (zA (!sd))).1.b.inst.toNat∧z=(zT p B inst (zA (!sd))).1.b.side):=by
   funext k z;rw[pC,if_pos c]
  rw[hlg]
  generalize (zT p B inst (zA (!sd))).1=n at*
  obtain⟨np,nq,⟨ai,az⟩,⟨bi,bs⟩⟩:=n
  have a:=ok.a
  have b:=ok.b
  have ne:=ok.ne
  rw[List.length_map]at a b
  dsimp only at a b ne hq1 c3 ⊢
  obtain⟨ka,rfl⟩:∃k:Nat,ai=k:=⟨ai.toNat,by omega⟩
  obtain⟨kb,rfl⟩:∃k:Nat,bi=k:=⟨bi.toNat,by omega⟩
  have hab:ka≠kb:=fun e=>ne (by rw[e])
  obtain⟨La,hLa⟩:=z9 (l:=B) (i:=ka) (by omega)
  obtain⟨Lb,hLb⟩:=z9 (l:=B) (i:=kb) (by omega)
  have e1:=ok.ha
  have e2:=ok.hb
  have e3:=ok.qty
  have sa:az=1∨az=2:=ok.sa
  have bz:bs=1∨bs=2:=ok.sb
  dsimp only at e1 e2 e3
  rw[Int.toNat_natCast,sQ hLa]at e1 e3
  rw[Int.toNat_natCast,sQ hLb]at e2 e3
  rw[(vP La sa).1]at e1
  rw[(vP Lb bz).1]at e2
  rw[(vP La sa).2.1,(vP Lb bz).2.1]at e3
  have hW1:BWf p (yX B (yW p B ka az (min q nq))):=h.takes
  have hl:=hD h (k:=ka) (j:=kb) hab hLa hLb az (min q nq)
  obtain⟨L1,g1,g2,g3⟩:=zCc h hLa sa e1 (q:=min q nq) (by omega)
  obtain⟨L2,f1,f2,f3⟩:=zCc hW1 hl bz e2 (q:=min q nq) (by omega)
  have hl2:=hD hW1 (k:=kb) (j:=ka) (fun e=>hab e.symm) hl g1 bs (min q nq)
  refine⟨by rw[qF,qF],fun k s hs=> ?_⟩
  rw[Int.toNat_natCast,Int.toNat_natCast]
  by_cases ca:k=ka
  ·subst ca
   rw[zI hl2,zI hLa]
   by_cases cs:s=az
   ·subst cs
    exact⟨fun _=>g2,fun x=>absurd (.inl ⟨rfl,rfl⟩) x⟩
   ·exact⟨fun x=>by rcases x with x|x;exact absurd x.2 cs;exact absurd x.1 hab,fun _=>by rw[g3 s cs]⟩
  by_cases cb:k=kb
  ·subst cb
   rw[zI f1,zI hLb]
   by_cases cs:s=bs
   ·subst cs
    exact⟨fun _=>f2,fun x=>absurd (.inr ⟨rfl,rfl⟩) x⟩
   ·exact⟨fun x=>by rcases x with x|x;exact absurd x.1 ca;exact absurd x.2 cs,fun _=>by rw[f3 s cs]⟩
  refine⟨fun x=>by rcases x with x|x;exact absurd x.1 ca;exact absurd x.1 cb,fun _=> ?_⟩
  by_cases hk:k<B.length
  ·obtain⟨L,hL⟩:=z9 hk
   have m1:=hD h (k:=ka) (j:=k) (fun e=>ca e.symm) hLa hL az (min q nq)
   have m2:=hD hW1 (k:=kb) (j:=k) (fun e=>cb e.symm) hl m1 bs (min q nq)
   rw[zI hL,zI m2]
  ·rw[List.getD_eq_getElem?_getD,List.getD_eq_getElem?_getD,List.getElem?_eq_none (by rw[qF,qF];omega),List.getElem?_eq_none (by omega)]
 ·obtain⟨d1,d2,d3⟩:=h2 (by simpa using c)
  rw[if_neg c]
  refine⟨_,_,rfl,rfl,by dsimp only;omega,h.takes,?_⟩
  dsimp only
  have hlg:pC inst (zA (!sd)) (zT p B inst (zA (!sd)))=fun k z=>k=inst.toNat∧z=zA (!sd):=by
   funext k z;rw[pC,if_neg c]
  rw[hlg]
  obtain⟨k0,rfl⟩:∃k:Nat,inst=k:=⟨inst.toNat,by omega⟩
  obtain⟨L,hL⟩:=z9 (l:=B) (i:=k0) (by omega)
  rw[Int.toNat_natCast,zI hL]at d1 d3
  rw[Int.toNat_natCast]
  obtain⟨L1,g1,g2,g3⟩:=zCc h hL hs d1 (q:=min q (zT p B k0 (zA (!sd))).1.qty) (by omega)
  refine⟨by rw[qF],fun k s hs2=> ?_⟩
  by_cases ca:k=k0
  ·subst ca
   rw[zI g1,zI hL]
   by_cases cs:s=zA (!sd)
   ·rw[cs]
    exact⟨fun _=>g2,fun x=>absurd ⟨rfl,rfl⟩ x⟩
   ·exact⟨fun x=>absurd x.2 cs,fun _=>by rw[g3 s cs]⟩
  refine⟨fun x=>absurd x.1 ca,fun _=> ?_⟩
  by_cases hk:k<B.length
  ·obtain⟨M,hM⟩:=z9 hk
   have m1:=hD h (k:=k0) (j:=k) (fun e=>ca e.symm) hL hM (zA (!sd)) (min q (zT p B k0 (zA (!sd))).1.qty)
   rw[zI hM,zI m1]
  ·rw[List.getD_eq_getElem?_getD,List.getD_eq_getElem?_getD,List.getElem?_eq_none (by rw[qF];omega),List.getElem?_eq_none (by omega)]
open Go Cv Go.Proofs
theorem z9l {p:Prd} {B:List (List zD)} (h:BWf p B) {inst:Int} (hi:0≤inst∧inst<B.length) {s:Int} (hs:s=1∨s=2) (hn:(zT p B inst s).2.2=true) {k:Nat} {z:Int} (hl:pC inst s (zT p B inst s) k z):
 (bestL (B.getD k []) z).2=true∧(zT p B inst s).1.qty≤(bestL (B.getD k []) z).1.qty:=by
 obtain⟨_,h1,h2⟩:=rM h.ok h.od hi hs hn
 rw[pC]at hl
 split at hl
 ·rename_i c
  obtain⟨_,ok⟩:=h1 c
  have e1:=ok.ha
  have e2:=ok.hb
  have e3:=ok.qty
  have a:=p7 B (zT p B inst s).1.a.inst.toNat _ ok.sa
  have b:=p7 B (zT p B inst s).1.b.inst.toNat _ ok.sb
  rw[a.1]at e1
  rw[b.1]at e2
  rw[a.2.1,b.2.1]at e3
  rcases hl with⟨rfl,rfl⟩|⟨rfl,rfl⟩
  ·exact⟨e1,by omega⟩
  ·exact⟨e2,by omega⟩
 ·rename_i c
  obtain⟨d1,d2,d3⟩:=h2 (by simpa using c)
  obtain⟨rfl,rfl⟩:=hl
  exact⟨d1,by omega⟩
theorem LadEq.tops {B B':List (List zD)} (h:LadEq B B'):B'.map jR=B.map jR:=by
 apply List.ext_getElem?
 intro k
 rw[List.getElem?_map,List.getElem?_map]
 by_cases c:k<B.length
 ·obtain⟨L,hL⟩:=z9 c
  obtain⟨L',hL'⟩:=z9 (l:=B') (i:=k) (by rw[h.1];exact c)
  rw[hL,hL']
  have a:=h.best k (.inl rfl)
  have b:=h.best k (.inr rfl)
  rw[zI hL,zI hL']at a b
  obtain⟨x1,x2,x3,x4,x5,x6⟩:=zAa L
  obtain⟨y1,y2,y3,y4,y5,y6⟩:=zAa L'
  show some (jR L')=some (jR L)
  congr 1
  generalize jR L'=t' at*
  generalize jR L=t at*
  cases t';cases t
  dsimp only at*
  simp[x1,x2,x3,x4,x5,x6,y1,y2,y3,y4,y5,y6,a,b]
 ·rw[List.getElem?_eq_none (by rw[h.1];omega),List.getElem?_eq_none (by omega)]
theorem LadEq.next {B B':List (List zD)} (h:LadEq B B') (p:Prd) (inst:Int) {s:Int} (hs:s=1∨s=2):zT p B' inst s=zT p B inst s:=by
 have a:=h.best inst.toNat hs
 rw[zT,zT,h.tops,a.1,a.2.1,a.2.2]
theorem LadEq.go {B B':List (List zD)} (h:LadEq B B') (p:Prd) (inst:Int) (sd:Bool) (price:Int):goB p B' inst sd price=goB p B inst sd price:=by
 rw[goB,goB,h.next p inst (fN _)]
def zAg (p:Prd) (B:List (List zD)) (inst:Int) (sd:Bool) (price q:Int):Int:=q-(xS p B inst sd price q).left
theorem zXh {p:Prd} {B:List (List zD)} {inst:Int} {sd:Bool} {price:Int} (h:goB p B inst sd price=false) (q:Int):xS p B inst sd price q=⟨[],q,B⟩:=jP (.inr (yFt h q))
theorem yMu {p:Prd} {B:List (List zD)} {inst:Int} {sd:Bool} {price:Int} (h:goB p B inst sd price=false) (q:Int):zAg p B inst sd price q=0:=by
 rw[zAg,zXh h];dsimp only;omega
theorem z8o {p:Prd} {B:List (List zD)} {inst:Int} {sd:Bool} {price:Int} {q:Int} (h:q≤0):zAg p B inst sd price q=0:=by
 rw[zAg,jP (.inl h)];dsimp only;omega
theorem zPy {p:Prd} {B:List (List zD)} {inst:Int} {sd:Bool} {price q:Int} {t:qZ} {B':List (List zD)} (hq:1≤q) (h:jG p B inst sd price q=some (t,B')):zAg p B inst sd price q=t.qty+zAg p B' inst sd price (q-t.qty):=by
 rw[zAg,zAg,fW hq h];dsimp only;omega
theorem BWf.run {p:Prd} {inst:Int} {sd:Bool} {price:Int}:∀(m:Nat) (q:Int) (B:List (List zD)),q.toNat≤m→BWf p B→0≤inst∧inst<B.length→BWf p (xS p B inst sd price q).B∧(xS p B inst sd price q).B.length=B.length∧
 (0<(xS p B inst sd price q).left→0<q∧goB p (xS p B inst sd price q).B inst sd price=false)∧(0≤q→0≤(xS p B inst sd price q).left∧(xS p B inst sd price q).left≤q)∧((xS p B inst sd price q).steps=[]→zAg p B inst sd price q=0)∧(zAg p B inst sd price q=0→0≤q→(xS p B inst sd price q).steps=[])
 |m,q,B,hm,h,hi=>by
  by_cases hq:q≤0
  ·rw[z8o hq,jP (.inl hq)]
   exact⟨h,rfl,fun x=>by dsimp only at x;omega,fun x=>⟨x,Int.le_refl _⟩,fun _=>rfl,fun _ _=>rfl⟩
  cases hg:goB p B inst sd price with
  |false=>
   rw[yMu hg,zXh hg]
   exact⟨h,rfl,fun _=>⟨by omega,hg⟩,fun x=>⟨x,Int.le_refl _⟩,fun _=>rfl,fun _ _=>rfl⟩
  |true=>
   obtain⟨t,C,a1,a2,a3,a4,a5⟩:=zQe h hi hg (q:=q) (by omega)
   cases m with
   |zero=>omega
   |succ m=>
   obtain⟨i1,i2,i3,i4,i5,i6⟩:=BWf.run (p:=p) (inst:=inst) (sd:=sd) (price:=price) m (q-t.qty) C (by omega) a4 (by rw[a5.1];exact hi)
   have i4:=i4 (by omega)
   have hc:=zPy (by omega) a1
   rw[zAg]at hc
   rw[zAg]at hc
   rw[fW (by omega) a1]
   refine⟨i1,i2.trans a5.1,fun x=>⟨by omega,(i3 x).2⟩,fun _=>⟨i4.1,by dsimp only;omega⟩,fun x=>(by cases x),fun x=> ?_⟩
   rw[zPy (by omega) a1,zAg]at x
   omega
open Go Cv Go.Proofs
def kJ (B:List (List zD)):Nat:=(B.map List.length).sum
def spO (o:zD):Int×Int:=(o.side,o.price)
def zPu (B:List (List zD)):List (List (Int×Int)):=B.map fun L=>L.map spO
theorem zPf:∀(B:List (List zD)) (n:Nat),(whL n B).length=kJ B
 |[],n=>rfl
 |L::B,n=>by
  rw[whL,List.length_append,List.length_map,zPf B,kJ,kJ,List.map_cons,List.sum_cons]
theorem z1a (id q:Int):∀(L:List zD),(yN L id q).length≤L.length∧((yN L id q).length=L.length→(yN L id q).map spO=L.map spO)
 |[]=>⟨Nat.le_refl _,fun _=>rfl⟩
 |o::L=>by
  obtain⟨i1,i2⟩:=z1a id q L
  rw[yN]at i1 i2
  rw[yN,List.filterMap_cons]
  by_cases c:o.id=id
  ·rw[if_pos c]
   by_cases d:o.qty=q
   ·rw[if_pos d]
    refine⟨Nat.le_succ_of_le i1,fun e=> ?_⟩
    rw[List.length_cons]at e
    dsimp only at e
    omega
   ·rw[if_neg d]
    refine⟨Nat.succ_le_succ i1,fun e=> ?_⟩
    rw[List.map_cons,List.map_cons,i2 (Nat.succ.inj e)]
    rfl
  ·rw[if_neg c]
   refine⟨Nat.succ_le_succ i1,fun e=> ?_⟩
   rw[List.map_cons,List.map_cons,i2 (Nat.succ.inj e)]
theorem zEk:∀{B:List (List zD)} {k:Nat} {L L':List zD},B[k]? =some L→kJ (B.set k L')+L.length=kJ B+L'.length
 |[],k,L,L',h=>by cases h
 |M::B,0,L,L',h=>by
  cases h
  rw[List.set_cons_zero,kJ,kJ,List.map_cons,List.map_cons,List.sum_cons,List.sum_cons];omega
 |M::B,k+1,L,L',h=>by
  have:=zEk (B:=B) (k:=k) (L:=L) (L':=L') h
  rw[kJ,kJ]at this
  rw[List.set_cons_succ,kJ,kJ,List.map_cons,List.map_cons,List.sum_cons,List.sum_cons];omega
theorem zEf (B:List (List zD)) (id q:Int):kJ (yT B id q).1≤kJ B∧(kJ (yT B id q).1=kJ B→zPu (yT B id q).1=zPu B):=by
 rw[yT]
 split
 ·exact⟨Nat.le_refl _,fun _=>rfl⟩
 ·rename_i k hk
  dsimp only
  obtain⟨L,hL,hh⟩:=xM hk
  rw[zI hL,xQ]
  split
  ·rw[kU hL];exact⟨Nat.le_refl _,fun _=>rfl⟩
  split
  ·rw[kU hL];exact⟨Nat.le_refl _,fun _=>rfl⟩
  dsimp only
  have:=zEk (L':=yN L id q) hL
  obtain⟨i1,i2⟩:=z1a id q L
  refine⟨by omega,fun e=> ?_⟩
  rw[zPu,zPu,List.map_set,i2 (by omega)]
  exact kU (by rw[List.getElem?_map,hL];rfl)
theorem zSo:∀(fs:List wL) (B:List (List zD)),kJ (yX B fs)≤kJ B∧(kJ (yX B fs)=kJ B→zPu (yX B fs)=zPu B)
 |[],B=>⟨Nat.le_refl _,fun _=>rfl⟩
 |f::fs,B=>by
  obtain⟨i1,i2⟩:=zSo fs (yT B f.id f.qty).1
  obtain⟨j1,j2⟩:=zEf B f.id f.qty
  have e:yX B (f::fs)=yX (yT B f.id f.qty).1 fs:=rfl
  rw[e]
  exact⟨by omega,fun h=>(i2 (by omega)).trans (j2 (by omega))⟩
theorem zMe:∀{F F':List zD},F.map (·.price)=F'.map (·.price)→(grp F).map (·.price)=(grp F').map (·.price)
 |[],[],_=>rfl
 |[],_::_,h=>by cases h
 |_::_,[],h=>by cases h
 |o::F,o'::F',h=>by
  rw[List.map_cons,List.map_cons,List.cons.injEq]at h
  have ih:=zMe h.2
  have h1:=h.1
  rw[grp,grp]
  cases e:grp F with
  |nil=>
   rw[e]at ih
   cases e':grp F' with
   |nil=>simp[h1]
   |cons v vs=>rw[e']at ih;cases ih
  |cons v vs=>
   rw[e]at ih
   cases e':grp F' with
   |nil=>rw[e']at ih;cases ih
   |cons w ws=>
    rw[e',List.map_cons,List.map_cons,List.cons.injEq]at ih
    dsimp only
    rw[ih.1,h1]
    split
    ·rw[List.map_cons,List.map_cons,ih.2]
    ·rw[List.map_cons,List.map_cons,List.map_cons,List.map_cons,ih.2,ih.1]
theorem yJv {L L':List zD} (h:L'.map spO=L.map spO) (s:Int):(j0 L' s).length=(j0 L s).length:=by
 have e:∀L:List zD,(L.filter fun o=>decide (o.side=s)).map (·.price)=((L.map spO).filter fun x=>decide (x.1=s)).map (·.2):=by
  intro L
  rw[List.filter_map,List.map_map];rfl
 have:=zMe ((e L').trans ((congrArg (fun l=>(List.filter (fun x:Int×Int=>decide (x.1=s)) l).map (·.2)) h).trans (e L).symm))
 have:=congrArg List.length this
 rw[List.length_map,List.length_map]at this
 exact this
theorem zUh {p:Prd} {B:List (List zD)} {inst:Int} {sd:Bool} {price q:Int} {t:qZ} {B':List (List zD)} (e:jG p B inst sd price q=some (t,B')):B'=yX B t.fills:=by
 rw[jG]at e
 dsimp only at e
 split at e
 ·split at e
  ·cases e;rw[zLj]
  ·cases e;rfl
 ·cases e
theorem z5v {p:Prd} {B:List (List zD)} (h:BWf p B) {inst:Int} (hi:0≤inst∧inst<B.length) {sd:Bool} {price:Int} (hg:goB p B inst sd price=true) {q:Int} (hq:1≤q):
 ∃t B',jG p B inst sd price q=some (t,B')∧1≤t.qty∧t.qty≤q∧BWf p B'∧B'.length=B.length∧kJ B'≤kJ B∧(t.qty<q→kJ B'<kJ B):=by
 obtain⟨t,B',a1,a2,a3,a4,a5⟩:=zQe h hi hg hq
 have hg0:=hg
 rw[goB]at hg0
 simp only[Bool.and_eq_true,decide_eq_true_eq]at hg0
 obtain⟨c1,_,c3⟩:=hg0
 have hcs:=zSo t.fills B
 rw[← zUh a1]at hcs
 refine⟨t,B',a1,a3,by omega,a4,a5.1,hcs.1,fun hlt=> ?_⟩
 rcases Nat.lt_or_ge (kJ B') (kJ B)with x|x
 ·exact x
 exfalso
 have hsh:=hcs.2 (by omega)
 have hs:=fN (!sd)
 obtain⟨_,p1,p2⟩:=rM h.ok h.od hi hs c1
 obtain⟨k,z,hz,hl,he⟩:∃(k:Nat) (z:Int),(z=1∨z=2)∧pC inst (zA (!sd)) (zT p B inst (zA (!sd))) k z∧(bestL (B.getD k []) z).1.qty=(zT p B inst (zA (!sd))).1.qty:=by
  cases c:(zT p B inst (zA (!sd))).2.1 with
  |true=>
   obtain⟨_,ok⟩:=p1 c
   have q0:=ok.qty
   rw[(p7 B _ _ ok.sa).2.1,(p7 B _ _ ok.sb).2.1]at q0
   rcases Int.le_total (bestL (B.getD (zT p B inst (zA (!sd))).1.a.inst.toNat []) (zT p B inst (zA (!sd))).1.a.side).1.qty (bestL (B.getD (zT p B inst (zA (!sd))).1.b.inst.toNat []) (zT p B inst (zA (!sd))).1.b.side).1.qty with y|y
   ·exact⟨_,_,ok.sa,by rw[pC,if_pos c];exact .inl ⟨rfl,rfl⟩,by omega⟩
   ·exact⟨_,_,ok.sb,by rw[pC,if_pos c];exact .inr ⟨rfl,rfl⟩,by omega⟩
  |false=>
   obtain⟨d1,d2,d3⟩:=p2 c
   exact⟨inst.toNat,_,hs,by rw[pC,if_neg (by rw[c];decide)];exact⟨rfl,rfl⟩,d3.symm⟩
 have hb:=z9l h hi hs c1 hl
 have hd:=(a5.2 k z hz).1 hl
 have hlen:(lpq (j0 (B'.getD k []) z)).length=(lpq (j0 (B.getD k []) z)).length:=by
  rw[lpq,lpq,List.length_map,List.length_map]
  refine yJv ?_ z
  have:=congrArg (fun l=>l.getD k []) hsh
  have ge:∀B:List (List zD),(zPu B).getD k []=(B.getD k []).map spO:=by
   intro B
   rw[zPu,List.getD_eq_getElem?_getD,List.getD_eq_getElem?_getD,List.getElem?_map]
   cases B[k]? <;>rfl
  rw[ge,ge]at this
  exact this
 have bh:=zMq (B.getD k []) z
 rw[hd]at hlen
 cases el:lpq (j0 (B.getD k []) z)with
 |nil=>rw[el]at bh;simp only[hdQ,Prod.mk.injEq]at bh;rw[bh.2.2]at hb;cases hb.1
 |cons v vs=>
  obtain⟨pr,Q⟩:=v
  rw[el]at bh hlen
  simp only[hdQ,Prod.mk.injEq]at bh
  have e2:zDp ((pr,Q)::vs) t.qty=vs:=if_pos (by omega)
  rw[e2,List.length_cons]at hlen
  omega
theorem z0c {p:Prd} {inst:Int} {sd:Bool} {price:Int}:∀(m:Nat) (q:Int) (B:List (List zD)),q.toNat≤m→BWf p B→0≤inst∧inst<B.length→
 (xS p B inst sd price q).steps.length+kJ (xS p B inst sd price q).B≤kJ B+1∧(q≤0→(xS p B inst sd price q).steps=[])∧((xS p B inst sd price q).steps.map (·.qty)).sum=q-(xS p B inst sd price q).left∧kJ (xS p B inst sd price q).B≤kJ B
 |m,q,B,hm,h,hi=>by
  by_cases hq:q≤0
  ·rw[jP (.inl hq)]
   exact⟨by dsimp only[List.length_nil];omega,fun _=>rfl,by simp,Nat.le_refl _⟩
  cases hg:goB p B inst sd price with
  |false=>
   rw[zXh hg]
   exact⟨by dsimp only[List.length_nil];omega,fun _=>rfl,by simp,Nat.le_refl _⟩
  |true=>
   obtain⟨t,C,a1,a3,a3',a4,a5,a6,a7⟩:=z5v h hi hg (q:=q) (by omega)
   cases m with
   |zero=>omega
   |succ m=>
   obtain⟨i1,i2,i3,i4⟩:=z0c (p:=p) (inst:=inst) (sd:=sd) (price:=price) m (q-t.qty) C (by omega) a4 (by rw[a5];exact hi)
   rw[fW (by omega) a1]
   refine⟨?_,fun x=>absurd x hq,?_,by dsimp only;omega⟩
   ·dsimp only
    rw[List.length_cons]
    by_cases c:t.qty<q
    ·have:=a7 c
     omega
    ·rw[i2 (by omega)]
     rw[List.length_nil];omega
   ·dsimp only
    rw[List.map_cons,List.sum_cons,i3];omega
def gvn:List wL→Int→Int
 |[],_=>0
 |f::l,k=>(if f.inst=k then f.qty else 0)+gvn l k
structure yRc (inst:Int) (sd:Bool) (price:Int) (t:qZ):Prop where
 pr:f7 sd price t.price=true
 fl:∀f∈t.fills,(0≤f.inst∧f.inst<32)∧1≤f.qty∧f.qty≤1000000∧0≤f.left∧(t.implied=false→f.price=t.price∧f.inst=inst∧f.side=zA (!sd))
 len:t.fills.length≤500
 S:∃S:List Int,S.Nodup∧(∀k∈S,0≤k∧k<32)∧(S.length:Int)=(if t.implied=true then 2 else 1)∧∀k,gvn t.fills k=if k∈S then t.qty else 0
open Go Cv Go.Proofs
def qL:List zD→Int→Int
 |[],_=>0
 |o::L,id=>(if o.id=id then o.qty else 0)+qL L id
def qB:List (List zD)→Int→Int
 |[],_=>0
 |L::B,id=>qL L id+qB B id
theorem zXu (id:Int):∀A B:List zD,qL (A++B) id=qL A id+qL B id
 |[],B=>by rw[List.nil_append,qL];omega
 |o::A,B=>by rw[List.cons_append,qL,qL,zXu id A B];omega
theorem zSa {id:Int}:∀{L:List zD},(∀o∈L,o.id≠id)→qL L id=0
 |[],_=>rfl
 |o::L,h=>by
  rw[qL,if_neg (h o List.mem_cons_self),zSa fun x hx=>h x (List.mem_cons_of_mem _ hx)];rfl
theorem zWz {o:zD}:∀{L:List zD},(L.map (·.id)).Nodup→o∈L→qL L o.id=o.qty
 |[],_,h=>by cases h
 |x::L,hn,h=>by
  rw[List.map_cons,List.nodup_cons]at hn
  rw[qL]
  rcases List.mem_cons.1 h with rfl|h
  ·rw[if_pos rfl,zSa fun y hy e=>hn.1 (List.mem_map.2 ⟨y,hy,e⟩)];omega
  ·rw[if_neg fun e=>hn.1 (List.mem_map.2 ⟨o,h,e.symm⟩),zWz hn.2 h];omega
theorem zHo {id x y:Int} (hy:y≠id):∀L:List zD,qL (yN L id x) y=qL L y
 |[]=>rfl
 |o::L=>by
  have ih:=zHo (x:=x) hy L
  rw[yN]at ih ⊢
  rw[List.filterMap_cons,qL]
  by_cases c:o.id=id
  ·have hne:¬o.id=y:=fun e=>hy (by rw[← e,c])
   rw[if_pos c,if_neg hne]
   by_cases d:o.qty=x
   ·rw[if_pos d];dsimp only;rw[ih];omega
   ·rw[if_neg d];dsimp only;rw[qL,ih];dsimp only;rw[if_neg hne]
  ·rw[if_neg c];dsimp only;rw[qL,ih]
theorem zYo {o:zD} {x:Int}:∀{L:List zD},(L.map (·.id)).Nodup→o∈L→qL (yN L o.id x) o.id=o.qty-x
 |[],_,h=>by cases h
 |y::L,hn,h=>by
  rw[List.map_cons,List.nodup_cons]at hn
  rcases List.mem_cons.1 h with rfl|h
  ·have hno:∀z∈L,z.id≠o.id:=fun z hz e=>hn.1 (e▸List.mem_map_of_mem (f:=(·.id)) hz)
   have ht:=zAd (x:=x) hno
   rw[yN]at ht ⊢
   rw[List.filterMap_cons,if_pos rfl,ht]
   by_cases d:o.qty=x
   ·rw[if_pos d];dsimp only;rw[zSa hno];omega
   ·rw[if_neg d];dsimp only;rw[qL,zSa hno];dsimp only;rw[if_pos rfl];omega
  ·have hne:¬y.id=o.id:=fun e=>hn.1 (e▸List.mem_map_of_mem (f:=(·.id)) h)
   have ih:=zYo (x:=x) hn.2 h
   rw[yN]at ih ⊢
   rw[List.filterMap_cons,if_neg hne]
   dsimp only
   rw[qL,if_neg hne,ih];omega
theorem zNt {y:Int}:∀{B:List (List zD)} {k:Nat} {L L':List zD},B[k]? =some L→qB (B.set k L') y=qB B y-qL L y+qL L' y
 |[],k,L,L',h=>by cases h
 |M::B,0,L,L',h=>by cases h;rw[List.set_cons_zero,qB,qB];omega
 |M::B,k+1,L,L',h=>by
  have:=zNt (y:=y) (B:=B) (k:=k) (L:=L) (L':=L') h
  rw[List.set_cons_succ,qB,qB,this];omega
theorem zDm {id:Int}:∀{B:List (List zD)},(∀L∈B,∀o∈L,o.id≠id)→qB B id=0
 |[],_=>rfl
 |L::B,h=>by
  rw[qB,zSa (h L List.mem_cons_self),zDm fun M hM=>h M (List.mem_cons_of_mem _ hM)];rfl
theorem zCn {p:Prd} {B:List (List zD)} (h:BWf p B) {k:Nat} {L:List zD} (hL:B[k]? =some L) {o:zD} (ho:o∈L):qB B o.id=o.qty:=by
 have hk:=(List.getElem?_eq_some_iff.1 hL).1
 have h1:=zNt (y:=o.id) (L':=[]) hL
 have h2:qB (B.set k []) o.id=0:=by
  refine zDm fun M hM x hx e=> ?_
  obtain⟨j,hj⟩:=List.mem_iff_getElem?.1 hM
  rcases vJ hj with⟨_,rfl⟩|⟨hne,hj⟩
  ·cases hx
  ·exact hne (zGc h.ub hj hL (e▸List.mem_map_of_mem (f:=(·.id)) hx) (List.mem_map_of_mem (f:=(·.id)) ho))
 rw[h2,zWz (h.od k L hL).2.1 ho]at h1
 have:qL [] o.id=0:=rfl
 omega
theorem zHb {p:Prd} {B:List (List zD)} (h:BWf p B) {k:Nat} {L:List zD} (hL:B[k]? =some L) {o:zD} (ho:o∈L) {x:Int} (hx:1≤x∧x≤o.qty):(yT B o.id x).1=B.set k (yN L o.id x):=by
 have hi:=h.inst hL (List.mem_map_of_mem (f:=(·.id)) ho)
 have hg:=vL (h.od k L hL).2.1 ho
 have hh:qX L o.id=true:=hasId_iff.2 (List.mem_map_of_mem (f:=(·.id)) ho)
 simp only[yT,hi,zI hL]
 rw[xQ,if_neg (by rw[hh];decide),if_neg (by rw[hg];omega)]
theorem zYk {p:Prd} {B:List (List zD)} (h:BWf p B) {k:Nat} {L:List zD} (hL:B[k]? =some L) {o:zD} (ho:o∈L) {x:Int} (hx:1≤x∧x≤o.qty) (y:Int):qB (yT B o.id x).1 y=if y=o.id then o.qty-x else qB B y:=by
 rw[zHb h hL ho hx,zNt hL]
 by_cases c:y=o.id
 ·subst c
  rw[if_pos rfl,zYo (h.od k L hL).2.1 ho,zWz (h.od k L hL).2.1 ho,zCn h hL ho];omega
 ·rw[if_neg c,zHo c];omega
theorem lB {B:List (List zD)} {id x:Int} {k:Nat} {L:List zD} (h:(yT B id x).1[k]? =some L):∃M,B[k]? =some M∧∀o∈L,∃o'∈M,o'.id=o.id:=by
 rw[yT]at h
 split at h
 ·exact⟨L,h,fun o ho=>⟨o,ho,rfl⟩⟩
 ·rename_i j hj
  dsimp only at h
  obtain⟨M,hM,_⟩:=xM hj
  rcases vJ h with⟨rfl,rfl⟩|⟨_,h⟩
  ·refine⟨M,hM,fun o ho=> ?_⟩
   rw[zI hM]at ho
   obtain⟨o',ho',_,_,e⟩:=zFc ho
   exact⟨o',ho',e.symm⟩
  ·exact⟨L,h,fun o ho=>⟨o,ho,rfl⟩⟩
theorem yAd (y s:Int):∀L:List zD,qL (clr L s) y=qL L y
 |[]=>rfl
 |o::L=>by
  have ih:=yAd y s L
  rw[clr]at ih
  rw[clr,List.map_cons,qL,qL,ih]
  split<;>rfl
theorem yJb (L:List zD) (s id p q y:Int):qL (zBu L s id p q) y=(if id=y then q else 0)+qL L y:=by
 have h:∀(X:List zD) (b:Bool),qL (X.takeWhile (before s p)++⟨id,s,p,q,b⟩::X.dropWhile (before s p)) y=(if id=y then q else 0)+qL X y:=fun X b=>by
  have e:=zXu y (X.takeWhile (before s p)) (X.dropWhile (before s p))
  rw[List.takeWhile_append_dropWhile]at e
  rw[zXu,qL,e];dsimp only;omega
 rw[zBu,h]
 by_cases c:v7 L s p=true
 ·rw[if_pos c,yAd]
 ·rw[if_neg c]
structure Stm where
 left:Int→Int
 own:Int→Int
def upd (f:Int→Int) (k v:Int):Int→Int:=fun x=>if x=k then v else f x
def stN (s:Stm) (r:Rep):Stm:=
 if r.kind=1 then⟨upd s.left r.id r.qty,upd s.own r.id r.inst⟩
 else if r.kind=2∨(r.kind=3∧r.inst≠s.own r.id)then s
 else⟨upd s.left r.id r.left,s.own⟩
theorem nM {s:Stm} {r:Rep} (h1:r.kind≠1) (h2:r.kind≠2) (h3:r.kind=3→r.inst=s.own r.id):stN s r=⟨upd s.left r.id r.left,s.own⟩:=by
 rw[stN,if_neg h1,if_neg fun h=>h.elim h2 fun h=>h.2 (h3 h.1)]
theorem eZ {s:Stm} {r:Rep} (h:r.kind=3) (h2:r.inst≠s.own r.id):stN s r=s:=by
 rw[stN,if_neg (by omega),if_pos (.inr ⟨h,h2⟩)]
theorem zYj {s:Stm} {r:Rep} (h:r.kind=2):stN s r=s:=by
 rw[stN,if_neg (by omega),if_pos (.inl h)]
structure StG (p:Prd) (D:Int→Prop) (s:Stm) (r:Rep):Prop where
 d:D r.id
 i:0≤r.inst∧r.inst<p.count
 q:0≤r.qty∧r.qty≤1000000
 l:0≤r.left∧r.left≤1000000
 k:(r.kind=1∧s.left r.id=0∧1≤r.qty∧r.left=r.qty)∨
  (r.kind=3∧1≤r.qty∧(r.side=1∨r.side=2)∧((r.inst=s.own r.id∧r.qty≤s.left r.id∧r.left=s.left r.id-r.qty)∨
    (r.inst≠s.own r.id∧(p.legs (s.own r.id)).2.2=true∧(r.inst=(p.legs (s.own r.id)).1∨r.inst=(p.legs (s.own r.id)).2.1)∧r.left=s.left r.id)))∨
  (r.kind=4∧1≤r.qty∧r.qty=s.left r.id∧r.left=0)∨
  (r.kind=5∧r.qty<s.left r.id∧r.left=s.left r.id-r.qty)
def f8 (p:Prd) (D:Int→Prop):Stm→List Rep→Prop
 |_,[]=>True
 |s,r::l=>StG p D s r∧f8 p D (stN s r) l
def qR (s:Stm) (l:List Rep):Stm:=l.foldl stN s
theorem fE {p:Prd} {D:Int→Prop}:∀{s:Stm} {a b:List Rep},f8 p D s a→f8 p D (qR s a) b→f8 p D s (a++b)
 |_,[],_,_,h=>h
 |_,_::_,_,h,h2=>⟨h.1,fE h.2 h2⟩
theorem zKk {p:Prd} {D:Int→Prop}:∀{l:List Rep} {s:Stm} {k:Nat} {r:Rep},f8 p D s l→l[k]? =some r→StG p D (qR s (l.take k)) r
 |[],_,_,_,_,h=>by cases h
 |x::l,s,0,r,h,e=>by cases e;exact h.1
 |x::l,s,k+1,r,h,e=>zKk (l:=l) h.2 e
theorem rQ (s:Stm) (r:Rep):qR s [r]=stN s r:=rfl
theorem gV (s:Stm) (a b:List Rep):qR s (a++b)=qR (qR s a) b:=List.foldl_append
def one (r:Rep) (m:Int):Int:=if r.kind=3∧r.inst=m then(if r.side=1 then r.qty else-r.qty)else 0
def kF:List Rep→Int→Int
 |[],_=>0
 |r::l,m=>one r m+kF l m
theorem fX (m:Int):∀a b:List Rep,kF (a++b) m=kF a m+kF b m
 |[],b=>by rw[List.nil_append,kF];omega
 |r::a,b=>by rw[List.cons_append,kF,kF,fX m a b];omega
def vq (p:Prd) (k s q m:Int):Int:=
 if(p.legs k).2.2=true then(if(p.legs k).1=m then(if s=1 then q else-q)else 0)-(if(p.legs k).2.1=m then(if s=1 then q else-q)else 0)
 else if k=m then(if s=1 then q else-q)else 0
theorem yMz (p:Prd) (k s a b m:Int):vq p k s (a+b) m=vq p k s a m+vq p k s b m:=by
 rw[vq,vq,vq]
 split
 ·repeat' split
  all_goals omega
 ·repeat' split
  all_goals omega
theorem zVo (p:Prd) {s:Int} (hs:s=1∨s=2) (k q m:Int):vq p k (3-s) q m= -vq p k s q m:=by
 rw[vq,vq]
 rcases hs with rfl|rfl
 ·split
  ·repeat' split
   all_goals omega
  ·repeat' split
   all_goals omega
 ·split
  ·repeat' split
   all_goals omega
  ·repeat' split
   all_goals omega
theorem z0z {p:Prd} (hc:p.check=0) {k:Int} (hk:0≤k∧k<p.count) (hs:(p.legs k).2.2=true):(0≤(p.legs k).1∧(p.legs k).1<p.months.length)∧(0≤(p.legs k).2.1∧(p.legs k).2.1<p.months.length)∧(p.months.length:Int)≤k∧(p.legs k).1≠(p.legs k).2.1:=by
 obtain⟨n,rfl⟩:∃n:Nat,k=n:=⟨k.toNat,by omega⟩
 have hn:n<p.count:=by omega
 have hne:=zPi hc hn hs
 rcases wO hc hn with⟨_,a,b,c,d⟩|⟨e,_⟩
 ·refine⟨⟨a,b⟩,⟨c,d⟩,?_,hne⟩
  rcases Int.lt_or_le (n:Int) p.months.length with x|x
  ·exfalso
   rw[Prd.legs,if_neg (by omega),if_pos x]at hs
   cases hs
  ·exact x
 ·rw[e]at hs;cases hs
theorem zTb {p:Prd} (hc:p.check=0) {a b:Nat} (hab:a<b) (hb:b<p.months.length):p.legs (p.spread a b).1=((a:Int),(b:Int),true):=by
 obtain⟨k,t⟩:=yJj hc hab hb
 rw[t.hs];exact t.hl
theorem lK {p:Prd} (hc:p.check=0) {k:Nat} (hk:k<p.months.length):(p.legs k).2.2=false:=by
 rw[Prd.legs]
 split
 ·rfl
 ·rw[if_pos (by omega)]
theorem yDr {p:Prd} (hc:p.check=0) {T:List Top} (hT:T.length=p.count) {inst:Int} {s:Int} (hs:s=1∨s=2) {q:Quote} (h:q∈qC ⟨p,T,inst⟩ s) (x m:Int):vq p q.a.inst q.a.side x m+vq p q.b.inst q.b.side x m=vq p inst s x m:=by
 rw[qC]at h
 dsimp only at h
 split at h
 ·cases h
 ·rename_i hn
  obtain⟨k,rfl⟩:∃k:Nat,inst=k:=⟨inst.toNat,by omega⟩
  have hk:k<p.count:=by omega
  have hge:=nN hc
  split at h
  ·rename_i hl
   obtain⟨q',hq',rfl⟩:=List.mem_map.1 h
   obtain⟨l1,l2,l3,l4⟩:=z0z hc (k:=(k:Int)) (by omega) hl
   obtain⟨u,hu⟩:∃u:Nat,(p.legs k).1=u:=⟨(p.legs k).1.toNat,by omega⟩
   obtain⟨v,hv⟩:∃v:Nat,(p.legs k).2.1=v:=⟨(p.legs k).2.1.toNat,by omega⟩
   have mu:=lK hc (k:=u) (by omega)
   have mv:=lK hc (k:=v) (by omega)
   dsimp only[jN]
   rw[hu,hv,zVo p hs]
   simp only[vq,mu,mv,hl,hu,hv,if_true,Bool.false_eq_true,if_false]
   omega
  ·rename_i hl
   have hl:(p.legs k).2.2=false:=by simpa using hl
   have hm:k<p.months.length:=by
    rcases wO hc hk with⟨e,_⟩|⟨_,e⟩
    ·rw[hl]at e;cases e
    ·exact e
   rcases List.mem_append.1 h with h|h
   ·obtain⟨j,hj,h⟩:=List.mem_flatMap.1 h
    have hj:=List.mem_range.1 hj
    rw[Int.toNat_natCast]at hj
    have s1:=u6 hc (a:=k) (b:=k+1+j) (by omega) (by omega)
    have s2:=rO hc (a:=k) (b:=k+1+j) (by omega) (by omega)
    have sl:=zTb hc (a:=k) (b:=k+1+j) (by omega) (by omega)
    have mv:=lK hc (k:=k+1+j) (by omega)
    have ec:((k:Int)+1+j)=((k+1+j:Nat):Int):=by omega
    rw[ec]at h
    obtain⟨ok,e1,e2⟩:=zIb h (by dsimp only;omega) (by dsimp only;omega) hs hs (by dsimp only;omega)
    rw[e1,e2]
    dsimp only
    simp only[vq,sl,hl,mv,if_true,Bool.false_eq_true,if_false]
    omega
   ·obtain⟨j,hj,h⟩:=List.mem_flatMap.1 h
    have hj:=List.mem_range.1 hj
    rw[Int.toNat_natCast]at hj
    have s1:=u6 hc (a:=j) (b:=k) (by omega) (by omega)
    have s2:=rO hc (a:=j) (b:=k) (by omega) (by omega)
    have sl:=zTb hc (a:=j) (b:=k) (by omega) (by omega)
    have mv:=lK hc (k:=j) (by omega)
    obtain⟨ok,e1,e2⟩:=zIb h (by dsimp only;omega) (by dsimp only;omega) (by dsimp only;omega) hs (by dsimp only;omega)
    rw[e1,e2]
    dsimp only
    rw[zVo p hs]
    simp only[vq,sl,hl,mv,if_true,Bool.false_eq_true,if_false]
    omega
theorem zDx {p:Prd} {r:Rep} (m:Int) (hk:r.kind=3) (hs:r.side=1∨r.side=2):one r m=if r.inst=m then(if r.side=1 then r.qty else-r.qty)else 0:=by
 rw[one]
 by_cases c:r.inst=m
 ·rw[if_pos ⟨hk,c⟩,if_pos c]
 ·rw[if_neg fun h=>c h.2,if_neg c]
theorem zZp {p:Prd} (hc:p.check=0) {D:Int→Prop} {S:Stm} (x:qZ) {r:Rep} (hd:D r.id) (hk:r.kind=3) (hi:0≤r.inst∧r.inst<p.count) (ho:r.inst=S.own r.id) (hq:1≤r.qty∧r.qty≤S.left r.id∧S.left r.id≤1000000) (hl:r.left=S.left r.id-r.qty) (hs:r.side=1∨r.side=2):
 f8 p D S (kX p x r)∧qR S (kX p x r)=⟨upd S.left r.id r.left,S.own⟩∧∀m,0≤m→m<p.months.length→kF (kX p x r) m=vq p r.inst r.side r.qty m:=by
 have hn:stN S r=⟨upd S.left r.id r.left,S.own⟩:=nM (by omega) (by omega) fun _=>ho
 have hg:StG p D S r:=⟨hd,hi,by omega,by omega,.inr (.inl ⟨hk,hq.1,hs,.inl ⟨ho,hq.2.1,hl⟩⟩)⟩
 rw[kX]
 cases c:(p.legs r.inst).2.2 with
 |false=>
  rw[if_neg (by decide)]
  refine⟨⟨hg,trivial⟩,hn,fun m _ _=> ?_⟩
  rw[kF,kF,zDx (p:=p) m hk hs,vq]
  simp only[c,Bool.false_eq_true,if_false]
  omega
 |true=>
  obtain⟨l1,l2,l3,l4⟩:=z0z hc hi c
  rw[if_pos rfl,lD]
  have hu:upd S.left r.id r.left r.id=r.left:=by rw[upd,if_pos rfl]
  have hc':(p.legs (S.own r.id)).2.2=true:=by rw[← ho];exact c
  have h1:StG p D ⟨upd S.left r.id r.left,S.own⟩ {r with inst:=(p.legs r.inst).1,price:=(qM p r.inst x).1}:=by
   refine⟨hd,by dsimp only;omega,by dsimp only;omega,by dsimp only;omega,.inr (.inl ⟨hk,hq.1,hs,.inr ⟨?_,hc',.inl ?_,hu.symm⟩⟩)⟩
   ·dsimp only;omega
   ·dsimp only;rw[← ho]
  have h2:StG p D ⟨upd S.left r.id r.left,S.own⟩ {r with inst:=(p.legs r.inst).2.1,side:=3-r.side,price:=(qM p r.inst x).2}:=by
   refine⟨hd,by dsimp only;omega,by dsimp only;omega,by dsimp only;omega,.inr (.inl ⟨hk,hq.1,by dsimp only;omega,.inr ⟨?_,hc',.inr ?_,hu.symm⟩⟩)⟩
   ·dsimp only;omega
   ·dsimp only;rw[← ho]
  have n1:stN ⟨upd S.left r.id r.left,S.own⟩ {r with inst:=(p.legs r.inst).1,price:=(qM p r.inst x).1}=⟨upd S.left r.id r.left,S.own⟩:=eZ hk (by dsimp only;omega)
  have n2:stN ⟨upd S.left r.id r.left,S.own⟩ {r with inst:=(p.legs r.inst).2.1,side:=3-r.side,price:=(qM p r.inst x).2}=⟨upd S.left r.id r.left,S.own⟩:=eZ hk (by dsimp only;omega)
  refine⟨⟨hg,?_⟩,?_,fun m m0 m1=> ?_⟩
  ·rw[hn]
   exact⟨h1,by rw[n1];exact⟨h2,trivial⟩⟩
  ·show stN (stN (stN S r) _) _=_
   rw[hn,n1,n2]
  ·rw[kF,kF,kF,kF,zDx (p:=p) m hk hs,zDx (p:=p) m (r:={r with inst:=(p.legs r.inst).1,price:=(qM p r.inst x).1}) hk hs,zDx (p:=p) m (r:={r with inst:=(p.legs r.inst).2.1,side:=3-r.side,price:=(qM p r.inst x).2}) hk (by dsimp only;omega),vq,if_pos c,if_neg (by omega)]
   dsimp only
   repeat' split
   all_goals omega
structure FitX (D:Int→Prop) (S:Stm) (B:List (List zD)) (id lf inst:Int):Prop where
 rest:∀x,x≠id→S.left x=qB B x
 me:S.left id=lf
 own:∀(k:Nat) (L:List zD),B[k]? =some L→∀o∈L,S.own o.id=k
 mine:S.own id=inst
 no:∀L∈B,∀o∈L,o.id≠id
 d:∀L∈B,∀o∈L,D o.id
 di:D id
theorem FitX.take {D:Int→Prop} {S:Stm} {p:Prd} {B:List (List zD)} {id lf inst:Int} (h:FitX D S B id lf inst) (hB:BWf p B) {k:Nat} {L:List zD} (hL:B[k]? =some L) {o:zD} (ho:o∈L) {x:Int} (hx:1≤x∧x≤o.qty):FitX D ⟨upd S.left o.id (o.qty-x),S.own⟩ (yT B o.id x).1 id lf inst:=by
 have hne:o.id≠id:=h.no L (List.mem_of_getElem? hL) o ho
 refine⟨fun y hy=> ?_,?_,fun j M hM z hz=> ?_,h.mine,fun M hM z hz=> ?_,fun M hM z hz=> ?_,h.di⟩
 ·rw[zYk hB hL ho hx]
  dsimp only[upd]
  by_cases c:y=o.id
  ·rw[if_pos c,if_pos c]
  ·rw[if_neg c,if_neg c];exact h.rest y hy
 ·dsimp only[upd]
  rw[if_neg fun e=>hne e.symm];exact h.me
 ·obtain⟨M',h1,h2⟩:=lB hM
  obtain⟨o',h3,h4⟩:=h2 z hz
  rw[← h4];exact h.own j M' h1 o' h3
 ·obtain⟨j,hj⟩:=List.mem_iff_getElem?.1 hM
  obtain⟨M',h1,h2⟩:=lB hj
  obtain⟨o',h3,h4⟩:=h2 z hz
  rw[← h4];exact h.no M' (List.mem_of_getElem? h1) o' h3
 ·obtain⟨j,hj⟩:=List.mem_iff_getElem?.1 hM
  obtain⟨M',h1,h2⟩:=lB hj
  obtain⟨o',h3,h4⟩:=h2 z hz
  rw[← h4];exact h.d M' (List.mem_of_getElem? h1) o' h3
theorem zFh {p:Prd} {D:Int→Prop} {k:Nat} {s id lf inst:Int} (hs:s=1∨s=2) (x:qZ):∀{os:List zD} {sh:List Int} {B:List (List zD)} {L:List zD} {S:Stm},BWf p B→B[k]? =some L→(∀o∈os,o∈L)→(os.map (·.id)).Nodup→sh.length=os.length→(∀n,0≤sh.getD n 0∧sh.getD n 0≤(os.map (·.qty)).getD n 0)→FitX D S B id lf inst→
 f8 p D S ((yH k s os sh).flatMap fun f=>kX p x (gK f))∧FitX D (qR S ((yH k s os sh).flatMap fun f=>kX p x (gK f))) (yX B (yH k s os sh)) id lf inst∧
 ∀m,0≤m→m<p.months.length→kF ((yH k s os sh).flatMap fun f=>kX p x (gK f)) m=vq p k s sh.sum m
 |[],sh,B,L,S,h,hL,ho,hn,hl,hb,hF=>by
  have:sh=[]:=List.length_eq_zero_iff.1 hl
  subst this
  refine⟨trivial,hF,fun m _ _=> ?_⟩
  show 0=vq p k s 0 m
  rw[vq]
  repeat' split
  all_goals omega
 |o::os,[],B,L,S,h,hL,ho,hn,hl,hb,hF=>by cases hl
 |o::os,y::sh,B,L,S,h,hL,ho,hn,hl,hb,hF=>by
  have hy:0≤y∧y≤o.qty:=hb 0
  have hb':∀n,0≤sh.getD n 0∧sh.getD n 0≤(os.map (·.qty)).getD n 0:=fun n=>hb (n+1)
  have hl':sh.length=os.length:=by simpa using hl
  rw[List.map_cons,List.nodup_cons]at hn
  have ho0:=ho o List.mem_cons_self
  have ho':∀z∈os,z∈L:=fun z hz=>ho z (List.mem_cons_of_mem _ hz)
  rw[List.sum_cons,yH]
  by_cases c:0<y
  ·rw[if_pos c]
   have hx:1≤y∧y≤o.qty:=by omega
   have hk:=(List.getElem?_eq_some_iff.1 hL).1
   have hod:=h.od k L hL
   have hoq:=(hod.1 o ho0).q
   have hne:o.id≠id:=hF.no L (List.mem_of_getElem? hL) o ho0
   have hlf:S.left o.id=o.qty:=by rw[hF.rest _ hne,zCn h hL ho0]
   have hbl:=h.ok.bl
   obtain⟨t1,t2,t3⟩:=zZp h.ok.pc (D:=D) (S:=S) x (r:=⟨3,o.id,k,s,o.price,y,o.qty-y,0⟩) (hF.d L (List.mem_of_getElem? hL) o ho0) rfl (by dsimp only;omega) (hF.own k L hL o ho0).symm (by dsimp only;omega) (by dsimp only;rw[hlf]) hs
   have hF':=hF.take h hL ho0 hx
   have hW:=h.take o.id y
   have hL':(yT B o.id y).1[k]? =some (yN L o.id y):=by rw[zHb h hL ho0 hx];exact vZ hk
   obtain⟨i1,i2,i3⟩:=zFh (s:=s) hs x (os:=os) (sh:=sh) hW hL' (fun z hz=>List.mem_filterMap.2 ⟨z,ho' z hz,if_neg fun(e:z.id=o.id)=>hn.1 (List.mem_map.2 ⟨z,hz,e⟩)⟩) hn.2 hl' hb' hF'
   rw[List.flatMap_cons]
   show f8 p D S (kX p x ⟨3,o.id,k,s,o.price,y,o.qty-y,0⟩++_)∧FitX D (qR S (kX p x ⟨3,o.id,k,s,o.price,y,o.qty-y,0⟩++_)) _ id lf inst∧∀m,0≤m→m<p.months.length→kF (kX p x ⟨3,o.id,k,s,o.price,y,o.qty-y,0⟩++_) m=_
   refine⟨fE t1 ?_,?_,fun m m0 m1=> ?_⟩
   ·rw[t2];exact i1
   ·rw[gV,t2];exact i2
   ·rw[fX,t3 m m0 m1,i3 m m0 m1,yMz]
  ·rw[if_neg c]
   have:y=0:=by omega
   subst this
   rw[Int.zero_add]
   exact zFh hs x h hL ho' hn.2 hl' hb' hF
theorem zWe {p:Prd} {D:Int→Prop} {B:List (List zD)} (h:BWf p B) {q:Int} {g:List wL} {k:Nat} {s pr:Int} (G:yOv p B q g k s pr) {S:Stm} {id lf inst:Int} (hF:FitX D S B id lf inst) (x:qZ):
 f8 p D S (g.flatMap fun f=>kX p x (gK f))∧FitX D (qR S (g.flatMap fun f=>kX p x (gK f))) (yX B g) id lf inst∧
 ∀m,0≤m→m<p.months.length→kF (g.flatMap fun f=>kX p x (gK f)) m=vq p k s q m:=by
 obtain⟨L,hL⟩:=z9 G.lt
 have e:=G.eq
 have Sh:=G.sh
 rw[zI hL]at e Sh
 have ho:=h.od k L hL
 have:=zFh (D:=D) (k:=k) G.s12 x (os:=atL L s pr) h hL (fun o ho=>(List.mem_filter.1 ho).1) (ho.2.1.sublist (List.Sublist.map _ List.filter_sublist)) (by rw[Sh.len,List.length_map]) Sh.bd hF
 rw[Sh.sum,← e]at this
 exact this
theorem z6e {sd:Bool}:zA (!sd)=3-zA sd:=by cases sd<;>rfl
theorem yBb {p:Prd} {D:Int→Prop} {B:List (List zD)} (h:BWf p B) {inst:Int} (hi:0≤inst∧inst<B.length) {sd:Bool} {price q:Int} (hq:1≤q∧q≤1000000) {t:qZ} {B':List (List zD)} (e:jG p B inst sd price q=some (t,B')) {c:Cmd} (hci:c.inst=inst) (hcs:c.side=zA sd) {S:Stm} (hF:FitX D S B c.id q inst):
 f8 p D S (fP p c t (q-t.qty))∧FitX D (qR S (fP p c t (q-t.qty))) B' c.id (q-t.qty) inst∧∀m,0≤m→m<p.months.length→kF (fP p c t (q-t.qty)) m=0:=by
 have hs:zA (!sd)=1∨zA (!sd)=2:=fN _
 have hsd:zA sd=1∨zA sd=2:=fN _
 have hin:=rM h.ok h.od hi hs
 have hbl:=h.ok.bl
 have htq:=nC hq.1 e
 have key:f8 p D S (t.fills.flatMap fun f=>kX p t (gK f))∧FitX D (qR S (t.fills.flatMap fun f=>kX p t (gK f))) B' c.id q inst∧∀m,0≤m→m<p.months.length→kF (t.fills.flatMap fun f=>kX p t (gK f)) m=vq p inst (zA (!sd)) t.qty m:=by
  rw[jG]at e
  dsimp only at e
  split at e
  ·rename_i c0
   have c1:(zT p B inst (zA (!sd))).2.2=true:=by
    cases hx:(zT p B inst (zA (!sd))).2.2 with
    |false=>rw[hx]at c0;cases c0
    |true=>rfl
   obtain⟨hq1,h1,h2⟩:=hin c1
   split at e
   ·rename_i c2
    obtain⟨hall,ok⟩:=h1 c2
    have hv:=yDr h.ok.pc (T:=B.map jR) (by rw[List.length_map];exact hbl) hs hall t.qty
    generalize (zT p B inst (zA (!sd))).1=n at*
    obtain⟨np,nq,⟨ai,az⟩,⟨bi,bs⟩⟩:=n
    have a:=ok.a
    have b:=ok.b
    have ne:=ok.ne
    rw[List.length_map]at a b
    dsimp only at a b ne hq1
    obtain⟨ka,rfl⟩:∃k:Nat,ai=k:=⟨ai.toNat,by omega⟩
    obtain⟨kb,rfl⟩:∃k:Nat,bi=k:=⟨bi.toNat,by omega⟩
    obtain⟨La,hLa⟩:=z9 (l:=B) (i:=ka) (by omega)
    obtain⟨Lb,hLb⟩:=z9 (l:=B) (i:=kb) (by omega)
    have e1:=ok.ha
    have e2:=ok.hb
    have e3:=ok.qty
    have sa:az=1∨az=2:=ok.sa
    have bz:bs=1∨bs=2:=ok.sb
    dsimp only at e1 e2 e3 hv
    rw[Int.toNat_natCast,sQ hLa]at e1 e3
    rw[Int.toNat_natCast,sQ hLb]at e2 e3
    rw[(vP La sa).1]at e1
    rw[(vP Lb bz).1]at e2
    rw[(vP La sa).2.1,(vP Lb bz).2.1]at e3
    cases e
    dsimp only at htq hv ⊢
    have hl:=hD h (k:=ka) (j:=kb) (by omega) hLa hLb az (min q nq)
    have hW2:BWf p (yX B (yW p B ka az (min q nq))):=h.takes
    obtain⟨i1,i2,i3⟩:=zWe h (zNy h hLa sa e1 (q:=min q nq) (by omega)) hF ⟨np,min q nq,true,yW p B ka az (min q nq)++yW p (yX B (yW p B ka az (min q nq))) kb bs (min q nq)⟩
    obtain⟨j1,j2,j3⟩:=zWe hW2 (zNy hW2 hl bz e2 (q:=min q nq) (by omega)) i2 ⟨np,min q nq,true,yW p B ka az (min q nq)++yW p (yX B (yW p B ka az (min q nq))) kb bs (min q nq)⟩
    rw[List.flatMap_append]
    refine⟨fE i1 j1,by rw[gV];exact j2,fun m m0 m1=> ?_⟩
    rw[fX,i3 m m0 m1,j3 m m0 m1];exact hv m
   ·rename_i c2
    have c2:(zT p B inst (zA (!sd))).2.1=false:=by simpa using c2
    obtain⟨d1,d2,d3⟩:=h2 c2
    obtain⟨k0,rfl⟩:∃k:Nat,inst=k:=⟨inst.toNat,by omega⟩
    obtain⟨L,hL⟩:=z9 (l:=B) (i:=k0) (by omega)
    rw[Int.toNat_natCast,zI hL]at d1 d2 d3
    cases e
    dsimp only at htq ⊢
    exact zWe h (zNy h hL hs d1 (q:=min q (zT p B k0 (zA (!sd))).1.qty) (by omega)) hF _
  ·cases e
 obtain⟨k1,k2,k3⟩:=key
 rw[fP]
 obtain⟨t1,t2,t3⟩:=zZp h.ok.pc (D:=D) (S:=qR S (t.fills.flatMap fun f=>kX p t (gK f))) t (r:=⟨3,c.id,c.inst,c.side,t.price,t.qty,q-t.qty,0⟩) k2.di rfl (by dsimp only;omega) (by dsimp only;rw[k2.mine,hci]) (by dsimp only;rw[k2.me];omega) (by dsimp only;rw[k2.me]) (by dsimp only;omega)
 refine⟨fE k1 t1,?_,fun m m0 m1=> ?_⟩
 ·rw[gV,t2]
  exact⟨fun y hy=>by dsimp only[upd];rw[if_neg hy];exact k2.rest y hy,by dsimp only[upd];rw[if_pos rfl],k2.own,k2.mine,k2.no,k2.d,k2.di⟩
 ·rw[fX,k3 m m0 m1,t3 m m0 m1]
  dsimp only
  rw[hci,hcs,z6e,zVo p hsd];omega
theorem z7r {p:Prd} {D:Int→Prop} {inst:Int} {sd:Bool} {price:Int} {c:Cmd} (hci:c.inst=inst) (hcs:c.side=zA sd):∀(m:Nat) (q:Int) (B:List (List zD)) (S:Stm),q.toNat≤m→0≤q∧q≤1000000→BWf p B→0≤inst∧inst<B.length→FitX D S B c.id q inst→
 f8 p D S (wF p c (xS p B inst sd price q).steps q)∧FitX D (qR S (wF p c (xS p B inst sd price q).steps q)) (xS p B inst sd price q).B c.id (xS p B inst sd price q).left inst∧∀n,0≤n→n<p.months.length→kF (wF p c (xS p B inst sd price q).steps q) n=0
 |m,q,B,S,hm,hq0,h,hi,hF=>by
  by_cases hq:q≤0
  ·rw[jP (.inl hq)];exact⟨trivial,hF,fun _ _ _=>rfl⟩
  cases hs:jG p B inst sd price q with
  |none=>rw[jP (.inr hs)];exact⟨trivial,hF,fun _ _ _=>rfl⟩
  |some x=>
   obtain⟨t,C⟩:=x
   have htq:=nC (by omega) hs
   obtain⟨hW,hl⟩:=zCi h hs
   obtain⟨i1,i2,i3⟩:=yBb h hi (by omega) hs hci hcs hF
   cases m with
   |zero=>omega
   |succ m=>
   obtain⟨j1,j2,j3⟩:=z7r (price:=price) hci hcs m (q-t.qty) C _ (by omega) (by omega) hW (by rw[hl];exact hi) i2
   rw[fW (by omega) hs]
   dsimp only
   rw[wF]
   refine⟨fE i1 j1,by rw[gV];exact j2,fun n n0 n1=> ?_⟩
   rw[fX,i3 n n0 n1,j3 n n0 n1];rfl
structure Fits (D:Int→Prop) (S:Stm) (B:List (List zD)):Prop where
 lf:∀x,S.left x=qB B x
 own:∀(k:Nat) (L:List zD),B[k]? =some L→∀o∈L,S.own o.id=k
 d:∀L∈B,∀o∈L,D o.id
theorem yFy (B:List (List zD)):zDr B=kJ B:=zPf B 0
theorem z1e:∀{B:List (List zD)} {L:List zD},L∈B→L.length≤kJ B
 |[],L,h=>by cases h
 |M::B,L,h=>by
  rw[kJ,List.map_cons,List.sum_cons]
  rcases List.mem_cons.1 h with rfl|h
  ·omega
  ·have:=z1e h
   rw[kJ]at this;omega
theorem yBl {B:List (List zD)} {id:Int} (h:∀L∈B,∀o∈L,o.id≠id):h8 B id=none:=by
 cases e:h8 B id with
 |none=>rfl
 |some k=>
  obtain⟨L,hL,hh⟩:=xM e
  obtain⟨o,ho,e2⟩:=List.mem_map.1 (hasId_iff.1 hh)
  exact absurd e2 (h L (List.mem_of_getElem? hL) o ho)
theorem yHs {D:Int→Prop} {S:Stm} {p:Prd} {B:List (List zD)} {id lf inst s price:Int} (h:FitX D S B id lf inst) (hi:0≤inst∧inst<B.length) (hq:1≤lf∧lf≤1000000) (hn:kJ B<250) (hp:p.price inst price=0):Fits D S (l6 p B inst id s price lf).1:=by
 obtain⟨k,rfl⟩:∃k:Nat,inst=k:=⟨inst.toNat,by omega⟩
 obtain⟨L,hL⟩:=z9 (l:=B) (i:=k) (by omega)
 have hLm:=List.mem_of_getElem? hL
 have hln:=z1e hLm
 have hh:qX L id=false:=by
  cases e:qX L id with
  |false=>rfl
  |true=>
   obtain⟨o,ho,e2⟩:=List.mem_map.1 (hasId_iff.1 e)
   exact absurd e2 (h.no L hLm o ho)
 have hin:=yBl h.no
 have e:(l6 p B k id s price lf).1=B.set k (zBu L s id price lf):=by
  rw[l6,if_neg (by omega),hin,if_neg (show ¬(none:Option Nat).isSome=true by decide),if_neg (by rw[zPf];omega),if_neg (by rw[hp];decide),Int.toNat_natCast,zI hL,nT,if_neg (by omega),hh,if_neg (by decide),if_neg (by omega)]
 have hmem:∀o∈zBu L s id price lf,o.id=id∨∃o'∈L,o'.id=o.id:=fun o ho=>by
  rcases List.mem_cons.1 ((eK L s id price lf).mem_iff.1 (List.mem_map_of_mem (f:=(·.id)) ho))with e|hm
  ·exact .inl e
  ·obtain⟨o',ho',e⟩:=List.mem_map.1 hm
   exact .inr ⟨o',ho',e⟩
 rw[e]
 refine⟨fun x=> ?_,fun j M hM o ho=> ?_,fun M hM o ho=> ?_⟩
 ·rw[zNt hL,yJb]
  by_cases c:id=x
  ·subst c
   rw[if_pos rfl,h.me,zDm h.no];omega
  ·rw[if_neg c,h.rest x fun e=>c e.symm];omega
 ·rcases vJ hM with⟨rfl,rfl⟩|⟨_,hM⟩
  ·rcases hmem o ho with e|⟨o',ho',e⟩
   ·rw[e];exact h.mine
   ·rw[← e];exact h.own _ L hL o' ho'
  ·exact h.own j M hM o ho
 ·rcases List.mem_or_eq_of_mem_set hM with hM|rfl
  ·exact h.d M hM o ho
  ·rcases hmem o ho with e|⟨o',ho',e⟩
   ·rw[e];exact h.di
   ·rw[← e];exact h.d L hLm o' ho'
theorem FitX.fits {D:Int→Prop} {S:Stm} {B:List (List zD)} {id inst:Int} (h:FitX D S B id 0 inst):Fits D S B:=by
 refine⟨fun x=> ?_,h.own,h.d⟩
 by_cases c:x=id
 ·subst c;rw[h.me,zDm h.no]
 ·exact h.rest x c
theorem zPp {p:Prd} {inst:Int} {sd:Bool} {price:Int} {q:Int} {B:List (List zD)} (h:BWf p B) (hi:0≤inst∧inst<B.length):kJ (xS p B inst sd price q).B≤kJ B:=(z0c _ q B (Nat.le_refl _) h hi).2.2.2
theorem zTi {p:Prd} {D:Int→Prop} {B:List (List zD)} (h:BWf p B) (U:List Int) {c:Cmd} (hi:0≤c.inst∧c.inst<B.length) (hs:c.side=1∨c.side=2) (hq:1≤c.qty∧c.qty≤1000000) (hp:p.price c.inst c.price=0) (hn:kJ B<250) {S:Stm} (hF:Fits D S B) (hno:∀L∈B,∀o∈L,o.id≠c.id) (hd:D c.id):
 f8 p D S (wX p B U c).R∧Fits D (qR S (wX p B U c).R) (wX p B U c).B∧∀n,0≤n→n<p.months.length→kF (wX p B U c).R n=0:=by
 have hsd:c.side=zA (decide (c.side=2)):=by rcases hs with e|e<;>rw[e]<;>rfl
 have hbl:=h.ok.bl
 have hF0:FitX D (stN S ⟨1,c.id,c.inst,c.side,c.price,c.qty,c.qty,0⟩) B c.id c.qty c.inst:=by
  rw[stN,if_pos rfl]
  dsimp only
  refine⟨fun x hx=> ?_,?_,fun k L hL o ho=> ?_,?_,hno,hF.d,hd⟩
  ·dsimp only[upd];rw[if_neg hx];exact hF.lf x
  ·dsimp only[upd];rw[if_pos rfl]
  ·dsimp only[upd];rw[if_neg (hno L (List.mem_of_getElem? hL) o ho)];exact hF.own k L hL o ho
  ·dsimp only[upd];rw[if_pos rfl]
 have g0:StG p D S ⟨1,c.id,c.inst,c.side,c.price,c.qty,c.qty,0⟩:=⟨hd,by dsimp only;omega,by dsimp only;omega,by dsimp only;omega,.inl ⟨rfl,by dsimp only;rw[hF.lf,zDm hno],hq.1,rfl⟩⟩
 obtain⟨i1,i2,i3⟩:=z7r (price:=c.price) (rfl:c.inst=c.inst) hsd _ c.qty B _ (Nat.le_refl _) (by omega) h hi hF0
 have hcn:=zPp (sd:=decide (c.side=2)) (price:=c.price) (q:=c.qty) h hi
 obtain⟨hW,hl,hleft⟩:=dL (inst:=c.inst) (sd:=decide (c.side=2)) (price:=c.price) _ c.qty B (Nat.le_refl _) h
 have hleft:=hleft (by omega)
 rw[vT]
 generalize xS p B c.inst (decide (c.side=2)) c.price c.qty=R at*
 obtain⟨ts,left,B'⟩:=R
 dsimp only at*
 by_cases cl:left=0
 ·subst cl
  rw[if_neg fun x=>x.1 rfl,if_neg fun x=>x.1 rfl,List.append_nil]
  exact⟨⟨g0,i1⟩,i2.fits,fun n n0 n1=>by rw[kF,i3 n n0 n1,one,if_neg (fun x=>absurd x.1 (by show ¬(1:Int)=3;decide))];rfl⟩
 by_cases ct:c.time=1
 ·rw[if_neg (show ¬(left≠0∧c.time≠1)from fun x=>x.2 ct),if_pos (show left≠0∧c.time=1 from⟨cl,ct⟩),List.append_nil]
  exact⟨⟨g0,i1⟩,yHs i2 (by omega) (by omega) (by omega) hp,fun n n0 n1=>by rw[kF,i3 n n0 n1,one,if_neg (fun x=>absurd x.1 (by show ¬(1:Int)=3;decide))];rfl⟩
 ·rw[if_pos (show left≠0∧c.time≠1 from⟨cl,ct⟩),if_neg (show ¬(left≠0∧c.time=1)from fun x=>ct x.2)]
  have g2:StG p D (qR (stN S ⟨1,c.id,c.inst,c.side,c.price,c.qty,c.qty,0⟩) (wF p c ts c.qty)) ⟨4,c.id,c.inst,c.side,c.price,left,0,0⟩:=⟨hd,by dsimp only;omega,by dsimp only;omega,by dsimp only;omega,.inr (.inr (.inl ⟨rfl,by dsimp only;omega,by dsimp only;rw[i2.me],rfl⟩))⟩
  have n2:stN (qR (stN S ⟨1,c.id,c.inst,c.side,c.price,c.qty,c.qty,0⟩) (wF p c ts c.qty)) ⟨4,c.id,c.inst,c.side,c.price,left,0,0⟩=⟨upd (qR (stN S ⟨1,c.id,c.inst,c.side,c.price,c.qty,c.qty,0⟩) (wF p c ts c.qty)).left c.id 0,(qR (stN S ⟨1,c.id,c.inst,c.side,c.price,c.qty,c.qty,0⟩) (wF p c ts c.qty)).own⟩:=nM (by show(4:Int)≠1;decide) (by show(4:Int)≠2;decide) fun h=>absurd (show(4:Int)=3 from h) (by decide)
  refine⟨⟨g0,fE i1 ⟨g2,trivial⟩⟩,?_,fun n n0 n1=> ?_⟩
  ·show Fits D (qR (stN S _) (wF p c ts c.qty++[_])) B'
   rw[gV,rQ,n2]
   refine⟨fun x=> ?_,i2.own,i2.d⟩
   dsimp only[upd]
   by_cases e:x=c.id
   ·rw[if_pos e,e,zDm i2.no]
   ·rw[if_neg e];exact i2.rest x e
  ·rw[List.cons_append,kF,fX,i3 n n0 n1,kF,kF,one,one,if_neg (fun x=>absurd x.1 (by show ¬(1:Int)=3;decide)),if_neg (fun x=>absurd x.1 (by show ¬(4:Int)=3;decide))];rfl
theorem Fits.take {D:Int→Prop} {S:Stm} {p:Prd} {B:List (List zD)} (h:Fits D S B) (hB:BWf p B) {k:Nat} {L:List zD} (hL:B[k]? =some L) {o:zD} (ho:o∈L) {x:Int} (hx:1≤x∧x≤o.qty):Fits D ⟨upd S.left o.id (o.qty-x),S.own⟩ (yT B o.id x).1:=by
 refine⟨fun y=> ?_,fun j M hM z hz=> ?_,fun M hM z hz=> ?_⟩
 ·rw[zYk hB hL ho hx]
  dsimp only[upd]
  by_cases c:y=o.id
  ·rw[if_pos c,if_pos c]
  ·rw[if_neg c,if_neg c];exact h.lf y
 ·obtain⟨M',h1,h2⟩:=lB hM
  obtain⟨o',h3,h4⟩:=h2 z hz
  rw[← h4];exact h.own j M' h1 o' h3
 ·obtain⟨j,hj⟩:=List.mem_iff_getElem?.1 hM
  obtain⟨M',h1,h2⟩:=lB hj
  obtain⟨o',h3,h4⟩:=h2 z hz
  rw[← h4];exact h.d M' (List.mem_of_getElem? h1) o' h3
theorem zSu {B:List (List zD)} {id:Int} (h:(zJ B id).2.2=true):∃(k:Nat) (L:List zD),(zJ B id).1=k∧B[k]? =some L∧(zJ B id).2.1∈L∧(zJ B id).2.1.id=id:=by
 rw[zJ]at h ⊢
 split at h
 ·cases h
 ·rename_i k hk
  obtain⟨L,hL,hh⟩:=xM hk
  obtain⟨o,ho,e⟩:=List.mem_map.1 (hasId_iff.1 hh)
  refine⟨k,L,rfl,hL,?_⟩
  dsimp only
  rw[zI hL,gN]
  cases hf:L.find? fun o=>decide (o.id=id)with
  |none=>exact absurd e (by simpa using List.find?_eq_none.1 hf o ho)
  |some y=>exact⟨List.mem_of_find?_eq_some hf,by simpa using List.find?_some hf⟩
theorem z3l {p:Prd} {B:List (List zD)} (h:BWf p B) {k:Nat} {L:List zD} (hL:B[k]? =some L) {o:zD} (ho:o∈L):(∀M∈(yT B o.id o.qty).1,∀y∈M,y.id≠o.id)∧kJ (yT B o.id o.qty).1<kJ B:=by
 have hod:=h.od k L hL
 have hq:=(hod.1 o ho).q
 have hg:=vL hod.2.1 ho
 have hh:qX L o.id=true:=hasId_iff.2 (List.mem_map_of_mem (f:=(·.id)) ho)
 have ht:=zCf hod.2.1 hh
 rw[hg]at ht
 rw[zHb h hL ho (by omega),ht]
 refine⟨fun M hM y hy e=> ?_,?_⟩
 ·obtain⟨j,hj⟩:=List.mem_iff_getElem?.1 hM
  rcases vJ hj with⟨_,rfl⟩|⟨hne,hj⟩
  ·have:=(List.mem_filter.1 hy).2
   rw[e]at this;simp at this
  ·exact hne (zGc h.ub hj hL (e▸List.mem_map_of_mem (f:=(·.id)) hy) (List.mem_map_of_mem (f:=(·.id)) ho))
 ·have h1:=zEk (L':=L.filter fun y=> !decide (y.id=o.id)) hL
  have h2:(L.filter fun y=> !decide (y.id=o.id)).length<L.length:=List.length_filter_lt_length_iff_exists.2 ⟨o,ho,by simp⟩
  omega
theorem take_zero {B:List (List zD)} {id x:Int} (hx:x<1):(yT B id x).1=B:=by
 rw[yT]
 split
 ·rfl
 ·rename_i k hk
  obtain⟨L,hL,hh⟩:=xM hk
  dsimp only
  rw[zI hL,xQ,if_neg (by rw[hh];decide),if_pos (.inl hx)]
  exact kU hL
theorem zVl {p:Prd} {i n:Int} (h:p.price i n=0):0≤i∧i<p.count:=by
 rw[Prd.price]at h
 split at h
 ·cases h
 split at h
 ·cases h
 ·omega
theorem zLt {p:Prd} {D:Int→Prop} {B:List (List zD)} (h:BWf p B) (U:List Int) {S:Stm} (hF:Fits D S B) {k:Nat} {L:List zD} (hL:B[k]? =some L) {o:zD} (ho:o∈L):
 f8 p D S (jJ B U o.id k o).R∧Fits D (qR S (jJ B U o.id k o).R) (jJ B U o.id k o).B∧∀n,kF (jJ B U o.id k o).R n=0:=by
 have hq:=((h.od k L hL).1 o ho).q
 have hk:=(List.getElem?_eq_some_iff.1 hL).1
 have hbl:=h.ok.bl
 have hlf:S.left o.id=o.qty:=by rw[hF.lf,zCn h hL ho]
 have ht:=hF.take h hL ho (x:=o.qty) (by omega)
 rw[Int.sub_self]at ht
 rw[jJ]
 refine⟨⟨⟨hF.d L (List.mem_of_getElem? hL) o ho,by dsimp only;omega,by dsimp only;omega,by dsimp only;omega,.inr (.inr (.inl ⟨rfl,hq.1,hlf.symm,rfl⟩))⟩,trivial⟩,?_,fun n=> ?_⟩
 ·dsimp only
  rw[rQ,nM (by show(4:Int)≠1;decide) (by show(4:Int)≠2;decide) fun h=>absurd (show(4:Int)=3 from h) (by decide)]
  exact ht
 ·rw[kF,kF,one,if_neg (fun x=>absurd x.1 (by show ¬(4:Int)=3;decide))];rfl
theorem zJt {p:Prd} {D:Int→Prop} {B:List (List zD)} (h:BWf p B) (U:List Int) {S:Stm} (hF:Fits D S B) {k:Nat} {L:List zD} (hL:B[k]? =some L) {o:zD} (ho:o∈L) {q:Int} (hx:0≤q∧q<o.qty):
 f8 p D S (uK B U o.id q k o).R∧Fits D (qR S (uK B U o.id q k o).R) (uK B U o.id q k o).B∧∀n,kF (uK B U o.id q k o).R n=0:=by
 have hq:=((h.od k L hL).1 o ho).q
 have hk:=(List.getElem?_eq_some_iff.1 hL).1
 have hbl:=h.ok.bl
 have hlf:S.left o.id=o.qty:=by rw[hF.lf,zCn h hL ho]
 rw[uK]
 refine⟨⟨⟨hF.d L (List.mem_of_getElem? hL) o ho,by dsimp only;omega,by dsimp only;omega,by dsimp only;omega,.inr (.inr (.inr ⟨rfl,by dsimp only;omega,by dsimp only;omega⟩))⟩,trivial⟩,?_,fun n=> ?_⟩
 ·dsimp only
  rw[rQ,nM (by show(5:Int)≠1;decide) (by show(5:Int)≠2;decide) fun h=>absurd (show(5:Int)=3 from h) (by decide)]
  dsimp only
  by_cases c:q<1
  ·have e:q=0:=by omega
   subst e
   rw[take_zero (by decide),Int.sub_zero]
   refine⟨fun y=> ?_,hF.own,hF.d⟩
   dsimp only[upd]
   by_cases e:y=o.id
   ·rw[if_pos e,e,zCn h hL ho]
   ·rw[if_neg e];exact hF.lf y
  ·exact hF.take h hL ho (by omega)
 ·rw[kF,kF,one,if_neg (fun x=>absurd x.1 (by show ¬(5:Int)=3;decide))];rfl
theorem yBg (p:Prd) (B:List (List zD)) (inst id s price q:Int):kJ (l6 p B inst id s price q).1≤kJ B+1:=by
 rw[l6]
 repeat' split
 all_goals first|exact Nat.le_succ _|skip
 rename_i c1 _ _ _
 obtain⟨L,hL⟩:=z9 (l:=B) (i:=inst.toNat) (by omega)
 dsimp only
 rw[zI hL]
 have h1:=zEk (L':=(nT L s id price q).1) hL
 have h2:(nT L s id price q).1.length≤L.length+1:=by
  rw[nT]
  repeat' split
  all_goals first|exact Nat.le_succ _|skip
  have:=(eK L s id price q).length_eq
  rw[List.length_map,List.length_cons,List.length_map]at this
  dsimp only;omega
 omega
theorem zKg {p:Prd} {B:List (List zD)} (h:BWf p B) (U:List Int) {c:Cmd} (hi:0≤c.inst∧c.inst<B.length):kJ (wX p B U c).B≤kJ B+1:=by
 have hcn:=zPp (sd:=decide (c.side=2)) (price:=c.price) (q:=c.qty) h hi
 rw[vT]
 dsimp only
 split
 ·exact Nat.le_trans (yBg ..) (by omega)
 ·omega
theorem yNf {p:Prd} {D:Int→Prop} {B:List (List zD)} (h:BWf p B) {U:List Int} (hA:Acc B U) {c:Cmd} (hd:D c.id) (hn:kJ B≤250) {S:Stm} (hF:Fits D S B):
 (∃w,doF p B U c=⟨B,U,f0 c w⟩)∨(kJ (doF p B U c).B≤250∧f8 p D S (doF p B U c).R∧Fits D (qR S (doF p B U c).R) (doF p B U c).B∧∀n,0≤n→n<p.months.length→kF (doF p B U c).R n=0):=by
 have hbl:=h.ok.bl
 rw[doF]
 split
 ·exact .inl ⟨_,rfl⟩
 rename_i hr
 have hr:c.right=0:=by simpa using hr
 split
 ·rename_i hk
  obtain⟨hs,hq,_⟩:=zAy hr hk
  rw[dQ]
  split
  ·exact .inl ⟨_,rfl⟩
  rename_i hp
  have hp:p.price c.inst c.price=0:=by simpa using hp
  have hi:=zVl hp
  split
  ·exact .inl ⟨_,rfl⟩
  rename_i hu
  split
  ·exact .inl ⟨_,rfl⟩
  rename_i h250
  rw[yFy]at h250
  split
  ·exact .inl ⟨_,rfl⟩
  split
  ·exact .inl ⟨_,rfl⟩
  have hcn:=zKg h U (c:=c) (by omega)
  exact .inr ⟨by omega,zTi h U (by omega) hs hq hp (by omega) hF (fun L hL o ho e=>hu (e▸hA L hL o ho)) hd⟩
 rename_i hk
 split
 ·exact .inl ⟨_,rfl⟩
 rename_i hf
 obtain⟨k,L,f1,hL,ho,hid⟩:=zSu (by simpa using hf)
 generalize zJ B c.id=F at*
 obtain⟨fi,o,fb⟩:=F
 dsimp only at f1 hL ho hid ⊢
 subst f1
 have hq:=((h.od k L hL).1 o ho).q
 have hklt:=(List.getElem?_eq_some_iff.1 hL).1
 split
 ·rename_i h4
  have hqc:=bV hr hk (by omega)
  rw[uG]
  split
  ·exact .inl ⟨_,rfl⟩
  rename_i hp
  have hp:p.price k c.price=0:=by simpa using hp
  split
  ·rename_i hless
   right
   have:=zJt h U hF hL ho (q:=o.qty-c.qty) (by omega)
   rw[hid]at this
   exact⟨Nat.le_trans (zEf B c.id (o.qty-c.qty)).1 hn,this.1,this.2.1,fun n _ _=>this.2.2 n⟩
  split
  ·exact .inl ⟨_,rfl⟩
  right
  obtain⟨c1,c2,c3⟩:=zLt h U hF hL ho
  obtain⟨g1,g2⟩:=z3l h hL ho
  rw[hid]at c1 c2 c3 g1 g2
  have hW:BWf p (yT B c.id o.qty).1:=h.take _ _
  have hbl':=hW.ok.bl
  have hcn:=zKg hW U (c:=⟨1,c.id,k,o.side,c.price,c.qty,0,1,[]⟩) (by dsimp only;omega)
  obtain⟨e1,e2,e3⟩:=zTi hW U (c:=⟨1,c.id,k,o.side,c.price,c.qty,0,1,[]⟩) (by dsimp only;omega) ((h.od k L hL).1 o ho).s hqc hp (by omega) c2 g1 hd
  dsimp only
  refine⟨Nat.le_trans hcn (by omega),fE c1 e1,by rw[gV];exact e2,fun n n0 n1=> ?_⟩
  rw[fX,c3,Int.zero_add];exact e3 n n0 n1
 rename_i h4
 split
 ·right
  have:=zLt h U hF hL ho
  rw[hid]at this
  exact⟨Nat.le_trans (zEf B c.id o.qty).1 hn,this.1,this.2.1,fun n _ _=>this.2.2 n⟩
 ·rename_i h2
  right
  have hqc:=bV hr hk (by omega)
  have:=zJt h U hF hL ho (q:=c.qty) (by omega)
  rw[hid]at this
  exact⟨Nat.le_trans (zEf B c.id c.qty).1 hn,this.1,this.2.1,fun n _ _=>this.2.2 n⟩
end Sx
