/- Texts of ours, one behind the other: a walk that the kernel reckons, and contracts of functions. No condition. -/
import Derived.Test.YtpgpnnncaidcjaaGreatM9
namespace Sx
set_option linter.unusedVariables false
set_option linter.unusedSimpArgs false
set_option maxRecDepth 100000
open Go Cv Go.Proofs
open Go Cv Go.Proofs
theorem fN {inst s:Int} {f:wB}:∀{os:List zJ} {sh:List Int},f∈yL inst s os sh→f.side=s∧f.inst=inst∧∃o∈os,f.price=o.price
 |[],sh,h=>by cases h
 |o::os,[],h=>by cases h
 |o::os,k::sh,h=>by
  rw[yL]at h
  split at h
  ·rcases List.mem_cons.1 h with rfl|h
   ·exact⟨rfl,rfl,o,List.mem_cons_self,rfl⟩
   ·obtain⟨a,b,o',c,d⟩:=fN h
    exact⟨a,b,o',List.mem_cons_of_mem _ c,d⟩
  ·obtain⟨a,b,o',c,d⟩:=fN h
   exact⟨a,b,o',List.mem_cons_of_mem _ c,d⟩
def FOk (f:wB):Prop:=(f.side=1∨f.side=2)∧-2000000≤f.price∧f.price≤2000000
theorem mX {p:Prd} {B:List (List zJ)} (h:BOk p B) (inst:Int) {s:Int} (hs:s=1∨s=2) (q:Int):∀f∈yO p B inst s q,FOk f:=by
 intro f hf
 obtain⟨a,_,o,ho,e⟩:=fN hf
 refine⟨by rw[a];exact hs,?_⟩
 rw[e]
 have ho:=(List.mem_filter.1 ho).1
 by_cases hk:inst.toNat<B.length
 ·obtain⟨L,hL⟩:=yD hk
  rw[zX hL]at ho
  exact h.prices hL o ho
 ·rw[List.getD_eq_getElem?_getD,List.getElem?_eq_none (by omega)]at ho;cases ho
def SOk (t:qF):Prop:=(-2000000≤t.price∧t.price≤2000000)∧(∀f∈t.fills,FOk f)∧t.fills.length≤500
theorem z3d {p:Prd} {B:List (List zJ)} (h:BWf p B) {inst:Int} (hi:0≤inst∧inst<B.length) {s:Int} (hs:s=1∨s=2) (hn:(zN p B inst s).2.2=true): -2000000≤(zN p B inst s).1.price∧(zN p B inst s).1.price≤2000000:=by
 rw[zN]at hn ⊢
 obtain⟨L,hL⟩:=yD (l:=B) (i:=inst.toNat) (by omega)
 rw[zX hL]at hn ⊢
 split
 ·exact zCu (h.ok.prices hL)
 ·rename_i c
  rw[if_neg c]at hn
  have hm:=lL hn
  have:=(List.mem_filter.1 hm).2
  exact aZ h.ok.pc (of_decide_eq_true this)
theorem zYt {p:Prd} {B:List (List zJ)} (h:BWf p B) {inst:Int} (hi:0≤inst∧inst<B.length) {sd:Bool} {price q:Int} {t:qF} {B':List (List zJ)} (e:jH p B inst sd price q=some (t,B')):SOk t:=by
 have hs:zB (!sd)=1∨zB (!sd)=2:=gU _
 have hb:=z3d h hi hs
 have hin:=zOc h.ok h.od hi hs
 rw[jH]at e
 dsimp only at e
 split at e
 ·rename_i c
  have c1:(zN p B inst (zB (!sd))).2.2=true:=by
   cases hx:(zN p B inst (zB (!sd))).2.2 with
   |false=>rw[hx]at c;cases c
   |true=>rfl
  have hb:=hb c1
  obtain⟨_,hin,_⟩:=hin c1
  split at e
  ·rename_i c2
   obtain⟨_,ok⟩:=hin c2
   cases e
   refine⟨hb,fun f hf=> ?_,?_⟩
   ·rcases List.mem_append.1 hf with hf|hf
    ·exact mX h.ok _ ok.sa _ f hf
    ·exact mX h.ok.takes _ ok.sb _ f hf
   ·dsimp only
    rw[List.length_append]
    have:=u7 (p:=p) h.od (zN p B inst (zB (!sd))).1.a.inst (zN p B inst (zB (!sd))).1.a.side (min q (zN p B inst (zB (!sd))).1.qty)
    have:=u7 (p:=p) (h.takes (fs:=yO p B (zN p B inst (zB (!sd))).1.a.inst (zN p B inst (zB (!sd))).1.a.side (min q (zN p B inst (zB (!sd))).1.qty))).od (zN p B inst (zB (!sd))).1.b.inst (zN p B inst (zB (!sd))).1.b.side (min q (zN p B inst (zB (!sd))).1.qty)
    omega
  ·cases e
   refine⟨hb,fun f hf=>mX h.ok _ hs _ f hf,?_⟩
   have:=u7 (p:=p) h.od inst (zB (!sd)) (min q (zN p B inst (zB (!sd))).1.qty)
   dsimp only
   omega
 ·cases e
open Go Cv Go.Proofs
open Go Cv Go.Proofs
def zIn (i:StI):Prop:=
 (∀(p:Value×List D),p∈yB i.s.wh→like (Value.int IntKind.i64 i.id) p.fst=true)∧∃(b:Bool),∃(n:Int),(x0 (Value.int IntKind.i64 i.id) (yB i.s.wh)=some [D.v (.int .i64 n)]∧b=true∨x0 (Value.int IntKind.i64 i.id) (yB i.s.wh)=none∧[D.v (.int .i64 n)]=[D.v (.int .i64 0)]∧b=false)∧cnd (!b) (∃(o:Unit),(zY i.B i.id).fst=0∧(zY i.B i.id).snd.fst.id=0∧(zY i.B i.id).snd.fst.side=0∧(zY i.B i.id).snd.fst.price=0∧(zY i.B i.id).snd.fst.qty=0∧(zY i.B i.id).snd.fst.top=false∧(zY i.B i.id).snd.snd=false∧sb i.s.p.code=sb i.s.p.code∧i.s.p.tick=i.s.p.tick∧i.s.p.low=i.s.p.low∧i.s.p.high=i.s.p.high∧i.s.p.wide=i.s.p.wide∧i.s.p.rule=i.s.p.rule∧i.s.p.top=i.s.p.top∧i.s.p.least=i.s.p.least∧i.s.p.part=i.s.p.part∧AObj.objs 102 Book 6 zM i.s.books none=AObj.objs 102 Book 6 zM i.s.books none∧yB i.s.wh=yB i.s.wh∧AObj.fro 1 (iE i.s.p.months)=AObj.fro 1 (iE i.s.p.months)∧AObj.fro 1 (iE i.s.p.settle)=AObj.fro 1 (iE i.s.p.settle)∧True) ((0≤n∧n<(↑i.s.books.length:Int))∧n.toNat<i.s.books.length∧∃(x:Book),i.s.books[n.toNat]?=some x∧∃(i_1:FlI),i_1.id=i.id∧yA i_1.b=yA x∧i_1.b.Rep i_1.L∧∀(o:Unit),True→∃(x:Book),yA i_1.b=yA x∧n.toNat=n.toNat∧n.toNat<i.s.books.length∧∃(o:Unit),(zY i.B i.id).fst=n∧(zY i.B i.id).snd.fst.id=(j0 i_1.L i_1.id).id∧(zY i.B i.id).snd.fst.side=(j0 i_1.L i_1.id).side∧(zY i.B i.id).snd.fst.price=(j0 i_1.L i_1.id).price∧(zY i.B i.id).snd.fst.qty=(j0 i_1.L i_1.id).qty∧(zY i.B i.id).snd.fst.top=(j0 i_1.L i_1.id).top∧(zY i.B i.id).snd.snd=true∧sb i.s.p.code=sb i.s.p.code∧i.s.p.tick=i.s.p.tick∧i.s.p.low=i.s.p.low∧i.s.p.high=i.s.p.high∧i.s.p.wide=i.s.p.wide∧i.s.p.rule=i.s.p.rule∧i.s.p.top=i.s.p.top∧i.s.p.least=i.s.p.least∧i.s.p.part=i.s.p.part∧AObj.objs 102 Book 6 zM i.s.books none=AObj.objs 102 Book 6 zM (i.s.books.set n.toNat x) none∧yB i.s.wh=yB i.s.wh∧AObj.fro 1 (iE i.s.p.months)=AObj.fro 1 (iE i.s.p.months)∧AObj.fro 1 (iE i.s.p.settle)=AObj.fro 1 (iE i.s.p.settle)∧True)
theorem z1p (hG:GOk Tryz.prog ([(75,bfindC)])) (h:∀(i:StI),sfindC.cnd i→zIn i):sfindC.ok Tryz.prog 41:=okw mixed hG 0 (fun _=>[]) (fun _=>[]) [0] Tryz.func41 h
open Go Cv Go.Proofs
theorem z5i (i:StI) (h:sfindC.cnd i):zIn i:=by
 obtain⟨hR,hB⟩:i.s.Rep i.p i.B∧i.B.length≤1000:=h
 have hat:=hR.at_ i.id
 unfold zIn
 rw[zY]
 cases hi:jI i.B i.id with
 |none=>
  rw[hi]at hat
  exact⟨wK _ _,false,0,.inr ⟨by rw[u9,hat];rfl,rfl,rfl⟩,Cv.cnd.mk (fun _=>⟨(),by(repeat'(first|exact trivial|exact rfl|apply And.intro))⟩) (fun e=>absurd e (by decide))⟩
 |some k=>
  rw[hi]at hat
  obtain⟨L,hL,hh⟩:=qS hi
  have hk:=(List.getElem?_eq_some_iff.1 hL).1
  obtain⟨b,hb⟩:=yD (l:=i.s.books) (i:=k) (by rw[hR.bl];exact hk)
  have hbR:=hR.bk k b L hb hL
  have hbl:=hR.bl
  refine⟨wK _ _,true,k,.inl ⟨by rw[u9,hat];rfl,rfl⟩,Cv.cnd.mk (fun e=>absurd e (by decide)) (fun _=> ?_)⟩
  dsimp only
  rw[Int.toNat_natCast,zX hL]
  have hs:=kB hb
  refine⟨⟨by omega,by omega⟩,by omega,b,hb,⟨b,L,i.id,0⟩,rfl,rfl,hbR,fun _ _=>⟨b,rfl,rfl,by omega,(),?_⟩⟩
  rw[hs]
  (repeat'(first|exact trivial|exact rfl|apply And.intro))
theorem zXm:sfindC.ok Tryz.prog 41:=z1p (gokc zHv gok0) z5i
open Go Cv Go.Proofs
theorem zAt (id:Int) (U:List Int):∀p∈zW U,like (Value.int IntKind.i64 id) p.1=true:=by
 intro p hp
 obtain⟨k,_,rfl⟩:=List.mem_map.1 hp
 rfl
theorem lD (id:Int):∀U:List Int,jE (Value.int IntKind.i64 id) [D.v (.bool true)] (zW U)=zW (vB U id)
 |[]=>rfl
 |k::U=>by
  have ih:=lD id U
  have e:fB (Value.int IntKind.i64 id) (Value.int IntKind.i64 k)=decide (id=k):=by simp[fB,keq]
  show(bif fB (Value.int IntKind.i64 id) (Value.int IntKind.i64 k)then(Value.int IntKind.i64 k,[D.v (.bool true)])::zW U else(Value.int IntKind.i64 k,[D.v (.bool true)])::jE (Value.int IntKind.i64 id) [D.v (.bool true)] (zW U))=_
  rw[e,ih]
  by_cases c:id=k
  ·rw[decide_eq_true c,cond_true,vB,if_pos (by rw[c];exact List.mem_cons_self)];rfl
  ·rw[decide_eq_false c,cond_false,vB,vB]
   have hm:id∈k::U↔id∈U:=by simp[c]
   by_cases d:id∈U
   ·rw[if_pos d,if_pos (hm.2 d)];rfl
   ·rw[if_neg d,if_neg (fun x=>d (hm.1 x))];rfl
theorem lC (id:Int):∀U:List Int,x0 (Value.int IntKind.i64 id) (zW U)=if id∈U then some [D.v (.bool true)]else none
 |[]=>rfl
 |k::U=>by
  have ih:=lC id U
  have e:fB (Value.int IntKind.i64 id) (Value.int IntKind.i64 k)=decide (id=k):=by simp[fB,keq]
  show(bif fB (Value.int IntKind.i64 id) (Value.int IntKind.i64 k)then some [D.v (.bool true)]else x0 (Value.int IntKind.i64 id) (zW U))=_
  rw[e,ih]
  by_cases c:id=k
  ·rw[decide_eq_true c,cond_true,if_pos (by rw[c];exact List.mem_cons_self)]
  ·rw[decide_eq_false c,cond_false]
   have hm:id∈k::U↔id∈U:=by simp[c]
   by_cases d:id∈U
   ·rw[if_pos d,if_pos (hm.2 d)]
   ·rw[if_neg d,if_neg (fun x=>d (hm.1 x))]
theorem zWp (id:Int) (U:List Int):x0 (Value.int IntKind.i64 id) (zW U)=some [D.v (.bool (decide (id∈U)))]∧decide (id∈U)=true∨x0 (Value.int IntKind.i64 id) (zW U)=none∧[D.v (.bool (decide (id∈U)))]=[D.v (.bool false)]∧decide (id∈U)=false:=by
 rw[lC]
 by_cases c:id∈U
 ·rw[if_pos c,decide_eq_true c];exact .inl ⟨rfl,rfl⟩
 ·rw[if_neg c,decide_eq_false c];exact .inr ⟨rfl,rfl,rfl⟩
theorem zCb {p:Prd} {inst:Int} {sd:Bool} {price:Int}:∀(m:Nat) (q:Int) (B:List (List zJ)),q.toNat≤m→BWf p B→0≤inst∧inst<B.length→
 (∀t∈(xP p B inst sd price q).steps,SOk t∧1≤t.qty)∧((xP p B inst sd price q).steps.map (·.qty)).sum=q-(xP p B inst sd price q).left
 |m,q,B,hm,h,hi=>by
  by_cases hq:q≤0
  ·rw[wF (.inl hq)];exact⟨fun t ht=>(by cases ht),by simp⟩
  cases hs:jH p B inst sd price q with
  |none=>rw[wF (.inr hs)];exact⟨fun t ht=>(by cases ht),by simp⟩
  |some x=>
   obtain⟨t,C⟩:=x
   obtain⟨k1,k2⟩:=zBc h hs
   have hq2:=mQ (by omega) hs
   cases m with
   |zero=>omega
   |succ m=>
   obtain⟨i1,i2⟩:=zCb (p:=p) (inst:=inst) (sd:=sd) (price:=price) m (q-t.qty) C (by omega) k1 (by rw[k2];exact hi)
   rw[fP (by omega) hs]
   refine⟨fun u hu=> ?_,?_⟩
   ·rcases List.mem_cons.1 hu with rfl|hu
    ·exact⟨zYt h hi hs,hq2.1⟩
    ·exact i1 u hu
   ·dsimp only
    rw[List.map_cons,List.sum_cons,i2];omega
theorem z4m {α:Type} {f:α→List Rep} (hf:∀x,(f x).length≤3):∀l:List α,(l.flatMap f).length≤3*l.length
 |[]=>Nat.le_refl _
 |x::l=>by
  have:=z4m hf l
  have:=hf x
  rw[List.flatMap_cons,List.length_append,List.length_cons];omega
theorem zAq (p:Prd) (c:Cmd) (x:qF) (left:Int):(uL p c x left).length≤3*x.fills.length+3:=by
 rw[uL,List.length_append]
 have:=z4m (fun f=>p9 p x (cR f)) x.fills
 have:=p9 p x ⟨3,c.id,c.inst,c.side,x.price,x.qty,left,0⟩
 omega
theorem zCt {l:List qF} (h:∀t∈l,SOk t∧1≤t.qty):(l.length:Int)≤(l.map (·.qty)).sum:=by
 induction l with
 |nil=>exact Int.le_refl _
 |cons t l ih=>
  have:=ih fun u hu=>h u (List.mem_cons_of_mem _ hu)
  have:=(h t List.mem_cons_self).2
  rw[List.map_cons,List.sum_cons,List.length_cons];omega
theorem z9t (i:EnI) (h:enterC.cnd i):zLd i:=by
 obtain⟨m,p,B,U,c,X⟩:=i
 have h':(m.Rep p B U∧BOk p B)∧((0≤c.inst∧c.inst<B.length)∧(1≤c.qty∧c.qty≤1000000)∧(c.side=1∨c.side=2))∧p.price c.inst c.price=0∧X=y4 p B U c:=h
 clear h
 obtain⟨⟨⟨ep,hR,eu⟩,hB⟩,⟨⟨h0,h1⟩,hq,hs⟩,hpz,hX⟩:=h'
 subst ep eu hX
 have hwf:=hR.wf hB
 obtain⟨k1,k2,k3⟩:=hP (inst:=c.inst) (sd:=decide (c.side=2)) (price:=c.price) _ c.qty B (Nat.le_refl _) hwf
 have k3:=k3 (by omega)
 obtain⟨s1,s2⟩:=zCb (inst:=c.inst) (sd:=decide (c.side=2)) (price:=c.price) _ c.qty B (Nat.le_refl _) hwf ⟨h0,h1⟩
 have hX:=qL m.p B m.used c
 have hbd:=aZ hB.pc hpz
 unfold zLd
 dsimp only
 rw[lD,hX]
 refine⟨zAt _ _,⟨m.s,m.p,B,c.inst,decide (c.side=2),c.price,c.qty⟩,rfl,jV hs,rfl,rfl,rfl,⟨hR,hB,⟨h0,h1⟩,hq.1,hq.2⟩,fun o ho=> ?_⟩
 have er:RunI.r ⟨m.s,m.p,B,c.inst,decide (c.side=2),c.price,c.qty⟩=xP m.p B c.inst (decide (c.side=2)) c.price c.qty:=rfl
 rw[er]at ho ⊢
 clear hX er
 generalize xP m.p B c.inst (decide (c.side=2)) c.price c.qty=R at*
 obtain⟨ts,lf,RB⟩:=R
 dsimp only at*
 have hlen:=zCt s1
 have e4:(ts.map xZ).length=ts.length:=List.length_map ..
 refine⟨⟨c.qty,0,[⟨1,c.id,c.inst,c.side,c.price,c.qty,c.qty,0⟩]⟩,rfl,rfl,rfl,fun j=>j.k≤ts.length∧j.left=lf+((ts.drop j.k).map (·.qty)).sum∧(⟨1,c.id,c.inst,c.side,c.price,c.qty,c.qty,0⟩::uC m.p c ts c.qty)=j.out++uC m.p c (ts.drop j.k) j.left∧j.out.length≤1+1503*j.k,fun j=>ts.length-j.k,⟨Nat.zero_le _,by dsimp only;rw[List.drop_zero,s2];omega,rfl,Nat.le_refl _⟩,?_⟩
 rintro⟨left,k,out⟩ ⟨j1,j2,j3,j4⟩
 dsimp only at j1 j2 j3 j4 ⊢
 have e5:(out.map z9).length=out.length:=List.length_map ..
 refine zU (fun c1=> ?_) (fun c1=> ?_)
 ·obtain⟨t,ht⟩:=yD (l:=ts) (i:=k) (by omega)
  have hd:ts.drop k=t::ts.drop (k+1):=by rw[List.drop_eq_getElem_cons (by omega),(List.getElem?_eq_some_iff.1 ht).2]
  obtain⟨⟨t1,t2,t3⟩,t4⟩:=s1 t (List.mem_of_getElem? ht)
  have hsd:=zCt (l:=ts.drop (k+1)) fun u hu=>s1 u (List.mem_of_mem_drop hu)
  have hsk:((ts.drop k).map (·.qty)).sum≤(ts.map (·.qty)).sum:=by
   have:=zCt (l:=ts.take k) fun u hu=>s1 u (List.mem_of_mem_take hu)
   have e:(ts.map (·.qty)).sum=((ts.take k).map (·.qty)).sum+((ts.drop k).map (·.qty)).sum:=by
    rw[← List.sum_append,← List.map_append,List.take_append_drop]
   omega
  rw[hd,List.map_cons,List.sum_cons]at j2 hsk
  rw[hd,uC]at j3
  have hrl:=zAq m.p c t (left-t.qty)
  have e6:((uL m.p c t (left-t.qty)).map z9).length=(uL m.p c t (left-t.qty)).length:=List.length_map ..
  have hw:IntKind.i64.wrap (left-t.qty)=left-t.qty:=w64 (by omega)
  refine⟨⟨by omega,by omega⟩,t.price,t.qty,t.implied,t.fills.map yF,elA ht (by simp[xZ]) rfl,?_⟩
  rw[hw]
  refine⟨⟨⟨m.p,o,vB m.used c.id⟩,c,t,left-t.qty⟩,rfl,rfl,rfl,rfl,rfl,rfl,rfl,rfl,rfl,rfl,rfl,rfl,rfl,rfl,rfl,rfl,rfl,rfl,rfl,rfl,rfl,rfl,rfl,rfl,rfl,rfl,rfl,⟨⟨hB.pc,hB.ps⟩,⟨by dsimp only;omega,by dsimp only;omega⟩,by dsimp only;omega,hs,fun f hf=>(t2 f hf).1⟩,fun _ _=>⟨by dsimp only;rw[e5,e6];omega,⟨left-t.qty,k+1,out++uL m.p c t (left-t.qty)⟩,rfl,wjn (by omega),by dsimp only;rw[List.map_append],⟨by dsimp only;omega,by dsimp only;omega,by dsimp only;rw[j3,List.append_assoc],by dsimp only;rw[List.length_append];omega⟩,by dsimp only;omega,by(repeat'(first|exact trivial|exact rfl|apply And.intro))⟩⟩
 have hk:k=ts.length:=by omega
 subst hk
 rw[List.drop_of_length_le (Nat.le_refl _)]at j2 j3
 rw[uC,List.append_nil]at j3
 rw[← j3]
 rw[← j3]at e5 j4
 have hRB:=k1.ok
 refine Cv.cnd.mk (fun e=> ?_) (fun e=>Cv.cnd.mk (fun e2=> ?_) (fun e2=> ?_))
 ·have e:lf=0:=by simpa using e
  rw[if_neg (by omega),if_neg (by omega),List.append_nil]
  exact⟨⟨m.p,o,vB m.used c.id⟩,rfl,rfl,rfl,rfl,rfl,rfl,rfl,rfl,rfl,rfl,rfl,rfl,rfl,rfl,rfl,ho,rfl⟩
 ·have e:¬lf=0:=by simpa using e
  have e2:c.time=1:=by simpa using e2
  rw[if_neg (show ¬(lf≠0∧c.time≠1)by omega),if_pos (show lf≠0∧c.time=1 from⟨e,e2⟩),List.append_nil]
  have ha:=(ho.add c.inst c.id (decide (c.side=2)) c.price lf).1
  rw[jV hs]at ha
  exact⟨⟨o,c.inst,c.id,decide (c.side=2),c.price,lf⟩,rfl,rfl,jV hs,rfl,rfl,rfl,ho.fit hRB,fun _ _=>⟨⟨m.p,(MSt.addF ⟨o,c.inst,c.id,decide (c.side=2),c.price,lf⟩).1,vB m.used c.id⟩,rfl,rfl,rfl,rfl,rfl,rfl,rfl,rfl,rfl,rfl,rfl,rfl,rfl,rfl,rfl,ha,rfl⟩⟩
 ·have e:¬lf=0:=by simpa using e
  have e2:¬c.time=1:=by simpa using e2
  rw[if_pos (show lf≠0∧c.time≠1 from⟨e,e2⟩),if_neg (show ¬(lf≠0∧c.time=1)by omega)]
  exact⟨by rw[e5];omega,⟨m.p,o,vB m.used c.id⟩,rfl,rfl,rfl,rfl,rfl,rfl,rfl,rfl,rfl,rfl,rfl,rfl,rfl,by rw[List.map_append];rfl,rfl,ho,rfl⟩
theorem zFc:enterC.ok Tryz.prog 74:=z0a (gokc zJo (gokc zVs (gokc z2a gok0))) z9t
theorem mcount_ok:mcountC.ok Tryz.prog 19:=zXl (gokc tJ gok0) fun i h=>by
 obtain⟨m,p,B,U,id⟩:=i
 have h':m.Rep p B U∧BOk p B:=h
 clear h
 obtain⟨⟨ep,hR,eu⟩,hB⟩:=h'
 subst ep eu
 have:=xJ m.p
 have:=hB.bl
 exact⟨⟨m.s,m.p,B,0,false⟩,rfl,⟨hR,by dsimp only;omega⟩,fun _ _=>⟨(),by(repeat'(first|exact trivial|exact rfl|apply And.intro))⟩⟩
theorem zAp:cancelC.ok Tryz.prog 43:=zUy (gokc aG gok0) fun i h=>by
 obtain⟨m,p,B,U,id,q,inst,o,X⟩:=i
 have h':(m.Rep p B U∧BOk p B)∧X=jN B U id inst o:=h
 clear h
 obtain⟨⟨⟨ep,hR,eu⟩,hB⟩,hX⟩:=h'
 subst ep eu hX
 have:=xJ m.p
 have:=hB.bl
 exact⟨⟨m.s,m.p,B,id,o.qty⟩,rfl,rfl,rfl,⟨hR,by dsimp only;omega⟩,fun o' ho=>⟨⟨m.p,o',m.used⟩,rfl,rfl,rfl,rfl,rfl,rfl,rfl,rfl,rfl,rfl,rfl,rfl,rfl,rfl,rfl,ho,rfl⟩⟩
theorem zAj:reduceC.ok Tryz.prog 44:=zSz (gokc aG gok0) fun i h=>by
 obtain⟨m,p,B,U,id,q,inst,o,X⟩:=i
 have h':(m.Rep p B U∧BOk p B)∧yI (o.qty-q)∧X=uH B U id q inst o:=h
 clear h
 obtain⟨⟨⟨ep,hR,eu⟩,hB⟩,hw,hX⟩:=h'
 subst ep eu hX
 have:=xJ m.p
 have:=hB.bl
 have hw:=w64 hw
 unfold zOg
 dsimp only
 rw[hw]
 exact⟨⟨m.s,m.p,B,id,q⟩,rfl,rfl,rfl,⟨hR,by dsimp only;omega⟩,fun o' ho=>⟨⟨m.p,o',m.used⟩,rfl,rfl,rfl,rfl,rfl,rfl,rfl,rfl,rfl,rfl,rfl,rfl,rfl,rfl,rfl,ho,rfl⟩⟩
theorem lS {c:Cmd} (h:c.right=0):(if c.kind=1 then c.orderE else if c.kind≠2∧xW c.qty=false then 24 else if c.kind=4∧wA c.price=false then 23 else 0)=0:=by
 rw[Cmd.right]at h
 by_cases c1:c.kind<1∨4<c.kind
 ·rw[if_pos c1]at h;cases h
 rw[if_neg c1]at h
 by_cases c2:c.id<1∨1099511627776<c.id
 ·rw[if_pos c2]at h;cases h
 rw[if_neg c2]at h
 exact h
theorem zQu {c:Cmd} (h:c.right=0) (hk:c.kind=1):(c.side=1∨c.side=2)∧(1≤c.qty∧c.qty≤1000000)∧(0≤c.least∧c.least≤c.qty):=by
 have h:=lS h
 rw[if_pos hk,Cmd.orderE]at h
 by_cases c1:c.side≠1∧c.side≠2
 ·rw[if_pos c1]at h;cases h
 rw[if_neg c1]at h
 by_cases c2:c.time<1∨3<c.time
 ·rw[if_pos c2]at h;cases h
 rw[if_neg c2]at h
 cases c3:xW c.qty with
 |false=>rw[if_pos c3]at h;cases h
 |true=>
  rw[if_neg (by rw[c3];decide)]at h
  by_cases c4:c.least<0∨c.qty<c.least
  ·rw[if_pos c4]at h;cases h
  simp only[xW,Bool.and_eq_true,decide_eq_true_eq]at c3
  exact⟨by omega,c3,by omega⟩
theorem zBi {c:Cmd} (h:c.right=0) (hk:¬c.kind=1) (hk2:¬c.kind=2):1≤c.qty∧c.qty≤1000000:=by
 have h:=lS h
 rw[if_neg hk]at h
 cases c3:xW c.qty with
 |false=>rw[if_pos ⟨hk2,c3⟩]at h;cases h
 |true=>
  simp only[xW,Bool.and_eq_true,decide_eq_true_eq]at c3
  exact c3
theorem z5x (i:EnI) (h:orderC.cnd i):zIw i:=by
 obtain⟨m,p,B,U,c,X⟩:=i
 have h':(m.Rep p B U∧BOk p B)∧c.right=0∧c.kind=1∧X=uQ p B U c:=h
 clear h
 obtain⟨⟨hM,hB⟩,hr,hkd,hX⟩:=h'
 obtain⟨ep,hR,eu⟩:=hM
 subst ep eu
 have hM:m.Rep m.p B m.used:=⟨rfl,hR,rfl⟩
 obtain⟨hs,hq,hl⟩:=zQu hr hkd
 have hbl:=hB.bl
 have hcl:=xJ m.p
 unfold zIw
 dsimp only
 refine⟨⟨m.p,c.inst,c.price⟩,rfl,rfl,rfl,rfl,rfl,rfl,rfl,rfl,rfl,rfl,rfl,rfl,rfl,hB.ps,fun _ _=>Cv.cnd.mk (fun e=> ?_) (fun e=> ?_)⟩
 ·have e:m.p.price c.inst c.price≠0:=by simpa using e
  have hx:X=⟨B,m.used,gF c (m.p.price c.inst c.price)⟩:=by rw[hX,uQ,if_pos e]
  exact⟨⟨c,m.p.price c.inst c.price⟩,rfl,rfl,rfl,rfl,rfl,rfl,rfl,rfl,rfl,rfl,trivial,fun _ _=>⟨m,rfl,rfl,rfl,rfl,rfl,rfl,rfl,rfl,rfl,rfl,rfl,rfl,rfl,by rw[hx];rfl,by rw[hx];exact hM⟩⟩
 have hpz:m.p.price c.inst c.price=0:=by simpa using e
 have hin:=zEu hpz
 have hib:0≤c.inst∧c.inst<B.length:=by omega
 rw[uQ,if_neg (by rw[hpz];decide)]at hX
 refine⟨0,fun l=>l=c.lst,Cv.cnd.mk (fun e=>⟨c.qty,rfl,by rw[Cmd.lst,if_pos (by simpa using e)],by(repeat'(first|exact trivial|exact rfl|apply And.intro))⟩) (fun e=>⟨c.least,rfl,by rw[Cmd.lst,if_neg (by simpa using e)],by(repeat'(first|exact trivial|exact rfl|apply And.intro))⟩),?_⟩
 rintro _ rfl
 refine⟨zAt _ _,_,_,zWp _ _,zU (fun e=> ?_) (fun e=> ?_)⟩
 ·have hx:X=⟨B,m.used,gF c 25⟩:=by rw[hX,if_pos e]
  exact⟨⟨c,25⟩,rfl,rfl,rfl,rfl,rfl,rfl,rfl,rfl,rfl,rfl,trivial,fun _ _=>⟨m,rfl,rfl,rfl,rfl,rfl,rfl,rfl,rfl,rfl,rfl,rfl,rfl,rfl,by rw[hx];rfl,by rw[hx];exact hM⟩⟩
 rw[if_neg e]at hX
 refine⟨⟨m.s,m.p,B,0,false⟩,rfl,⟨hR,by dsimp only;omega⟩,fun _ _=>zU (fun e=> ?_) (fun e=> ?_)⟩
 ·have hx:X=⟨B,m.used,gF c 13⟩:=by rw[hX,if_pos (by dsimp only at e;omega)]
  exact⟨⟨c,13⟩,rfl,rfl,rfl,rfl,rfl,rfl,rfl,rfl,rfl,rfl,trivial,fun _ _=>⟨m,rfl,rfl,rfl,rfl,rfl,rfl,rfl,rfl,rfl,rfl,rfl,rfl,rfl,by rw[hx];rfl,by rw[hx];exact hM⟩⟩
 rw[if_neg (by dsimp only at e;omega)]at hX
 have hok:RunI.ok ⟨m.s,m.p,B,c.inst,decide (c.side=2),c.price,c.qty⟩:=⟨hR,hB,hib,hq.1,hq.2⟩
 refine⟨true,fun b=>b=decide (0<c.lst∧c.qty-(xP m.p B c.inst (decide (c.side=2)) c.price c.qty).left<c.lst),zU (fun e=>⟨⟨m.s,m.p,B,c.inst,decide (c.side=2),c.price,c.qty⟩,rfl,jV hs,rfl,rfl,rfl,hok,fun _ _=>⟨_,rfl,decide_eq_decide.2 ⟨fun x=>⟨e,x⟩,fun x=>x.2⟩,by(repeat'(first|exact trivial|exact rfl|apply And.intro))⟩⟩) (fun e=>⟨false,rfl,(decide_eq_false fun x=>e x.1).symm,by(repeat'(first|exact trivial|exact rfl|apply And.intro))⟩),?_⟩
 rintro _ rfl
 refine zU (fun e=> ?_) (fun e=> ?_)
 ·have hx:X=⟨B,m.used,gF c 28⟩:=by rw[hX,if_pos e]
  exact⟨⟨c,28⟩,rfl,rfl,rfl,rfl,rfl,rfl,rfl,rfl,rfl,rfl,trivial,fun _ _=>⟨m,rfl,rfl,rfl,rfl,rfl,rfl,rfl,rfl,rfl,rfl,rfl,rfl,rfl,by rw[hx];rfl,by rw[hx];exact hM⟩⟩
 rw[if_neg e]at hX
 refine⟨true,fun b=>b=decide (c.time=1∧kI m.p B c.inst (decide (c.side=2)) c.price c.qty=true),Cv.cnd.mk (fun e=>⟨⟨m.s,m.p,B,c.inst,decide (c.side=2),c.price,c.qty⟩,rfl,jV hs,rfl,rfl,rfl,hok,fun _ _=>⟨_,rfl,?_,by(repeat'(first|exact trivial|exact rfl|apply And.intro))⟩⟩) (fun e=>⟨false,rfl,(decide_eq_false fun x=> ?_).symm,by(repeat'(first|exact trivial|exact rfl|apply And.intro))⟩),?_⟩
 ·have e:c.time=1:=by simpa using e
  dsimp only
  cases hb:kI m.p B c.inst (decide (c.side=2)) c.price c.qty with
  |true=>exact(decide_eq_true ⟨e,rfl⟩).symm
  |false=>exact(decide_eq_false fun x=>by cases x.2).symm
 ·rw[x.1]at e;cases e
 rintro _ rfl
 refine zU (fun e=> ?_) (fun e=> ?_)
 ·have hx:X=⟨B,m.used,gF c 23⟩:=by rw[hX,if_pos e]
  exact⟨⟨c,23⟩,rfl,rfl,rfl,rfl,rfl,rfl,rfl,rfl,rfl,rfl,trivial,fun _ _=>⟨m,rfl,rfl,rfl,rfl,rfl,rfl,rfl,rfl,rfl,rfl,rfl,rfl,rfl,by rw[hx];rfl,by rw[hx];exact hM⟩⟩
 rw[if_neg e]at hX
 exact⟨⟨m,m.p,B,m.used,c,X⟩,rfl,rfl,rfl,rfl,rfl,rfl,rfl,rfl,rfl,rfl,rfl,rfl,rfl,rfl,rfl,rfl,rfl,rfl,rfl,rfl,rfl,rfl,⟨⟨hM,hB⟩,⟨hib,hq,hs⟩,hpz,hX⟩,fun o ho=>⟨o,rfl,rfl,rfl,rfl,rfl,rfl,rfl,rfl,rfl,rfl,rfl,rfl,rfl,rfl,ho⟩⟩
theorem zXb:orderC.ok Tryz.prog 40:=z0g (gokc fY (gokc zIx (gokc tJ (gokc zPu (gokc zEt (gokc zFc gok0)))))) z5x
theorem zNp {p:Prd} {B:List (List zJ)} (h:BWf p B) {id inst:Int} {o:zJ} (hf:zY B id=(inst,o,true)):(0≤inst∧inst<B.length)∧sU o:=by
 rw[zY]at hf
 split at hf
 ·cases hf
 ·rename_i k hk
  obtain⟨L,hL,hh⟩:=qS hk
  rw[zX hL]at hf
  cases hf
  have hlt:=(List.getElem?_eq_some_iff.1 hL).1
  obtain⟨o,ho,e⟩:=List.mem_map.1 (hasId_iff.1 hh)
  have hg:=vJ (h.od k L hL).2.1 ho
  rw[e]at hg
  rw[hg]
  exact⟨by omega,(h.od k L hL).1 o ho⟩
theorem sN (p:Prd) (c:Cmd):∀(l:List qF) (left:Int),(∀t∈l,SOk t∧1≤t.qty)→(uC p c l left).length≤1503*l.length
 |[],_,_=>Nat.le_refl _
 |t::l,left,h=>by
  have a:=sN p c l (left-t.qty) fun u hu=>h u (List.mem_cons_of_mem _ hu)
  have b:=zAq p c t (left-t.qty)
  have d:=(h t List.mem_cons_self).1.2.2
  rw[uC,List.length_append,List.length_cons];omega
theorem zKa {p:Prd} {B:List (List zJ)} (h:BWf p B) (U:List Int) {c:Cmd} (hi:0≤c.inst∧c.inst<B.length) (hq:1≤c.qty∧c.qty≤1000000):(y4 p B U c).R.length≤1503000002:=by
 obtain⟨s1,s2⟩:=zCb (inst:=c.inst) (sd:=decide (c.side=2)) (price:=c.price) _ c.qty B (Nat.le_refl _) h hi
 have k3:=(hP (inst:=c.inst) (sd:=decide (c.side=2)) (price:=c.price) _ c.qty B (Nat.le_refl _) h).2.2 (by omega)
 have:=zCt s1
 have:=sN p c _ c.qty s1
 rw[qL]
 dsimp only
 rw[List.length_append,List.length_cons]
 split
 ·rw[List.length_cons,List.length_nil];omega
 ·rw[List.length_nil];omega
theorem zSo (i:zRi) (h:replaceC.cnd i):eF i:=by
 obtain⟨m,p,B,U,c,inst,o,X⟩:=i
 have h':m.Rep p B U∧BOk p B∧zY B c.id=(inst,o,true)∧(1≤c.qty∧c.qty≤1000000)∧X=kM p B U c inst o:=h
 clear h
 obtain⟨hM,hB,hf,hq,hX⟩:=h'
 obtain⟨ep,hR,eu⟩:=hM
 subst ep eu
 have hM:m.Rep m.p B m.used:=⟨rfl,hR,rfl⟩
 have hwf:=hR.wf hB
 obtain⟨hin,hoo⟩:=zNp hwf hf
 have hos:=hoo.s
 have hoq:=hoo.q
 have hbl:=hB.bl
 have hcl:=xJ m.p
 unfold eF bI
 dsimp only
 refine⟨⟨m.p,inst,c.price⟩,rfl,rfl,rfl,rfl,rfl,rfl,rfl,rfl,rfl,rfl,rfl,rfl,rfl,hB.ps,fun _ _=>Cv.cnd.mk (fun e=> ?_) (fun e=> ?_)⟩
 ·have e:m.p.price inst c.price≠0:=by simpa using e
  have hx:X=⟨B,m.used,gF c (m.p.price inst c.price)⟩:=by rw[hX,kM,if_pos e]
  exact⟨⟨c,m.p.price inst c.price⟩,rfl,rfl,rfl,rfl,rfl,rfl,rfl,rfl,rfl,rfl,trivial,fun _ _=>⟨m,rfl,rfl,rfl,rfl,rfl,rfl,rfl,rfl,rfl,rfl,rfl,rfl,rfl,by rw[hx];rfl,by rw[hx];exact hM⟩⟩
 have hpz:m.p.price inst c.price=0:=by simpa using e
 rw[kM,if_neg (by rw[hpz];decide)]at hX
 have hw:IntKind.i64.wrap (o.qty-c.qty)=o.qty-c.qty:=w64 (by omega)
 rw[hw]
 refine(fun hT=>Cv.cnd.mk (fun e1=>zU (fun e2=> ?_) (fun e2=>hT fun x=>e2 x.2)) (fun e1=>hT fun x=>by rw[x.1]at e1;simp at e1)) (fun(hn:¬(c.price=o.price∧c.qty≤o.qty))=> ?_)
 ·have e1:c.price=o.price:=by simpa using e1
  rw[if_pos ⟨e1,e2⟩]at hX
  exact⟨⟨m,m.p,B,m.used,c.id,o.qty-c.qty,inst,o,X⟩,rfl,rfl,rfl,rfl,rfl,rfl,rfl,rfl,rfl,rfl,rfl,rfl,rfl,rfl,rfl,rfl,rfl,rfl,rfl,rfl,rfl,⟨⟨hM,hB⟩,⟨by dsimp only;omega,by dsimp only;omega⟩,hX⟩,fun o' ho=>⟨o',rfl,rfl,rfl,rfl,rfl,rfl,rfl,rfl,rfl,rfl,rfl,rfl,rfl,rfl,ho⟩⟩
 rw[if_neg hn]at hX
 have hBt:=hB.take c.id o.qty
 refine⟨m.s,rfl,hR.small hB,fun _ _=>⟨⟨m.s,m.p,B,c.id,o.qty⟩,rfl,rfl,rfl,⟨hR,by dsimp only;omega⟩,fun o' ho'=>⟨⟨o',m.p,(yN B c.id o.qty).1,inst,decide (o.side=2),c.price,c.qty⟩,rfl,jV hos,rfl,rfl,rfl,⟨ho',hBt,by dsimp only;rw[fZ];exact hin,hq.1,hq.2⟩,fun _ _=>Cv.cnd.mk (fun e=> ?_) (fun e=> ?_)⟩⟩⟩
 ·have hx:X=⟨B,m.used,gF c 23⟩:=by rw[hX,if_pos e]
  exact⟨⟨c,23⟩,rfl,rfl,rfl,rfl,rfl,rfl,rfl,rfl,rfl,rfl,trivial,fun _ _=>⟨m,rfl,rfl,rfl,rfl,rfl,rfl,rfl,rfl,rfl,rfl,rfl,rfl,rfl,by rw[hx];rfl,by rw[hx];exact hM⟩⟩
 rw[if_neg (by rw[e];decide)]at hX
 refine⟨⟨m,m.p,B,m.used,c.id,0,inst,o,jN B m.used c.id inst o⟩,rfl,rfl,rfl,rfl,rfl,rfl,rfl,rfl,rfl,rfl,rfl,rfl,rfl,rfl,rfl,rfl,rfl,rfl,rfl,rfl,⟨⟨hM,hB⟩,rfl⟩,fun o1 ho1=>⟨⟨o1,m.p,(yN B c.id o.qty).1,m.used,⟨1,c.id,inst,o.side,c.price,c.qty,0,1,[]⟩,y4 m.p (yN B c.id o.qty).1 m.used ⟨1,c.id,inst,o.side,c.price,c.qty,0,1,[]⟩⟩,rfl,rfl,rfl,rfl,rfl,rfl,rfl,rfl,rfl,rfl,rfl,rfl,rfl,rfl,rfl,rfl,rfl,rfl,rfl,rfl,rfl,rfl,⟨⟨ho1,hBt⟩,⟨by dsimp only;rw[fZ];exact hin,hq,hos⟩,hpz,rfl⟩,fun o2 ho2=>⟨?_,o2,rfl,rfl,rfl,rfl,rfl,rfl,rfl,rfl,rfl,rfl,rfl,rfl,rfl,?_,?_⟩⟩⟩
 ·have:=zKa (hwf.take c.id o.qty) m.used (c:=⟨1,c.id,inst,o.side,c.price,c.qty,0,1,[]⟩) (by dsimp only;rw[fZ];exact hin) hq
  dsimp only
  rw[List.length_map,List.length_map]
  have e1:(jN B m.used c.id inst o).R.length=1:=rfl
  omega
 ·rw[hX,← List.map_append];rfl
 ·rw[hX];exact ho2
theorem zKh:replaceC.ok Tryz.prog 42:=zQo (gokc fY (gokc zIx (gokc rL (gokc aG (gokc zEt (gokc zAp (gokc zAj (gokc zFc gok0)))))))) zSo
theorem vdo (i:EnI) (h:doC.cnd i):Vdo i:=by
 obtain⟨m,p,B,U,c,X⟩:=i
 have h':(m.Rep p B U∧BOk p B)∧c.label.length≤140737488355328∧yI c.qty∧X=doF p B U c:=h
 clear h
 obtain⟨⟨hM,hB⟩,hlb,hqr,hX⟩:=h'
 obtain⟨ep,hR,eu⟩:=hM
 subst ep eu
 have hM:m.Rep m.p B m.used:=⟨rfl,hR,rfl⟩
 have hwf:=hR.wf hB
 have hbl:=hB.bl
 have hcl:=xJ m.p
 unfold Vdo zVh
 dsimp only
 refine⟨c,rfl,rfl,rfl,rfl,rfl,rfl,rfl,rfl,rfl,hlb,fun _ _=>Cv.cnd.mk (fun e=> ?_) (fun e=> ?_)⟩
 ·have e:c.right≠0:=by simpa using e
  have hx:X=⟨B,m.used,gF c c.right⟩:=by rw[hX,doF,if_pos e]
  exact⟨⟨c,c.right⟩,rfl,rfl,rfl,rfl,rfl,rfl,rfl,rfl,rfl,rfl,trivial,fun _ _=>⟨m,rfl,rfl,rfl,rfl,rfl,rfl,rfl,rfl,rfl,rfl,rfl,rfl,rfl,by rw[hx];rfl,by rw[hx];exact hM⟩⟩
 have hr:c.right=0:=by simpa using e
 rw[doF,if_neg (by rw[hr];decide)]at hX
 refine Cv.cnd.mk (fun e=> ?_) (fun e=> ?_)
 ·have e:c.kind=1:=by simpa using e
  rw[if_pos e]at hX
  exact⟨⟨m,m.p,B,m.used,c,X⟩,rfl,rfl,rfl,rfl,rfl,rfl,rfl,rfl,rfl,rfl,rfl,rfl,rfl,rfl,rfl,rfl,rfl,rfl,rfl,rfl,rfl,rfl,⟨⟨hM,hB⟩,hr,e,hX⟩,fun o ho=>⟨o,rfl,rfl,rfl,rfl,rfl,rfl,rfl,rfl,rfl,rfl,rfl,rfl,rfl,rfl,ho⟩⟩
 have hk:¬c.kind=1:=by simpa using e
 rw[if_neg hk]at hX
 refine(fun hT=>⟨hT,rfl,trivial,hT⟩) ?_
 refine⟨⟨m.s,m.p,B,c.id,0⟩,rfl,rfl,⟨hR,by dsimp only;omega⟩,fun _ _=>Cv.cnd.mk (fun e=> ?_) (fun e=> ?_)⟩
 ·have e:(zY B c.id).2.2=false:=by simpa using e
  have hx:X=⟨B,m.used,gF c 26⟩:=by rw[hX,if_pos e]
  exact⟨⟨c,26⟩,rfl,rfl,rfl,rfl,rfl,rfl,rfl,rfl,rfl,rfl,trivial,fun _ _=>⟨m,rfl,rfl,rfl,rfl,rfl,rfl,rfl,rfl,rfl,rfl,rfl,rfl,rfl,by rw[hx];rfl,by rw[hx];exact hM⟩⟩
 have e:(zY B c.id).2.2=true:=by simpa using e
 rw[if_neg (by rw[e];decide)]at hX
 dsimp only
 have hf:zY B c.id=((zY B c.id).1,(zY B c.id).2.1,true):=by rw[← e]
 generalize (zY B c.id).1=inst at*
 generalize (zY B c.id).2.1=o at*
 obtain⟨hin,hoo⟩:=zNp hwf hf
 have hoq:=hoo.q
 refine Cv.cnd.mk (fun e4=> ?_) (fun e4=>Cv.cnd.mk (fun e2=> ?_) (fun e2=>zU (fun e3=> ?_) (fun e3=> ?_)))
 ·have e4:c.kind=4:=by simpa using e4
  rw[if_pos e4]at hX
  exact⟨⟨m,m.p,B,m.used,c,inst,o,X⟩,rfl,rfl,rfl,rfl,rfl,rfl,rfl,rfl,rfl,rfl,rfl,rfl,rfl,rfl,rfl,rfl,rfl,rfl,rfl,rfl,rfl,rfl,rfl,rfl,rfl,rfl,rfl,rfl,⟨hM,hB,hf,zBi hr hk (by rw[e4];decide),hX⟩,fun o' ho=>⟨o',rfl,rfl,rfl,rfl,rfl,rfl,rfl,rfl,rfl,rfl,rfl,rfl,rfl,rfl,ho⟩⟩
 all_goals
  have e4:¬c.kind=4:=by simpa using e4
  rw[if_neg e4]at hX
 ·have e2:c.kind=2:=by simpa using e2
  rw[if_pos (.inl e2)]at hX
  exact⟨⟨m,m.p,B,m.used,c.id,0,inst,o,X⟩,rfl,rfl,rfl,rfl,rfl,rfl,rfl,rfl,rfl,rfl,rfl,rfl,rfl,rfl,rfl,rfl,rfl,rfl,rfl,rfl,⟨⟨hM,hB⟩,hX⟩,fun o' ho=>⟨o',rfl,rfl,rfl,rfl,rfl,rfl,rfl,rfl,rfl,rfl,rfl,rfl,rfl,rfl,ho⟩⟩
 ·rw[if_pos (.inr (by omega))]at hX
  exact⟨⟨m,m.p,B,m.used,c.id,0,inst,o,X⟩,rfl,rfl,rfl,rfl,rfl,rfl,rfl,rfl,rfl,rfl,rfl,rfl,rfl,rfl,rfl,rfl,rfl,rfl,rfl,rfl,⟨⟨hM,hB⟩,hX⟩,fun o' ho=>⟨o',rfl,rfl,rfl,rfl,rfl,rfl,rfl,rfl,rfl,rfl,rfl,rfl,rfl,rfl,ho⟩⟩
 ·have e2:¬c.kind=2:=by simpa using e2
  have hq:=zBi hr hk e2
  rw[if_neg (by omega)]at hX
  exact⟨⟨m,m.p,B,m.used,c.id,c.qty,inst,o,X⟩,rfl,rfl,rfl,rfl,rfl,rfl,rfl,rfl,rfl,rfl,rfl,rfl,rfl,rfl,rfl,rfl,rfl,rfl,rfl,rfl,rfl,⟨⟨hM,hB⟩,⟨by dsimp only;omega,by dsimp only;omega⟩,hX⟩,fun o' ho=>⟨o',rfl,rfl,rfl,rfl,rfl,rfl,rfl,rfl,rfl,rfl,rfl,rfl,rfl,rfl,ho⟩⟩
theorem do_ok:doC.ok Tryz.prog 13:=yDk (gokc zTl (gokc zIx (gokc zXm (gokc zXb (gokc zKh (gokc zAp (gokc zAj gok0))))))) vdo
open Go Cv Go.Proofs
def known17C:Con:=con1 Unit (fun _=>[]) (fun _=>[]) (fun _=>True) (fun _=>yJ true) (fun _=>[])
def AbI.p (i:AbI):Prd:=yAt i.x
def AbI.n (i:AbI) (m:Nat):Nat:=min i.l.length m
@[reducible] def AbI.raw (i:AbI):Prop:=i.x.raw∧(∀c∈i.l,c.raw)∧i.l.length≤9223372036854775807
open Go Cv Go.Proofs
def rZ (u:Unit):Prop:=
 ∃(i:Int),i=1∧True∧∀(o:Unit),True→∃(i_1:Prd),sb i_1.code=sb [(67:UInt8),(76:UInt8)]∧iE i_1.months=iE [(320:Int),(321:Int),(323:Int)]∧i_1.tick=5∧i_1.low=0∧i_1.high=1000∧i_1.wide=200∧i_1.rule=i∧i_1.top=4∧i_1.least=2∧i_1.part=40∧iE i_1.settle=iE [(500:Int),(505:Int),(490:Int)]∧(i_1.code.length≤1099511627776∧i_1.months.length≤1099511627776∧i_1.settle.length≤1099511627776)∧(∀(o:Unit),i_1.check=0→∃(i:EnI),i.c.kind=1∧i.c.id=1∧i.c.inst=0∧i.c.side=2∧i.c.price=10∧i.c.qty=5∧i.c.least=0∧i.c.time=1∧sb i.c.label=ByteArray.mk #[]∧AObj.adt Mkt 5 zR i.m=AObj.adt Mkt 5 zR (Mkt.mk i_1 (wJ i_1) [])∧((i.m.Rep i.p i.B i.U∧BOk i.p i.B)∧i.c.label.length≤140737488355328∧((-9223372036854775808)≤i.c.qty∧i.c.qty≤9223372036854775807)∧i.X=doF i.p i.B i.U i.c)∧∀(o:Mkt),o.Rep i.p i.X.B i.X.U→∃(i_2:EnI),i_2.c.kind=1∧i_2.c.id=2∧i_2.c.inst=0∧i_2.c.side=1∧i_2.c.price=15∧i_2.c.qty=3∧i_2.c.least=0∧i_2.c.time=1∧sb i_2.c.label=ByteArray.mk #[]∧AObj.adt Mkt 5 zR i_2.m=AObj.adt Mkt 5 zR o∧((i_2.m.Rep i_2.p i_2.B i_2.U∧BOk i_2.p i_2.B)∧i_2.c.label.length≤140737488355328∧((-9223372036854775808)≤i_2.c.qty∧i_2.c.qty≤9223372036854775807)∧i_2.X=doF i_2.p i_2.B i_2.U i_2.c)∧∀(o:Mkt),o.Rep i_2.p i_2.X.B i_2.X.U→cnd ((↑(List.map z9 i.X.R).length:Int)==1) (((0:Int)≤(0:Int)∧0<(↑(List.map z9 i.X.R).length:Int))∧∃(n:Int),zI (List.map z9 i.X.R) (Int.toNat 0) ((0:Nat)+(0:Nat)) 1=some [D.v (.int .i64 n)]∧cnd (n==1) (cnd ((↑(List.map z9 i_2.X.R).length:Int)==3) (((0:Int)≤(1:Int)∧1<(↑(List.map z9 i_2.X.R).length:Int))∧∃(n:Int),∃(n_1:Int),∃(n_2:Int),∃(n_3:Int),∃(n_4:Int),∃(n_5:Int),∃(n_6:Int),∃(n_7:Int),zI (List.map z9 i_2.X.R) (Int.toNat 1) 0 8=some [D.v (.int .i64 n),D.v (.int .i64 n_1),D.v (.int .i64 n_2),D.v (.int .i64 n_3),D.v (.int .i64 n_4),D.v (.int .i64 n_5),D.v (.int .i64 n_6),D.v (.int .i64 n_7)]∧cnd (n==3 && (n_1==1 && (n_2==0 && (n_3==2 && (n_4==10 && (n_5==3 && (n_6==2 && (n_7==0 && true)))))))) (((0:Int)≤(2:Int)∧2<(↑(List.map z9 i_2.X.R).length:Int))∧∃(n:Int),∃(n_8:Int),∃(n_9:Int),∃(n_10:Int),∃(n_11:Int),∃(n_12:Int),∃(n_13:Int),∃(n_14:Int),zI (List.map z9 i_2.X.R) (Int.toNat 2) 0 8=some [D.v (.int .i64 n),D.v (.int .i64 n_8),D.v (.int .i64 n_9),D.v (.int .i64 n_10),D.v (.int .i64 n_11),D.v (.int .i64 n_12),D.v (.int .i64 n_13),D.v (.int .i64 n_14)]∧cnd (n==3 && (n_8==2 && (n_9==0 && (n_10==1 && (n_11==10 && (n_12==3 && (n_13==0 && (n_14==0 && true)))))))) (∃(i:MfI),AObj.adt Mkt 5 zR i.m=AObj.adt Mkt 5 zR o∧(i.m.Rep i.p i.B i.U∧BOk i.p i.B)∧∀(o:Unit),True→∃(o:Unit),true=((↑(cJ i.B):Int)==1)∧True) (∃(o:Unit),true=false∧True)) (∃(o:Unit),true=false∧True)) (∃(o:Unit),true=false∧True)) (∃(o:Unit),true=false∧True)) (∃(o:Unit),true=false∧True))∧∀(o:Unit),i_1.check≠0→∃(o:Unit),true=false∧True
theorem zRb (hG:GOk Tryz.prog ([(11,threeC),(10,newMC),(13,doC),(19,mcountC)])) (h:∀(u:Unit),known17C.cnd u→rZ u):known17C.ok Tryz.prog 15:=okw mixed hG 0 (fun _=>[]) (fun _=>[]) [] Tryz.func15 h
open Go Cv Go.Proofs
open Go Cv Go.Proofs
theorem z2s (n:Int): -9223372036854775808≤IntKind.i64.wrap n∧IntKind.i64.wrap n≤9223372036854775807:=by
 have:IntKind.i64.wrap n=if 9223372036854775808≤n % 18446744073709551616 then n % 18446744073709551616-18446744073709551616 else n % 18446744073709551616:=by unfold IntKind.wrap;simp[IntKind.signed,IntKind.bits]
 rw[this]
 split<;>omega
theorem bK {α β:Type} {g:α→β} {f:α→α} (h:∀x,g (f x)=g x):∀(l:List α) (i:Nat),(l.modify i f).map g=l.map g
 |[],i=>by simp
 |a::l,0=>by simp[h]
 |a::l,i+1=>by rw[List.modify_succ_cons,List.map_cons,List.map_cons,bK h l i]
theorem lV:∀(l:List Bool) (i:Nat) (b:Bool),(l.set i b).count true≤l.count true+1
 |[],i,b=>by simp
 |a::l,0,b=>by cases a<;>cases b<;>simp<;>omega
 |a::l,i+1,b=>by
  have:=lV l i b
  cases a<;>simp[List.count_cons]<;>omega
def Arena.inv (m n:Nat) (a:Arena):Prop:=a.slots.length=250∧(a.slots.map (·.used)).count true≤n∧a.queues.length≤m∧∀q∈a.queues,(q.last= -1∨(0≤q.last∧q.last<250))∧yI q.count
theorem Arena.inv.mono {m n m' n':Nat} {a:Arena} (h:a.inv m n) (hm:m≤m') (hn:n≤n'):a.inv m' n':=⟨h.1,Nat.le_trans h.2.1 hn,Nat.le_trans h.2.2.1 hm,h.2.2.2⟩
theorem Arena.inv.free {m n:Nat} {a:Arena} (h:a.inv m n) (hn:n<250):∃s∈a.slots,s.used=false:=by
 apply Classical.byContradiction
 intro hx
 have:(a.slots.map (·.used)).count true=(a.slots.map (·.used)).length:=by
  rw[List.count_eq_length]
  intro b hb
  obtain⟨s,hs,rfl⟩:=List.mem_map.1 hb
  cases hu:s.used with
  |true=>rfl
  |false=>exact absurd ⟨s,hs,hu⟩ hx
 rw[List.length_map,h.1]at this
 have:=h.2.1
 omega
theorem Arena.inv.fit {m n:Nat} {a:Arena} (h:a.inv m n) (hn:n<250):a.fit:=by
 refine⟨by rw[h.1];decide,fun _=>h.free hn,fun q hq=> ?_⟩
 rw[h.1]
 exact(h.2.2.2 q hq).1
theorem Arena.inv.top {m n:Nat} {a:Arena} (h:a.inv m n) (k:Int) (t:Bool):(a.topF k t).inv m n:=by
 rw[Arena.topF]
 split
 ·refine⟨by simpa using h.1,?_,h.2.2.1,h.2.2.2⟩
  dsimp only
  rw[bK (g:=fun s:Slot=>s.used) (f:=fun s:Slot=>{s with top:=t}) (fun _=>rfl)]
  exact h.2.1
 ·exact h
theorem Arena.inv.open {m n:Nat} {a:Arena} (h:a.inv m n):a.openQ.inv (m+1) n:=by
 refine⟨h.1,h.2.1,by have:=h.2.2.1;simp[Arena.openQ];omega,fun q hq=> ?_⟩
 rcases List.mem_append.1 hq with hq|hq
 ·exact h.2.2.2 q hq
 ·rw[List.mem_singleton.1 hq];exact⟨.inl rfl,by decide⟩
theorem Arena.inv.push {m n:Nat} {a:Arena} (h:a.inv m n) (hn:n<250) (k id qty:Int) (top:Bool):(a.push k id qty top).1.inv m (n+1):=by
 have h':a.inv m (n+1):=h.mono (Nat.le_refl m) (Nat.le_succ n)
 rw[Arena.push]
 split
 ·exact h'
 split
 ·exact h'
 split
 ·exact h'
 obtain⟨f,hf,hfl⟩:=zFn (h.free hn)
 rw[h.1]at hfl
 have hc:∀x:Slot,((a.slots.set (yV a.slots).toNat x).map (·.used)).count true≤n+1:=by
  intro x
  rw[List.map_set]
  have:=lV (a.slots.map (·.used)) (yV a.slots).toNat x.used
  have:=h.2.1
  omega
 refine⟨?_,?_,?_,?_⟩
 ·dsimp only[Arena.put]
  split<;>simp[h.1]
 ·dsimp only[Arena.put]
  split
  ·exact hc _
  ·rw[bK (g:=fun s:Slot=>s.used) (f:=fun s:Slot=>{s with back:=yV a.slots}) (fun _=>rfl)];exact hc _
 ·dsimp only[Arena.put];rw[List.length_set];exact h.2.2.1
 ·intro q hq
  rcases List.mem_or_eq_of_mem_set hq with hq|rfl
  ·exact h.2.2.2 q hq
  ·exact⟨.inr (by dsimp only;omega),z2s _⟩
structure Book.Inv (Q:Int→Prop) (n:Nat) (b:Book):Prop where
 a:b.a.inv n n
 l1:b.buys.length≤n
 l2:b.sells.length≤n
 sp:b.spare=[]
 p1:∀r∈b.buys,Q r.price
 p2:∀r∈b.sells,Q r.price
theorem Book.Inv.fit {Q n b} (h:Book.Inv Q n b) (hn:n<250):b.fit:=by
 have:=h.l1
 have:=h.l2
 have:=h.a.2.2.1
 exact⟨h.a.fit hn,by omega,by omega,by omega,by rw[h.sp];decide⟩
theorem Book.Inv.mono {Q n m b} (h:Book.Inv Q n b) (hm:n≤m):b.Inv Q m:=⟨h.a.mono hm hm,Nat.le_trans h.l1 hm,Nat.le_trans h.l2 hm,h.sp,h.p1,h.p2⟩
theorem Book.Inv.untop {Q n b} (h:Book.Inv Q n b) (s:Int):(b.untop s).inv n n:=by
 rw[Book.untop]
 repeat' split
 all_goals first|exact h.a|exact h.a.top _ _
theorem Book.Inv.led {Q n b} (h:Book.Inv Q n b) (id s p:Int):(b.led id s p).Inv Q n:=by
 rw[Book.led]
 split
 ·rw[Book.leadF]
  split
  all_goals exact⟨h.untop s,h.l1,h.l2,h.sp,h.p1,h.p2⟩
 ·exact h
theorem z3o (b:Book) (s p:Int):(b.ins s p).length=(b.rungs s).length+1:=by
 have:=f0 s p (b.rungs s)
 simp[Book.ins];omega
theorem zMr {Q:Int→Prop} {b:Book} {s p:Int} (hp:Q p) (h:∀r∈b.rungs s,Q r.price):∀r∈b.ins s p,Q r.price:=by
 intro r hr
 rw[Book.ins]at hr
 rcases List.mem_append.1 hr with hr|hr
 ·exact h r (List.mem_of_mem_take hr)
 ·rcases List.mem_cons.1 hr with rfl|hr
  ·exact hp
  ·exact h r (List.mem_of_mem_drop hr)
theorem Book.Inv.queue {Q n b} (h:Book.Inv Q n b) (s p:Int) (hp:Q p):(b.queueF s p).1.a.inv (n+1) n∧(b.queueF s p).1.buys.length≤n+1∧(b.queueF s p).1.sells.length≤n+1∧(b.queueF s p).1.spare=[]∧(∀r∈(b.queueF s p).1.buys,Q r.price)∧∀r∈(b.queueF s p).1.sells,Q r.price:=by
 have hl1:=h.l1
 have hl2:=h.l2
 have hq:b.newQ=((b.a.queues.length:Int),b.spare,b.a.openQ):=by rw[Book.newQ,if_pos (by rw[h.sp];rfl)]
 have hi:=z3o b s p
 rw[Book.queueF]
 split
 ·exact⟨h.a.mono (Nat.le_succ n) (Nat.le_refl n),by dsimp only;omega,by dsimp only;omega,h.sp,h.p1,h.p2⟩
 split
 ·rename_i e
  subst e
  rw[uS]at hi
  exact⟨by dsimp only;rw[hq];exact h.a.open,by dsimp only;omega,by dsimp only;omega,by dsimp only;rw[hq];exact h.sp,zMr hp h.p1,h.p2⟩
 ·rename_i e
  have er:b.rungs s=b.sells:=by rw[Book.rungs,if_neg e]
  rw[er]at hi
  exact⟨by dsimp only;rw[hq];exact h.a.open,by dsimp only;omega,by dsimp only;omega,by dsimp only;rw[hq];exact h.sp,h.p1,zMr hp (by rw[er];exact h.p2)⟩
theorem Book.Inv.stand {Q n b} (h:Book.Inv Q n b) (hn:n<250) (s id p qty:Int) (hp:Q p):(b.stand s id p qty).Inv Q (n+1):=by
 obtain⟨q1,q2,q3,q4,q5,q6⟩:=(h.led id s p).queue s p hp
 exact⟨q1.push hn _ _ _ _,q2,q3,q4,q5,q6⟩
theorem Book.Inv.add {Q n b} (h:Book.Inv Q n b) (hn:n<250) (s id p qty:Int) (hp:Q p):(b.addF s id p qty).1.Inv Q (n+1):=by
 rw[Book.addF]
 repeat' split
 all_goals first|exact h.mono (Nat.le_succ n)|exact h.stand hn s id p qty hp
structure MSt.Inv (p:Prd) (n:Nat) (s:MSt):Prop where
 e:s.p=p
 l:s.books.length=p.count
 b:∀(k:Nat) (b:Book),s.books[k]? =some b→b.Inv (fun v=>p.price k v=0) n
theorem MSt.Inv.mono {p n m s} (h:MSt.Inv p n s) (hm:n≤m):s.Inv p m:=⟨h.e,h.l,fun k b hb=>(h.b k b hb).mono hm⟩
theorem MSt.Inv.add {p n s} (h:MSt.Inv p n s) (hn:n<250) (inst id:Int) (sd:Bool) (price qty:Int):(MSt.addF ⟨s,inst,id,sd,price,qty⟩).1.Inv p (n+1):=by
 rw[MSt.addF]
 split
 ·exact h.mono (Nat.le_succ n)
 split
 ·exact h.mono (Nat.le_succ n)
 split
 ·exact h.mono (Nat.le_succ n)
 split
 ·exact h.mono (Nat.le_succ n)
 rename_i c1 _ _ c4
 dsimp only at c1 c4 ⊢
 have c4:s.p.price inst price=0:=by simpa using c4
 rw[h.e]at c4
 refine⟨h.e,by simpa using h.l,fun k b hb=> ?_⟩
 dsimp only at hb
 rw[List.getElem?_set]at hb
 split at hb
 ·rename_i e
  split at hb
  ·cases hb
   obtain⟨x,hx⟩:=yD (l:=s.books) (i:=inst.toNat) (by omega)
   have hba:s.bookAt inst=x:=zX hx
   rw[hba]
   have hx':=h.b _ _ hx
   rw[e]at hx'
   exact hx'.add hn _ _ _ _ (by rw[← e,Int.toNat_of_nonneg (by omega)];exact c4)
  ·cases hb
 ·exact(h.b k b hb).mono (Nat.le_succ n)
theorem MSt.Inv.fit {p n s} (h:MSt.Inv p n s) (hp:p.small) (hn:n<250) (hc:p.count≤1000):s.fit:=by
 refine⟨by rw[h.e];exact hp,by have:=h.l;omega,fun b hb=> ?_⟩
 obtain⟨k,hk⟩:=List.mem_iff_getElem?.1 hb
 exact(h.b k b hk).fit hn
theorem MSt.Inv.cnt {p n s} (h:MSt.Inv p n s) (hc:p.count≤1000):s.cntOk:=by
 refine⟨by have:=h.l;omega,fun b hb q hq=> ?_⟩
 obtain⟨k,hk⟩:=List.mem_iff_getElem?.1 hb
 exact((h.b k b hk).a.2.2.2 q hq).2
structure yEi (p:Prd) (k:Nat) (t:Top):Prop where
 a:t.has1=true→p.price k t.p1=0
 b:t.has2=true→p.price k t.p2=0
 c: -2000000≤t.p1∧t.p1≤2000000
 d: -2000000≤t.p2∧t.p2≤2000000
open Go Cv Go.Proofs
structure Tri (p:Prd) (a b k:Nat):Prop where
 hab:a<b
 hb:b<p.months.length
 hs:(p.spread a b).1=k
 hk:k<p.count
 hm:p.months.length≤k
 hl:p.legs k=((a:Int),(b:Int),true)
open Go Cv Go.Proofs
def mk0 (p:Prd):Mkt:=⟨p,wJ p,[]⟩
theorem zPb (p:Prd):(mk0 p).Rep p (List.replicate p.count []) []:=⟨rfl,zKw _,rfl⟩
theorem mdo {m:Mkt} {p:Prd} {B:List (List zJ)} {U:List Int} (h:m.Rep p B U) (hB:BOk p B) (c:Cmd):BOk p (doF p B U c).B:=z7z (by have:=h.s;exact this.wf hB) U c
def kc1:Cmd:=⟨1,1,0,2,10,5,0,1,[]⟩
def kc2:Cmd:=⟨1,2,0,1,15,3,0,1,[]⟩
def kX1:MkX:=doF (jZ 1) (List.replicate (jZ 1).count []) [] kc1
def kX2:MkX:=doF (jZ 1) kX1.B kX1.U kc2
theorem kR1:kX1.R=[⟨1,1,0,2,10,5,5,0⟩]:=by kernel_rfl
theorem kR2:kX2.R=[⟨1,2,0,1,15,3,3,0⟩,⟨3,1,0,2,10,3,2,0⟩,⟨3,2,0,1,10,3,0,0⟩]:=by kernel_rfl
theorem kN2:cJ kX2.B=1:=by kernel_rfl
theorem zWh (u:Unit) (h:known17C.cnd u):rZ u:=by
 have hc:(jZ 1).check=0:=by decide+kernel
 have hp:(jZ 1).small:=by refine⟨?_,?_,?_⟩<;>decide
 have hB0:=BOk.new hc hp
 have hM0:=zPb (jZ 1)
 have hB1:BOk (jZ 1) kX1.B:=mdo hM0 hB0 kc1
 unfold rZ
 refine⟨1,rfl,trivial,fun _ _=>⟨jZ 1,rfl,rfl,rfl,rfl,rfl,rfl,rfl,rfl,rfl,rfl,rfl,hp,fun _ _=>⟨⟨mk0 (jZ 1),jZ 1,List.replicate (jZ 1).count [],[],kc1,kX1⟩,rfl,rfl,rfl,rfl,rfl,rfl,rfl,rfl,rfl,rfl,⟨⟨hM0,hB0⟩,by decide,by decide,by dsimp only;rw[kX1]⟩,fun o1 ho1=> ?_⟩,fun _ hx=>absurd hc hx⟩⟩
 have hB2:BOk (jZ 1) kX2.B:=mdo ho1 hB1 kc2
 refine⟨⟨o1,jZ 1,kX1.B,kX1.U,kc2,kX2⟩,rfl,rfl,rfl,rfl,rfl,rfl,rfl,rfl,rfl,rfl,⟨⟨ho1,hB1⟩,Nat.zero_le _,(by decide:yI 3),by dsimp only;rw[kX2]⟩,fun o2 ho2=> ?_⟩
 dsimp only at ho2 ⊢
 rw[kR1,kR2]
 refine Cv.cnd.mk (fun _=>⟨⟨by decide,by decide⟩,_,rfl,Cv.cnd.mk (fun _=>Cv.cnd.mk (fun _=>⟨⟨by decide,by decide⟩,_,_,_,_,_,_,_,_,rfl,Cv.cnd.mk (fun _=>⟨⟨by decide,by decide⟩,_,_,_,_,_,_,_,_,rfl,Cv.cnd.mk (fun _=>⟨⟨o2,jZ 1,kX2.B,kX2.U,0⟩,rfl,⟨ho2,hB2⟩,fun _ _=>⟨(),?_,trivial⟩⟩) (fun e=>absurd e (by decide))⟩) (fun e=>absurd e (by decide))⟩) (fun e=>absurd e (by decide))) (fun e=>absurd e (by decide))⟩) (fun e=>absurd e (by decide))
 dsimp only
 rw[kN2];rfl
theorem known17_ok:known17C.ok Tryz.prog 15:=zRb (gokc three_ok (gokc newM_ok (gokc do_ok (gokc mcount_ok gok0)))) zWh
open Go Cv Go.Proofs
structure BiI where
 id:Int
 inst:Int
 price:Int
 qty:Int
def yBw (i:BiI):Cmd:=⟨1,i.id,i.inst,1,i.price,i.qty,0,1,[]⟩
def qM (i:BiI):Cmd:=⟨1,i.id,i.inst,2,i.price,i.qty,0,1,[]⟩
def bidC:Con:=con1 BiI (fun i=>[zC i.id,zC i.inst,zC i.price,zC i.qty]) (fun _=>[]) (fun _=>True) (fun i=>m8 (yBw i)) (fun _=>[])
def askC:Con:=con1 BiI (fun i=>[zC i.id,zC i.inst,zC i.price,zC i.qty]) (fun _=>[]) (fun _=>True) (fun i=>m8 (qM i)) (fun _=>[])
def qG (i:BiI):Cmd:=⟨i.inst,i.id,0,0,i.price,i.qty,0,0,[]⟩
def chgC:Con:=con1 BiI (fun i=>[zC i.inst,zC i.id,zC i.price,zC i.qty]) (fun _=>[]) (fun _=>True) (fun i=>m8 (qG i)) (fun _=>[])
structure WhI where
 c:Cmd
 time:Int
 least:Int
def withC:Con:=con1 WhI (fun i=>[m8 i.c,zC i.time,zC i.least]) (fun _=>[]) (fun _=>True) (fun i=>m8 ⟨i.c.kind,i.c.id,i.c.inst,i.c.side,i.c.price,i.c.qty,i.least,i.time,i.c.label⟩) (fun _=>[])
structure PlcI where
 qtys:List Int
 which:Int
 how:Int
 by_:Int
@[reducible] def PlcI.raw (i:PlcI):Prop:=(∀q∈i.qtys,yI q)∧yI i.which∧yI i.how∧yI i.by_∧i.qtys.length≤9223372036854775807
structure uD where
 m:Mkt
 ids:List Int
 left:List Int
 j:Nat
def plC:Con:=con1 PlcI (fun i=>[roV 1 (iE i.qtys),zC i.which,zC i.how,zC i.by_]) (fun _=>[]) (fun i=>i.raw) (fun _=>yJ true) (fun _=>[])
@[reducible] def zKs (l:List Int):AObj:= .own 2 1 (iE l)
def plA:List SAnn:=[
 {ι:=uD,slots:=fun j=>[(9,.nm 0 0),(11,.own 1),(12,.own 2),(13,zC j.j)],rows:=fun j=>[zHg j.m,zKs j.ids,zKs j.left]},
 {ι:=Nat,slots:=fun j=>[(21,zC j)],rows:=fun _=>[]}]
def slJ:SAnn:={ι:=List Int×List Int,slots:=fun l=>[(11,.own 0),(12,roV 1 (iE l.2))],rows:=fun l=>[zKs l.1],slots0:=fun l=>[(11,roV 1 (iE l.1)),(12,roV 1 (iE l.2))]}
def plJ:List (Nat×SAnn):=[(28,bj 40),(74,{ι:=uD,slots:=fun j=>[(9,.nm 0 0),(11,.own 1),(12,.own 2)],rows:=fun j=>[zHg j.m,zKs j.ids,zKs j.left],slots0:=fun j=>[(9,.nm 0 0),(11,.own 1),(12,.own 2)],rows0:=fun j=>[zHg j.m,zKs j.ids,zKs j.left]}),(132,slJ),(88,slJ),(164,bj 233)]
open Go Cv Go.Proofs
def yCu (i:BiI):Prop:=
 ∃(o:Unit),(1:Int)=(1:Int)∧i.id=i.id∧i.inst=i.inst∧(1:Int)=(1:Int)∧i.price=i.price∧i.qty=i.qty∧(0:Int)=(0:Int)∧(1:Int)=(1:Int)∧sb []=ByteArray.mk #[]∧True
theorem yBs (hG:GOk Tryz.prog ([])) (h:∀(i:BiI),bidC.cnd i→yCu i):bidC.ok Tryz.prog 18:=okw mixed hG 0 (fun _=>[]) (fun _=>[]) [] Tryz.func18 h
def yCc (i:BiI):Prop:=
 ∃(i_1:BiI),i_1.id=i.id∧i_1.inst=i.inst∧i_1.price=i.price∧i_1.qty=i.qty∧True∧∀(o:Unit),True→∃(o:Unit),(1:Int)=(1:Int)∧i.id=i_1.id∧i.inst=i_1.inst∧(2:Int)=(2:Int)∧i.price=i_1.price∧i.qty=i_1.qty∧(0:Int)=(0:Int)∧(1:Int)=(1:Int)∧sb []=sb []∧True
theorem yCf (hG:GOk Tryz.prog ([(18,bidC)])) (h:∀(i:BiI),askC.cnd i→yCc i):askC.ok Tryz.prog 14:=okw mixed hG 0 (fun _=>[]) (fun _=>[]) [] Tryz.func14 h
def yAj (i:BiI):Prop:=
 ∃(o:Unit),i.inst=i.inst∧i.id=i.id∧(0:Int)=(0:Int)∧(0:Int)=(0:Int)∧i.price=i.price∧i.qty=i.qty∧(0:Int)=(0:Int)∧(0:Int)=(0:Int)∧sb []=ByteArray.mk #[]∧True
theorem yAr (hG:GOk Tryz.prog ([])) (h:∀(i:BiI),chgC.cnd i→yAj i):chgC.ok Tryz.prog 16:=okw mixed hG 0 (fun _=>[]) (fun _=>[]) [] Tryz.func16 h
def zUt (i:WhI):Prop:=
 ∃(o:Unit),i.c.kind=i.c.kind∧i.c.id=i.c.id∧i.c.inst=i.c.inst∧i.c.side=i.c.side∧i.c.price=i.c.price∧i.c.qty=i.c.qty∧i.least=i.least∧i.time=i.time∧sb i.c.label=sb i.c.label∧True
theorem zZf (hG:GOk Tryz.prog ([])) (h:∀(i:WhI),withC.cnd i→zUt i):withC.ok Tryz.prog 17:=okw mixed hG 0 (fun _=>[]) (fun _=>[]) [] Tryz.func17 h
@[reducible] def zUf (i:BiI) (o:Unit) (i0:uD) (I:uD→Prop) (i_5:WiI) (n:Int) (i_6:WiI):Prop:=∀(o:Unit),True→∃(i_8:EnI),i_8.c.kind=i.inst∧i_8.c.id=i.id∧i_8.c.inst=0∧i_8.c.side=0∧i_8.c.price=i.price∧i_8.c.qty=i.qty∧i_8.c.least=0∧i_8.c.time=0∧sb i_8.c.label=sb []∧AObj.adt Mkt 5 zR i_8.m=AObj.adt Mkt 5 zR i0.m∧((i_8.m.Rep i_8.p i_8.B i_8.U∧BOk i_8.p i_8.B)∧i_8.c.label.length≤140737488355328∧((-9223372036854775808)≤i_8.c.qty∧i_8.c.qty≤9223372036854775807)∧i_8.X=doF i_8.p i_8.B i_8.U i_8.c)∧∀(o:Mkt),o.Rep i_8.p i_8.X.B i_8.X.U→(0≤zF i_5.n i_5.lo i_5.hi∧zF i_5.n i_5.lo i_5.hi<(↑(iE i0.left).length:Int))∧∃(n:Int),zI (iE i0.left) (zF i_5.n i_5.lo i_5.hi).toNat 0 1=some [D.v (.int .i64 n)]∧(0≤zF i_5.n i_5.lo i_5.hi∧zF i_5.n i_5.lo i_5.hi<(↑(iE i0.left).length:Int))∧(zF i_5.n i_5.lo i_5.hi).toNat<(iE i0.left).length∧∃(i':uD),AObj.adt Mkt 5 zR i'.m=AObj.adt Mkt 5 zR o∧iE i'.ids=iE i0.ids∧iE i'.left=zK (iE i0.left) (zF i_5.n i_5.lo i_5.hi).toNat 0 [D.v (.int .i64 (IntKind.i64.wrap (n-IntKind.i64.wrap (1+zF i_6.n i_6.lo i_6.hi))))]∧I i'∧True
def Vpl (i:PlcI):Prop:=
 ∃(i_1:Int),i_1=1∧True∧∀(o:Unit),True→∃(i_2:Prd),sb i_2.code=sb [(67:UInt8),(76:UInt8)]∧iE i_2.months=iE [(320:Int),(321:Int),(323:Int)]∧i_2.tick=5∧i_2.low=0∧i_2.high=1000∧i_2.wide=200∧i_2.rule=i_1∧i_2.top=4∧i_2.least=2∧i_2.part=40∧iE i_2.settle=iE [(500:Int),(505:Int),(490:Int)]∧(i_2.code.length≤1099511627776∧i_2.months.length≤1099511627776∧i_2.settle.length≤1099511627776)∧(∀(o:Unit),i_2.check=0→∃(i0:uD),(↑i0.j:Int)=0∧AObj.adt Mkt 5 zR i0.m=AObj.adt Mkt 5 zR (Mkt.mk i_2 (wJ i_2) [])∧iE i0.ids=[]∧iE i0.left=[]∧∃(I:uD→Prop),∃(μ:uD→Nat),I i0∧∀(i_3:uD),I i_3→∃(i0:Bool),∃(I_1:Bool→Prop),cnd (decide ((↑i_3.j:Int)<(↑(iE i.qtys).length:Int))) (∃(i':Bool),i'=decide ((↑i_3.j:Int)<12)∧I_1 i'∧AObj.adt Mkt 5 zR i_3.m=AObj.adt Mkt 5 zR i_3.m∧AObj.own 2 1 (iE i_3.ids)=AObj.own 2 1 (iE i_3.ids)∧AObj.own 2 1 (iE i_3.left)=AObj.own 2 1 (iE i_3.left)) (∃(i':Bool),i'=false∧I_1 i'∧AObj.adt Mkt 5 zR i_3.m=AObj.adt Mkt 5 zR i_3.m∧AObj.own 2 1 (iE i_3.ids)=AObj.own 2 1 (iE i_3.ids)∧AObj.own 2 1 (iE i_3.left)=AObj.own 2 1 (iE i_3.left))∧∀(i_4:Bool),I_1 i_4→cnd i_4 ((0≤(↑i_3.j:Int)∧(↑i_3.j:Int)<(↑(iE i.qtys).length:Int))∧∃(n:Int),zI (iE i.qtys) (↑i_3.j:Int).toNat 0 1=some [D.v (.int .i64 n)]∧∃(i:WiI),i.n=n∧i.lo=0∧i.hi=20∧(((-9223372036854775808)≤i.n∧i.n≤9223372036854775807)∧(-1000000)≤i.lo∧i.lo≤i.hi∧i.hi≤1000000)∧∀(o:Unit),True→∃(i_5:BiI),i_5.id=IntKind.i64.wrap ((↑i_3.j:Int)+1)∧i_5.inst=0∧i_5.price=500∧i_5.qty=IntKind.i64.wrap (2+zF i.n i.lo i.hi)∧True∧∀(o:Unit),True→∃(i_6:EnI),i_6.c.kind=1∧i_6.c.id=i_5.id∧i_6.c.inst=i_5.inst∧i_6.c.side=2∧i_6.c.price=i_5.price∧i_6.c.qty=i_5.qty∧i_6.c.least=0∧i_6.c.time=1∧sb i_6.c.label=sb []∧AObj.adt Mkt 5 zR i_6.m=AObj.adt Mkt 5 zR i_3.m∧((i_6.m.Rep i_6.p i_6.B i_6.U∧BOk i_6.p i_6.B)∧i_6.c.label.length≤140737488355328∧((-9223372036854775808)≤i_6.c.qty∧i_6.c.qty≤9223372036854775807)∧i_6.X=doF i_6.p i_6.B i_6.U i_6.c)∧∀(o:Mkt),o.Rep i_6.p i_6.X.B i_6.X.U→((iE i_3.ids).length+1)*(8:Nat)≤(70368744177664:Nat)∧((iE i_3.left).length+1)*(8:Nat)≤(70368744177664:Nat)∧∃(i':uD),(↑i'.j:Int)=IntKind.i64.wrap ((↑i_3.j:Int)+1)∧AObj.adt Mkt 5 zR i'.m=AObj.adt Mkt 5 zR o∧iE i'.ids=iE i_3.ids++[[D.v (.int .i64 (IntKind.i64.wrap ((↑i_3.j:Int)+1)))]]∧iE i'.left=iE i_3.left++[[D.v (.int .i64 (IntKind.i64.wrap (2+zF i.n i.lo i.hi)))]]∧I i'∧μ i'<μ i_3∧True) (cnd ((↑(iE i_3.ids).length:Int)==0) (∃(i:Unit),True∧∀(o:Unit),True→∃(o:Unit),true=true∧True) (∃(i_5:WiI),i_5.n=i.which∧i_5.lo=0∧i_5.hi=IntKind.i64.wrap ((↑(iE i_3.ids).length:Int)-1)∧(((-9223372036854775808)≤i_5.n∧i_5.n≤9223372036854775807)∧(-1000000)≤i_5.lo∧i_5.lo≤i_5.hi∧i_5.hi≤1000000)∧∀(o:Unit),True→(0≤zF i_5.n i_5.lo i_5.hi∧zF i_5.n i_5.lo i_5.hi<(↑(iE i_3.left).length:Int))∧∃(n:Int),zI (iE i_3.left) (zF i_5.n i_5.lo i_5.hi).toNat 0 1=some [D.v (.int .i64 n)]∧∃(i_6:WiI),i_6.n=i.by_∧i_6.lo=0∧i_6.hi=IntKind.i64.wrap (n-2)∧(((-9223372036854775808)≤i_6.n∧i_6.n≤9223372036854775807)∧(-1000000)≤i_6.lo∧i_6.lo≤i_6.hi∧i_6.hi≤1000000)∧∀(o:Unit),True→(0≤zF i_5.n i_5.lo i_5.hi∧zF i_5.n i_5.lo i_5.hi<(↑(iE i_3.ids).length:Int))∧∃(n:Int),zI (iE i_3.ids) (zF i_5.n i_5.lo i_5.hi).toNat 0 1=some [D.v (.int .i64 n)]∧∃(i0:uD),AObj.adt Mkt 5 zR i0.m=AObj.adt Mkt 5 zR i_3.m∧iE i0.ids=iE i_3.ids∧iE i0.left=iE i_3.left∧∃(I:uD→Prop),(∃(i_7:WiI),i_7.n=i.how∧i_7.lo=0∧i_7.hi=3∧(((-9223372036854775808)≤i_7.n∧i_7.n≤9223372036854775807)∧(-1000000)≤i_7.lo∧i_7.lo≤i_7.hi∧i_7.hi≤1000000)∧∀(o:Unit),True→cnd (zF i_7.n i_7.lo i_7.hi==0) (∃(i:BiI),i.inst=3∧i.id=n∧i.price=0∧i.qty=IntKind.i64.wrap (1+zF i_6.n i_6.lo i_6.hi)∧True∧zUf i o i0 I i_5 n i_6) (cnd (zF i_7.n i_7.lo i_7.hi==1) ((0≤zF i_5.n i_5.lo i_5.hi∧zF i_5.n i_5.lo i_5.hi<(↑(iE i0.left).length:Int))∧∃(n_1:Int),zI (iE i0.left) (zF i_5.n i_5.lo i_5.hi).toNat 0 1=some [D.v (.int .i64 n_1)]∧∃(i:BiI),i.inst=4∧i.id=n∧i.price=500∧i.qty=IntKind.i64.wrap (n_1-IntKind.i64.wrap (1+zF i_6.n i_6.lo i_6.hi))∧True∧zUf i o i0 I i_5 n i_6) (cnd (zF i_7.n i_7.lo i_7.hi==2) ((0≤zF i_5.n i_5.lo i_5.hi∧zF i_5.n i_5.lo i_5.hi<(↑(iE i0.left).length:Int))∧∃(n_1:Int),zI (iE i0.left) (zF i_5.n i_5.lo i_5.hi).toNat 0 1=some [D.v (.int .i64 n_1)]∧∃(i:BiI),i.inst=4∧i.id=n∧i.price=500∧i.qty=IntKind.i64.wrap (n_1+IntKind.i64.wrap (1+zF i_6.n i_6.lo i_6.hi))∧True∧∀(o:Unit),True→∃(i_8:EnI),i_8.c.kind=i.inst∧i_8.c.id=i.id∧i_8.c.inst=0∧i_8.c.side=0∧i_8.c.price=i.price∧i_8.c.qty=i.qty∧i_8.c.least=0∧i_8.c.time=0∧sb i_8.c.label=sb []∧AObj.adt Mkt 5 zR i_8.m=AObj.adt Mkt 5 zR i0.m∧((i_8.m.Rep i_8.p i_8.B i_8.U∧BOk i_8.p i_8.B)∧i_8.c.label.length≤140737488355328∧((-9223372036854775808)≤i_8.c.qty∧i_8.c.qty≤9223372036854775807)∧i_8.X=doF i_8.p i_8.B i_8.U i_8.c)∧∀(o:Mkt),o.Rep i_8.p i_8.X.B i_8.X.U→∃(i0_1:List Int×List Int),iE i0_1.fst=iE i0.ids∧iE i0_1.snd=iE i0.left∧∃(I_2:List Int×List Int→Prop),((0≤zF i_5.n i_5.lo i_5.hi∧zF i_5.n i_5.lo i_5.hi≤(↑(iE i0_1.fst).length:Int))∧(0≤IntKind.i64.wrap (zF i_5.n i_5.lo i_5.hi+1)∧IntKind.i64.wrap (zF i_5.n i_5.lo i_5.hi+1)≤(↑(iE i0_1.fst).length:Int))∧(((0+(List.take (zF i_5.n i_5.lo i_5.hi).toNat (iE i0_1.fst)).length)*(8:Nat)≤(70368744177664:Nat)∧((([]++List.take (zF i_5.n i_5.lo i_5.hi).toNat (iE i0_1.fst)).length+(List.drop (IntKind.i64.wrap (zF i_5.n i_5.lo i_5.hi+1)).toNat (iE i0_1.fst)).length)*(8:Nat)≤(70368744177664:Nat)∧(([]++List.take (zF i_5.n i_5.lo i_5.hi).toNat (iE i0_1.fst)++List.drop (IntKind.i64.wrap (zF i_5.n i_5.lo i_5.hi+1)).toNat (iE i0_1.fst)).length+1)*(8:Nat)≤(70368744177664:Nat)∧∃(i':List Int×List Int),iE i'.snd=iE i0_1.snd∧iE i'.fst=[]++List.take (zF i_5.n i_5.lo i_5.hi).toNat (iE i0_1.fst)++List.drop (IntKind.i64.wrap (zF i_5.n i_5.lo i_5.hi+1)).toNat (iE i0_1.fst)++[[D.v (.int .i64 n)]]∧I_2 i'∧AObj.adt Mkt 5 zR o=AObj.adt Mkt 5 zR o∧AObj.own tRp 8 (List.map z9 i_8.X.R)=AObj.own tRp 8 (List.map z9 i_8.X.R)∧AObj.fro 1 (iE i0.ids)=AObj.fro 1 (iE i0.ids)∧AObj.fro 1 (iE i0.left)=AObj.fro 1 (iE i0.left))∧(([]++List.take (zF i_5.n i_5.lo i_5.hi).toNat (iE i0_1.fst)).length+(List.drop (IntKind.i64.wrap (zF i_5.n i_5.lo i_5.hi+1)).toNat (iE i0_1.fst)).length)*(8:Nat)≤(70368744177664:Nat)∧(([]++List.take (zF i_5.n i_5.lo i_5.hi).toNat (iE i0_1.fst)++List.drop (IntKind.i64.wrap (zF i_5.n i_5.lo i_5.hi+1)).toNat (iE i0_1.fst)).length+1)*(8:Nat)≤(70368744177664:Nat)∧∃(i':List Int×List Int),iE i'.snd=iE i0_1.snd∧iE i'.fst=[]++List.take (zF i_5.n i_5.lo i_5.hi).toNat (iE i0_1.fst)++List.drop (IntKind.i64.wrap (zF i_5.n i_5.lo i_5.hi+1)).toNat (iE i0_1.fst)++[[D.v (.int .i64 n)]]∧I_2 i'∧AObj.adt Mkt 5 zR o=AObj.adt Mkt 5 zR o∧AObj.own tRp 8 (List.map z9 i_8.X.R)=AObj.own tRp 8 (List.map z9 i_8.X.R)∧AObj.fro 1 (iE i0.ids)=AObj.fro 1 (iE i0.ids)∧AObj.fro 1 (iE i0.left)=AObj.fro 1 (iE i0.left))∧(0+(List.take (zF i_5.n i_5.lo i_5.hi).toNat (iE i0_1.fst)).length)*(8:Nat)≤(70368744177664:Nat)∧(([]++List.take (zF i_5.n i_5.lo i_5.hi).toNat (iE i0_1.fst)).length+(List.drop (IntKind.i64.wrap (zF i_5.n i_5.lo i_5.hi+1)).toNat (iE i0_1.fst)).length)*(8:Nat)≤(70368744177664:Nat)∧(([]++List.take (zF i_5.n i_5.lo i_5.hi).toNat (iE i0_1.fst)++List.drop (IntKind.i64.wrap (zF i_5.n i_5.lo i_5.hi+1)).toNat (iE i0_1.fst)).length+1)*(8:Nat)≤(70368744177664:Nat)∧∃(i':List Int×List Int),iE i'.snd=iE i0_1.snd∧iE i'.fst=[]++List.take (zF i_5.n i_5.lo i_5.hi).toNat (iE i0_1.fst)++List.drop (IntKind.i64.wrap (zF i_5.n i_5.lo i_5.hi+1)).toNat (iE i0_1.fst)++[[D.v (.int .i64 n)]]∧I_2 i'∧AObj.adt Mkt 5 zR o=AObj.adt Mkt 5 zR o∧AObj.own tRp 8 (List.map z9 i_8.X.R)=AObj.own tRp 8 (List.map z9 i_8.X.R)∧AObj.fro 1 (iE i0.ids)=AObj.fro 1 (iE i0.ids)∧AObj.fro 1 (iE i0.left)=AObj.fro 1 (iE i0.left))∧(0+(List.take (zF i_5.n i_5.lo i_5.hi).toNat (iE i0_1.fst)).length)*(8:Nat)≤(70368744177664:Nat)∧(([]++List.take (zF i_5.n i_5.lo i_5.hi).toNat (iE i0_1.fst)).length+(List.drop (IntKind.i64.wrap (zF i_5.n i_5.lo i_5.hi+1)).toNat (iE i0_1.fst)).length)*(8:Nat)≤(70368744177664:Nat)∧(([]++List.take (zF i_5.n i_5.lo i_5.hi).toNat (iE i0_1.fst)++List.drop (IntKind.i64.wrap (zF i_5.n i_5.lo i_5.hi+1)).toNat (iE i0_1.fst)).length+1)*(8:Nat)≤(70368744177664:Nat)∧∃(i':List Int×List Int),iE i'.snd=iE i0_1.snd∧iE i'.fst=[]++List.take (zF i_5.n i_5.lo i_5.hi).toNat (iE i0_1.fst)++List.drop (IntKind.i64.wrap (zF i_5.n i_5.lo i_5.hi+1)).toNat (iE i0_1.fst)++[[D.v (.int .i64 n)]]∧I_2 i'∧AObj.adt Mkt 5 zR o=AObj.adt Mkt 5 zR o∧AObj.own tRp 8 (List.map z9 i_8.X.R)=AObj.own tRp 8 (List.map z9 i_8.X.R)∧AObj.fro 1 (iE i0.ids)=AObj.fro 1 (iE i0.ids)∧AObj.fro 1 (iE i0.left)=AObj.fro 1 (iE i0.left))∧∀(i:List Int×List Int),I_2 i→(0≤zF i_5.n i_5.lo i_5.hi∧zF i_5.n i_5.lo i_5.hi≤(↑(iE i.snd).length:Int))∧(0≤IntKind.i64.wrap (zF i_5.n i_5.lo i_5.hi+1)∧IntKind.i64.wrap (zF i_5.n i_5.lo i_5.hi+1)≤(↑(iE i.snd).length:Int))∧(((0+(List.take (zF i_5.n i_5.lo i_5.hi).toNat (iE i.snd)).length)*(8:Nat)≤(70368744177664:Nat)∧((([]++List.take (zF i_5.n i_5.lo i_5.hi).toNat (iE i.snd)).length+(List.drop (IntKind.i64.wrap (zF i_5.n i_5.lo i_5.hi+1)).toNat (iE i.snd)).length)*(8:Nat)≤(70368744177664:Nat)∧(([]++List.take (zF i_5.n i_5.lo i_5.hi).toNat (iE i.snd)++List.drop (IntKind.i64.wrap (zF i_5.n i_5.lo i_5.hi+1)).toNat (iE i.snd)).length+1)*(8:Nat)≤(70368744177664:Nat)∧∃(i':uD),AObj.adt Mkt 5 zR i'.m=AObj.adt Mkt 5 zR o∧iE i'.ids=iE i.fst∧iE i'.left=[]++List.take (zF i_5.n i_5.lo i_5.hi).toNat (iE i.snd)++List.drop (IntKind.i64.wrap (zF i_5.n i_5.lo i_5.hi+1)).toNat (iE i.snd)++[[D.v (.int .i64 (IntKind.i64.wrap (n_1+IntKind.i64.wrap (1+zF i_6.n i_6.lo i_6.hi))))]]∧I i'∧True)∧(([]++List.take (zF i_5.n i_5.lo i_5.hi).toNat (iE i.snd)).length+(List.drop (IntKind.i64.wrap (zF i_5.n i_5.lo i_5.hi+1)).toNat (iE i.snd)).length)*(8:Nat)≤(70368744177664:Nat)∧(([]++List.take (zF i_5.n i_5.lo i_5.hi).toNat (iE i.snd)++List.drop (IntKind.i64.wrap (zF i_5.n i_5.lo i_5.hi+1)).toNat (iE i.snd)).length+1)*(8:Nat)≤(70368744177664:Nat)∧∃(i':uD),AObj.adt Mkt 5 zR i'.m=AObj.adt Mkt 5 zR o∧iE i'.ids=iE i.fst∧iE i'.left=[]++List.take (zF i_5.n i_5.lo i_5.hi).toNat (iE i.snd)++List.drop (IntKind.i64.wrap (zF i_5.n i_5.lo i_5.hi+1)).toNat (iE i.snd)++[[D.v (.int .i64 (IntKind.i64.wrap (n_1+IntKind.i64.wrap (1+zF i_6.n i_6.lo i_6.hi))))]]∧I i'∧True)∧(0+(List.take (zF i_5.n i_5.lo i_5.hi).toNat (iE i.snd)).length)*(8:Nat)≤(70368744177664:Nat)∧(([]++List.take (zF i_5.n i_5.lo i_5.hi).toNat (iE i.snd)).length+(List.drop (IntKind.i64.wrap (zF i_5.n i_5.lo i_5.hi+1)).toNat (iE i.snd)).length)*(8:Nat)≤(70368744177664:Nat)∧(([]++List.take (zF i_5.n i_5.lo i_5.hi).toNat (iE i.snd)++List.drop (IntKind.i64.wrap (zF i_5.n i_5.lo i_5.hi+1)).toNat (iE i.snd)).length+1)*(8:Nat)≤(70368744177664:Nat)∧∃(i':uD),AObj.adt Mkt 5 zR i'.m=AObj.adt Mkt 5 zR o∧iE i'.ids=iE i.fst∧iE i'.left=[]++List.take (zF i_5.n i_5.lo i_5.hi).toNat (iE i.snd)++List.drop (IntKind.i64.wrap (zF i_5.n i_5.lo i_5.hi+1)).toNat (iE i.snd)++[[D.v (.int .i64 (IntKind.i64.wrap (n_1+IntKind.i64.wrap (1+zF i_6.n i_6.lo i_6.hi))))]]∧I i'∧True)∧(0+(List.take (zF i_5.n i_5.lo i_5.hi).toNat (iE i.snd)).length)*(8:Nat)≤(70368744177664:Nat)∧(([]++List.take (zF i_5.n i_5.lo i_5.hi).toNat (iE i.snd)).length+(List.drop (IntKind.i64.wrap (zF i_5.n i_5.lo i_5.hi+1)).toNat (iE i.snd)).length)*(8:Nat)≤(70368744177664:Nat)∧(([]++List.take (zF i_5.n i_5.lo i_5.hi).toNat (iE i.snd)++List.drop (IntKind.i64.wrap (zF i_5.n i_5.lo i_5.hi+1)).toNat (iE i.snd)).length+1)*(8:Nat)≤(70368744177664:Nat)∧∃(i':uD),AObj.adt Mkt 5 zR i'.m=AObj.adt Mkt 5 zR o∧iE i'.ids=iE i.fst∧iE i'.left=[]++List.take (zF i_5.n i_5.lo i_5.hi).toNat (iE i.snd)++List.drop (IntKind.i64.wrap (zF i_5.n i_5.lo i_5.hi+1)).toNat (iE i.snd)++[[D.v (.int .i64 (IntKind.i64.wrap (n_1+IntKind.i64.wrap (1+zF i_6.n i_6.lo i_6.hi))))]]∧I i'∧True) ((0≤zF i_5.n i_5.lo i_5.hi∧zF i_5.n i_5.lo i_5.hi<(↑(iE i0.left).length:Int))∧∃(n_1:Int),zI (iE i0.left) (zF i_5.n i_5.lo i_5.hi).toNat 0 1=some [D.v (.int .i64 n_1)]∧∃(i:BiI),i.inst=4∧i.id=n∧i.price=505∧i.qty=n_1∧True∧∀(o:Unit),True→∃(i_8:EnI),i_8.c.kind=i.inst∧i_8.c.id=i.id∧i_8.c.inst=0∧i_8.c.side=0∧i_8.c.price=i.price∧i_8.c.qty=i.qty∧i_8.c.least=0∧i_8.c.time=0∧sb i_8.c.label=sb []∧AObj.adt Mkt 5 zR i_8.m=AObj.adt Mkt 5 zR i0.m∧((i_8.m.Rep i_8.p i_8.B i_8.U∧BOk i_8.p i_8.B)∧i_8.c.label.length≤140737488355328∧((-9223372036854775808)≤i_8.c.qty∧i_8.c.qty≤9223372036854775807)∧i_8.X=doF i_8.p i_8.B i_8.U i_8.c)∧∀(o:Mkt),o.Rep i_8.p i_8.X.B i_8.X.U→∃(i:BiI),i.inst=4∧i.id=n∧i.price=500∧i.qty=n_1∧True∧∀(o_1:Unit),True→∃(i_9:EnI),i_9.c.kind=i.inst∧i_9.c.id=i.id∧i_9.c.inst=0∧i_9.c.side=0∧i_9.c.price=i.price∧i_9.c.qty=i.qty∧i_9.c.least=0∧i_9.c.time=0∧sb i_9.c.label=sb []∧AObj.adt Mkt 5 zR i_9.m=AObj.adt Mkt 5 zR o∧((i_9.m.Rep i_9.p i_9.B i_9.U∧BOk i_9.p i_9.B)∧i_9.c.label.length≤140737488355328∧((-9223372036854775808)≤i_9.c.qty∧i_9.c.qty≤9223372036854775807)∧i_9.X=doF i_9.p i_9.B i_9.U i_9.c)∧∀(o:Mkt),o.Rep i_9.p i_9.X.B i_9.X.U→∃(i0_1:List Int×List Int),iE i0_1.fst=iE i0.ids∧iE i0_1.snd=iE i0.left∧∃(I_2:List Int×List Int→Prop),((0≤zF i_5.n i_5.lo i_5.hi∧zF i_5.n i_5.lo i_5.hi≤(↑(iE i0_1.fst).length:Int))∧(0≤IntKind.i64.wrap (zF i_5.n i_5.lo i_5.hi+1)∧IntKind.i64.wrap (zF i_5.n i_5.lo i_5.hi+1)≤(↑(iE i0_1.fst).length:Int))∧(((0+(List.take (zF i_5.n i_5.lo i_5.hi).toNat (iE i0_1.fst)).length)*(8:Nat)≤(70368744177664:Nat)∧((([]++List.take (zF i_5.n i_5.lo i_5.hi).toNat (iE i0_1.fst)).length+(List.drop (IntKind.i64.wrap (zF i_5.n i_5.lo i_5.hi+1)).toNat (iE i0_1.fst)).length)*(8:Nat)≤(70368744177664:Nat)∧(([]++List.take (zF i_5.n i_5.lo i_5.hi).toNat (iE i0_1.fst)++List.drop (IntKind.i64.wrap (zF i_5.n i_5.lo i_5.hi+1)).toNat (iE i0_1.fst)).length+1)*(8:Nat)≤(70368744177664:Nat)∧∃(i':List Int×List Int),iE i'.snd=iE i0_1.snd∧iE i'.fst=[]++List.take (zF i_5.n i_5.lo i_5.hi).toNat (iE i0_1.fst)++List.drop (IntKind.i64.wrap (zF i_5.n i_5.lo i_5.hi+1)).toNat (iE i0_1.fst)++[[D.v (.int .i64 n)]]∧I_2 i'∧AObj.adt Mkt 5 zR o=AObj.adt Mkt 5 zR o∧AObj.own tRp 8 (List.map z9 i_9.X.R)=AObj.own tRp 8 (List.map z9 i_9.X.R)∧AObj.own tRp 8 (List.map z9 i_8.X.R)=AObj.own tRp 8 (List.map z9 i_8.X.R)∧AObj.fro 1 (iE i0.ids)=AObj.fro 1 (iE i0.ids)∧AObj.fro 1 (iE i0.left)=AObj.fro 1 (iE i0.left))∧(([]++List.take (zF i_5.n i_5.lo i_5.hi).toNat (iE i0_1.fst)).length+(List.drop (IntKind.i64.wrap (zF i_5.n i_5.lo i_5.hi+1)).toNat (iE i0_1.fst)).length)*(8:Nat)≤(70368744177664:Nat)∧(([]++List.take (zF i_5.n i_5.lo i_5.hi).toNat (iE i0_1.fst)++List.drop (IntKind.i64.wrap (zF i_5.n i_5.lo i_5.hi+1)).toNat (iE i0_1.fst)).length+1)*(8:Nat)≤(70368744177664:Nat)∧∃(i':List Int×List Int),iE i'.snd=iE i0_1.snd∧iE i'.fst=[]++List.take (zF i_5.n i_5.lo i_5.hi).toNat (iE i0_1.fst)++List.drop (IntKind.i64.wrap (zF i_5.n i_5.lo i_5.hi+1)).toNat (iE i0_1.fst)++[[D.v (.int .i64 n)]]∧I_2 i'∧AObj.adt Mkt 5 zR o=AObj.adt Mkt 5 zR o∧AObj.own tRp 8 (List.map z9 i_9.X.R)=AObj.own tRp 8 (List.map z9 i_9.X.R)∧AObj.own tRp 8 (List.map z9 i_8.X.R)=AObj.own tRp 8 (List.map z9 i_8.X.R)∧AObj.fro 1 (iE i0.ids)=AObj.fro 1 (iE i0.ids)∧AObj.fro 1 (iE i0.left)=AObj.fro 1 (iE i0.left))∧(0+(List.take (zF i_5.n i_5.lo i_5.hi).toNat (iE i0_1.fst)).length)*(8:Nat)≤(70368744177664:Nat)∧(([]++List.take (zF i_5.n i_5.lo i_5.hi).toNat (iE i0_1.fst)).length+(List.drop (IntKind.i64.wrap (zF i_5.n i_5.lo i_5.hi+1)).toNat (iE i0_1.fst)).length)*(8:Nat)≤(70368744177664:Nat)∧(([]++List.take (zF i_5.n i_5.lo i_5.hi).toNat (iE i0_1.fst)++List.drop (IntKind.i64.wrap (zF i_5.n i_5.lo i_5.hi+1)).toNat (iE i0_1.fst)).length+1)*(8:Nat)≤(70368744177664:Nat)∧∃(i':List Int×List Int),iE i'.snd=iE i0_1.snd∧iE i'.fst=[]++List.take (zF i_5.n i_5.lo i_5.hi).toNat (iE i0_1.fst)++List.drop (IntKind.i64.wrap (zF i_5.n i_5.lo i_5.hi+1)).toNat (iE i0_1.fst)++[[D.v (.int .i64 n)]]∧I_2 i'∧AObj.adt Mkt 5 zR o=AObj.adt Mkt 5 zR o∧AObj.own tRp 8 (List.map z9 i_9.X.R)=AObj.own tRp 8 (List.map z9 i_9.X.R)∧AObj.own tRp 8 (List.map z9 i_8.X.R)=AObj.own tRp 8 (List.map z9 i_8.X.R)∧AObj.fro 1 (iE i0.ids)=AObj.fro 1 (iE i0.ids)∧AObj.fro 1 (iE i0.left)=AObj.fro 1 (iE i0.left))∧(0+(List.take (zF i_5.n i_5.lo i_5.hi).toNat (iE i0_1.fst)).length)*(8:Nat)≤(70368744177664:Nat)∧(([]++List.take (zF i_5.n i_5.lo i_5.hi).toNat (iE i0_1.fst)).length+(List.drop (IntKind.i64.wrap (zF i_5.n i_5.lo i_5.hi+1)).toNat (iE i0_1.fst)).length)*(8:Nat)≤(70368744177664:Nat)∧(([]++List.take (zF i_5.n i_5.lo i_5.hi).toNat (iE i0_1.fst)++List.drop (IntKind.i64.wrap (zF i_5.n i_5.lo i_5.hi+1)).toNat (iE i0_1.fst)).length+1)*(8:Nat)≤(70368744177664:Nat)∧∃(i':List Int×List Int),iE i'.snd=iE i0_1.snd∧iE i'.fst=[]++List.take (zF i_5.n i_5.lo i_5.hi).toNat (iE i0_1.fst)++List.drop (IntKind.i64.wrap (zF i_5.n i_5.lo i_5.hi+1)).toNat (iE i0_1.fst)++[[D.v (.int .i64 n)]]∧I_2 i'∧AObj.adt Mkt 5 zR o=AObj.adt Mkt 5 zR o∧AObj.own tRp 8 (List.map z9 i_9.X.R)=AObj.own tRp 8 (List.map z9 i_9.X.R)∧AObj.own tRp 8 (List.map z9 i_8.X.R)=AObj.own tRp 8 (List.map z9 i_8.X.R)∧AObj.fro 1 (iE i0.ids)=AObj.fro 1 (iE i0.ids)∧AObj.fro 1 (iE i0.left)=AObj.fro 1 (iE i0.left))∧∀(i:List Int×List Int),I_2 i→(0≤zF i_5.n i_5.lo i_5.hi∧zF i_5.n i_5.lo i_5.hi≤(↑(iE i.snd).length:Int))∧(0≤IntKind.i64.wrap (zF i_5.n i_5.lo i_5.hi+1)∧IntKind.i64.wrap (zF i_5.n i_5.lo i_5.hi+1)≤(↑(iE i.snd).length:Int))∧(((0+(List.take (zF i_5.n i_5.lo i_5.hi).toNat (iE i.snd)).length)*(8:Nat)≤(70368744177664:Nat)∧((([]++List.take (zF i_5.n i_5.lo i_5.hi).toNat (iE i.snd)).length+(List.drop (IntKind.i64.wrap (zF i_5.n i_5.lo i_5.hi+1)).toNat (iE i.snd)).length)*(8:Nat)≤(70368744177664:Nat)∧(([]++List.take (zF i_5.n i_5.lo i_5.hi).toNat (iE i.snd)++List.drop (IntKind.i64.wrap (zF i_5.n i_5.lo i_5.hi+1)).toNat (iE i.snd)).length+1)*(8:Nat)≤(70368744177664:Nat)∧∃(i':uD),AObj.adt Mkt 5 zR i'.m=AObj.adt Mkt 5 zR o∧iE i'.ids=iE i.fst∧iE i'.left=[]++List.take (zF i_5.n i_5.lo i_5.hi).toNat (iE i.snd)++List.drop (IntKind.i64.wrap (zF i_5.n i_5.lo i_5.hi+1)).toNat (iE i.snd)++[[D.v (.int .i64 n_1)]]∧I i'∧True)∧(([]++List.take (zF i_5.n i_5.lo i_5.hi).toNat (iE i.snd)).length+(List.drop (IntKind.i64.wrap (zF i_5.n i_5.lo i_5.hi+1)).toNat (iE i.snd)).length)*(8:Nat)≤(70368744177664:Nat)∧(([]++List.take (zF i_5.n i_5.lo i_5.hi).toNat (iE i.snd)++List.drop (IntKind.i64.wrap (zF i_5.n i_5.lo i_5.hi+1)).toNat (iE i.snd)).length+1)*(8:Nat)≤(70368744177664:Nat)∧∃(i':uD),AObj.adt Mkt 5 zR i'.m=AObj.adt Mkt 5 zR o∧iE i'.ids=iE i.fst∧iE i'.left=[]++List.take (zF i_5.n i_5.lo i_5.hi).toNat (iE i.snd)++List.drop (IntKind.i64.wrap (zF i_5.n i_5.lo i_5.hi+1)).toNat (iE i.snd)++[[D.v (.int .i64 n_1)]]∧I i'∧True)∧(0+(List.take (zF i_5.n i_5.lo i_5.hi).toNat (iE i.snd)).length)*(8:Nat)≤(70368744177664:Nat)∧(([]++List.take (zF i_5.n i_5.lo i_5.hi).toNat (iE i.snd)).length+(List.drop (IntKind.i64.wrap (zF i_5.n i_5.lo i_5.hi+1)).toNat (iE i.snd)).length)*(8:Nat)≤(70368744177664:Nat)∧(([]++List.take (zF i_5.n i_5.lo i_5.hi).toNat (iE i.snd)++List.drop (IntKind.i64.wrap (zF i_5.n i_5.lo i_5.hi+1)).toNat (iE i.snd)).length+1)*(8:Nat)≤(70368744177664:Nat)∧∃(i':uD),AObj.adt Mkt 5 zR i'.m=AObj.adt Mkt 5 zR o∧iE i'.ids=iE i.fst∧iE i'.left=[]++List.take (zF i_5.n i_5.lo i_5.hi).toNat (iE i.snd)++List.drop (IntKind.i64.wrap (zF i_5.n i_5.lo i_5.hi+1)).toNat (iE i.snd)++[[D.v (.int .i64 n_1)]]∧I i'∧True)∧(0+(List.take (zF i_5.n i_5.lo i_5.hi).toNat (iE i.snd)).length)*(8:Nat)≤(70368744177664:Nat)∧(([]++List.take (zF i_5.n i_5.lo i_5.hi).toNat (iE i.snd)).length+(List.drop (IntKind.i64.wrap (zF i_5.n i_5.lo i_5.hi+1)).toNat (iE i.snd)).length)*(8:Nat)≤(70368744177664:Nat)∧(([]++List.take (zF i_5.n i_5.lo i_5.hi).toNat (iE i.snd)++List.drop (IntKind.i64.wrap (zF i_5.n i_5.lo i_5.hi+1)).toNat (iE i.snd)).length+1)*(8:Nat)≤(70368744177664:Nat)∧∃(i':uD),AObj.adt Mkt 5 zR i'.m=AObj.adt Mkt 5 zR o∧iE i'.ids=iE i.fst∧iE i'.left=[]++List.take (zF i_5.n i_5.lo i_5.hi).toNat (iE i.snd)++List.drop (IntKind.i64.wrap (zF i_5.n i_5.lo i_5.hi+1)).toNat (iE i.snd)++[[D.v (.int .i64 n_1)]]∧I i'∧True))))∧∀(i:uD),I i→∃(i_7:BiI),i_7.id=900∧i_7.inst=0∧i_7.price=500∧i_7.qty=500∧True∧∀(o:Unit),True→∃(i_8:WhI),i_8.c.kind=1∧i_8.c.id=i_7.id∧i_8.c.inst=i_7.inst∧i_8.c.side=1∧i_8.c.price=i_7.price∧i_8.c.qty=i_7.qty∧i_8.c.least=0∧i_8.c.time=1∧sb i_8.c.label=sb []∧i_8.time=2∧i_8.least=0∧True∧∀(o:Unit),True→∃(i_9:EnI),i_9.c.kind=i_8.c.kind∧i_9.c.id=i_8.c.id∧i_9.c.inst=i_8.c.inst∧i_9.c.side=i_8.c.side∧i_9.c.price=i_8.c.price∧i_9.c.qty=i_8.c.qty∧i_9.c.least=i_8.least∧i_9.c.time=i_8.time∧sb i_9.c.label=sb i_8.c.label∧AObj.adt Mkt 5 zR i_9.m=AObj.adt Mkt 5 zR i.m∧((i_9.m.Rep i_9.p i_9.B i_9.U∧BOk i_9.p i_9.B)∧i_9.c.label.length≤140737488355328∧((-9223372036854775808)≤i_9.c.qty∧i_9.c.qty≤9223372036854775807)∧i_9.X=doF i_9.p i_9.B i_9.U i_9.c)∧∀(o:Mkt),o.Rep i_9.p i_9.X.B i_9.X.U→cnd (decide ((↑(List.map z9 i_9.X.R).length:Int)<IntKind.i64.wrap ((↑(iE i.ids).length:Int)+2))) (∃(o:Unit),true=false∧True) (∃(i0:Nat),(↑i0:Int)=0∧∃(I:Nat→Prop),∃(μ:Nat→Nat),I i0∧∀(i_10:Nat),I i_10→cnd (decide ((↑i_10:Int)<(↑(iE i.ids).length:Int))) (∃(i0:Bool),∃(I_2:Bool→Prop),((0≤IntKind.i64.wrap ((↑i_10:Int)+1)∧IntKind.i64.wrap ((↑i_10:Int)+1)<(↑(List.map z9 i_9.X.R).length:Int))∧∃(n:Int),∃(n_1:Int),∃(n_2:Int),∃(n_3:Int),∃(n_4:Int),∃(n_5:Int),∃(n_6:Int),∃(n_7:Int),zI (List.map z9 i_9.X.R) (IntKind.i64.wrap ((↑i_10:Int)+1)).toNat 0 8=some [D.v (.int .i64 n),D.v (.int .i64 n_1),D.v (.int .i64 n_2),D.v (.int .i64 n_3),D.v (.int .i64 n_4),D.v (.int .i64 n_5),D.v (.int .i64 n_6),D.v (.int .i64 n_7)]∧(0≤(↑i_10:Int)∧(↑i_10:Int)<(↑(iE i.ids).length:Int))∧∃(n_8:Int),zI (iE i.ids) (↑i_10:Int).toNat 0 1=some [D.v (.int .i64 n_8)]∧(0≤(↑i_10:Int)∧(↑i_10:Int)<(↑(iE i.left).length:Int))∧∃(n_9:Int),zI (iE i.left) (↑i_10:Int).toNat 0 1=some [D.v (.int .i64 n_9)]∧∃(i':Bool),i'=!(n==3 && (n_1==n_8 && (n_2==0 && (n_3==2 && (n_4==500 && (n_5==n_9 && (n_6==0 && (n_7==0 && true))))))))∧I_2 i'∧AObj.adt Mkt 5 zR o=AObj.adt Mkt 5 zR o∧AObj.own tRp 8 (List.map z9 i_9.X.R)=AObj.own tRp 8 (List.map z9 i_9.X.R)∧AObj.own 2 1 (iE i.ids)=AObj.own 2 1 (iE i.ids)∧AObj.own 2 1 (iE i.left)=AObj.own 2 1 (iE i.left))∧∀(i_11:Bool),I_2 i_11→cnd i_11 (∃(o:Unit),true=false∧True) (∃(i':Nat),(↑i':Int)=IntKind.i64.wrap ((↑i_10:Int)+1)∧I i'∧μ i'<μ i_10∧AObj.adt Mkt 5 zR o=AObj.adt Mkt 5 zR o∧AObj.own tRp 8 (List.map z9 i_9.X.R)=AObj.own tRp 8 (List.map z9 i_9.X.R)∧AObj.own 2 1 (iE i.ids)=AObj.own 2 1 (iE i.ids)∧AObj.own 2 1 (iE i.left)=AObj.own 2 1 (iE i.left))) (∃(i:MfI),AObj.adt Mkt 5 zR i.m=AObj.adt Mkt 5 zR o∧(i.m.Rep i.p i.B i.U∧BOk i.p i.B)∧∀(o:Unit),True→cnd ((↑(cJ i.B):Int)==0) (∃(i:Unit),True∧∀(o:Unit),True→∃(o:Unit),true=true∧True) (∃(o:Unit),true=false∧True))))))∧∀(o:Unit),i_2.check≠0→∃(o:Unit),true=false∧True
theorem eqpl (i:PlcI):Vpl i=walk Tryz.prog ([(11,threeC),(10,newMC),(12,withinC),(18,bidC),(14,askC),(16,chgC),(17,withC),(13,doC),(19,mcountC),(15,known17C)]) 0 (plJ) (plA) [] Tryz.f3 (Tryz.f3.body.getD .skip) (plC.pat i) (plC.pre i) (plC.alts i):=by kernel_rfl
open Go Cv Go.Proofs
structure yEk where
 s:MSt
 p:Prd
 B:List (List zJ)
 inst:Int
 side:Int
 price:Int
 q:Int
structure HdI where
 s:List UInt8
 n:Int
open Go Cv Go.Proofs
open Go Cv Go.Proofs
open Go Cv Go.Proofs
def pp:Prd:=jZ 1
def BP (L:List zJ):List (List zJ):=[L,[],[],[],[],[]]
theorem zWr:pp.count=6:=by kernel_rfl
theorem zUo:List.replicate pp.count []=BP []:=by rw[zWr];rfl
theorem z1b (t:Top):y6 ⟨pp,[t,y9 [],y9 [],y9 [],y9 [],y9 []],0⟩ 1=[]:=by kernel_rfl
theorem zZg (t:Top):y6 ⟨pp,[t,y9 [],y9 [],y9 [],y9 [],y9 []],0⟩ 2=[]:=by kernel_rfl
theorem pN (L:List zJ):(BP L).map y9=[y9 L,y9 [],y9 [],y9 [],y9 [],y9 []]:=rfl
theorem z2t (t:Top):xS ⟨pp,[t,y9 [],y9 [],y9 [],y9 [],y9 []],0⟩ 1=[]:=by kernel_rfl
theorem z1g (t:Top):xS ⟨pp,[t,y9 [],y9 [],y9 [],y9 [],y9 []],0⟩ 2=[]:=by kernel_rfl
theorem jW:pp.price 0 500=0:=by decide+kernel
theorem nV:pp.price 0 505=0:=by decide+kernel
theorem zPf (L:List zJ) {s:Int} (hs:s=1∨s=2):zN pp (BP L) 0 s=if(bestL L s).2=true then(⟨(bestL L s).1.price,(bestL L s).1.qty,⟨0,0⟩,⟨0,0⟩⟩,false,true)else((zV [] s).1,false,false):=by
 have e:xS ⟨pp,(BP L).map y9,0⟩ s=[]:=by
  rcases hs with rfl|rfl
  ·rw[pN];exact z2t _
  ·rw[pN];exact z1g _
 rw[zN,e]
 have e2:(zV [] s).2=false:=rfl
 have e3:(BP L).getD (0:Int).toNat []=L:=rfl
 rw[e2,e3]
 cases (bestL L s).2<;>rfl
theorem dG {L:List zJ} (sd:Bool) (h:(bestL L (zB (!sd))).2=false) (price q:Int):xP pp (BP L) 0 sd price q=⟨[],q,BP L⟩:=by
 have hs:jH pp (BP L) 0 sd price q=none:=by
  have hn:zN pp (BP L) 0 (zB (!sd))=((zV [] (zB (!sd))).1,false,false):=by rw[zPf L (gU _),if_neg (by rw[h];decide)]
  rw[jH,hn];rfl
 by_cases hq:q≤0
 ·exact wF (.inl hq)
 ·exact wF (.inr hs)
theorem mB {L:List zJ} (sd:Bool) (h:(bestL L (zB (!sd))).2=false) (price q:Int):kI pp (BP L) 0 sd price q=false:=by
 rw[kI,dG sd h]
 have e:y6 ⟨pp,(BP L).map y9,0⟩ (zB (!sd))=[]:=by
  rcases gU (!sd)with e|e
  ·rw[e,pN];exact z1b _
  ·rw[e,pN];exact zZg _
 dsimp only
 rw[e]
 simp
def zO (x:Int) (l:List (Int×Int×Bool)):List zJ:=l.map fun a=>⟨a.1,2,x,a.2.1,a.2.2⟩
theorem zRw (x:Int) (l:List (Int×Int×Bool)):(zO x l).filter (fun o=>decide (o.side=2))=zO x l:=by
 rw[List.filter_eq_self];intro o ho
 obtain⟨a,_,rfl⟩:=List.mem_map.1 ho
 rfl
theorem zKz (x:Int) (l:List (Int×Int×Bool)):(zO x l).filter (fun o=>decide (o.side=1))=[]:=by
 rw[List.filter_eq_nil_iff];intro o ho
 obtain⟨a,_,rfl⟩:=List.mem_map.1 ho
 show ¬decide ((2:Int)=1)=true
 decide
theorem jP (x:Int) (l:List (Int×Int×Bool)):(bestL (zO x l) 1).2=false:=by
 rw[bestL,eV,zKz];rfl
theorem zHt (x:Int):∀(l:List (Int×Int×Bool)),l≠[]→grp (zO x l)=[⟨x,(l.map (·.2.1)).sum,l.length⟩]
 |[],h=>absurd rfl h
 |[a],_=>by simp[zO,grp]
 |a::b::l,_=>by
  have ih:=zHt x (b::l) (by simp)
  have e:zO x (a::b::l)=⟨a.1,2,x,a.2.1,a.2.2⟩::zO x (b::l):=rfl
  rw[e,grp,ih]
  simp
theorem tX (x:Int) {l:List (Int×Int×Bool)} (h:l≠[]):bestL (zO x l) 2=(⟨x,(l.map (·.2.1)).sum,l.length⟩,true):=by
 rw[bestL,eV,zRw,zHt x l h]
theorem zSm (x:Int) (l m:List (Int×Int×Bool)):zO x (l++m)=zO x l++zO x m:=List.map_append
theorem zUg (x:Int) (l:List (Int×Int×Bool)) (id q:Int):∃b,cY (zO x l) 2 id x q=zO x (l++[(id,q,b)]):=by
 have hb:btr 2 x x=false:=by simp[btr]
 have hall:∀o∈zO x l,before 2 x o=true:=by
  intro o ho
  obtain⟨a,_,rfl⟩:=List.mem_map.1 ho
  simp[before,hb]
 cases l with
 |nil=>exact⟨qD [] 2 x,by rw[cY];rfl⟩
 |cons a l=>
  have hl:qD (zO x (a::l)) 2 x=false:=by
   rw[zO,List.map_cons,qD,List.all_cons]
   simp[hb]
  refine⟨false,?_⟩
  rw[cY,hl]
  have h2:=zCn (f:=before 2 x) (A:=zO x (a::l)) (B:=[]) hall (fun y hy=>by cases hy)
  rw[List.append_nil]at h2
  rw[if_neg (by decide),h2.1,h2.2,zSm]
  rfl
theorem fU (x:Int) (l:List (Int×Int×Bool)):(zO x l).map (·.qty)=l.map (·.2.1):=by
 rw[zO,List.map_map];rfl
theorem zYx (x:Int) (l:List (Int×Int×Bool)):atL (zO x l) 2 x=zO x l:=by
 rw[atL,List.filter_eq_self];intro o ho
 obtain⟨a,_,rfl⟩:=List.mem_map.1 ho
 simp
theorem zPa:∀{l:List Int},(∀x∈l,1≤x)→(l.length:Int)≤l.sum
 |[],_=>Int.le_refl _
 |a::l,h=>by
  have:=zPa (l:=l) fun x hx=>h x (List.mem_cons_of_mem _ hx)
  have:=h a List.mem_cons_self
  rw[List.length_cons,List.sum_cons];omega
theorem yCs {l:List (Int×Int×Bool)} (hB:BWf pp (BP (zO 500 l))) (hne:l≠[]) (hq:(l.map (·.2.1)).sum<500):
 xP pp (BP (zO 500 l)) 0 false 500 500=⟨[⟨500,(l.map (·.2.1)).sum,false,yL 0 2 (zO 500 l) (l.map (·.2.1))⟩],500-(l.map (·.2.1)).sum,BP []⟩:=by
 have hL:(BP (zO 500 l))[0]? =some (zO 500 l):=rfl
 have ho:=hB.od 0 (zO 500 l) hL
 have hqs:∀x∈l.map (·.2.1),1≤x∧x≤1000000:=by
  intro x hx
  rw[← fU 500 l]at hx
  obtain⟨o,hm,rfl⟩:=List.mem_map.1 hx
  exact(ho.1 o hm).q
 have hsl:=zPa fun x hx=>(hqs x hx).1
 have hpos:0<l.length:=List.length_pos_iff.2 hne
 rw[List.length_map]at hsl
 have hlen:(zO 500 l).length=l.length:=List.length_map _
 have hr:yH ((zO 500 l).map (·.qty)) (l.map (·.2.1)).sum=true:=by
  rw[fU]
  exact zJx (by rw[List.length_map,← hlen];exact ho.2.2) (by omega) hqs (Int.le_refl _)
 have hsh:=zIg (a9 hB.ok.pc hr) (by rw[fU])
 have hn:=zPf (zO 500 l) (s:=2) (.inr rfl)
 rw[tX 500 hne,if_pos rfl]at hn
 have hlv:mV (BP (zO 500 l)) 0 2=zO 500 l:=by
  have e:(BP (zO 500 l)).getD (0:Int).toNat []=zO 500 l:=rfl
  rw[mV,e,tX 500 hne,zYx]
 have hf:yO pp (BP (zO 500 l)) 0 2 (l.map (·.2.1)).sum=yL 0 2 (zO 500 l) (l.map (·.2.1)):=by
  rw[yO,hlv,hsh,fU]
 have hw:=nP (p:=pp) (k:=0) (i:=0) (s:=2) (os:=zO 500 l) hB hL (fun o hm=>hm) ho.2.1
 rw[fU]at hw
 have hnone:(zO 500 l).filter (fun o=> !decide (o.id∈(zO 500 l).map (·.id)))=[]:=by
  rw[List.filter_eq_nil_iff];intro o hm
  rw[decide_eq_true (List.mem_map_of_mem hm)];decide
 rw[hnone]at hw
 have hs:jH pp (BP (zO 500 l)) 0 false 500 500=some (⟨500,(l.map (·.2.1)).sum,false,yL 0 2 (zO 500 l) (l.map (·.2.1))⟩,BP []):=by
  have hn':zN pp (BP (zO 500 l)) 0 (zB (!false))=_:=hn
  have hmin:min (500:Int) (l.map (·.2.1)).sum=(l.map (·.2.1)).sum:=by omega
  have hg:((true && (wY false 500 500 && decide (1≤(l.map (·.2.1)).sum))):Bool)=true:=by
   rw[decide_eq_true (by omega)];rfl
  rw[jH,hn']
  dsimp only
  rw[if_pos hg,if_neg (by decide),hmin]
  have e2:zB (!false)=2:=rfl
  rw[e2,hf,hw];rfl
 rw[fP (by omega) hs]
 dsimp only
 rw[dG (L:=[]) false rfl]
theorem pO (L:List zJ):cJ (BP L)=L.length:=by
 rw[cJ];simp[whL,BP]
theorem dW (L:List zJ) (id:Int):jI (BP L) id=if yY L id=true then some 0 else none:=by
 have e:∀x:Int,yY [] x=false:=fun _=>rfl
 simp only[jI,BP,List.findIdx?_cons,e]
 cases yY L id<;>simp
theorem zRf {id q:Int} (hid:1≤id∧id≤1099511627776) (hq:1≤q∧q≤1000000):(qM ⟨id,0,500,q⟩).right=0:=by
 have q1:xW q=true:=by rw[xW,decide_eq_true (by omega),decide_eq_true (by omega)];rfl
 rw[qM,Cmd.right];dsimp only
 rw[if_neg (by omega),if_neg (by omega),if_pos rfl,Cmd.orderE]
 dsimp only
 rw[if_neg (by omega),if_neg (by omega),if_neg (by rw[q1];decide),if_neg (by omega),if_neg (by simp),if_neg (by decide),if_neg (by omega)]
theorem zNj {l:List (Int×Int×Bool)} {id q:Int} (hq:1≤q∧q≤1000000) (hi:yY (zO 500 l) id=false) (hl:l.length<250):∃b,(cK pp (BP (zO 500 l)) 0 id 2 500 q).1=BP (zO 500 (l++[(id,q,b)])):=by
 obtain⟨b,hb⟩:=zUg 500 l id q
 have hlen:(zO 500 l).length=l.length:=List.length_map _
 have e6:(BP (zO 500 l)).length=6:=rfl
 have hw:(whL 0 (BP (zO 500 l))).length=l.length:=by
  have:=pO (zO 500 l)
  rw[cJ,hlen]at this;exact this
 have e3:(BP (zO 500 l)).getD (0:Int).toNat []=zO 500 l:=rfl
 have hin:jI (BP (zO 500 l)) id=none:=by rw[dW,hi];rfl
 refine⟨b,?_⟩
 rw[cK,e6,if_neg (by omega),hin,if_neg (show ¬(none:Option Nat).isSome=true by decide),hw,if_neg (by omega),jW,if_neg (by decide),e3,cS,if_neg (by omega),hi,if_neg (by decide),hlen,if_neg (by omega),hb]
 rfl
theorem dR {X:MkX} {B:List (List zJ)} {U:List Int} (h1:X.B=B) (h2:X.U=U):X=⟨B,U,X.R⟩:=by cases X;cases h1;cases h2;rfl
theorem yAa {l:List (Int×Int×Bool)} {id q:Int} (U:List Int) (hid:1≤id∧id≤1099511627776) (hq:1≤q∧q≤1000000) (hi:yY (zO 500 l) id=false) (hU:id∉U) (hl:l.length<250):
 ∃b R,doF pp (BP (zO 500 l)) U (qM ⟨id,0,500,q⟩)=⟨BP (zO 500 (l++[(id,q,b)])),vB U id,R⟩:=by
 obtain⟨b,hb⟩:=zNj (l:=l) hq hi hl
 have hlen:(zO 500 l).length=l.length:=List.length_map _
 have hrun:=dG (L:=zO 500 l) true (jP 500 l) 500 q
 have hst:=mB (L:=zO 500 l) true (jP 500 l) 500 q
 have e:(doF pp (BP (zO 500 l)) U (qM ⟨id,0,500,q⟩))=y4 pp (BP (zO 500 l)) U (qM ⟨id,0,500,q⟩):=by
  rw[doF,if_neg (by rw[zRf hid hq];decide),if_pos (show(qM ⟨id,0,500,q⟩).kind=1 from rfl),uQ]
  rw[if_neg (show ¬pp.price (qM ⟨id,0,500,q⟩).inst (qM ⟨id,0,500,q⟩).price≠0 from fun h=>h jW),if_neg (show ¬(qM ⟨id,0,500,q⟩).id∈U from hU),if_neg (by rw[pO,hlen];omega),if_neg (by rintro⟨h,_⟩;have h:(0:Int)<0:=h;omega),if_neg]
  rintro⟨_,h⟩
  have:kI pp (BP (zO 500 l)) 0 true 500 q=true:=h
  rw[hst]at this;cases this
 have hr:xP pp (BP (zO 500 l)) (qM ⟨id,0,500,q⟩).inst (decide ((qM ⟨id,0,500,q⟩).side=2)) (qM ⟨id,0,500,q⟩).price (qM ⟨id,0,500,q⟩).qty=⟨[],q,BP (zO 500 l)⟩:=hrun
 have hE:(y4 pp (BP (zO 500 l)) U (qM ⟨id,0,500,q⟩)).B=(cK pp (BP (zO 500 l)) 0 id 2 500 q).1:=by
  rw[qL,hr]
  exact if_pos ⟨by show q≠0;omega,rfl⟩
 have hEU:(y4 pp (BP (zO 500 l)) U (qM ⟨id,0,500,q⟩)).U=vB U id:=by rw[qL];rfl
 exact⟨b,_,by rw[e];exact dR (hE.trans hb) hEU⟩
theorem mO {id n:Int}:∀{A:List zJ},(∀o∈A,o.id≠id)→xM A id n=A
 |[],_=>rfl
 |o::A,h=>by
  have ih:=mO (n:=n) (A:=A) fun y hy=>h y (List.mem_cons_of_mem _ hy)
  rw[xM]at ih ⊢
  rw[List.filterMap_cons,if_neg (h o List.mem_cons_self),ih]
theorem zAf (x:Int) {id q n:Int} {b:Bool}:∀{l:List (Int×Int×Bool)} {k:Nat},(l.map (·.1)).Nodup→l[k]? =some (id,q,b)→xM (zO x l) id n=if q=n then zO x (l.eraseIdx k)else zO x (l.set k (id,q-n,b))
 |[],k,_,h=>by cases h
 |a::l,0,hn,h=>by
  cases h
  rw[List.map_cons,List.nodup_cons]at hn
  have ho:xM (zO x l) id n=zO x l:=by
   refine mO fun o ho e=>hn.1 ?_
   obtain⟨a,ha,rfl⟩:=List.mem_map.1 ho
   exact List.mem_map.2 ⟨a,ha,e⟩
  rw[xM]at ho
  have e:zO x ((id,q,b)::l)=⟨id,2,x,q,b⟩::zO x l:=rfl
  rw[xM,e,List.filterMap_cons,if_pos rfl,ho]
  by_cases c:q=n
  ·rw[if_pos c,if_pos c];rfl
  ·rw[if_neg c,if_neg c];rfl
 |a::l,k+1,hn,h=>by
  rw[List.map_cons,List.nodup_cons]at hn
  have h:l[k]? =some (id,q,b):=h
  have ih:=zAf x (n:=n) hn.2 h
  have hne:¬a.1=id:=fun e=>hn.1 (List.mem_map.2 ⟨_,List.mem_of_getElem? h,e.symm⟩)
  rw[xM]at ih
  have e:zO x (a::l)=⟨a.1,2,x,a.2.1,a.2.2⟩::zO x l:=rfl
  rw[xM,e,List.filterMap_cons,if_neg hne,ih]
  by_cases c:q=n
  ·rw[if_pos c,if_pos c];rfl
  ·rw[if_neg c,if_neg c];rfl
theorem zGc (x:Int) {id q:Int} {b:Bool} {l:List (Int×Int×Bool)} {k:Nat} (hn:(l.map (·.1)).Nodup) (h:l[k]? =some (id,q,b)):yY (zO x l) id=true∧j0 (zO x l) id=⟨id,2,x,q,b⟩:=by
 have hm:(⟨id,2,x,q,b⟩:zJ)∈zO x l:=List.mem_map.2 ⟨_,List.mem_of_getElem? h,rfl⟩
 have hi:(zO x l).map (·.id)=l.map (·.1):=by rw[zO,List.map_map];rfl
 exact⟨hasId_iff.2 (List.mem_map.2 ⟨_,hm,rfl⟩),vJ (by rw[hi];exact hn) hm⟩
theorem pG {id q n:Int} {b:Bool} {l:List (Int×Int×Bool)} {k:Nat} (hn:(l.map (·.1)).Nodup) (h:l[k]? =some (id,q,b)) (hq:1≤n∧n≤q):(yN (BP (zO 500 l)) id n).1=BP (if q=n then zO 500 (l.eraseIdx k)else zO 500 (l.set k (id,q-n,b))):=by
 obtain⟨h1,h2⟩:=zGc 500 hn h
 rw[yN,dW,if_pos h1]
 have e3:(BP (zO 500 l)).getD 0 []=zO 500 l:=rfl
 dsimp only
 rw[e3,yW,if_neg (by rw[h1];decide),h2,if_neg (by dsimp only;omega),zAf 500 hn h]
 rfl
theorem pM {id q:Int} {b:Bool} {l:List (Int×Int×Bool)} {k:Nat} (hn:(l.map (·.1)).Nodup) (h:l[k]? =some (id,q,b)):zY (BP (zO 500 l)) id=(0,⟨id,2,500,q,b⟩,true):=by
 obtain⟨h1,h2⟩:=zGc 500 hn h
 rw[zY,dW,if_pos h1]
 have e3:(BP (zO 500 l)).getD 0 []=zO 500 l:=rfl
 dsimp only
 rw[e3,h2];rfl
theorem gA {id kind price n:Int} (hk:kind=3∨kind=4) (hid:1≤id∧id≤1099511627776) (hn:1≤n∧n≤1000000) (hp:wA price=true):(qG ⟨id,kind,price,n⟩).right=0:=by
 have q1:xW n=true:=by rw[xW,decide_eq_true (by omega),decide_eq_true (by omega)];rfl
 rw[qG,Cmd.right];dsimp only
 rw[if_neg (by omega),if_neg (by omega),if_neg (by omega),if_neg (by rw[q1];simp),if_neg (by rw[hp];simp)]
theorem z4v {id q n:Int} {b:Bool} {l:List (Int×Int×Bool)} {k:Nat} (U:List Int) (hn:(l.map (·.1)).Nodup) (h:l[k]? =some (id,q,b)) (hid:1≤id∧id≤1099511627776) (hq:1≤n∧n<q∧q≤1000000):
 ∃R,doF pp (BP (zO 500 l)) U (qG ⟨id,3,0,n⟩)=⟨BP (zO 500 (l.set k (id,q-n,b))),U,R⟩:=by
 have hf:=pM hn h
 have ht:=pG hn h (n:=n) (by omega)
 rw[if_neg (by omega)]at ht
 have hf':zY (BP (zO 500 l)) (qG ⟨id,3,0,n⟩).id=(0,⟨id,2,500,q,b⟩,true):=hf
 have e0:doF pp (BP (zO 500 l)) U (qG ⟨id,3,0,n⟩)=uH (BP (zO 500 l)) U id n 0 ⟨id,2,500,q,b⟩:=by
  rw[doF,if_neg (by rw[gA (.inl rfl) hid (by omega) (by decide)];decide),if_neg (show ¬(qG ⟨id,3,0,n⟩).kind=1 from fun h=>absurd (show(3:Int)=1 from h) (by decide)),hf',if_neg (show ¬((0,⟨id,2,500,q,b⟩,true):Int×zJ×Bool).2.2=false from fun h=>absurd (show true=false from h) (by decide)),if_neg (show ¬(qG ⟨id,3,0,n⟩).kind=4 from fun h=>absurd (show(3:Int)=4 from h) (by decide)),if_neg (by rintro(h|h);exact absurd (show(3:Int)=2 from h) (by decide);have h:q≤n:=h;omega)]
  rfl
 exact⟨_,by rw[e0];exact dR ht rfl⟩
theorem zZn {id q n:Int} {b:Bool} {l:List (Int×Int×Bool)} {k:Nat} (U:List Int) (hn:(l.map (·.1)).Nodup) (h:l[k]? =some (id,q,b)) (hid:1≤id∧id≤1099511627776) (hq:1≤n∧n<q∧q≤1000000):
 ∃R,doF pp (BP (zO 500 l)) U (qG ⟨id,4,500,q-n⟩)=⟨BP (zO 500 (l.set k (id,q-n,b))),U,R⟩:=by
 have hf:=pM hn h
 have ht:=pG hn h (n:=n) (by omega)
 rw[if_neg (by omega)]at ht
 have hf':zY (BP (zO 500 l)) (qG ⟨id,4,500,q-n⟩).id=(0,⟨id,2,500,q,b⟩,true):=hf
 have e:q-(q-n)=n:=by omega
 have e0:doF pp (BP (zO 500 l)) U (qG ⟨id,4,500,q-n⟩)=uH (BP (zO 500 l)) U id (q-(q-n)) 0 ⟨id,2,500,q,b⟩:=by
  rw[doF,if_neg (by rw[gA (.inr rfl) hid (by omega) (by decide)];decide),if_neg (show ¬(qG ⟨id,4,500,q-n⟩).kind=1 from fun h=>absurd (show(4:Int)=1 from h) (by decide)),hf',if_neg (show ¬((0,⟨id,2,500,q,b⟩,true):Int×zJ×Bool).2.2=false from fun h=>absurd (show true=false from h) (by decide)),if_pos (show(qG ⟨id,4,500,q-n⟩).kind=4 from rfl),kM,if_neg (show ¬pp.price ((0,⟨id,2,500,q,b⟩,true):Int×zJ×Bool).1 (qG ⟨id,4,500,q-n⟩).price≠0 from fun h=>h jW),if_pos ⟨rfl,by show q-n≤q;omega⟩]
  rfl
 rw[e]at e0
 exact⟨_,by rw[e0];exact dR ht rfl⟩
theorem lZ {l:List (Int×Int×Bool)} {id q:Int} (U:List Int) (hq:1≤q∧q≤1000000) (hi:yY (zO 500 l) id=false) (hl:l.length<250):
 ∃b,(y4 pp (BP (zO 500 l)) U (qM ⟨id,0,500,q⟩)).B=BP (zO 500 (l++[(id,q,b)]))∧(y4 pp (BP (zO 500 l)) U (qM ⟨id,0,500,q⟩)).U=vB U id:=by
 obtain⟨b,hb⟩:=zNj (l:=l) hq hi hl
 have hrun:=dG (L:=zO 500 l) true (jP 500 l) 500 q
 have hr:xP pp (BP (zO 500 l)) (qM ⟨id,0,500,q⟩).inst (decide ((qM ⟨id,0,500,q⟩).side=2)) (qM ⟨id,0,500,q⟩).price (qM ⟨id,0,500,q⟩).qty=⟨[],q,BP (zO 500 l)⟩:=hrun
 have hE:(y4 pp (BP (zO 500 l)) U (qM ⟨id,0,500,q⟩)).B=(cK pp (BP (zO 500 l)) 0 id 2 500 q).1:=by
  rw[qL,hr]
  exact if_pos ⟨by show q≠0;omega,rfl⟩
 exact⟨b,hE.trans hb,by rw[qL];rfl⟩
theorem nA {l:List (Int×Int×Bool)} {k:Nat} {id q:Int} {b:Bool} (hn:(l.map (·.1)).Nodup) (h:l[k]? =some (id,q,b)):yY (zO 500 (l.eraseIdx k)) id=false:=by
 cases hh:yY (zO 500 (l.eraseIdx k)) id with
 |false=>rfl
 |true=>
  exfalso
  obtain⟨o,ho,e⟩:=List.mem_map.1 (hasId_iff.1 hh)
  obtain⟨a,ha,rfl⟩:=List.mem_map.1 ho
  have e:a.1=id:=e
  obtain⟨j,hjk,hj⟩:=List.mem_eraseIdx_iff_getElem?.1 ha
  have h1:(l.map (·.1))[k]? =some id:=by rw[List.getElem?_map,h];rfl
  have h2:(l.map (·.1))[j]? =some id:=by rw[List.getElem?_map,hj,← e];rfl
  have hk:=(List.getElem?_eq_some_iff.1 h1).1
  exact hjk ((List.getElem?_inj hk hn).1 (h1.trans h2.symm)).symm
theorem z1h {id q n:Int} {b:Bool} {l:List (Int×Int×Bool)} {k:Nat} (U:List Int) (hn:(l.map (·.1)).Nodup) (h:l[k]? =some (id,q,b)) (hid:1≤id∧id≤1099511627776) (hq:1≤q∧q<n∧n≤1000000) (hl:l.length<250):
 ∃b' R,doF pp (BP (zO 500 l)) U (qG ⟨id,4,500,n⟩)=⟨BP (zO 500 (l.eraseIdx k++[(id,n,b')])),vB U id,R⟩:=by
 have hf:=pM hn h
 have ht:=pG hn h (n:=q) (by omega)
 rw[if_pos rfl]at ht
 have hle:(l.eraseIdx k).length<250:=Nat.lt_of_le_of_lt (List.length_eraseIdx_le ..) hl
 obtain⟨b',hB,hU⟩:=lZ (l:=l.eraseIdx k) (id:=id) (q:=n) U (by omega) (nA hn h) hle
 have hf':zY (BP (zO 500 l)) (qG ⟨id,4,500,n⟩).id=(0,⟨id,2,500,q,b⟩,true):=hf
 have hst:=mB (L:=zO 500 (l.eraseIdx k)) true (jP 500 _) 500 n
 have e0:doF pp (BP (zO 500 l)) U (qG ⟨id,4,500,n⟩)=⟨(y4 pp (yN (BP (zO 500 l)) id q).1 U (qM ⟨id,0,500,n⟩)).B,(y4 pp (yN (BP (zO 500 l)) id q).1 U (qM ⟨id,0,500,n⟩)).U,(jN (BP (zO 500 l)) U id 0 ⟨id,2,500,q,b⟩).R++(y4 pp (yN (BP (zO 500 l)) id q).1 U (qM ⟨id,0,500,n⟩)).R⟩:=by
  rw[doF,if_neg (by rw[gA (.inr rfl) hid (by omega) (by decide)];decide),if_neg (show ¬(qG ⟨id,4,500,n⟩).kind=1 from fun h=>absurd (show(4:Int)=1 from h) (by decide)),hf',if_neg (show ¬((0,⟨id,2,500,q,b⟩,true):Int×zJ×Bool).2.2=false from fun h=>absurd (show true=false from h) (by decide)),if_pos (show(qG ⟨id,4,500,n⟩).kind=4 from rfl),kM,if_neg (show ¬pp.price ((0,⟨id,2,500,q,b⟩,true):Int×zJ×Bool).1 (qG ⟨id,4,500,n⟩).price≠0 from fun h=>h jW),if_neg (by rintro⟨_,h⟩;have h:n≤q:=h;omega),if_neg]
  ·rfl
  ·intro hx
   have hx:kI pp (yN (BP (zO 500 l)) id q).1 0 true 500 n=true:=hx
   rw[ht,hst]at hx;cases hx
 rw[ht]at e0
 exact⟨b',_,by rw[e0];exact dR hB hU⟩
theorem zRl (l:List (Int×Int×Bool)) (id q:Int):∃b,cY (zO 500 l) 2 id 505 q=zO 500 l++[⟨id,2,505,q,b⟩]:=by
 have hb:btr 2 505 500=false:=by decide
 have hall:∀o∈zO 500 l,before 2 505 o=true:=by
  intro o ho
  obtain⟨a,_,rfl⟩:=List.mem_map.1 ho
  simp[before,hb]
 cases l with
 |nil=>exact⟨qD [] 2 505,by rw[cY];rfl⟩
 |cons a l=>
  have hl:qD (zO 500 (a::l)) 2 505=false:=by
   rw[zO,List.map_cons,qD,List.all_cons]
   simp[hb]
  refine⟨false,?_⟩
  rw[cY,hl]
  have h2:=zCn (f:=before 2 505) (A:=zO 500 (a::l)) (B:=[]) hall (fun y hy=>by cases hy)
  rw[List.append_nil]at h2
  rw[if_neg (by decide),h2.1,h2.2]
theorem zRt {l:List (Int×Int×Bool)} {id q:Int} {b:Bool} (hi:yY (zO 500 l) id=false):xM (zO 500 l++[⟨id,2,505,q,b⟩]) id q=zO 500 l:=by
 have h:∀o∈zO 500 l,o.id≠id:=fun o ho e=>by
  have:yY (zO 500 l) id=true:=hasId_iff.2 (List.mem_map.2 ⟨o,ho,e⟩)
  rw[hi]at this;cases this
 have:=mO (n:=q) h
 rw[xM]at this
 rw[xM,List.filterMap_append,this,List.filterMap_cons,if_pos rfl,if_pos rfl]
 simp
theorem zSt {l:List (Int×Int×Bool)} {id q:Int} {b:Bool} (hi:yY (zO 500 l) id=false):yY (zO 500 l++[⟨id,2,505,q,b⟩]) id=true∧j0 (zO 500 l++[⟨id,2,505,q,b⟩]) id=⟨id,2,505,q,b⟩:=by
 refine⟨hasId_iff.2 (by simp),?_⟩
 have h:(zO 500 l).find? (fun o=>decide (o.id=id))=none:=by
  rw[List.find?_eq_none];intro o ho e
  have:yY (zO 500 l) id=true:=hasId_iff.2 (List.mem_map.2 ⟨o,ho,of_decide_eq_true e⟩)
  rw[hi]at this;cases this
 rw[j0,List.find?_append,h]
 simp
theorem zKo {l:List (Int×Int×Bool)} {id q:Int} (U:List Int) (hq:1≤q∧q≤1000000) (hi:yY (zO 500 l) id=false) (hl:l.length<250):
 ∃b,(y4 pp (BP (zO 500 l)) U (qM ⟨id,0,505,q⟩)).B=BP (zO 500 l++[⟨id,2,505,q,b⟩])∧(y4 pp (BP (zO 500 l)) U (qM ⟨id,0,505,q⟩)).U=vB U id:=by
 obtain⟨b,hb⟩:=zRl l id q
 have hlen:(zO 500 l).length=l.length:=List.length_map _
 have e6:(BP (zO 500 l)).length=6:=rfl
 have hw:(whL 0 (BP (zO 500 l))).length=l.length:=by
  have:=pO (zO 500 l)
  rw[cJ,hlen]at this;exact this
 have e3:(BP (zO 500 l)).getD (0:Int).toNat []=zO 500 l:=rfl
 have hin:jI (BP (zO 500 l)) id=none:=by rw[dW,hi];rfl
 have ha:(cK pp (BP (zO 500 l)) 0 id 2 505 q).1=BP (zO 500 l++[⟨id,2,505,q,b⟩]):=by
  rw[cK,e6,if_neg (by omega),hin,if_neg (show ¬(none:Option Nat).isSome=true by decide),hw,if_neg (by omega),nV,if_neg (by decide),e3,cS,if_neg (by omega),hi,if_neg (by decide),hlen,if_neg (by omega),hb]
  rfl
 have hrun:=dG (L:=zO 500 l) true (jP 500 l) 505 q
 have hr:xP pp (BP (zO 500 l)) (qM ⟨id,0,505,q⟩).inst (decide ((qM ⟨id,0,505,q⟩).side=2)) (qM ⟨id,0,505,q⟩).price (qM ⟨id,0,505,q⟩).qty=⟨[],q,BP (zO 500 l)⟩:=hrun
 have hE:(y4 pp (BP (zO 500 l)) U (qM ⟨id,0,505,q⟩)).B=(cK pp (BP (zO 500 l)) 0 id 2 505 q).1:=by
  rw[qL,hr]
  exact if_pos ⟨by show q≠0;omega,rfl⟩
 exact⟨b,hE.trans ha,by rw[qL];rfl⟩
theorem z3h {id q:Int} {b:Bool} {l:List (Int×Int×Bool)} {k:Nat} (U:List Int) (hn:(l.map (·.1)).Nodup) (h:l[k]? =some (id,q,b)) (hid:1≤id∧id≤1099511627776) (hq:1≤q∧q≤1000000) (hl:l.length<250):
 ∃b' R,doF pp (BP (zO 500 l)) U (qG ⟨id,4,505,q⟩)=⟨BP (zO 500 (l.eraseIdx k)++[⟨id,2,505,q,b'⟩]),vB U id,R⟩:=by
 have hf:=pM hn h
 have ht:=pG hn h (n:=q) (by omega)
 rw[if_pos rfl]at ht
 have hle:(l.eraseIdx k).length<250:=Nat.lt_of_le_of_lt (List.length_eraseIdx_le ..) hl
 obtain⟨b',hB,hU⟩:=zKo (l:=l.eraseIdx k) (id:=id) (q:=q) U (by omega) (nA hn h) hle
 have hf':zY (BP (zO 500 l)) (qG ⟨id,4,505,q⟩).id=(0,⟨id,2,500,q,b⟩,true):=hf
 have hst:=mB (L:=zO 500 (l.eraseIdx k)) true (jP 500 _) 505 q
 have e0:doF pp (BP (zO 500 l)) U (qG ⟨id,4,505,q⟩)=⟨(y4 pp (yN (BP (zO 500 l)) id q).1 U (qM ⟨id,0,505,q⟩)).B,(y4 pp (yN (BP (zO 500 l)) id q).1 U (qM ⟨id,0,505,q⟩)).U,(jN (BP (zO 500 l)) U id 0 ⟨id,2,500,q,b⟩).R++(y4 pp (yN (BP (zO 500 l)) id q).1 U (qM ⟨id,0,505,q⟩)).R⟩:=by
  rw[doF,if_neg (by rw[gA (.inr rfl) hid (by omega) (by decide)];decide),if_neg (show ¬(qG ⟨id,4,505,q⟩).kind=1 from fun h=>absurd (show(4:Int)=1 from h) (by decide)),hf',if_neg (show ¬((0,⟨id,2,500,q,b⟩,true):Int×zJ×Bool).2.2=false from fun h=>absurd (show true=false from h) (by decide)),if_pos (show(qG ⟨id,4,505,q⟩).kind=4 from rfl),kM,if_neg (show ¬pp.price ((0,⟨id,2,500,q,b⟩,true):Int×zJ×Bool).1 (qG ⟨id,4,505,q⟩).price≠0 from fun h=>h nV),if_neg (by rintro⟨h,_⟩;have h:(505:Int)=500:=h;omega),if_neg]
  ·rfl
  ·intro hx
   have hx:kI pp (yN (BP (zO 500 l)) id q).1 0 true 505 q=true:=hx
   rw[ht,hst]at hx;cases hx
 rw[ht]at e0
 exact⟨b',_,by rw[e0];exact dR hB hU⟩
theorem z2v {id q:Int} {b:Bool} {l:List (Int×Int×Bool)} (U:List Int) (hi:yY (zO 500 l) id=false) (hid:1≤id∧id≤1099511627776) (hq:1≤q∧q≤1000000) (hl:l.length<250):
 ∃b' R,doF pp (BP (zO 500 l++[⟨id,2,505,q,b⟩])) U (qG ⟨id,4,500,q⟩)=⟨BP (zO 500 (l++[(id,q,b')])),vB U id,R⟩:=by
 obtain⟨g1,g2⟩:=zSt (l:=l) (q:=q) (b:=b) hi
 have e3:(BP (zO 500 l++[⟨id,2,505,q,b⟩])).getD 0 []=zO 500 l++[⟨id,2,505,q,b⟩]:=rfl
 have hf:zY (BP (zO 500 l++[⟨id,2,505,q,b⟩])) id=(0,⟨id,2,505,q,b⟩,true):=by
  rw[zY,dW,if_pos g1]
  dsimp only
  rw[e3,g2];rfl
 have ht:(yN (BP (zO 500 l++[⟨id,2,505,q,b⟩])) id q).1=BP (zO 500 l):=by
  rw[yN,dW,if_pos g1]
  dsimp only
  rw[e3,yW,if_neg (by rw[g1];decide),g2,if_neg (by dsimp only;omega),zRt hi]
  rfl
 obtain⟨b',hB,hU⟩:=lZ (l:=l) (id:=id) (q:=q) U (by omega) hi hl
 have hf':zY (BP (zO 500 l++[⟨id,2,505,q,b⟩])) (qG ⟨id,4,500,q⟩).id=(0,⟨id,2,505,q,b⟩,true):=hf
 have hst:=mB (L:=zO 500 l) true (jP 500 _) 500 q
 have e0:doF pp (BP (zO 500 l++[⟨id,2,505,q,b⟩])) U (qG ⟨id,4,500,q⟩)=⟨(y4 pp (yN (BP (zO 500 l++[⟨id,2,505,q,b⟩])) id q).1 U (qM ⟨id,0,500,q⟩)).B,(y4 pp (yN (BP (zO 500 l++[⟨id,2,505,q,b⟩])) id q).1 U (qM ⟨id,0,500,q⟩)).U,(jN (BP (zO 500 l++[⟨id,2,505,q,b⟩])) U id 0 ⟨id,2,505,q,b⟩).R++(y4 pp (yN (BP (zO 500 l++[⟨id,2,505,q,b⟩])) id q).1 U (qM ⟨id,0,500,q⟩)).R⟩:=by
  rw[doF,if_neg (by rw[gA (.inr rfl) hid (by omega) (by decide)];decide),if_neg (show ¬(qG ⟨id,4,500,q⟩).kind=1 from fun h=>absurd (show(4:Int)=1 from h) (by decide)),hf',if_neg (show ¬((0,⟨id,2,505,q,b⟩,true):Int×zJ×Bool).2.2=false from fun h=>absurd (show true=false from h) (by decide)),if_pos (show(qG ⟨id,4,500,q⟩).kind=4 from rfl),kM,if_neg (show ¬pp.price ((0,⟨id,2,505,q,b⟩,true):Int×zJ×Bool).1 (qG ⟨id,4,500,q⟩).price≠0 from fun h=>h jW),if_neg (by rintro⟨h,_⟩;have h:(500:Int)=505:=h;omega),if_neg]
  ·rfl
  ·intro hx
   have hx:kI pp (yN (BP (zO 500 l++[⟨id,2,505,q,b⟩])) id q).1 0 true 500 q=true:=hx
   rw[ht,hst]at hx;cases hx
 rw[ht]at e0
 exact⟨b',_,by rw[e0];exact dR hB hU⟩
def lastC:Cmd:=⟨1,900,0,1,500,500,0,2,[]⟩
theorem zLi:lastC.right=0:=by decide+kernel
theorem rP:∀{l:List (Int×Int×Bool)},(∀a∈l,1≤a.2.1)→yL 0 2 (zO 500 l) (l.map (·.2.1))=l.map fun a=>⟨a.1,0,2,500,a.2.1,0⟩
 |[],_=>rfl
 |a::l,h=>by
  have ih:=rP (l:=l) fun y hy=>h y (List.mem_cons_of_mem _ hy)
  have ha:=h a List.mem_cons_self
  have e:zO 500 (a::l)=⟨a.1,2,500,a.2.1,a.2.2⟩::zO 500 l:=rfl
  rw[e,List.map_cons,List.map_cons,yL,if_pos (by omega),ih]
  congr 2
  dsimp only
  omega
theorem zWq:(pp.legs 0).2.2=false:=by decide+kernel
theorem z4j (x:qF) (r:Rep) (h:r.inst=0):vV pp x r=[r]:=by rw[vV,h,zWq];rfl
theorem z0y {l:List (Int×Int×Bool)} (U:List Int) (hB:BWf pp (BP (zO 500 l))) (hne:l≠[]) (hq:∀a∈l,1≤a.2.1) (hs:(l.map (·.2.1)).sum<500) (hU:900∉U) (hl:l.length<250):
 (doF pp (BP (zO 500 l)) U lastC).B=BP []∧∃r0 r1 r2,(doF pp (BP (zO 500 l)) U lastC).R=r0::((l.map fun a=>(⟨3,a.1,0,2,500,a.2.1,0,0⟩:Rep))++[r1,r2]):=by
 have hlen:(zO 500 l).length=l.length:=List.length_map _
 have hsw:=yCs hB hne hs
 have e:doF pp (BP (zO 500 l)) U lastC=y4 pp (BP (zO 500 l)) U lastC:=by
  rw[doF,if_neg (by rw[zLi];decide),if_pos (show lastC.kind=1 from rfl),uQ]
  rw[if_neg (show ¬pp.price lastC.inst lastC.price≠0 from fun h=>h jW),if_neg (show ¬lastC.id∈U from hU),if_neg (by rw[pO,hlen];omega),if_neg (by rintro⟨h,_⟩;have h:(0:Int)<0:=h;omega),if_neg (by rintro⟨h,_⟩;exact absurd h (by decide))]
 have hr:xP pp (BP (zO 500 l)) lastC.inst (decide (lastC.side=2)) lastC.price lastC.qty=⟨[⟨500,(l.map (·.2.1)).sum,false,yL 0 2 (zO 500 l) (l.map (·.2.1))⟩],500-(l.map (·.2.1)).sum,BP []⟩:=hsw
 rw[e,qL,hr,rP hq]
 refine⟨if_neg (by rintro⟨_,h⟩;exact absurd h (by decide)),?_⟩
 dsimp only
 rw[if_pos ⟨by omega,by decide⟩,uC,uC,uL]
 have ht:∀(x:qF) (m:List (Int×Int×Bool)),(m.map fun a=>(⟨a.1,0,2,500,a.2.1,0⟩:wB)).flatMap (fun f=>vV pp x (cR f))=m.map fun a=>(⟨3,a.1,0,2,500,a.2.1,0,0⟩:Rep):=by
  intro x m
  induction m with
  |nil=>rfl
  |cons a m ih=>rw[List.map_cons,List.flatMap_cons,ih,z4j x _ rfl];rfl
 dsimp only
 rw[ht,z4j _ _ rfl]
 exact⟨_,_,_,by rw[List.append_nil,List.cons_append,List.append_assoc];rfl⟩
open Go Cv Go.Proofs
theorem bid_ok:bidC.ok Tryz.prog 18:=yBs gok0 fun i h=>by
 unfold yCu;exact⟨(),by(repeat'(first|exact trivial|exact rfl|apply And.intro))⟩
theorem ask_ok:askC.ok Tryz.prog 14:=yCf (gokc bid_ok gok0) fun i h=>by
 unfold yCc;exact⟨i,rfl,rfl,rfl,rfl,trivial,fun _ _=>⟨(),by(repeat'(first|exact trivial|exact rfl|apply And.intro))⟩⟩
theorem chg_ok:chgC.ok Tryz.prog 16:=yAr gok0 fun i h=>by
 unfold yAj;exact⟨(),by(repeat'(first|exact trivial|exact rfl|apply And.intro))⟩
theorem with_ok:withC.ok Tryz.prog 17:=zZf gok0 fun i h=>by
 unfold zUt;exact⟨(),by(repeat'(first|exact trivial|exact rfl|apply And.intro))⟩
structure PlS (m:Mkt) (ids left:List Int) (l:List (Int×Int×Bool)) (U:List Int):Prop where
 r:m.Rep pp (BP (zO 500 l)) U
 b:BOk pp (BP (zO 500 l))
 i:ids=l.map (·.1)
 q:left=l.map (·.2.1)
def PlB (x:uD):Prop:=∃l U,PlS x.m x.ids x.left l U∧l≠[]∧(∀a∈l,1≤a.2.1)∧(l.map (·.2.1)).sum<500∧900∉U∧l.length<250
theorem zLz:∀{l:List (Int×Int×Bool)},(∀a∈l,a.2.1≤22)→(l.map (·.2.1)).sum≤22*l.length
 |[],_=>Int.le_refl _
 |a::l,h=>by
  have:=zLz (l:=l) fun x hx=>h x (List.mem_cons_of_mem _ hx)
  have:=h a List.mem_cons_self
  rw[List.map_cons,List.sum_cons,List.length_cons];omega
theorem z8b {l:List (Int×Int×Bool)} {id:Int} (h:∀a∈l,a.1≠id):yY (zO 500 l) id=false:=by
 cases hh:yY (zO 500 l) id with
 |false=>rfl
 |true=>
  obtain⟨o,ho,e⟩:=List.mem_map.1 (hasId_iff.1 hh)
  obtain⟨a,ha,rfl⟩:=List.mem_map.1 ho
  exact absurd e (h a ha)
theorem zBu (l:List Int) (k:Nat) (x:Int):iE (l.eraseIdx k++[x])=[]++List.take k (iE l)++List.drop (k+1) (iE l)++[[D.v (.int .i64 x)]]:=by
 rw[List.eraseIdx_eq_take_drop_succ]
 simp[iE]
theorem zOf {α β:Type} (f:α→β) (l:List α) (k:Nat):(l.eraseIdx k).map f=(l.map f).eraseIdx k:=by
 rw[List.eraseIdx_eq_take_drop_succ,List.eraseIdx_eq_take_drop_succ,List.map_append,List.map_take,List.map_drop]
theorem PlB.mk' {o:Mkt} {l:List (Int×Int×Bool)} {U:List Int} {k:Nat} {id q:Int} {b:Bool} {j:Nat} (hr:o.Rep pp (BP (zO 500 (l.eraseIdx k++[(id,q,b)]))) U) (hb:BOk pp (BP (zO 500 (l.eraseIdx k++[(id,q,b)])))) (h:∀a∈l,2≤a.2.1∧a.2.1≤22) (hl:l.length≤12) (hk:k<l.length) (hq:1≤q∧q≤43) (hU:900∉U):PlB ⟨o,(l.map (·.1)).eraseIdx k++[id],(l.map (·.2.1)).eraseIdx k++[q],j⟩:=by
 have hm:∀a∈l.eraseIdx k,2≤a.2.1∧a.2.1≤22:=fun a ha=>h a (List.mem_of_mem_eraseIdx ha)
 have hs:=zLz fun a ha=>(hm a ha).2
 have he:(l.eraseIdx k).length=l.length-1:=by rw[List.length_eraseIdx,if_pos hk]
 refine⟨_,U,⟨hr,hb,?_,?_⟩,?_,?_,?_,hU,?_⟩
 ·rw[List.map_append,zOf];rfl
 ·rw[List.map_append,zOf];rfl
 ·simp
 ·intro a ha
  rcases List.mem_append.1 ha with ha|ha
  ·have:=hm a ha;omega
  ·rw[List.mem_singleton.1 ha];exact hq.1
 ·rw[List.map_append,List.sum_append]
  show _+([q]:List Int).sum<500
  rw[List.sum_singleton];omega
 ·rw[List.length_append,he]
  show _+1<250
  omega
theorem PlB.set {o:Mkt} {l:List (Int×Int×Bool)} {U:List Int} {k:Nat} {id q q':Int} {b:Bool} {j:Nat} (hk:l[k]? =some (id,q',b)) (hr:o.Rep pp (BP (zO 500 (l.set k (id,q,b)))) U) (hb:BOk pp (BP (zO 500 (l.set k (id,q,b))))) (h:∀a∈l,2≤a.2.1∧a.2.1≤22) (hl:l.length≤12) (hq:1≤q∧q≤22) (hU:900∉U):PlB ⟨o,l.map (·.1),(l.map (·.2.1)).set k q,j⟩:=by
 have hm:∀a∈l.set k (id,q,b),1≤a.2.1∧a.2.1≤22:=fun a ha=>by
  rcases List.mem_or_eq_of_mem_set ha with ha|rfl
  ·have:=h a ha;omega
  ·exact hq
 have hs:=zLz fun a ha=>(hm a ha).2
 have he:(l.set k (id,q,b)).length=l.length:=List.length_set
 have hlt:=(List.getElem?_eq_some_iff.1 hk).1
 refine⟨_,U,⟨hr,hb,?_,?_⟩,?_,fun a ha=>(hm a ha).1,by omega,hU,by omega⟩
 ·dsimp only
  rw[List.map_set]
  exact(kB (by rw[List.getElem?_map,hk];rfl)).symm
 ·dsimp only
  rw[List.map_set]
 ·intro e
  rw[e]at he
  simp at he
  omega
theorem zWo {m:Mkt} {l:List (Int×Int×Bool)} {U:List Int} (hM:m.Rep pp (BP (zO 500 l)) U) (hB:BOk pp (BP (zO 500 l))) (hne:l≠[]) (hq:∀a∈l,1≤a.2.1) (hs:(l.map (·.2.1)).sum<500) (hU:900∉U) (hl:l.length<250):
 ∃X,X=doF pp (BP (zO 500 l)) U lastC∧X.B=BP []∧X.R.length=l.length+3∧∀(k:Nat) (a:Int×Int×Bool),l[k]? =some a→X.R[k+1]? =some ⟨3,a.1,0,2,500,a.2.1,0,0⟩:=by
 have hwf:BWf pp (BP (zO 500 l)):=by have:=hM.s;exact this.wf hB
 obtain⟨h1,r0,r1,r2,h2⟩:=z0y U hwf hne hq hs hU hl
 refine⟨_,rfl,h1,by rw[h2];simp,fun k a hk=> ?_⟩
 rw[h2,List.getElem?_cons_succ,List.getElem?_append_left (by rw[List.length_map];exact(List.getElem?_eq_some_iff.1 hk).1),List.getElem?_map,hk]
 rfl
theorem vpl (i:PlcI) (h:plC.cnd i):Vpl i:=by
 obtain⟨hq,hw,hh,hb,hlen⟩:i.raw:=h
 have hc:(jZ 1).check=0:=by decide+kernel
 have hp:(jZ 1).small:=by refine⟨?_,?_,?_⟩<;>decide
 have hM0:=zPb pp
 rw[zUo]at hM0
 have hB0:=BOk.new hc hp
 have hB0:BOk pp (BP []):=by
  have e:List.replicate (jZ 1).count []=BP []:=zUo
  rw[e]at hB0;exact hB0
 unfold Vpl zUf
 rw[yR i.qtys]
 refine⟨1,rfl,trivial,fun _ _=>⟨jZ 1,rfl,rfl,rfl,rfl,rfl,rfl,rfl,rfl,rfl,rfl,rfl,hp,fun _ _=> ?_,fun _ hx=>absurd hc hx⟩⟩
 refine⟨⟨mk0 pp,[],[],0⟩,rfl,rfl,rfl,rfl,fun x=>(x.j≤12∧x.j≤i.qtys.length)∧∃l U,PlS x.m x.ids x.left l U∧l.map (·.1)=(List.range x.j).map (fun k:Nat=>(k:Int)+1)∧(∀a∈l,2≤a.2.1∧a.2.1≤22)∧∀k∈U,k≤x.j,fun x=>12-x.j,⟨⟨Nat.zero_le _,Nat.zero_le _⟩,[],[],⟨hM0,hB0,rfl,rfl⟩,rfl,fun a ha=>(by cases ha),fun a ha=>(by cases ha)⟩,?_⟩
 rintro⟨m,ids,left,j⟩ ⟨⟨hj12,hjl⟩,l,U,⟨hM,hB,hi,hL⟩,hr,h22,hUj⟩
 dsimp only at hj12 hjl hM hi hL hr hUj ⊢
 have hll:l.length=j:=by have:=congrArg List.length hr;simpa using this
 have hnd:(l.map (·.1)).Nodup:=by
  rw[hr];exact List.pairwise_map.2 (List.nodup_range.imp fun h e=>h (by omega))
 have hid:∀a∈l,1≤a.1∧a.1≤j:=fun a ha=>by
  have:a.1∈l.map (·.1):=List.mem_map_of_mem ha
  rw[hr]at this
  obtain⟨k,hk,e⟩:=List.mem_map.1 this
  rw[List.mem_range]at hk
  omega
 have hil0:ids.length=j:=by rw[hi,List.length_map,hll]
 have hLl0:left.length=j:=by rw[hL,List.length_map,hll]
 have hil:(iE ids).length=j:=by rw[yR,hil0]
 have hLl:(iE left).length=j:=by rw[yR,hLl0]
 refine⟨true,fun b=>b=decide (j<i.qtys.length∧j<12),zU (fun c=>⟨_,rfl,?_,by(repeat'(first|exact trivial|exact rfl|apply And.intro))⟩) (fun c=>⟨_,rfl,?_,by(repeat'(first|exact trivial|exact rfl|apply And.intro))⟩),fun b hb=> ?_⟩
 ·show decide ((j:Int)<12)=decide (j<i.qtys.length∧j<12)
  rw[Bool.eq_iff_iff,decide_eq_true_eq,decide_eq_true_eq];omega
 ·exact(decide_eq_false (by omega)).symm
 subst hb
 refine zU (fun hb=> ?_) (fun _=>Cv.cnd.mk (fun _=>⟨(),trivial,fun _ _=>⟨(),rfl,trivial⟩⟩) (fun hne=> ?_))
 ·obtain⟨hb1,hb2⟩:=hb
  obtain⟨n,hn⟩:=yD (l:=i.qtys) (i:=j) hb1
  have hnr:=hq n (List.mem_of_getElem? hn)
  have wb:=m7 (n:=n) (lo:=0) (hi:=20) (by decide)
  obtain⟨b,R,he⟩:=yAa (l:=l) (id:=(j:Int)+1) (q:=2+zF n 0 20) U (by omega) (by omega) (z8b fun a ha=>by have:=hid a ha;omega) (fun hm=>by have:=hUj _ hm;omega) (by omega)
  have hB':=mdo hM hB (qM ⟨(j:Int)+1,0,500,2+zF n 0 20⟩)
  rw[he]at hB'
  refine⟨⟨by omega,by omega⟩,n,elI hn,⟨n,0,20⟩,rfl,rfl,rfl,⟨hnr,by dsimp only;decide,by dsimp only;decide,by dsimp only;decide⟩,fun _ _=>⟨⟨(j:Int)+1,0,500,2+zF n 0 20⟩,by rw[w64 (by omega)],rfl,rfl,by rw[w64 (by dsimp only;omega)],trivial,fun _ _=>⟨⟨m,pp,BP (zO 500 l),U,qM ⟨(j:Int)+1,0,500,2+zF n 0 20⟩,_⟩,rfl,rfl,rfl,rfl,rfl,rfl,rfl,rfl,rfl,rfl,⟨⟨hM,hB⟩,Nat.zero_le _,⟨by show _≤2+zF n 0 20;omega,by show 2+zF n 0 20≤_;omega⟩,he.symm⟩,fun o ho=>⟨by rw[hil];omega,by rw[hLl];omega,⟨o,ids++[(j:Int)+1],left++[2+zF n 0 20],j+1⟩,by rw[w64 (by omega)];rfl,rfl,?_,?_,⟨⟨by dsimp only;omega,by dsimp only;omega⟩,_,_,⟨ho,hB',?_,?_⟩,?_,?_,?_⟩,by dsimp only;omega,trivial⟩⟩⟩⟩
  ·rw[w64 (by omega)];simp[iE]
  ·rw[w64 (by dsimp only;omega)];simp[iE]
  ·dsimp only;rw[hi,List.map_append];rfl
  ·dsimp only;rw[hL,List.map_append];rfl
  ·dsimp only;rw[List.map_append,hr,List.range_succ,List.map_append];rfl
  ·intro a ha
   rcases List.mem_append.1 ha with ha|ha
   ·exact h22 a ha
   ·rw[List.mem_singleton.1 ha];exact⟨by dsimp only;omega,by dsimp only;omega⟩
  ·intro k hk
   rcases use_mem.1 hk with hk|rfl
   ·have:=hUj k hk
    dsimp only;omega
   ·dsimp only;omega
 have hj:1≤j:=by
  rcases Nat.eq_zero_or_pos j with e|e
  ·rw[hil,e]at hne;cases hne
  ·exact e
 have hU9:900∉U:=fun hm=>by have:=hUj _ hm;omega
 rw[hil,hLl]
 have wk:=m7 (n:=i.which) (lo:=0) (hi:=(j:Int)-1) (by omega)
 obtain⟨W,hW⟩:∃W,W=zF i.which 0 ((j:Int)-1):=⟨_,rfl⟩
 obtain⟨K,hK⟩:∃K:Nat,W=K:=⟨W.toNat,by omega⟩
 obtain⟨⟨id,q,b⟩,ha⟩:=yD (l:=l) (i:=K) (by omega)
 have haid:=hid _ (List.mem_of_getElem? ha)
 have ha22:=h22 _ (List.mem_of_getElem? ha)
 dsimp only at haid ha22
 have eI:ids[K]? =some id:=by rw[hi,List.getElem?_map,ha];rfl
 have eQ:left[K]? =some q:=by rw[hL,List.getElem?_map,ha];rfl
 have wn:=m7 (n:=i.by_) (lo:=0) (hi:=q-2) (by omega)
 obtain⟨n0,hn0⟩:∃n,n=zF i.by_ 0 (q-2):=⟨_,rfl⟩
 rw[← hn0]at wn
 rw[← hW]at wk
 refine⟨⟨i.which,0,(j:Int)-1⟩,rfl,rfl,by rw[w64 (by omega)],⟨hw,by dsimp only;decide,by dsimp only;omega,by dsimp only;omega⟩,fun _ _=> ?_⟩
 dsimp only
 rw[← hW,hK]
 refine⟨⟨by omega,by omega⟩,q,elI eQ,⟨i.by_,0,q-2⟩,rfl,rfl,by rw[w64 (by omega)],⟨hb,by dsimp only;omega,by dsimp only;omega,by dsimp only;omega⟩,fun _ _=> ?_⟩
 dsimp only
 rw[← hn0,w64 (x:=1+n0) (by omega),w64 (x:=(K:Int)+1) (by omega)]
 refine⟨⟨by omega,by omega⟩,id,elI eI,⟨m,ids,left,j⟩,rfl,rfl,rfl,PlB,⟨⟨i.how,0,3⟩,rfl,rfl,rfl,⟨hh,by dsimp only;decide,by dsimp only;decide,by dsimp only;decide⟩,fun _ _=> ?_⟩,?_⟩
 ·have ekn:((K:Int)+1).toNat=K+1:=by omega
  have ekk:((K:Int)).toNat=K:=rfl
  have ebk:∀c:Int,c*8≤200→c*8≤70368744177664:=fun c h=>by omega
  have hgo:∀(o:Mkt) (id' q':Int) (b':Bool) (V:List Int),o.Rep pp (BP (zO 500 (l.eraseIdx K++[(id,q',b')]))) V→BOk pp (BP (zO 500 (l.eraseIdx K++[(id,q',b')])))→(1≤q'∧q'≤43)→900∉V→PlB ⟨o,ids.eraseIdx K++[id],left.eraseIdx K++[q'],j⟩:=fun o id' q' b' V h1 h2 h3 h4=>by
   rw[hi,hL]
   exact PlB.mk' h1 h2 h22 (by omega) (by omega) h3 h4
  have hU9':900∉vB U id:=fun hm=>by
   rcases use_mem.1 hm with hm|hm
   ·exact hU9 hm
   ·omega
  have hU9'':900∉vB (vB U id) id:=fun hm=>by
   rcases use_mem.1 hm with hm|hm
   ·exact hU9' hm
   ·omega
  have hcut:∀(P:List (List D)→Prop) (A:List Int) (x:Int),A.length=j→P (iE (A.eraseIdx K++[x]))→True:=fun _ _ _ _ _=>trivial
  have len1:∀A:List Int,A.length=j→(List.take K (iE A)).length≤12:=fun A hA=>by rw[List.length_take,yR];omega
  have len2:∀A:List Int,A.length=j→(List.drop (K+1) (iE A)).length≤12:=fun A hA=>by rw[List.length_drop,yR];omega
  refine Cv.cnd.mk (fun _=> ?_) (fun _=>Cv.cnd.mk (fun _=> ?_) (fun _=>Cv.cnd.mk (fun _=> ?_) (fun _=> ?_)))
  ·obtain⟨R,he⟩:=z4v U hnd ha (n:=1+n0) (by omega) (by omega)
   have hB':=mdo hM hB (qG ⟨id,3,0,1+n0⟩)
   rw[he]at hB'
   refine⟨⟨id,3,0,1+n0⟩,rfl,rfl,rfl,rfl,trivial,fun _ _=>⟨⟨m,pp,BP (zO 500 l),U,qG ⟨id,3,0,1+n0⟩,_⟩,rfl,rfl,rfl,rfl,rfl,rfl,rfl,rfl,rfl,rfl,⟨⟨hM,hB⟩,Nat.zero_le _,⟨by show _≤1+n0;omega,by show 1+n0≤_;omega⟩,he.symm⟩,fun o ho=> ?_⟩⟩
   refine⟨⟨by omega,by rw[hLl];omega⟩,q,elI eQ,⟨by omega,by rw[hLl];omega⟩,by rw[hLl];show K<j;omega,⟨o,ids,left.set K (q-(1+n0)),j⟩,rfl,rfl,?_,?_,trivial⟩
   ·rw[w64 (by omega),ekk,pY]
   ·rw[hi,hL];exact PlB.set ha ho hB' h22 (by omega) (by omega) hU9
  ·obtain⟨R,he⟩:=zZn U hnd ha (n:=1+n0) (by omega) (by omega)
   have hB':=mdo hM hB (qG ⟨id,4,500,q-(1+n0)⟩)
   rw[he]at hB'
   refine⟨⟨by omega,by rw[hLl];omega⟩,q,elI eQ,⟨id,4,500,q-(1+n0)⟩,rfl,rfl,rfl,by rw[w64 (by omega)],trivial,fun _ _=>⟨⟨m,pp,BP (zO 500 l),U,qG ⟨id,4,500,q-(1+n0)⟩,_⟩,rfl,rfl,rfl,rfl,rfl,rfl,rfl,rfl,rfl,rfl,⟨⟨hM,hB⟩,Nat.zero_le _,⟨by show _≤q-(1+n0);omega,by show q-(1+n0)≤_;omega⟩,he.symm⟩,fun o ho=> ?_⟩⟩
   refine⟨⟨by omega,by rw[hLl];omega⟩,q,elI eQ,⟨by omega,by rw[hLl];omega⟩,by rw[hLl];show K<j;omega,⟨o,ids,left.set K (q-(1+n0)),j⟩,rfl,rfl,?_,?_,trivial⟩
   ·rw[w64 (by omega),ekk,pY]
   ·rw[hi,hL];exact PlB.set ha ho hB' h22 (by omega) (by omega) hU9
  ·obtain⟨b',R,he⟩:=z1h U hnd ha (n:=q+(1+n0)) (by omega) (by omega) (by omega)
   have hB':=mdo hM hB (qG ⟨id,4,500,q+(1+n0)⟩)
   rw[he]at hB'
   refine⟨⟨by omega,by rw[hLl];omega⟩,q,elI eQ,⟨id,4,500,q+(1+n0)⟩,rfl,rfl,rfl,by rw[w64 (by omega)],trivial,fun _ _=>⟨⟨m,pp,BP (zO 500 l),U,qG ⟨id,4,500,q+(1+n0)⟩,_⟩,rfl,rfl,rfl,rfl,rfl,rfl,rfl,rfl,rfl,rfl,⟨⟨hM,hB⟩,Nat.zero_le _,⟨by show _≤q+(1+n0);omega,by show q+(1+n0)≤_;omega⟩,he.symm⟩,fun o ho=> ?_⟩⟩
   have hend:=hgo o id (q+(1+n0)) b' _ ho hB' (by omega) hU9'
   have u1:=len1 ids hil0
   have u2:=len2 ids hil0
   have u3:=len1 left hLl0
   have u4:=len2 left hLl0
   refine⟨(ids,left),rfl,rfl,fun x=>x=(ids.eraseIdx K++[id],left),⟨⟨by omega,by rw[hil];omega⟩,⟨by omega,by rw[hil];omega⟩,?_⟩,?_⟩
   ·rw[ekn]
    rw[ekk]
    dsimp only
    repeat' apply And.intro
    all_goals first|exact⟨(ids.eraseIdx K++[id],left),rfl,zBu _ _ _,rfl,by(repeat'(first|exact trivial|exact rfl|apply And.intro))⟩|omega|(rw[List.nil_append];omega)|(rw[List.nil_append,List.length_append];omega)
   rintro _ rfl
   rw[ekn]
   refine⟨⟨by omega,by rw[hLl];omega⟩,⟨by omega,by rw[hLl];omega⟩,?_⟩
   rw[ekk]
   dsimp only
   repeat' apply And.intro
   all_goals first|exact⟨⟨o,ids.eraseIdx K++[id],left.eraseIdx K++[q+(1+n0)],j⟩,rfl,rfl,(by rw[w64 (by omega)];exact zBu _ _ _),hend,trivial⟩|omega|(rw[List.nil_append];omega)|(rw[List.nil_append,List.length_append];omega)
  ·obtain⟨b',R,he⟩:=z3h U hnd ha (by omega) (by omega) (by omega)
   have hB':=mdo hM hB (qG ⟨id,4,505,q⟩)
   rw[he]at hB'
   obtain⟨b2,R2,he2⟩:=z2v (q:=q) (b:=b') (vB U id) (nA hnd ha) (by omega) (by omega) (Nat.lt_of_le_of_lt (List.length_eraseIdx_le ..) (by omega))
   refine⟨⟨by omega,by rw[hLl];omega⟩,q,elI eQ,⟨id,4,505,q⟩,rfl,rfl,rfl,rfl,trivial,fun _ _=>⟨⟨m,pp,BP (zO 500 l),U,qG ⟨id,4,505,q⟩,_⟩,rfl,rfl,rfl,rfl,rfl,rfl,rfl,rfl,rfl,rfl,⟨⟨hM,hB⟩,Nat.zero_le _,⟨by show _≤q;omega,by show q≤_;omega⟩,he.symm⟩,fun o1 ho1=> ?_⟩⟩
   have hB2:=mdo ho1 hB' (qG ⟨id,4,500,q⟩)
   rw[he2]at hB2
   refine⟨⟨id,4,500,q⟩,rfl,rfl,rfl,rfl,trivial,fun _ _=>⟨⟨o1,pp,_,_,qG ⟨id,4,500,q⟩,_⟩,rfl,rfl,rfl,rfl,rfl,rfl,rfl,rfl,rfl,rfl,⟨⟨ho1,hB'⟩,Nat.zero_le _,⟨by show _≤q;omega,by show q≤_;omega⟩,he2.symm⟩,fun o ho=> ?_⟩⟩
   have hend:=hgo o id q b2 _ ho hB2 (by omega) hU9''
   have u1:=len1 ids hil0
   have u2:=len2 ids hil0
   have u3:=len1 left hLl0
   have u4:=len2 left hLl0
   refine⟨(ids,left),rfl,rfl,fun x=>x=(ids.eraseIdx K++[id],left),⟨⟨by omega,by rw[hil];omega⟩,⟨by omega,by rw[hil];omega⟩,?_⟩,?_⟩
   ·rw[ekn]
    rw[ekk]
    dsimp only
    repeat' apply And.intro
    all_goals first|exact⟨(ids.eraseIdx K++[id],left),rfl,zBu _ _ _,rfl,by(repeat'(first|exact trivial|exact rfl|apply And.intro))⟩|omega|(rw[List.nil_append];omega)|(rw[List.nil_append,List.length_append];omega)
   rintro _ rfl
   rw[ekn]
   refine⟨⟨by omega,by rw[hLl];omega⟩,⟨by omega,by rw[hLl];omega⟩,?_⟩
   rw[ekk]
   dsimp only
   repeat' apply And.intro
   all_goals first|exact⟨⟨o,ids.eraseIdx K++[id],left.eraseIdx K++[q],j⟩,rfl,rfl,zBu _ _ _,hend,trivial⟩|omega|(rw[List.nil_append];omega)|(rw[List.nil_append,List.length_append];omega)
 clear hM hB hi hL hr h22 hUj hll hnd hid hil hLl hil0 hLl0 ha haid ha22 eI eQ wn hn0 wk hU9
 rintro⟨m,ids,left,j⟩ ⟨l,U,⟨hM,hB,hi,hL⟩,hne,hq1,hs,hU,hl⟩
 dsimp only at hM hi hL ⊢
 obtain⟨X,hX,hXB,hXl,hXR⟩:=zWo hM hB hne hq1 hs hU hl
 have hB':BOk pp X.B:=by rw[hX];exact mdo hM hB lastC
 have hil:(iE ids).length=l.length:=by rw[yR,hi,List.length_map]
 have hLl:(iE left).length=l.length:=by rw[yR,hL,List.length_map]
 have hRl:(List.map z9 X.R).length=l.length+3:=by rw[List.length_map,hXl]
 refine⟨⟨900,0,500,500⟩,rfl,rfl,rfl,rfl,trivial,fun _ _=>⟨⟨yBw ⟨900,0,500,500⟩,2,0⟩,rfl,rfl,rfl,rfl,rfl,rfl,rfl,rfl,rfl,rfl,rfl,trivial,fun _ _=>⟨⟨m,pp,BP (zO 500 l),U,lastC,X⟩,rfl,rfl,rfl,rfl,rfl,rfl,rfl,rfl,rfl,rfl,⟨⟨hM,hB⟩,Nat.zero_le _,(by decide:yI 500),hX⟩,fun o ho=> ?_⟩⟩⟩
 dsimp only at ho ⊢
 rw[hRl,hil,hLl,w64 (x:=(l.length:Int)+2) (by omega)]
 refine zU (fun e=> ?_) (fun _=> ?_)
 ·exfalso;omega
 refine⟨0,rfl,fun k=>k≤l.length,fun k=>l.length-k,Nat.zero_le _,fun k hk=>zU (fun e=> ?_) (fun e=> ?_)⟩
 ·obtain⟨a,hka⟩:=yD (l:=l) (i:=k) (by omega)
  have h1:=elA (f:=z9) (g:=0) (n:=8) (hXR k a hka) (by simp[z9]) rfl
  have h2:ids[k]? =some a.1:=by rw[hi,List.getElem?_map,hka];rfl
  have h3:left[k]? =some a.2.1:=by rw[hL,List.getElem?_map,hka];rfl
  have e1:IntKind.i64.wrap ((k:Int)+1)=((k+1:Nat):Int):=by rw[w64 (by omega)];rfl
  rw[e1]
  refine⟨true,fun b=>b=false,⟨⟨by omega,by omega⟩,_,_,_,_,_,_,_,_,h1,⟨by omega,by omega⟩,_,elI h2,⟨by omega,by omega⟩,_,elI h3,_,rfl,by simp,by(repeat'(first|exact trivial|exact rfl|apply And.intro))⟩,?_⟩
  rintro _ rfl
  exact Cv.cnd.mk (fun e=>absurd e (by decide)) (fun _=>⟨k+1,rfl,by dsimp only;omega,by dsimp only;omega,by(repeat'(first|exact trivial|exact rfl|apply And.intro))⟩)
 ·refine⟨⟨o,pp,X.B,X.U,0⟩,rfl,⟨ho,hB'⟩,fun _ _=>Cv.cnd.mk (fun _=>⟨(),trivial,fun _ _=>⟨(),rfl,trivial⟩⟩) (fun e=> ?_)⟩
  dsimp only at e
  rw[hXB]at e
  exact absurd e (by decide)
end Sx
