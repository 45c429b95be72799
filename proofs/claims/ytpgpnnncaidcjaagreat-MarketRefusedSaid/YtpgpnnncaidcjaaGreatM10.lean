/- Texts of ours, one behind the other: a walk that the kernel reckons, and contracts of functions. No condition. -/
import Derived.Test.YtpgpnnncaidcjaaGreatM9
namespace Sx
set_option linter.unusedVariables false
set_option linter.unusedSimpArgs false
set_option maxRecDepth 100000
open Go Cv Go.Proofs
open Go Cv Go.Proofs
theorem dI {inst s:Int} {f:wP}:∀{os:List zM} {sh:List Int},f∈xA inst s os sh→f.side=s∧f.inst=inst∧∃o∈os,f.price=o.price
 |[],sh,h=>by cases h
 |o::os,[],h=>by cases h
 |o::os,k::sh,h=>by
  rw[xA]at h
  split at h
  ·rcases List.mem_cons.1 h with rfl|h
   ·exact⟨rfl,rfl,o,List.mem_cons_self,rfl⟩
   ·obtain⟨a,b,o',c,d⟩:=dI h
    exact⟨a,b,o',List.mem_cons_of_mem _ c,d⟩
  ·obtain⟨a,b,o',c,d⟩:=dI h
   exact⟨a,b,o',List.mem_cons_of_mem _ c,d⟩
def FOk (f:wP):Prop:=(f.side=1∨f.side=2)∧-2000000≤f.price∧f.price≤2000000
theorem nX {p:Prd} {B:List (List zM)} (h:BOk p B) (inst:Int) {s:Int} (hs:s=1∨s=2) (q:Int):∀f∈yS p B inst s q,FOk f:=by
 intro f hf
 obtain⟨a,_,o,ho,e⟩:=dI hf
 refine⟨by rw[a];exact hs,?_⟩
 rw[e]
 have ho:=(List.mem_filter.1 ho).1
 by_cases hk:inst.toNat<B.length
 ·obtain⟨L,hL⟩:=yE hk
  rw[zY hL]at ho
  exact h.prices hL o ho
 ·rw[List.getD_eq_getElem?_getD,List.getElem?_eq_none (by omega)]at ho;cases ho
def SOk (t:kD):Prop:=(-2000000≤t.price∧t.price≤2000000)∧(∀f∈t.fills,FOk f)∧t.fills.length≤500
theorem z3s {p:Prd} {B:List (List zM)} (h:BWf p B) {inst:Int} (hi:0≤inst∧inst<B.length) {s:Int} (hs:s=1∨s=2) (hn:(zR p B inst s).2.2=true): -2000000≤(zR p B inst s).1.price∧(zR p B inst s).1.price≤2000000:=by
 rw[zR]at hn ⊢
 obtain⟨L,hL⟩:=yE (l:=B) (i:=inst.toNat) (by omega)
 rw[zY hL]at hn ⊢
 split
 ·exact zFl (h.ok.prices hL)
 ·rename_i c
  rw[if_neg c]at hn
  have hm:=zBx hn
  have:=(List.mem_filter.1 hm).2
  exact m7 h.ok.pc (of_decide_eq_true this)
theorem z4s {p:Prd} {B:List (List zM)} (h:BWf p B) {inst:Int} (hi:0≤inst∧inst<B.length) {sd:Bool} {price q:Int} {t:kD} {B':List (List zM)} (e:vG p B inst sd price q=some (t,B')):SOk t:=by
 have hs:zB (!sd)=1∨zB (!sd)=2:=a6 _
 have hb:=z3s h hi hs
 have hin:=zNu h.ok h.od hi hs
 rw[vG]at e
 dsimp only at e
 split at e
 ·rename_i c
  have c1:(zR p B inst (zB (!sd))).2.2=true:=by
   cases hx:(zR p B inst (zB (!sd))).2.2 with
   |false=>rw[hx]at c;cases c
   |true=>rfl
  have hb:=hb c1
  obtain⟨_,hin,_⟩:=hin c1
  split at e
  ·rename_i c2
   obtain⟨_,ok⟩:=hin c2
   cases e
   refine⟨hb,fun f hf=> ?_,?_⟩
   ·rcases List.mem_append.1 hf with hf|hf
    ·exact nX h.ok _ ok.sa _ f hf
    ·exact nX h.ok.takes _ ok.sb _ f hf
   ·dsimp only
    rw[List.length_append]
    have:=gJ (p:=p) h.od (zR p B inst (zB (!sd))).1.a.inst (zR p B inst (zB (!sd))).1.a.side (min q (zR p B inst (zB (!sd))).1.qty)
    have:=gJ (p:=p) (h.takes (fs:=yS p B (zR p B inst (zB (!sd))).1.a.inst (zR p B inst (zB (!sd))).1.a.side (min q (zR p B inst (zB (!sd))).1.qty))).od (zR p B inst (zB (!sd))).1.b.inst (zR p B inst (zB (!sd))).1.b.side (min q (zR p B inst (zB (!sd))).1.qty)
    omega
  ·cases e
   refine⟨hb,fun f hf=>nX h.ok _ hs _ f hf,?_⟩
   have:=gJ (p:=p) h.od inst (zB (!sd)) (min q (zR p B inst (zB (!sd))).1.qty)
   dsimp only
   omega
 ·cases e
open Go Cv Go.Proofs
open Go Cv Go.Proofs
def zMo (i:StI):Prop:=
 (∀(p:Value×List D),p∈yA i.s.wh→like (Value.int IntKind.i64 i.id) p.fst=true)∧∃(b:Bool),∃(n:Int),(qG (Value.int IntKind.i64 i.id) (yA i.s.wh)=some [D.v (.int .i64 n)]∧b=true∨qG (Value.int IntKind.i64 i.id) (yA i.s.wh)=none∧[D.v (.int .i64 n)]=[D.v (.int .i64 0)]∧b=false)∧cnd (!b) (∃(o:Unit),(zO i.B i.id).fst=0∧(zO i.B i.id).snd.fst.id=0∧(zO i.B i.id).snd.fst.side=0∧(zO i.B i.id).snd.fst.price=0∧(zO i.B i.id).snd.fst.qty=0∧(zO i.B i.id).snd.fst.top=false∧(zO i.B i.id).snd.snd=false∧sb i.s.p.code=sb i.s.p.code∧i.s.p.tick=i.s.p.tick∧i.s.p.low=i.s.p.low∧i.s.p.high=i.s.p.high∧i.s.p.wide=i.s.p.wide∧i.s.p.rule=i.s.p.rule∧i.s.p.top=i.s.p.top∧i.s.p.least=i.s.p.least∧i.s.p.part=i.s.p.part∧AObj.objs 102 Book 6 zN i.s.books none=AObj.objs 102 Book 6 zN i.s.books none∧yA i.s.wh=yA i.s.wh∧AObj.fro 1 (iE i.s.p.months)=AObj.fro 1 (iE i.s.p.months)∧AObj.fro 1 (iE i.s.p.settle)=AObj.fro 1 (iE i.s.p.settle)∧True) ((0≤n∧n<(↑i.s.books.length:Int))∧n.toNat<i.s.books.length∧∃(x:Book),i.s.books[n.toNat]?=some x∧∃(i_1:FlI),i_1.id=i.id∧yC i_1.b=yC x∧i_1.b.Rep i_1.L∧∀(o:Unit),True→∃(x:Book),yC i_1.b=yC x∧n.toNat=n.toNat∧n.toNat<i.s.books.length∧∃(o:Unit),(zO i.B i.id).fst=n∧(zO i.B i.id).snd.fst.id=(wR i_1.L i_1.id).id∧(zO i.B i.id).snd.fst.side=(wR i_1.L i_1.id).side∧(zO i.B i.id).snd.fst.price=(wR i_1.L i_1.id).price∧(zO i.B i.id).snd.fst.qty=(wR i_1.L i_1.id).qty∧(zO i.B i.id).snd.fst.top=(wR i_1.L i_1.id).top∧(zO i.B i.id).snd.snd=true∧sb i.s.p.code=sb i.s.p.code∧i.s.p.tick=i.s.p.tick∧i.s.p.low=i.s.p.low∧i.s.p.high=i.s.p.high∧i.s.p.wide=i.s.p.wide∧i.s.p.rule=i.s.p.rule∧i.s.p.top=i.s.p.top∧i.s.p.least=i.s.p.least∧i.s.p.part=i.s.p.part∧AObj.objs 102 Book 6 zN i.s.books none=AObj.objs 102 Book 6 zN (i.s.books.set n.toNat x) none∧yA i.s.wh=yA i.s.wh∧AObj.fro 1 (iE i.s.p.months)=AObj.fro 1 (iE i.s.p.months)∧AObj.fro 1 (iE i.s.p.settle)=AObj.fro 1 (iE i.s.p.settle)∧True)
theorem z2q (hG:GOk Tryz.prog ([(75,bfindC)])) (h:∀(i:StI),sfindC.cnd i→zMo i):sfindC.ok Tryz.prog 41:=okw mixed hG 0 (fun _=>[]) (fun _=>[]) [0] Tryz.func41 h
open Go Cv Go.Proofs
theorem z9f (i:StI) (h:sfindC.cnd i):zMo i:=by
 obtain⟨hR,hB⟩:i.s.Rep i.p i.B∧i.B.length≤1000:=h
 have hat:=hR.at_ i.id
 unfold zMo
 rw[zO]
 cases hi:vH i.B i.id with
 |none=>
  rw[hi]at hat
  exact⟨wU _ _,false,0,.inr ⟨by rw[gH,hat];rfl,rfl,rfl⟩,Cv.cnd.mk (fun _=>⟨(),by(repeat'(first|exact trivial|exact rfl|apply And.intro))⟩) (fun e=>absurd e (by decide))⟩
 |some k=>
  rw[hi]at hat
  obtain⟨L,hL,hh⟩:=kI hi
  have hk:=(List.getElem?_eq_some_iff.1 hL).1
  obtain⟨b,hb⟩:=yE (l:=i.s.books) (i:=k) (by rw[hR.bl];exact hk)
  have hbR:=hR.bk k b L hb hL
  have hbl:=hR.bl
  refine⟨wU _ _,true,k,.inl ⟨by rw[gH,hat];rfl,rfl⟩,Cv.cnd.mk (fun e=>absurd e (by decide)) (fun _=> ?_)⟩
  dsimp only
  rw[Int.toNat_natCast,zY hL]
  have hs:=wC hb
  refine⟨⟨by omega,by omega⟩,by omega,b,hb,⟨b,L,i.id,0⟩,rfl,rfl,hbR,fun _ _=>⟨b,rfl,rfl,by omega,(),?_⟩⟩
  rw[hs]
  (repeat'(first|exact trivial|exact rfl|apply And.intro))
theorem zGg:sfindC.ok Tryz.prog 41:=z2q (gokc zIu gok0) z9f
open Go Cv Go.Proofs
theorem zAf (id:Int) (U:List Int):∀p∈zW U,like (Value.int IntKind.i64 id) p.1=true:=by
 intro p hp
 obtain⟨k,_,rfl⟩:=List.mem_map.1 hp
 rfl
theorem zBy (id:Int):∀U:List Int,jW (Value.int IntKind.i64 id) [D.v (.bool true)] (zW U)=zW (nA U id)
 |[]=>rfl
 |k::U=>by
  have ih:=zBy id U
  have e:fX (Value.int IntKind.i64 id) (Value.int IntKind.i64 k)=decide (id=k):=by simp[fX,keq]
  show(bif fX (Value.int IntKind.i64 id) (Value.int IntKind.i64 k)then(Value.int IntKind.i64 k,[D.v (.bool true)])::zW U else(Value.int IntKind.i64 k,[D.v (.bool true)])::jW (Value.int IntKind.i64 id) [D.v (.bool true)] (zW U))=_
  rw[e,ih]
  by_cases c:id=k
  ·rw[decide_eq_true c,cond_true,nA,if_pos (by rw[c];exact List.mem_cons_self)];rfl
  ·rw[decide_eq_false c,cond_false,nA,nA]
   have hm:id∈k::U↔id∈U:=by simp[c]
   by_cases d:id∈U
   ·rw[if_pos d,if_pos (hm.2 d)];rfl
   ·rw[if_neg d,if_neg (fun x=>d (hm.1 x))];rfl
theorem zBc (id:Int):∀U:List Int,qG (Value.int IntKind.i64 id) (zW U)=if id∈U then some [D.v (.bool true)]else none
 |[]=>rfl
 |k::U=>by
  have ih:=zBc id U
  have e:fX (Value.int IntKind.i64 id) (Value.int IntKind.i64 k)=decide (id=k):=by simp[fX,keq]
  show(bif fX (Value.int IntKind.i64 id) (Value.int IntKind.i64 k)then some [D.v (.bool true)]else qG (Value.int IntKind.i64 id) (zW U))=_
  rw[e,ih]
  by_cases c:id=k
  ·rw[decide_eq_true c,cond_true,if_pos (by rw[c];exact List.mem_cons_self)]
  ·rw[decide_eq_false c,cond_false]
   have hm:id∈k::U↔id∈U:=by simp[c]
   by_cases d:id∈U
   ·rw[if_pos d,if_pos (hm.2 d)]
   ·rw[if_neg d,if_neg (fun x=>d (hm.1 x))]
theorem zYi (id:Int) (U:List Int):qG (Value.int IntKind.i64 id) (zW U)=some [D.v (.bool (decide (id∈U)))]∧decide (id∈U)=true∨qG (Value.int IntKind.i64 id) (zW U)=none∧[D.v (.bool (decide (id∈U)))]=[D.v (.bool false)]∧decide (id∈U)=false:=by
 rw[zBc]
 by_cases c:id∈U
 ·rw[if_pos c,decide_eq_true c];exact .inl ⟨rfl,rfl⟩
 ·rw[if_neg c,decide_eq_false c];exact .inr ⟨rfl,rfl,rfl⟩
theorem zDv {p:Prd} {inst:Int} {sd:Bool} {price:Int}:∀(m:Nat) (q:Int) (B:List (List zM)),q.toNat≤m→BWf p B→0≤inst∧inst<B.length→
 (∀t∈(qQ p B inst sd price q).steps,SOk t∧1≤t.qty)∧((qQ p B inst sd price q).steps.map (·.qty)).sum=q-(qQ p B inst sd price q).left
 |m,q,B,hm,h,hi=>by
  by_cases hq:q≤0
  ·rw[uG (.inl hq)];exact⟨fun t ht=>(by cases ht),by simp⟩
  cases hs:vG p B inst sd price q with
  |none=>rw[uG (.inr hs)];exact⟨fun t ht=>(by cases ht),by simp⟩
  |some x=>
   obtain⟨t,C⟩:=x
   obtain⟨k1,k2⟩:=zBn h hs
   have hq2:=nF (by omega) hs
   cases m with
   |zero=>omega
   |succ m=>
   obtain⟨i1,i2⟩:=zDv (p:=p) (inst:=inst) (sd:=sd) (price:=price) m (q-t.qty) C (by omega) k1 (by rw[k2];exact hi)
   rw[aO (by omega) hs]
   refine⟨fun u hu=> ?_,?_⟩
   ·rcases List.mem_cons.1 hu with rfl|hu
    ·exact⟨z4s h hi hs,hq2.1⟩
    ·exact i1 u hu
   ·dsimp only
    rw[List.map_cons,List.sum_cons,i2];omega
theorem z5h {α:Type} {f:α→List Rep} (hf:∀x,(f x).length≤3):∀l:List α,(l.flatMap f).length≤3*l.length
 |[]=>Nat.le_refl _
 |x::l=>by
  have:=z5h hf l
  have:=hf x
  rw[List.flatMap_cons,List.length_append,List.length_cons];omega
theorem zBj (p:Prd) (c:Cmd) (x:kD) (left:Int):(gK p c x left).length≤3*x.fills.length+3:=by
 rw[gK,List.length_append]
 have:=z5h (fun f=>sI p x (mW f)) x.fills
 have:=sI p x ⟨3,c.id,c.inst,c.side,x.price,x.qty,left,0⟩
 omega
theorem zEv {l:List kD} (h:∀t∈l,SOk t∧1≤t.qty):(l.length:Int)≤(l.map (·.qty)).sum:=by
 induction l with
 |nil=>exact Int.le_refl _
 |cons t l ih=>
  have:=ih fun u hu=>h u (List.mem_cons_of_mem _ hu)
  have:=(h t List.mem_cons_self).2
  rw[List.map_cons,List.sum_cons,List.length_cons];omega
theorem z8n (i:EnI) (h:enterC.cnd i):zLu i:=by
 obtain⟨m,p,B,U,c,X⟩:=i
 have h':(m.Rep p B U∧BOk p B)∧((0≤c.inst∧c.inst<B.length)∧(1≤c.qty∧c.qty≤1000000)∧(c.side=1∨c.side=2))∧p.price c.inst c.price=0∧X=wX p B U c:=h
 clear h
 obtain⟨⟨⟨ep,hR,eu⟩,hB⟩,⟨⟨h0,h1⟩,hq,hs⟩,hpz,hX⟩:=h'
 subst ep eu hX
 have hwf:=hR.wf hB
 obtain⟨k1,k2,k3⟩:=vZ (inst:=c.inst) (sd:=decide (c.side=2)) (price:=c.price) _ c.qty B (Nat.le_refl _) hwf
 have k3:=k3 (by omega)
 obtain⟨s1,s2⟩:=zDv (inst:=c.inst) (sd:=decide (c.side=2)) (price:=c.price) _ c.qty B (Nat.le_refl _) hwf ⟨h0,h1⟩
 have hX:=cY m.p B m.used c
 have hbd:=m7 hB.pc hpz
 unfold zLu
 dsimp only
 rw[zBy,hX]
 refine⟨zAf _ _,⟨m.s,m.p,B,c.inst,decide (c.side=2),c.price,c.qty⟩,rfl,jG hs,rfl,rfl,rfl,⟨hR,hB,⟨h0,h1⟩,hq.1,hq.2⟩,fun o ho=> ?_⟩
 have er:RunI.r ⟨m.s,m.p,B,c.inst,decide (c.side=2),c.price,c.qty⟩=qQ m.p B c.inst (decide (c.side=2)) c.price c.qty:=rfl
 rw[er]at ho ⊢
 clear hX er
 generalize qQ m.p B c.inst (decide (c.side=2)) c.price c.qty=R at*
 obtain⟨ts,lf,RB⟩:=R
 dsimp only at*
 have hlen:=zEv s1
 have e4:(ts.map qE).length=ts.length:=List.length_map ..
 refine⟨⟨c.qty,0,[⟨1,c.id,c.inst,c.side,c.price,c.qty,c.qty,0⟩]⟩,rfl,rfl,rfl,fun j=>j.k≤ts.length∧j.left=lf+((ts.drop j.k).map (·.qty)).sum∧(⟨1,c.id,c.inst,c.side,c.price,c.qty,c.qty,0⟩::gR m.p c ts c.qty)=j.out++gR m.p c (ts.drop j.k) j.left∧j.out.length≤1+1503*j.k,fun j=>ts.length-j.k,⟨Nat.zero_le _,by dsimp only;rw[List.drop_zero,s2];omega,rfl,Nat.le_refl _⟩,?_⟩
 rintro⟨left,k,out⟩ ⟨j1,j2,j3,j4⟩
 dsimp only at j1 j2 j3 j4 ⊢
 have e5:(out.map z5).length=out.length:=List.length_map ..
 refine zQ (fun c1=> ?_) (fun c1=> ?_)
 ·obtain⟨t,ht⟩:=yE (l:=ts) (i:=k) (by omega)
  have hd:ts.drop k=t::ts.drop (k+1):=by rw[List.drop_eq_getElem_cons (by omega),(List.getElem?_eq_some_iff.1 ht).2]
  obtain⟨⟨t1,t2,t3⟩,t4⟩:=s1 t (List.mem_of_getElem? ht)
  have hsd:=zEv (l:=ts.drop (k+1)) fun u hu=>s1 u (List.mem_of_mem_drop hu)
  have hsk:((ts.drop k).map (·.qty)).sum≤(ts.map (·.qty)).sum:=by
   have:=zEv (l:=ts.take k) fun u hu=>s1 u (List.mem_of_mem_take hu)
   have e:(ts.map (·.qty)).sum=((ts.take k).map (·.qty)).sum+((ts.drop k).map (·.qty)).sum:=by
    rw[← List.sum_append,← List.map_append,List.take_append_drop]
   omega
  rw[hd,List.map_cons,List.sum_cons]at j2 hsk
  rw[hd,gR]at j3
  have hrl:=zBj m.p c t (left-t.qty)
  have e6:((gK m.p c t (left-t.qty)).map z5).length=(gK m.p c t (left-t.qty)).length:=List.length_map ..
  have hw:IntKind.i64.wrap (left-t.qty)=left-t.qty:=w64 (by omega)
  refine⟨⟨by omega,by omega⟩,t.price,t.qty,t.implied,t.fills.map yH,elA ht (by simp[qE]) rfl,?_⟩
  rw[hw]
  refine⟨⟨⟨m.p,o,nA m.used c.id⟩,c,t,left-t.qty⟩,rfl,rfl,rfl,rfl,rfl,rfl,rfl,rfl,rfl,rfl,rfl,rfl,rfl,rfl,rfl,rfl,rfl,rfl,rfl,rfl,rfl,rfl,rfl,rfl,rfl,rfl,rfl,⟨⟨hB.pc,hB.ps⟩,⟨by dsimp only;omega,by dsimp only;omega⟩,by dsimp only;omega,hs,fun f hf=>(t2 f hf).1⟩,fun _ _=>⟨by dsimp only;rw[e5,e6];omega,⟨left-t.qty,k+1,out++gK m.p c t (left-t.qty)⟩,rfl,wjn (by omega),by dsimp only;rw[List.map_append],⟨by dsimp only;omega,by dsimp only;omega,by dsimp only;rw[j3,List.append_assoc],by dsimp only;rw[List.length_append];omega⟩,by dsimp only;omega,by(repeat'(first|exact trivial|exact rfl|apply And.intro))⟩⟩
 have hk:k=ts.length:=by omega
 subst hk
 rw[List.drop_of_length_le (Nat.le_refl _)]at j2 j3
 rw[gR,List.append_nil]at j3
 rw[← j3]
 rw[← j3]at e5 j4
 have hRB:=k1.ok
 refine Cv.cnd.mk (fun e=> ?_) (fun e=>Cv.cnd.mk (fun e2=> ?_) (fun e2=> ?_))
 ·have e:lf=0:=by simpa using e
  rw[if_neg (by omega),if_neg (by omega),List.append_nil]
  exact⟨⟨m.p,o,nA m.used c.id⟩,rfl,rfl,rfl,rfl,rfl,rfl,rfl,rfl,rfl,rfl,rfl,rfl,rfl,rfl,rfl,ho,rfl⟩
 ·have e:¬lf=0:=by simpa using e
  have e2:c.time=1:=by simpa using e2
  rw[if_neg (show ¬(lf≠0∧c.time≠1)by omega),if_pos (show lf≠0∧c.time=1 from⟨e,e2⟩),List.append_nil]
  have ha:=(ho.add c.inst c.id (decide (c.side=2)) c.price lf).1
  rw[jG hs]at ha
  exact⟨⟨o,c.inst,c.id,decide (c.side=2),c.price,lf⟩,rfl,rfl,jG hs,rfl,rfl,rfl,ho.fit hRB,fun _ _=>⟨⟨m.p,(MSt.addF ⟨o,c.inst,c.id,decide (c.side=2),c.price,lf⟩).1,nA m.used c.id⟩,rfl,rfl,rfl,rfl,rfl,rfl,rfl,rfl,rfl,rfl,rfl,rfl,rfl,rfl,rfl,ha,rfl⟩⟩
 ·have e:¬lf=0:=by simpa using e
  have e2:¬c.time=1:=by simpa using e2
  rw[if_pos (show lf≠0∧c.time≠1 from⟨e,e2⟩),if_neg (show ¬(lf≠0∧c.time=1)by omega)]
  exact⟨by rw[e5];omega,⟨m.p,o,nA m.used c.id⟩,rfl,rfl,rfl,rfl,rfl,rfl,rfl,rfl,rfl,rfl,rfl,rfl,rfl,by rw[List.map_append];rfl,rfl,ho,rfl⟩
theorem zGd:enterC.ok Tryz.prog 74:=z3m (gokc zFe (gokc zVd (gokc z4e gok0))) z8n
theorem mcount_ok:mcountC.ok Tryz.prog 19:=zZj (gokc tQ gok0) fun i h=>by
 obtain⟨m,p,B,U,id⟩:=i
 have h':m.Rep p B U∧BOk p B:=h
 clear h
 obtain⟨⟨ep,hR,eu⟩,hB⟩:=h'
 subst ep eu
 have:=xH m.p
 have:=hB.bl
 exact⟨⟨m.s,m.p,B,0,false⟩,rfl,⟨hR,by dsimp only;omega⟩,fun _ _=>⟨(),by(repeat'(first|exact trivial|exact rfl|apply And.intro))⟩⟩
theorem mfind_ok:mfindC.ok Tryz.prog 26:=z3n (gokc zGg gok0) fun i h=>by
 obtain⟨m,p,B,U,id⟩:=i
 have h':m.Rep p B U∧BOk p B:=h
 clear h
 obtain⟨⟨ep,hR,eu⟩,hB⟩:=h'
 subst ep eu
 have:=xH m.p
 have:=hB.bl
 exact⟨⟨m.s,m.p,B,id,0⟩,rfl,rfl,⟨hR,by dsimp only;omega⟩,fun _ _=>⟨(),by(repeat'(first|exact trivial|exact rfl|apply And.intro))⟩⟩
theorem zAc:cancelC.ok Tryz.prog 43:=zVs (gokc aQ gok0) fun i h=>by
 obtain⟨m,p,B,U,id,q,inst,o,X⟩:=i
 have h':(m.Rep p B U∧BOk p B)∧X=jY B U id inst o:=h
 clear h
 obtain⟨⟨⟨ep,hR,eu⟩,hB⟩,hX⟩:=h'
 subst ep eu hX
 have:=xH m.p
 have:=hB.bl
 exact⟨⟨m.s,m.p,B,id,o.qty⟩,rfl,rfl,rfl,⟨hR,by dsimp only;omega⟩,fun o' ho=>⟨⟨m.p,o',m.used⟩,rfl,rfl,rfl,rfl,rfl,rfl,rfl,rfl,rfl,rfl,rfl,rfl,rfl,rfl,rfl,ho,rfl⟩⟩
theorem zBm:reduceC.ok Tryz.prog 44:=zVn (gokc aQ gok0) fun i h=>by
 obtain⟨m,p,B,U,id,q,inst,o,X⟩:=i
 have h':(m.Rep p B U∧BOk p B)∧yL (o.qty-q)∧X=uY B U id q inst o:=h
 clear h
 obtain⟨⟨⟨ep,hR,eu⟩,hB⟩,hw,hX⟩:=h'
 subst ep eu hX
 have:=xH m.p
 have:=hB.bl
 have hw:=w64 hw
 unfold zQi
 dsimp only
 rw[hw]
 exact⟨⟨m.s,m.p,B,id,q⟩,rfl,rfl,rfl,⟨hR,by dsimp only;omega⟩,fun o' ho=>⟨⟨m.p,o',m.used⟩,rfl,rfl,rfl,rfl,rfl,rfl,rfl,rfl,rfl,rfl,rfl,rfl,rfl,rfl,rfl,ho,rfl⟩⟩
theorem zBg {c:Cmd} (h:c.right=0):(if c.kind=1 then c.orderE else if c.kind≠2∧kT c.qty=false then 24 else if c.kind=4∧wY c.price=false then 23 else 0)=0:=by
 rw[Cmd.right]at h
 by_cases c1:c.kind<1∨4<c.kind
 ·rw[if_pos c1]at h;cases h
 rw[if_neg c1]at h
 by_cases c2:c.id<1∨1099511627776<c.id
 ·rw[if_pos c2]at h;cases h
 rw[if_neg c2]at h
 exact h
theorem nY {c:Cmd} (h:c.right=0) (hk:c.kind=1):(c.side=1∨c.side=2)∧(1≤c.qty∧c.qty≤1000000)∧(0≤c.least∧c.least≤c.qty):=by
 have h:=zBg h
 rw[if_pos hk,Cmd.orderE]at h
 by_cases c1:c.side≠1∧c.side≠2
 ·rw[if_pos c1]at h;cases h
 rw[if_neg c1]at h
 by_cases c2:c.time<1∨3<c.time
 ·rw[if_pos c2]at h;cases h
 rw[if_neg c2]at h
 cases c3:kT c.qty with
 |false=>rw[if_pos c3]at h;cases h
 |true=>
  rw[if_neg (by rw[c3];decide)]at h
  by_cases c4:c.least<0∨c.qty<c.least
  ·rw[if_pos c4]at h;cases h
  simp only[kT,Bool.and_eq_true,decide_eq_true_eq]at c3
  exact⟨by omega,c3,by omega⟩
theorem cW {c:Cmd} (h:c.right=0) (hk:¬c.kind=1) (hk2:¬c.kind=2):1≤c.qty∧c.qty≤1000000:=by
 have h:=zBg h
 rw[if_neg hk]at h
 cases c3:kT c.qty with
 |false=>rw[if_pos ⟨hk2,c3⟩]at h;cases h
 |true=>
  simp only[kT,Bool.and_eq_true,decide_eq_true_eq]at c3
  exact c3
theorem z7a (i:EnI) (h:orderC.cnd i):zJu i:=by
 obtain⟨m,p,B,U,c,X⟩:=i
 have h':(m.Rep p B U∧BOk p B)∧c.right=0∧c.kind=1∧X=fE p B U c:=h
 clear h
 obtain⟨⟨hM,hB⟩,hr,hkd,hX⟩:=h'
 obtain⟨ep,hR,eu⟩:=hM
 subst ep eu
 have hM:m.Rep m.p B m.used:=⟨rfl,hR,rfl⟩
 obtain⟨hs,hq,hl⟩:=nY hr hkd
 have hbl:=hB.bl
 have hcl:=xH m.p
 unfold zJu
 dsimp only
 refine⟨⟨m.p,c.inst,c.price⟩,rfl,rfl,rfl,rfl,rfl,rfl,rfl,rfl,rfl,rfl,rfl,rfl,rfl,hB.ps,fun _ _=>Cv.cnd.mk (fun e=> ?_) (fun e=> ?_)⟩
 ·have e:m.p.price c.inst c.price≠0:=by simpa using e
  have hx:X=⟨B,m.used,vR c (m.p.price c.inst c.price)⟩:=by rw[hX,fE,if_pos e]
  exact⟨⟨c,m.p.price c.inst c.price⟩,rfl,rfl,rfl,rfl,rfl,rfl,rfl,rfl,rfl,rfl,trivial,fun _ _=>⟨m,rfl,rfl,rfl,rfl,rfl,rfl,rfl,rfl,rfl,rfl,rfl,rfl,rfl,by rw[hx];rfl,by rw[hx];exact hM⟩⟩
 have hpz:m.p.price c.inst c.price=0:=by simpa using e
 have hin:=sZ hpz
 have hib:0≤c.inst∧c.inst<B.length:=by omega
 rw[fE,if_neg (by rw[hpz];decide)]at hX
 refine⟨0,fun l=>l=c.lst,Cv.cnd.mk (fun e=>⟨c.qty,rfl,by rw[Cmd.lst,if_pos (by simpa using e)],by(repeat'(first|exact trivial|exact rfl|apply And.intro))⟩) (fun e=>⟨c.least,rfl,by rw[Cmd.lst,if_neg (by simpa using e)],by(repeat'(first|exact trivial|exact rfl|apply And.intro))⟩),?_⟩
 rintro _ rfl
 refine⟨zAf _ _,_,_,zYi _ _,zQ (fun e=> ?_) (fun e=> ?_)⟩
 ·have hx:X=⟨B,m.used,vR c 25⟩:=by rw[hX,if_pos e]
  exact⟨⟨c,25⟩,rfl,rfl,rfl,rfl,rfl,rfl,rfl,rfl,rfl,rfl,trivial,fun _ _=>⟨m,rfl,rfl,rfl,rfl,rfl,rfl,rfl,rfl,rfl,rfl,rfl,rfl,rfl,by rw[hx];rfl,by rw[hx];exact hM⟩⟩
 rw[if_neg e]at hX
 refine⟨⟨m.s,m.p,B,0,false⟩,rfl,⟨hR,by dsimp only;omega⟩,fun _ _=>zQ (fun e=> ?_) (fun e=> ?_)⟩
 ·have hx:X=⟨B,m.used,vR c 13⟩:=by rw[hX,if_pos (by dsimp only at e;omega)]
  exact⟨⟨c,13⟩,rfl,rfl,rfl,rfl,rfl,rfl,rfl,rfl,rfl,rfl,trivial,fun _ _=>⟨m,rfl,rfl,rfl,rfl,rfl,rfl,rfl,rfl,rfl,rfl,rfl,rfl,rfl,by rw[hx];rfl,by rw[hx];exact hM⟩⟩
 rw[if_neg (by dsimp only at e;omega)]at hX
 have hok:RunI.ok ⟨m.s,m.p,B,c.inst,decide (c.side=2),c.price,c.qty⟩:=⟨hR,hB,hib,hq.1,hq.2⟩
 refine⟨true,fun b=>b=decide (0<c.lst∧c.qty-(qQ m.p B c.inst (decide (c.side=2)) c.price c.qty).left<c.lst),zQ (fun e=>⟨⟨m.s,m.p,B,c.inst,decide (c.side=2),c.price,c.qty⟩,rfl,jG hs,rfl,rfl,rfl,hok,fun _ _=>⟨_,rfl,decide_eq_decide.2 ⟨fun x=>⟨e,x⟩,fun x=>x.2⟩,by(repeat'(first|exact trivial|exact rfl|apply And.intro))⟩⟩) (fun e=>⟨false,rfl,(decide_eq_false fun x=>e x.1).symm,by(repeat'(first|exact trivial|exact rfl|apply And.intro))⟩),?_⟩
 rintro _ rfl
 refine zQ (fun e=> ?_) (fun e=> ?_)
 ·have hx:X=⟨B,m.used,vR c 28⟩:=by rw[hX,if_pos e]
  exact⟨⟨c,28⟩,rfl,rfl,rfl,rfl,rfl,rfl,rfl,rfl,rfl,rfl,trivial,fun _ _=>⟨m,rfl,rfl,rfl,rfl,rfl,rfl,rfl,rfl,rfl,rfl,rfl,rfl,rfl,by rw[hx];rfl,by rw[hx];exact hM⟩⟩
 rw[if_neg e]at hX
 refine⟨true,fun b=>b=decide (c.time=1∧uJ m.p B c.inst (decide (c.side=2)) c.price c.qty=true),Cv.cnd.mk (fun e=>⟨⟨m.s,m.p,B,c.inst,decide (c.side=2),c.price,c.qty⟩,rfl,jG hs,rfl,rfl,rfl,hok,fun _ _=>⟨_,rfl,?_,by(repeat'(first|exact trivial|exact rfl|apply And.intro))⟩⟩) (fun e=>⟨false,rfl,(decide_eq_false fun x=> ?_).symm,by(repeat'(first|exact trivial|exact rfl|apply And.intro))⟩),?_⟩
 ·have e:c.time=1:=by simpa using e
  dsimp only
  cases hb:uJ m.p B c.inst (decide (c.side=2)) c.price c.qty with
  |true=>exact(decide_eq_true ⟨e,rfl⟩).symm
  |false=>exact(decide_eq_false fun x=>by cases x.2).symm
 ·rw[x.1]at e;cases e
 rintro _ rfl
 refine zQ (fun e=> ?_) (fun e=> ?_)
 ·have hx:X=⟨B,m.used,vR c 23⟩:=by rw[hX,if_pos e]
  exact⟨⟨c,23⟩,rfl,rfl,rfl,rfl,rfl,rfl,rfl,rfl,rfl,rfl,trivial,fun _ _=>⟨m,rfl,rfl,rfl,rfl,rfl,rfl,rfl,rfl,rfl,rfl,rfl,rfl,rfl,by rw[hx];rfl,by rw[hx];exact hM⟩⟩
 rw[if_neg e]at hX
 exact⟨⟨m,m.p,B,m.used,c,X⟩,rfl,rfl,rfl,rfl,rfl,rfl,rfl,rfl,rfl,rfl,rfl,rfl,rfl,rfl,rfl,rfl,rfl,rfl,rfl,rfl,rfl,rfl,⟨⟨hM,hB⟩,⟨hib,hq,hs⟩,hpz,hX⟩,fun o ho=>⟨o,rfl,rfl,rfl,rfl,rfl,rfl,rfl,rfl,rfl,rfl,rfl,rfl,rfl,rfl,ho⟩⟩
theorem zXv:orderC.ok Tryz.prog 40:=z2l (gokc dW (gokc zNh (gokc tQ (gokc zTc (gokc zIt (gokc zGd gok0)))))) z7a
theorem zFd {p:Prd} {B:List (List zM)} (h:BWf p B) {id inst:Int} {o:zM} (hf:zO B id=(inst,o,true)):(0≤inst∧inst<B.length)∧rQ o:=by
 rw[zO]at hf
 split at hf
 ·cases hf
 ·rename_i k hk
  obtain⟨L,hL,hh⟩:=kI hk
  rw[zY hL]at hf
  cases hf
  have hlt:=(List.getElem?_eq_some_iff.1 hL).1
  obtain⟨o,ho,e⟩:=List.mem_map.1 (hasId_iff.1 hh)
  have hg:=fC (h.od k L hL).2.1 ho
  rw[e]at hg
  rw[hg]
  exact⟨by omega,(h.od k L hL).1 o ho⟩
theorem tD (p:Prd) (c:Cmd):∀(l:List kD) (left:Int),(∀t∈l,SOk t∧1≤t.qty)→(gR p c l left).length≤1503*l.length
 |[],_,_=>Nat.le_refl _
 |t::l,left,h=>by
  have a:=tD p c l (left-t.qty) fun u hu=>h u (List.mem_cons_of_mem _ hu)
  have b:=zBj p c t (left-t.qty)
  have d:=(h t List.mem_cons_self).1.2.2
  rw[gR,List.length_append,List.length_cons];omega
theorem b8 {p:Prd} {B:List (List zM)} (h:BWf p B) (U:List Int) {c:Cmd} (hi:0≤c.inst∧c.inst<B.length) (hq:1≤c.qty∧c.qty≤1000000):(wX p B U c).R.length≤1503000002:=by
 obtain⟨s1,s2⟩:=zDv (inst:=c.inst) (sd:=decide (c.side=2)) (price:=c.price) _ c.qty B (Nat.le_refl _) h hi
 have k3:=(vZ (inst:=c.inst) (sd:=decide (c.side=2)) (price:=c.price) _ c.qty B (Nat.le_refl _) h).2.2 (by omega)
 have:=zEv s1
 have:=tD p c _ c.qty s1
 rw[cY]
 dsimp only
 rw[List.length_append,List.length_cons]
 split
 ·rw[List.length_cons,List.length_nil];omega
 ·rw[List.length_nil];omega
theorem zTx (i:zRg) (h:replaceC.cnd i):sA i:=by
 obtain⟨m,p,B,U,c,inst,o,X⟩:=i
 have h':m.Rep p B U∧BOk p B∧zO B c.id=(inst,o,true)∧(1≤c.qty∧c.qty≤1000000)∧X=vI p B U c inst o:=h
 clear h
 obtain⟨hM,hB,hf,hq,hX⟩:=h'
 obtain⟨ep,hR,eu⟩:=hM
 subst ep eu
 have hM:m.Rep m.p B m.used:=⟨rfl,hR,rfl⟩
 have hwf:=hR.wf hB
 obtain⟨hin,hoo⟩:=zFd hwf hf
 have hos:=hoo.s
 have hoq:=hoo.q
 have hbl:=hB.bl
 have hcl:=xH m.p
 unfold sA bK
 dsimp only
 refine⟨⟨m.p,inst,c.price⟩,rfl,rfl,rfl,rfl,rfl,rfl,rfl,rfl,rfl,rfl,rfl,rfl,rfl,hB.ps,fun _ _=>Cv.cnd.mk (fun e=> ?_) (fun e=> ?_)⟩
 ·have e:m.p.price inst c.price≠0:=by simpa using e
  have hx:X=⟨B,m.used,vR c (m.p.price inst c.price)⟩:=by rw[hX,vI,if_pos e]
  exact⟨⟨c,m.p.price inst c.price⟩,rfl,rfl,rfl,rfl,rfl,rfl,rfl,rfl,rfl,rfl,trivial,fun _ _=>⟨m,rfl,rfl,rfl,rfl,rfl,rfl,rfl,rfl,rfl,rfl,rfl,rfl,rfl,by rw[hx];rfl,by rw[hx];exact hM⟩⟩
 have hpz:m.p.price inst c.price=0:=by simpa using e
 rw[vI,if_neg (by rw[hpz];decide)]at hX
 have hw:IntKind.i64.wrap (o.qty-c.qty)=o.qty-c.qty:=w64 (by omega)
 rw[hw]
 refine(fun hT=>Cv.cnd.mk (fun e1=>zQ (fun e2=> ?_) (fun e2=>hT fun x=>e2 x.2)) (fun e1=>hT fun x=>by rw[x.1]at e1;simp at e1)) (fun(hn:¬(c.price=o.price∧c.qty≤o.qty))=> ?_)
 ·have e1:c.price=o.price:=by simpa using e1
  rw[if_pos ⟨e1,e2⟩]at hX
  exact⟨⟨m,m.p,B,m.used,c.id,o.qty-c.qty,inst,o,X⟩,rfl,rfl,rfl,rfl,rfl,rfl,rfl,rfl,rfl,rfl,rfl,rfl,rfl,rfl,rfl,rfl,rfl,rfl,rfl,rfl,rfl,⟨⟨hM,hB⟩,⟨by dsimp only;omega,by dsimp only;omega⟩,hX⟩,fun o' ho=>⟨o',rfl,rfl,rfl,rfl,rfl,rfl,rfl,rfl,rfl,rfl,rfl,rfl,rfl,rfl,ho⟩⟩
 rw[if_neg hn]at hX
 have hBt:=hB.take c.id o.qty
 refine⟨m.s,rfl,hR.small hB,fun _ _=>⟨⟨m.s,m.p,B,c.id,o.qty⟩,rfl,rfl,rfl,⟨hR,by dsimp only;omega⟩,fun o' ho'=>⟨⟨o',m.p,(xN B c.id o.qty).1,inst,decide (o.side=2),c.price,c.qty⟩,rfl,jG hos,rfl,rfl,rfl,⟨ho',hBt,by dsimp only;rw[gN];exact hin,hq.1,hq.2⟩,fun _ _=>Cv.cnd.mk (fun e=> ?_) (fun e=> ?_)⟩⟩⟩
 ·have hx:X=⟨B,m.used,vR c 23⟩:=by rw[hX,if_pos e]
  exact⟨⟨c,23⟩,rfl,rfl,rfl,rfl,rfl,rfl,rfl,rfl,rfl,rfl,trivial,fun _ _=>⟨m,rfl,rfl,rfl,rfl,rfl,rfl,rfl,rfl,rfl,rfl,rfl,rfl,rfl,by rw[hx];rfl,by rw[hx];exact hM⟩⟩
 rw[if_neg (by rw[e];decide)]at hX
 refine⟨⟨m,m.p,B,m.used,c.id,0,inst,o,jY B m.used c.id inst o⟩,rfl,rfl,rfl,rfl,rfl,rfl,rfl,rfl,rfl,rfl,rfl,rfl,rfl,rfl,rfl,rfl,rfl,rfl,rfl,rfl,⟨⟨hM,hB⟩,rfl⟩,fun o1 ho1=>⟨⟨o1,m.p,(xN B c.id o.qty).1,m.used,⟨1,c.id,inst,o.side,c.price,c.qty,0,1,[]⟩,wX m.p (xN B c.id o.qty).1 m.used ⟨1,c.id,inst,o.side,c.price,c.qty,0,1,[]⟩⟩,rfl,rfl,rfl,rfl,rfl,rfl,rfl,rfl,rfl,rfl,rfl,rfl,rfl,rfl,rfl,rfl,rfl,rfl,rfl,rfl,rfl,rfl,⟨⟨ho1,hBt⟩,⟨by dsimp only;rw[gN];exact hin,hq,hos⟩,hpz,rfl⟩,fun o2 ho2=>⟨?_,o2,rfl,rfl,rfl,rfl,rfl,rfl,rfl,rfl,rfl,rfl,rfl,rfl,rfl,?_,?_⟩⟩⟩
 ·have:=b8 (hwf.take c.id o.qty) m.used (c:=⟨1,c.id,inst,o.side,c.price,c.qty,0,1,[]⟩) (by dsimp only;rw[gN];exact hin) hq
  dsimp only
  rw[List.length_map,List.length_map]
  have e1:(jY B m.used c.id inst o).R.length=1:=rfl
  omega
 ·rw[hX,← List.map_append];rfl
 ·rw[hX];exact ho2
theorem zLp:replaceC.ok Tryz.prog 42:=zSl (gokc dW (gokc zNh (gokc dZ (gokc aQ (gokc zIt (gokc zAc (gokc zBm (gokc zGd gok0)))))))) zTx
theorem vdo (i:EnI) (h:doC.cnd i):Vdo i:=by
 obtain⟨m,p,B,U,c,X⟩:=i
 have h':(m.Rep p B U∧BOk p B)∧c.label.length≤140737488355328∧yL c.qty∧X=doF p B U c:=h
 clear h
 obtain⟨⟨hM,hB⟩,hlb,hqr,hX⟩:=h'
 obtain⟨ep,hR,eu⟩:=hM
 subst ep eu
 have hM:m.Rep m.p B m.used:=⟨rfl,hR,rfl⟩
 have hwf:=hR.wf hB
 have hbl:=hB.bl
 have hcl:=xH m.p
 unfold Vdo zUn
 dsimp only
 refine⟨c,rfl,rfl,rfl,rfl,rfl,rfl,rfl,rfl,rfl,hlb,fun _ _=>Cv.cnd.mk (fun e=> ?_) (fun e=> ?_)⟩
 ·have e:c.right≠0:=by simpa using e
  have hx:X=⟨B,m.used,vR c c.right⟩:=by rw[hX,doF,if_pos e]
  exact⟨⟨c,c.right⟩,rfl,rfl,rfl,rfl,rfl,rfl,rfl,rfl,rfl,rfl,trivial,fun _ _=>⟨m,rfl,rfl,rfl,rfl,rfl,rfl,rfl,rfl,rfl,rfl,rfl,rfl,rfl,by rw[hx];rfl,by rw[hx];exact hM⟩⟩
 have hr:c.right=0:=by simpa using e
 rw[doF,if_neg (by rw[hr];decide)]at hX
 refine Cv.cnd.mk (fun e=> ?_) (fun e=> ?_)
 ·have e:c.kind=1:=by simpa using e
  rw[if_pos e]at hX
  exact⟨⟨m,m.p,B,m.used,c,X⟩,rfl,rfl,rfl,rfl,rfl,rfl,rfl,rfl,rfl,rfl,rfl,rfl,rfl,rfl,rfl,rfl,rfl,rfl,rfl,rfl,rfl,rfl,⟨⟨hM,hB⟩,hr,e,hX⟩,fun o ho=>⟨o,rfl,rfl,rfl,rfl,rfl,rfl,rfl,rfl,rfl,rfl,rfl,rfl,rfl,rfl,ho⟩⟩
 have hk:¬c.kind=1:=by simpa using e
 rw[if_neg hk]at hX
 refine(fun hT=>⟨hT,rfl,trivial,hT⟩) ?_
 refine⟨⟨m.s,m.p,B,c.id,0⟩,rfl,rfl,⟨hR,by dsimp only;omega⟩,fun _ _=>Cv.cnd.mk (fun e=> ?_) (fun e=> ?_)⟩
 ·have e:(zO B c.id).2.2=false:=by simpa using e
  have hx:X=⟨B,m.used,vR c 26⟩:=by rw[hX,if_pos e]
  exact⟨⟨c,26⟩,rfl,rfl,rfl,rfl,rfl,rfl,rfl,rfl,rfl,rfl,trivial,fun _ _=>⟨m,rfl,rfl,rfl,rfl,rfl,rfl,rfl,rfl,rfl,rfl,rfl,rfl,rfl,by rw[hx];rfl,by rw[hx];exact hM⟩⟩
 have e:(zO B c.id).2.2=true:=by simpa using e
 rw[if_neg (by rw[e];decide)]at hX
 dsimp only
 have hf:zO B c.id=((zO B c.id).1,(zO B c.id).2.1,true):=by rw[← e]
 generalize (zO B c.id).1=inst at*
 generalize (zO B c.id).2.1=o at*
 obtain⟨hin,hoo⟩:=zFd hwf hf
 have hoq:=hoo.q
 refine Cv.cnd.mk (fun e4=> ?_) (fun e4=>Cv.cnd.mk (fun e2=> ?_) (fun e2=>zQ (fun e3=> ?_) (fun e3=> ?_)))
 ·have e4:c.kind=4:=by simpa using e4
  rw[if_pos e4]at hX
  exact⟨⟨m,m.p,B,m.used,c,inst,o,X⟩,rfl,rfl,rfl,rfl,rfl,rfl,rfl,rfl,rfl,rfl,rfl,rfl,rfl,rfl,rfl,rfl,rfl,rfl,rfl,rfl,rfl,rfl,rfl,rfl,rfl,rfl,rfl,rfl,⟨hM,hB,hf,cW hr hk (by rw[e4];decide),hX⟩,fun o' ho=>⟨o',rfl,rfl,rfl,rfl,rfl,rfl,rfl,rfl,rfl,rfl,rfl,rfl,rfl,rfl,ho⟩⟩
 all_goals
  have e4:¬c.kind=4:=by simpa using e4
  rw[if_neg e4]at hX
 ·have e2:c.kind=2:=by simpa using e2
  rw[if_pos (.inl e2)]at hX
  exact⟨⟨m,m.p,B,m.used,c.id,0,inst,o,X⟩,rfl,rfl,rfl,rfl,rfl,rfl,rfl,rfl,rfl,rfl,rfl,rfl,rfl,rfl,rfl,rfl,rfl,rfl,rfl,rfl,⟨⟨hM,hB⟩,hX⟩,fun o' ho=>⟨o',rfl,rfl,rfl,rfl,rfl,rfl,rfl,rfl,rfl,rfl,rfl,rfl,rfl,rfl,ho⟩⟩
 ·rw[if_pos (.inr (by omega))]at hX
  exact⟨⟨m,m.p,B,m.used,c.id,0,inst,o,X⟩,rfl,rfl,rfl,rfl,rfl,rfl,rfl,rfl,rfl,rfl,rfl,rfl,rfl,rfl,rfl,rfl,rfl,rfl,rfl,rfl,⟨⟨hM,hB⟩,hX⟩,fun o' ho=>⟨o',rfl,rfl,rfl,rfl,rfl,rfl,rfl,rfl,rfl,rfl,rfl,rfl,rfl,rfl,ho⟩⟩
 ·have e2:¬c.kind=2:=by simpa using e2
  have hq:=cW hr hk e2
  rw[if_neg (by omega)]at hX
  exact⟨⟨m,m.p,B,m.used,c.id,c.qty,inst,o,X⟩,rfl,rfl,rfl,rfl,rfl,rfl,rfl,rfl,rfl,rfl,rfl,rfl,rfl,rfl,rfl,rfl,rfl,rfl,rfl,rfl,rfl,⟨⟨hM,hB⟩,⟨by dsimp only;omega,by dsimp only;omega⟩,hX⟩,fun o' ho=>⟨o',rfl,rfl,rfl,rfl,rfl,rfl,rfl,rfl,rfl,rfl,rfl,rfl,rfl,rfl,ho⟩⟩
theorem do_ok:doC.ok Tryz.prog 13:=yFt (gokc zZn (gokc zNh (gokc zGg (gokc zXv (gokc zLp (gokc zAc (gokc zBm gok0))))))) vdo
open Go Cv Go.Proofs
def known17C:Con:=con1 Unit (fun _=>[]) (fun _=>[]) (fun _=>True) (fun _=>yJ true) (fun _=>[])
def yEm (t:Nat):SAnn:={ι:=Prd,slots:=fun _=>[(t,.nm 0 0)],rows:=fun p=>[.cells [sV p.code,.own 1,zD p.tick,zD p.low,zD p.high,zD p.wide,zD p.rule,zD p.top,zD p.least,zD p.part,.own 2] 29,.fro 1 (iE p.months),.fro 1 (iE p.settle)]}
def yFe (t:Nat):SAnn:={ι:=Cmd,slots:=fun _=>[(t,.nm 0 0)],rows:=fun c=>[.cells c.cells 35]}
def AbI.p (i:AbI):Prd:=yT i.x
def AbI.n (i:AbI) (m:Nat):Nat:=min i.l.length m
@[reducible] def AbI.raw (i:AbI):Prop:=i.x.raw∧(∀c∈i.l,c.raw)∧i.l.length≤9223372036854775807
open Go Cv Go.Proofs
def tP (u:Unit):Prop:=
 ∃(i:Int),i=1∧True∧∀(o:Unit),True→∃(i_1:Prd),sb i_1.code=sb [(67:UInt8),(76:UInt8)]∧iE i_1.months=iE [(320:Int),(321:Int),(323:Int)]∧i_1.tick=5∧i_1.low=0∧i_1.high=1000∧i_1.wide=200∧i_1.rule=i∧i_1.top=4∧i_1.least=2∧i_1.part=40∧iE i_1.settle=iE [(500:Int),(505:Int),(490:Int)]∧(i_1.code.length≤1099511627776∧i_1.months.length≤1099511627776∧i_1.settle.length≤1099511627776)∧(∀(o:Unit),i_1.check=0→∃(i:EnI),i.c.kind=1∧i.c.id=1∧i.c.inst=0∧i.c.side=2∧i.c.price=10∧i.c.qty=5∧i.c.least=0∧i.c.time=1∧sb i.c.label=ByteArray.mk #[]∧AObj.adt Mkt 5 zL i.m=AObj.adt Mkt 5 zL (Mkt.mk i_1 (wH i_1) [])∧((i.m.Rep i.p i.B i.U∧BOk i.p i.B)∧i.c.label.length≤140737488355328∧((-9223372036854775808)≤i.c.qty∧i.c.qty≤9223372036854775807)∧i.X=doF i.p i.B i.U i.c)∧∀(o:Mkt),o.Rep i.p i.X.B i.X.U→∃(i_2:EnI),i_2.c.kind=1∧i_2.c.id=2∧i_2.c.inst=0∧i_2.c.side=1∧i_2.c.price=15∧i_2.c.qty=3∧i_2.c.least=0∧i_2.c.time=1∧sb i_2.c.label=ByteArray.mk #[]∧AObj.adt Mkt 5 zL i_2.m=AObj.adt Mkt 5 zL o∧((i_2.m.Rep i_2.p i_2.B i_2.U∧BOk i_2.p i_2.B)∧i_2.c.label.length≤140737488355328∧((-9223372036854775808)≤i_2.c.qty∧i_2.c.qty≤9223372036854775807)∧i_2.X=doF i_2.p i_2.B i_2.U i_2.c)∧∀(o:Mkt),o.Rep i_2.p i_2.X.B i_2.X.U→cnd ((↑(List.map z5 i.X.R).length:Int)==1) (((0:Int)≤(0:Int)∧0<(↑(List.map z5 i.X.R).length:Int))∧∃(n:Int),zH (List.map z5 i.X.R) (Int.toNat 0) ((0:Nat)+(0:Nat)) 1=some [D.v (.int .i64 n)]∧cnd (n==1) (cnd ((↑(List.map z5 i_2.X.R).length:Int)==3) (((0:Int)≤(1:Int)∧1<(↑(List.map z5 i_2.X.R).length:Int))∧∃(n:Int),∃(n_1:Int),∃(n_2:Int),∃(n_3:Int),∃(n_4:Int),∃(n_5:Int),∃(n_6:Int),∃(n_7:Int),zH (List.map z5 i_2.X.R) (Int.toNat 1) 0 8=some [D.v (.int .i64 n),D.v (.int .i64 n_1),D.v (.int .i64 n_2),D.v (.int .i64 n_3),D.v (.int .i64 n_4),D.v (.int .i64 n_5),D.v (.int .i64 n_6),D.v (.int .i64 n_7)]∧cnd (n==3 && (n_1==1 && (n_2==0 && (n_3==2 && (n_4==10 && (n_5==3 && (n_6==2 && (n_7==0 && true)))))))) (((0:Int)≤(2:Int)∧2<(↑(List.map z5 i_2.X.R).length:Int))∧∃(n:Int),∃(n_8:Int),∃(n_9:Int),∃(n_10:Int),∃(n_11:Int),∃(n_12:Int),∃(n_13:Int),∃(n_14:Int),zH (List.map z5 i_2.X.R) (Int.toNat 2) 0 8=some [D.v (.int .i64 n),D.v (.int .i64 n_8),D.v (.int .i64 n_9),D.v (.int .i64 n_10),D.v (.int .i64 n_11),D.v (.int .i64 n_12),D.v (.int .i64 n_13),D.v (.int .i64 n_14)]∧cnd (n==3 && (n_8==2 && (n_9==0 && (n_10==1 && (n_11==10 && (n_12==3 && (n_13==0 && (n_14==0 && true)))))))) (∃(i:MfI),AObj.adt Mkt 5 zL i.m=AObj.adt Mkt 5 zL o∧(i.m.Rep i.p i.B i.U∧BOk i.p i.B)∧∀(o:Unit),True→∃(o:Unit),true=((↑(nI i.B):Int)==1)∧True) (∃(o:Unit),true=false∧True)) (∃(o:Unit),true=false∧True)) (∃(o:Unit),true=false∧True)) (∃(o:Unit),true=false∧True)) (∃(o:Unit),true=false∧True))∧∀(o:Unit),i_1.check≠0→∃(o:Unit),true=false∧True
theorem zSc (hG:GOk Tryz.prog ([(11,threeC),(10,newMC),(13,doC),(19,mcountC)])) (h:∀(u:Unit),known17C.cnd u→tP u):known17C.ok Tryz.prog 15:=okw mixed hG 0 (fun _=>[]) (fun _=>[]) [] Tryz.func15 h
open Go Cv Go.Proofs
theorem zUr (t:TmI):1≤(xD t).qty∧(xD t).qty≤12:=by
 have:=y5 (n:=t.c.qty) (lo:=0) (hi:=11) (by omega)
 have e:(xD t).qty=1+zI t.c.qty 0 11:=by rw[xD];split<;>rfl
 omega
theorem zLc (t:TmI):(xD t).label=[]:=by
 rw[xD];split<;>rfl
open Go Cv Go.Proofs
theorem z1b (n:Int): -9223372036854775808≤IntKind.i64.wrap n∧IntKind.i64.wrap n≤9223372036854775807:=by
 have:IntKind.i64.wrap n=if 9223372036854775808≤n % 18446744073709551616 then n % 18446744073709551616-18446744073709551616 else n % 18446744073709551616:=by unfold IntKind.wrap;simp[IntKind.signed,IntKind.bits]
 rw[this]
 split<;>omega
theorem b9 {α β:Type} {g:α→β} {f:α→α} (h:∀x,g (f x)=g x):∀(l:List α) (i:Nat),(l.modify i f).map g=l.map g
 |[],i=>by simp
 |a::l,0=>by simp[h]
 |a::l,i+1=>by rw[List.modify_succ_cons,List.map_cons,List.map_cons,b9 h l i]
theorem zBo:∀(l:List Bool) (i:Nat) (b:Bool),(l.set i b).count true≤l.count true+1
 |[],i,b=>by simp
 |a::l,0,b=>by cases a<;>cases b<;>simp<;>omega
 |a::l,i+1,b=>by
  have:=zBo l i b
  cases a<;>simp[List.count_cons]<;>omega
def Arena.inv (m n:Nat) (a:Arena):Prop:=a.slots.length=250∧(a.slots.map (·.used)).count true≤n∧a.queues.length≤m∧∀q∈a.queues,(q.last= -1∨(0≤q.last∧q.last<250))∧yL q.count
theorem Arena.inv.mono {m n m' n':Nat} {a:Arena} (h:a.inv m n) (hm:m≤m') (hn:n≤n'):a.inv m' n':=⟨h.1,Nat.le_trans h.2.1 hn,Nat.le_trans h.2.2.1 hm,h.2.2.2⟩
theorem Arena.inv.free {m n:Nat} {a:Arena} (h:a.inv m n) (hn:n<250):∃s∈a.slots,s.used=false:=by
 apply Classical.byContradiction
 intro hx
 have:(a.slots.map (·.used)).count true=(a.slots.map (·.used)).length:=by
  rw[List.count_eq_length]
  intro b hb
  obtain⟨s,hs,rfl⟩:=List.mem_map.1 hb
  cases hu:s.used with
  |true=>rfl
  |false=>exact absurd ⟨s,hs,hu⟩ hx
 rw[List.length_map,h.1]at this
 have:=h.2.1
 omega
theorem Arena.inv.fit {m n:Nat} {a:Arena} (h:a.inv m n) (hn:n<250):a.fit:=by
 refine⟨by rw[h.1];decide,fun _=>h.free hn,fun q hq=> ?_⟩
 rw[h.1]
 exact(h.2.2.2 q hq).1
theorem Arena.inv.top {m n:Nat} {a:Arena} (h:a.inv m n) (k:Int) (t:Bool):(a.topF k t).inv m n:=by
 rw[Arena.topF]
 split
 ·refine⟨by simpa using h.1,?_,h.2.2.1,h.2.2.2⟩
  dsimp only
  rw[b9 (g:=fun s:Slot=>s.used) (f:=fun s:Slot=>{s with top:=t}) (fun _=>rfl)]
  exact h.2.1
 ·exact h
theorem Arena.inv.open {m n:Nat} {a:Arena} (h:a.inv m n):a.openQ.inv (m+1) n:=by
 refine⟨h.1,h.2.1,by have:=h.2.2.1;simp[Arena.openQ];omega,fun q hq=> ?_⟩
 rcases List.mem_append.1 hq with hq|hq
 ·exact h.2.2.2 q hq
 ·rw[List.mem_singleton.1 hq];exact⟨.inl rfl,by decide⟩
theorem Arena.inv.push {m n:Nat} {a:Arena} (h:a.inv m n) (hn:n<250) (k id qty:Int) (top:Bool):(a.push k id qty top).1.inv m (n+1):=by
 have h':a.inv m (n+1):=h.mono (Nat.le_refl m) (Nat.le_succ n)
 rw[Arena.push]
 split
 ·exact h'
 split
 ·exact h'
 split
 ·exact h'
 obtain⟨f,hf,hfl⟩:=zGj (h.free hn)
 rw[h.1]at hfl
 have hc:∀x:Slot,((a.slots.set (yX a.slots).toNat x).map (·.used)).count true≤n+1:=by
  intro x
  rw[List.map_set]
  have:=zBo (a.slots.map (·.used)) (yX a.slots).toNat x.used
  have:=h.2.1
  omega
 refine⟨?_,?_,?_,?_⟩
 ·dsimp only[Arena.put]
  split<;>simp[h.1]
 ·dsimp only[Arena.put]
  split
  ·exact hc _
  ·rw[b9 (g:=fun s:Slot=>s.used) (f:=fun s:Slot=>{s with back:=yX a.slots}) (fun _=>rfl)];exact hc _
 ·dsimp only[Arena.put];rw[List.length_set];exact h.2.2.1
 ·intro q hq
  rcases List.mem_or_eq_of_mem_set hq with hq|rfl
  ·exact h.2.2.2 q hq
  ·exact⟨.inr (by dsimp only;omega),z1b _⟩
structure Book.Inv (Q:Int→Prop) (n:Nat) (b:Book):Prop where
 a:b.a.inv n n
 l1:b.buys.length≤n
 l2:b.sells.length≤n
 sp:b.spare=[]
 p1:∀r∈b.buys,Q r.price
 p2:∀r∈b.sells,Q r.price
theorem Book.Inv.fit {Q n b} (h:Book.Inv Q n b) (hn:n<250):b.fit:=by
 have:=h.l1
 have:=h.l2
 have:=h.a.2.2.1
 exact⟨h.a.fit hn,by omega,by omega,by omega,by rw[h.sp];decide⟩
theorem Book.Inv.mono {Q n m b} (h:Book.Inv Q n b) (hm:n≤m):b.Inv Q m:=⟨h.a.mono hm hm,Nat.le_trans h.l1 hm,Nat.le_trans h.l2 hm,h.sp,h.p1,h.p2⟩
theorem Book.Inv.untop {Q n b} (h:Book.Inv Q n b) (s:Int):(b.untop s).inv n n:=by
 rw[Book.untop]
 repeat' split
 all_goals first|exact h.a|exact h.a.top _ _
theorem Book.Inv.led {Q n b} (h:Book.Inv Q n b) (id s p:Int):(b.led id s p).Inv Q n:=by
 rw[Book.led]
 split
 ·rw[Book.leadF]
  split
  all_goals exact⟨h.untop s,h.l1,h.l2,h.sp,h.p1,h.p2⟩
 ·exact h
theorem z1l (b:Book) (s p:Int):(b.ins s p).length=(b.rungs s).length+1:=by
 have:=dO s p (b.rungs s)
 simp[Book.ins];omega
theorem zOl {Q:Int→Prop} {b:Book} {s p:Int} (hp:Q p) (h:∀r∈b.rungs s,Q r.price):∀r∈b.ins s p,Q r.price:=by
 intro r hr
 rw[Book.ins]at hr
 rcases List.mem_append.1 hr with hr|hr
 ·exact h r (List.mem_of_mem_take hr)
 ·rcases List.mem_cons.1 hr with rfl|hr
  ·exact hp
  ·exact h r (List.mem_of_mem_drop hr)
theorem Book.Inv.queue {Q n b} (h:Book.Inv Q n b) (s p:Int) (hp:Q p):(b.queueF s p).1.a.inv (n+1) n∧(b.queueF s p).1.buys.length≤n+1∧(b.queueF s p).1.sells.length≤n+1∧(b.queueF s p).1.spare=[]∧(∀r∈(b.queueF s p).1.buys,Q r.price)∧∀r∈(b.queueF s p).1.sells,Q r.price:=by
 have hl1:=h.l1
 have hl2:=h.l2
 have hq:b.newQ=((b.a.queues.length:Int),b.spare,b.a.openQ):=by rw[Book.newQ,if_pos (by rw[h.sp];rfl)]
 have hi:=z1l b s p
 rw[Book.queueF]
 split
 ·exact⟨h.a.mono (Nat.le_succ n) (Nat.le_refl n),by dsimp only;omega,by dsimp only;omega,h.sp,h.p1,h.p2⟩
 split
 ·rename_i e
  subst e
  rw[hJ]at hi
  exact⟨by dsimp only;rw[hq];exact h.a.open,by dsimp only;omega,by dsimp only;omega,by dsimp only;rw[hq];exact h.sp,zOl hp h.p1,h.p2⟩
 ·rename_i e
  have er:b.rungs s=b.sells:=by rw[Book.rungs,if_neg e]
  rw[er]at hi
  exact⟨by dsimp only;rw[hq];exact h.a.open,by dsimp only;omega,by dsimp only;omega,by dsimp only;rw[hq];exact h.sp,h.p1,zOl hp (by rw[er];exact h.p2)⟩
theorem Book.Inv.stand {Q n b} (h:Book.Inv Q n b) (hn:n<250) (s id p qty:Int) (hp:Q p):(b.stand s id p qty).Inv Q (n+1):=by
 obtain⟨q1,q2,q3,q4,q5,q6⟩:=(h.led id s p).queue s p hp
 exact⟨q1.push hn _ _ _ _,q2,q3,q4,q5,q6⟩
theorem Book.Inv.add {Q n b} (h:Book.Inv Q n b) (hn:n<250) (s id p qty:Int) (hp:Q p):(b.addF s id p qty).1.Inv Q (n+1):=by
 rw[Book.addF]
 repeat' split
 all_goals first|exact h.mono (Nat.le_succ n)|exact h.stand hn s id p qty hp
structure MSt.Inv (p:Prd) (n:Nat) (s:MSt):Prop where
 e:s.p=p
 l:s.books.length=p.count
 b:∀(k:Nat) (b:Book),s.books[k]? =some b→b.Inv (fun v=>p.price k v=0) n
theorem MSt.Inv.mono {p n m s} (h:MSt.Inv p n s) (hm:n≤m):s.Inv p m:=⟨h.e,h.l,fun k b hb=>(h.b k b hb).mono hm⟩
theorem MSt.Inv.add {p n s} (h:MSt.Inv p n s) (hn:n<250) (inst id:Int) (sd:Bool) (price qty:Int):(MSt.addF ⟨s,inst,id,sd,price,qty⟩).1.Inv p (n+1):=by
 rw[MSt.addF]
 split
 ·exact h.mono (Nat.le_succ n)
 split
 ·exact h.mono (Nat.le_succ n)
 split
 ·exact h.mono (Nat.le_succ n)
 split
 ·exact h.mono (Nat.le_succ n)
 rename_i c1 _ _ c4
 dsimp only at c1 c4 ⊢
 have c4:s.p.price inst price=0:=by simpa using c4
 rw[h.e]at c4
 refine⟨h.e,by simpa using h.l,fun k b hb=> ?_⟩
 dsimp only at hb
 rw[List.getElem?_set]at hb
 split at hb
 ·rename_i e
  split at hb
  ·cases hb
   obtain⟨x,hx⟩:=yE (l:=s.books) (i:=inst.toNat) (by omega)
   have hba:s.bookAt inst=x:=zY hx
   rw[hba]
   have hx':=h.b _ _ hx
   rw[e]at hx'
   exact hx'.add hn _ _ _ _ (by rw[← e,Int.toNat_of_nonneg (by omega)];exact c4)
  ·cases hb
 ·exact(h.b k b hb).mono (Nat.le_succ n)
theorem MSt.Inv.fit {p n s} (h:MSt.Inv p n s) (hp:p.small) (hn:n<250) (hc:p.count≤1000):s.fit:=by
 refine⟨by rw[h.e];exact hp,by have:=h.l;omega,fun b hb=> ?_⟩
 obtain⟨k,hk⟩:=List.mem_iff_getElem?.1 hb
 exact(h.b k b hk).fit hn
theorem MSt.Inv.cnt {p n s} (h:MSt.Inv p n s) (hc:p.count≤1000):s.cntOk:=by
 refine⟨by have:=h.l;omega,fun b hb q hq=> ?_⟩
 obtain⟨k,hk⟩:=List.mem_iff_getElem?.1 hb
 exact((h.b k b hk).a.2.2.2 q hq).2
structure yFw (p:Prd) (k:Nat) (t:Top):Prop where
 a:t.has1=true→p.price k t.p1=0
 b:t.has2=true→p.price k t.p2=0
 c: -2000000≤t.p1∧t.p1≤2000000
 d: -2000000≤t.p2∧t.p2≤2000000
open Go Cv Go.Proofs
structure Tri (p:Prd) (a b k:Nat):Prop where
 hab:a<b
 hb:b<p.months.length
 hs:(p.spread a b).1=k
 hk:k<p.count
 hm:p.months.length≤k
 hl:p.legs k=((a:Int),(b:Int),true)
open Go Cv Go.Proofs
theorem yFo {P Q:Prop} (h:P) (q:Q):P∧True∧Q∧P:=⟨h,trivial,q,h⟩
theorem yCp {l:List Cmd} {k:Nat} {c:Cmd} (h:l[k]? =some c):zH (l.map cmdE) k 0 9=some [D.v (.int .i64 c.kind),.v (.int .i64 c.id),.v (.int .i64 c.inst),.v (.int .i64 c.side),.v (.int .i64 c.price),.v (.int .i64 c.qty),.v (.int .i64 c.least),.v (.int .i64 c.time),.v (.string (sb c.label))]:=elA h (by simp[cmdE]) rfl
def mk0 (p:Prd):Mkt:=⟨p,wH p,[]⟩
theorem zFm (p:Prd):(mk0 p).Rep p (List.replicate p.count []) []:=⟨rfl,zKq _,rfl⟩
theorem mdo {m:Mkt} {p:Prd} {B:List (List zM)} {U:List Int} (h:m.Rep p B U) (hB:BOk p B) (c:Cmd):BOk p (doF p B U c).B:=z6g (by have:=h.s;exact this.wf hB) U c
def kc1:Cmd:=⟨1,1,0,2,10,5,0,1,[]⟩
def kc2:Cmd:=⟨1,2,0,1,15,3,0,1,[]⟩
def kX1:MkX:=doF (vY 1) (List.replicate (vY 1).count []) [] kc1
def kX2:MkX:=doF (vY 1) kX1.B kX1.U kc2
theorem kR1:kX1.R=[⟨1,1,0,2,10,5,5,0⟩]:=by kernel_rfl
theorem kR2:kX2.R=[⟨1,2,0,1,15,3,3,0⟩,⟨3,1,0,2,10,3,2,0⟩,⟨3,2,0,1,10,3,0,0⟩]:=by kernel_rfl
theorem kN2:nI kX2.B=1:=by kernel_rfl
theorem zTp (u:Unit) (h:known17C.cnd u):tP u:=by
 have hc:(vY 1).check=0:=by decide+kernel
 have hp:(vY 1).small:=by refine⟨?_,?_,?_⟩<;>decide
 have hB0:=BOk.new hc hp
 have hM0:=zFm (vY 1)
 have hB1:BOk (vY 1) kX1.B:=mdo hM0 hB0 kc1
 unfold tP
 refine⟨1,rfl,trivial,fun _ _=>⟨vY 1,rfl,rfl,rfl,rfl,rfl,rfl,rfl,rfl,rfl,rfl,rfl,hp,fun _ _=>⟨⟨mk0 (vY 1),vY 1,List.replicate (vY 1).count [],[],kc1,kX1⟩,rfl,rfl,rfl,rfl,rfl,rfl,rfl,rfl,rfl,rfl,⟨⟨hM0,hB0⟩,by decide,by decide,by dsimp only;rw[kX1]⟩,fun o1 ho1=> ?_⟩,fun _ hx=>absurd hc hx⟩⟩
 have hB2:BOk (vY 1) kX2.B:=mdo ho1 hB1 kc2
 refine⟨⟨o1,vY 1,kX1.B,kX1.U,kc2,kX2⟩,rfl,rfl,rfl,rfl,rfl,rfl,rfl,rfl,rfl,rfl,⟨⟨ho1,hB1⟩,Nat.zero_le _,(by decide:yL 3),by dsimp only;rw[kX2]⟩,fun o2 ho2=> ?_⟩
 dsimp only at ho2 ⊢
 rw[kR1,kR2]
 refine Cv.cnd.mk (fun _=>⟨⟨by decide,by decide⟩,_,rfl,Cv.cnd.mk (fun _=>Cv.cnd.mk (fun _=>⟨⟨by decide,by decide⟩,_,_,_,_,_,_,_,_,rfl,Cv.cnd.mk (fun _=>⟨⟨by decide,by decide⟩,_,_,_,_,_,_,_,_,rfl,Cv.cnd.mk (fun _=>⟨⟨o2,vY 1,kX2.B,kX2.U,0⟩,rfl,⟨ho2,hB2⟩,fun _ _=>⟨(),?_,trivial⟩⟩) (fun e=>absurd e (by decide))⟩) (fun e=>absurd e (by decide))⟩) (fun e=>absurd e (by decide))) (fun e=>absurd e (by decide))⟩) (fun e=>absurd e (by decide))
 dsimp only
 rw[kN2];rfl
theorem known17_ok:known17C.ok Tryz.prog 15:=zSc (gokc zYf (gokc newM_ok (gokc do_ok (gokc mcount_ok gok0)))) zTp
open Go Cv Go.Proofs
structure zGh where
 s:MSt
 p:Prd
 B:List (List zM)
 inst:Int
 side:Int
 price:Int
 q:Int
def dF (p:Prd) (B:List (List zM)) (inst side price q:Int):Int:=
 if(0≤inst∧inst<B.length)∧(side=1∨side=2)∧1≤q∧q≤1000000 then q-(qQ p B inst (decide (side=2)) price q).left else 0
def scouldRC:Con:=con1 zGh (fun i=>[.nm 0 0,zD i.inst,zD i.side,zD i.price,zD i.q]) (fun i=>[zC i.s]) (fun i=>i.s.Rep i.p i.B∧BOk i.p i.B) (fun i=>zD (dF i.p i.B i.inst i.side i.price i.q)) (fun i=>[zC i.s])
structure HdI where
 s:List UInt8
 n:Int
def fW (s:List UInt8) (n:Int):List UInt8:=if n<(s.length:Int)then s.take n.toNat else s
def headC:Con:=con1 HdI (fun i=>[sV i.s,zD i.n]) (fun _=>[]) (fun i=>0≤i.n∧i.n≤1000000∧i.s.length≤9223372036854775807) (fun i=>sV (fW i.s i.n)) (fun _=>[])
def sameRC:Con:=con1 (List Rep) (fun _=>[.own 0,.own 1]) (fun l=>[bL l,bL l]) (fun l=>l.length≤2000000000) (fun _=>yJ true) (fun l=>[bL l,bL l])
def z7r:List SAnn:=[{ι:=Nat,slots:=fun j=>[(5,zD j)],rows:=fun _=>[]}]
open Go Cv Go.Proofs
structure RfI where
 x:Prd
 l:List Cmd
 bad:List Cmd
@[reducible] def RfI.raw (i:RfI):Prop:=i.x.raw∧(∀c∈i.l,c.raw)∧(∀c∈i.bad,c.raw∧c.label.length≤9223372036854775807)∧i.l.length≤9223372036854775807
def rfC:Con:=con1 RfI (fun i=>[prdV i.x,roV 9 (i.l.map cmdE),roV 9 (i.bad.map cmdE)]) (fun _=>[]) (fun i=>i.raw) (fun _=>yJ true) (fun _=>[])
def yDc:SAnn:={ι:=Mkt×Mkt,slots:=fun _=>[(8,.nm 0 0),(10,.nm 1 0)],rows:=fun j=>[fB j.1,fB j.2],slots0:=fun _=>[(8,.nm 0 0),(10,.nm 1 0)],rows0:=fun j=>[fB j.1,fB j.2]}
def yDz:SAnn:={ι:=(Mkt×Mkt)×Bool,slots:=fun j=>[(8,.nm 0 0),(10,.nm 1 0),(197,yJ j.2)],rows:=fun j=>[fB j.1.1,fB j.1.2],slots0:=fun _=>[(8,.nm 0 0),(10,.nm 1 0)],rows0:=fun j=>[fB j.1.1,fB j.1.2]}
def rfA:List SAnn:=[{ι:=Nat×Mkt×Mkt,slots:=fun j=>[(8,.nm 0 0),(10,.nm 1 0),(12,zD j.1)],rows:=fun j=>[fB j.2.1,fB j.2.2]}]
def rfJ:List (Nat×SAnn):=[(4,yEm 7),(28,bj 58),(38,yDc),(72,bj 112),(84,bj 176),(100,yFe 24),(104,yDz)]
open Go Cv Go.Proofs
@[reducible] def y3 (i:RfI):AObj:=Sx.AObj.cells [V.d (D.v (Value.string (sb i.x.code))),V.own (0:Nat),V.d (D.v (.int .i64 i.x.tick)),V.d (D.v (.int .i64 i.x.low)),V.d (D.v (.int .i64 i.x.high)),V.d (D.v (.int .i64 i.x.wide)),V.d (D.v (.int .i64 i.x.rule)),V.d (D.v (.int .i64 i.x.top)),V.d (D.v (.int .i64 i.x.least)),V.d (D.v (.int .i64 i.x.part)),V.own ((0:Nat)+(1:Nat))] (29:Nat)
@[reducible] def y9 (i_1:Prd):AObj:=Sx.AObj.cells (uM (sJ ((0:Nat)+(1:Nat)+(1:Nat)+(1:Nat)) (qL [] (0:Nat) []) (3:Nat)) [sV i_1.code,V.own (1:Nat),zD i_1.tick,zD i_1.low,zD i_1.high,zD i_1.wide,zD i_1.rule,zD i_1.top,zD i_1.least,zD i_1.part,V.own (2:Nat)]) (29:TypeId)
@[reducible] def kW (i_8:MfI):AObj:=Sx.AObj.cells [V.d (D.v (.int .i64 (zO i_8.B i_8.id).snd.fst.id)),V.d (D.v (.int .i64 (zO i_8.B i_8.id).snd.fst.side)),V.d (D.v (.int .i64 (zO i_8.B i_8.id).snd.fst.price)),V.d (D.v (.int .i64 (zO i_8.B i_8.id).snd.fst.qty)),V.d (D.v (.bool (zO i_8.B i_8.id).snd.fst.top))] (68:Nat)
@[reducible] def kZ (n:Int) (n_1:Int) (n_2:Int) (n_3:Int) (n_4:Int) (n_5:Int) (n_6:Int) (n_7:Int) (s:ByteArray) (i_6:HdI):AObj:=Sx.AObj.cells [V.d (D.v (.int .i64 n)),V.d (D.v (.int .i64 n_1)),V.d (D.v (.int .i64 n_2)),V.d (D.v (.int .i64 n_3)),V.d (D.v (.int .i64 n_4)),V.d (D.v (.int .i64 n_5)),V.d (D.v (.int .i64 n_6)),V.d (D.v (.int .i64 n_7)),V.d (D.v (Value.string (sb (fW i_6.s i_6.n))))] (35:Nat)
@[reducible] def vN (i_13:MfI):AObj:=Sx.AObj.cells [V.d (D.v (.int .i64 (zO i_13.B i_13.id).snd.fst.id)),V.d (D.v (.int .i64 (zO i_13.B i_13.id).snd.fst.side)),V.d (D.v (.int .i64 (zO i_13.B i_13.id).snd.fst.price)),V.d (D.v (.int .i64 (zO i_13.B i_13.id).snd.fst.qty)),V.d (D.v (.bool (zO i_13.B i_13.id).snd.fst.top))] (68:Nat)
@[reducible] def z5o (i_7:Cmd):AObj:=Sx.AObj.cells (uM (sJ ((0:Nat)+(1:Nat)+(1:Nat)+(1:Nat)+(3:Nat)+((1:Nat)-(0:Nat))+((1:Nat)-(0:Nat))+(2:Nat)+(0:Nat)+(2:Nat)) (qL [] (0:Nat) []) (1:Nat)) i_7.cells) (35:TypeId)
@[reducible] def zWe (i:RfI) (i_1:Prd) (o:Unit) (i_4:Nat×Mkt×Mkt) (i_6:Mkt×Mkt) (I_3:Cmd→Prop) (n:Int) (n_1:Int) (n_2:Int) (n_3:Int) (n_4:Int) (n_5:Int) (n_6:Int) (n_7:Int) (s:ByteArray):Prop:=∃(i_7:TmI),sb i_7.p.code=sb i_1.code∧iE i_7.p.months=iE i_1.months∧i_7.p.tick=i_1.tick∧i_7.p.low=i_1.low∧i_7.p.high=i_1.high∧i_7.p.wide=i_1.wide∧i_7.p.rule=i_1.rule∧i_7.p.top=i_1.top∧i_7.p.least=i_1.least∧i_7.p.part=i_1.part∧iE i_7.p.settle=iE i_1.settle∧i_7.c.kind=n∧i_7.c.id=n_1∧i_7.c.inst=n_2∧i_7.c.side=n_3∧i_7.c.price=n_4∧i_7.c.qty=n_5∧i_7.c.least=n_6∧i_7.c.time=n_7∧sb i_7.c.label=s∧i_7.i=(↑i_4.fst:Int)∧(i_7.p.check=0∧(i_7.p.code.length≤1099511627776∧i_7.p.months.length≤1099511627776∧i_7.p.settle.length≤1099511627776)∧(((-9223372036854775808)≤i_7.c.kind∧i_7.c.kind≤9223372036854775807)∧((-9223372036854775808)≤i_7.c.id∧i_7.c.id≤9223372036854775807)∧((-9223372036854775808)≤i_7.c.inst∧i_7.c.inst≤9223372036854775807)∧((-9223372036854775808)≤i_7.c.side∧i_7.c.side≤9223372036854775807)∧((-9223372036854775808)≤i_7.c.price∧i_7.c.price≤9223372036854775807)∧((-9223372036854775808)≤i_7.c.qty∧i_7.c.qty≤9223372036854775807)∧((-9223372036854775808)≤i_7.c.least∧i_7.c.least≤9223372036854775807)∧(-9223372036854775808)≤i_7.c.time∧i_7.c.time≤9223372036854775807)∧0≤i_7.i∧i_7.i≤1000000)∧∀(o:Unit),True→∃(i':Cmd),i'.kind=(xD i_7).kind∧i'.id=(xD i_7).id∧i'.inst=(xD i_7).inst∧i'.side=(xD i_7).side∧i'.price=(xD i_7).price∧i'.qty=(xD i_7).qty∧i'.least=(xD i_7).least∧i'.time=(xD i_7).time∧sb i'.label=sb (xD i_7).label∧I_3 i'∧AObj.adt Mkt 5 zL i_6.fst=AObj.adt Mkt 5 zL i_6.fst∧AObj.adt Mkt 5 zL i_6.snd=AObj.adt Mkt 5 zL i_6.snd∧y9 i_1=y9 i_1∧AObj.fro 1 (iE i_1.months)=AObj.fro 1 (iE i_1.months)∧AObj.fro 1 (iE i_1.settle)=AObj.fro 1 (iE i_1.settle)∧y3 i=y3 i∧AObj.fro 1 (iE i.x.settle)=AObj.fro 1 (iE i.x.settle)∧AObj.fro 1 (iE i.x.months)=AObj.fro 1 (iE i.x.months)
def Vrf (i:RfI):Prop:=
 ∃(i0:Prd),∃(I:Prd→Prop),(∃(i_1:Prd),sb i_1.code=sb i.x.code∧iE i_1.months=iE i.x.months∧i_1.tick=i.x.tick∧i_1.low=i.x.low∧i_1.high=i.x.high∧i_1.wide=i.x.wide∧i_1.rule=i.x.rule∧i_1.top=i.x.top∧i_1.least=i.x.least∧i_1.part=i.x.part∧iE i_1.settle=iE i.x.settle∧(((-9223372036854775808)≤i_1.tick∧i_1.tick≤9223372036854775807)∧((-9223372036854775808)≤i_1.wide∧i_1.wide≤9223372036854775807)∧((-9223372036854775808)≤i_1.rule∧i_1.rule≤9223372036854775807)∧((-9223372036854775808)≤i_1.top∧i_1.top≤9223372036854775807)∧((-9223372036854775808)≤i_1.least∧i_1.least≤9223372036854775807)∧((-9223372036854775808)≤i_1.part∧i_1.part≤9223372036854775807)∧i_1.months.length≤9223372036854775807)∧∀(o:Unit),True→∃(i':Prd),sb i'.code=sb [(206:UInt8),(169:UInt8)]∧i'.tick=yD i_1∧i'.low=(-20)*yD i_1∧i'.high=100*yD i_1∧i'.wide=yD i_1*(5+zI i_1.wide 0 60)∧i'.rule=1+zI i_1.rule 0 2∧i'.top=zI i_1.top 0 9∧i'.least=1+zI i_1.least 0 4∧i'.part=zI i_1.part 0 100∧AObj.fro 1 (iE i'.months)=AObj.fro 1 (iE (qB (kN i_1).toNat))∧AObj.fro 1 (iE i'.settle)=AObj.fro 1 (iE (xX (yD i_1) (kN i_1).toNat))∧I i'∧y3 i=y3 i∧AObj.fro 1 (iE i.x.settle)=AObj.fro 1 (iE i.x.settle)∧AObj.fro 1 (iE i.x.months)=AObj.fro 1 (iE i.x.months))∧∀(i_1:Prd),I i_1→∃(i_2:Prd),sb i_2.code=sb i_1.code∧iE i_2.months=iE i_1.months∧i_2.tick=i_1.tick∧i_2.low=i_1.low∧i_2.high=i_1.high∧i_2.wide=i_1.wide∧i_2.rule=i_1.rule∧i_2.top=i_1.top∧i_2.least=i_1.least∧i_2.part=i_1.part∧iE i_2.settle=iE i_1.settle∧(i_2.code.length≤1099511627776∧i_2.months.length≤1099511627776∧i_2.settle.length≤1099511627776)∧(∀(o:Unit),i_2.check=0→∃(i_3:Prd),sb i_3.code=sb i_1.code∧iE i_3.months=iE i_1.months∧i_3.tick=i_1.tick∧i_3.low=i_1.low∧i_3.high=i_1.high∧i_3.wide=i_1.wide∧i_3.rule=i_1.rule∧i_3.top=i_1.top∧i_3.least=i_1.least∧i_3.part=i_1.part∧iE i_3.settle=iE i_1.settle∧(i_3.code.length≤1099511627776∧i_3.months.length≤1099511627776∧i_3.settle.length≤1099511627776)∧(∀(o:Unit),i_3.check=0→∃(i0:Nat×Mkt×Mkt),(↑i0.fst:Int)=0∧AObj.adt Mkt 5 zL i0.snd.fst=AObj.adt Mkt 5 zL (Mkt.mk i_2 (wH i_2) [])∧AObj.adt Mkt 5 zL i0.snd.snd=AObj.adt Mkt 5 zL (Mkt.mk i_3 (wH i_3) [])∧∃(I:Nat×Mkt×Mkt→Prop),∃(μ:Nat×Mkt×Mkt→Nat),I i0∧∀(i_4:Nat×Mkt×Mkt),I i_4→∃(i0:Bool),∃(I_1:Bool→Prop),cnd (decide ((↑i_4.fst:Int)<(↑(List.map cmdE i.l).length:Int))) (∃(i':Bool),i'=decide ((↑i_4.fst:Int)<40)∧I_1 i'∧AObj.adt Mkt 5 zL i_4.snd.fst=AObj.adt Mkt 5 zL i_4.snd.fst∧AObj.adt Mkt 5 zL i_4.snd.snd=AObj.adt Mkt 5 zL i_4.snd.snd∧y9 i_1=y9 i_1∧AObj.fro 1 (iE i_1.months)=AObj.fro 1 (iE i_1.months)∧AObj.fro 1 (iE i_1.settle)=AObj.fro 1 (iE i_1.settle)∧y3 i=y3 i∧AObj.fro 1 (iE i.x.settle)=AObj.fro 1 (iE i.x.settle)∧AObj.fro 1 (iE i.x.months)=AObj.fro 1 (iE i.x.months)) (∃(i':Bool),i'=false∧I_1 i'∧AObj.adt Mkt 5 zL i_4.snd.fst=AObj.adt Mkt 5 zL i_4.snd.fst∧AObj.adt Mkt 5 zL i_4.snd.snd=AObj.adt Mkt 5 zL i_4.snd.snd∧y9 i_1=y9 i_1∧AObj.fro 1 (iE i_1.months)=AObj.fro 1 (iE i_1.months)∧AObj.fro 1 (iE i_1.settle)=AObj.fro 1 (iE i_1.settle)∧y3 i=y3 i∧AObj.fro 1 (iE i.x.settle)=AObj.fro 1 (iE i.x.settle)∧AObj.fro 1 (iE i.x.months)=AObj.fro 1 (iE i.x.months))∧∀(i_5:Bool),I_1 i_5→cnd i_5 (∃(i0:Mkt×Mkt),AObj.adt Mkt 5 zL i0.fst=AObj.adt Mkt 5 zL i_4.snd.fst∧AObj.adt Mkt 5 zL i0.snd=AObj.adt Mkt 5 zL i_4.snd.snd∧∃(I_2:Mkt×Mkt→Prop),cnd (decide ((↑i_4.fst:Int)<(↑(List.map cmdE i.bad).length:Int))) ((0≤(↑i_4.fst:Int)∧(↑i_4.fst:Int)<(↑(List.map cmdE i.bad).length:Int))∧∃(n:Int),∃(n_1:Int),∃(n_2:Int),∃(n_3:Int),∃(n_4:Int),∃(n_5:Int),∃(n_6:Int),∃(n_7:Int),∃(s:ByteArray),zH (List.map cmdE i.bad) (↑i_4.fst:Int).toNat 0 9=some [D.v (.int .i64 n),D.v (.int .i64 n_1),D.v (.int .i64 n_2),D.v (.int .i64 n_3),D.v (.int .i64 n_4),D.v (.int .i64 n_5),D.v (.int .i64 n_6),D.v (.int .i64 n_7),D.v (Value.string s)]∧∃(i_6:HdI),sb i_6.s=s∧i_6.n=30∧(0≤i_6.n∧i_6.n≤1000000∧i_6.s.length≤9223372036854775807)∧∀(o:Unit),True→∃(i_7:MfI),AObj.adt Mkt 5 zL i_7.m=AObj.adt Mkt 5 zL i0.fst∧(i_7.m.Rep i_7.p i_7.B i_7.U∧BOk i_7.p i_7.B)∧∀(o:Unit),True→∃(i_8:MfI),i_8.id=n_1∧AObj.adt Mkt 5 zL i_8.m=AObj.adt Mkt 5 zL i_7.m∧(i_8.m.Rep i_8.p i_8.B i_8.U∧BOk i_8.p i_8.B)∧∀(o:Unit),True→∃(i_9:Mkt),AObj.adt Mkt 5 zL i_9=AObj.adt Mkt 5 zL i_8.m∧(i_9.s.books.length≤1000000∧∀(b:Book),b∈i_9.s.books→(b.a.slots.length≤1000000∧b.a.queues.length≤1000000)∧b.buys.length≤1000000∧b.sells.length≤1000000∧b.spare.length≤1000000)∧∀(o:Unit),True→∃(i_10:zGh),i_10.inst=n_2∧i_10.side=n_3∧i_10.price=n_4∧i_10.q=1∧zC i_10.s=zC i_9.s∧(i_10.s.Rep i_10.p i_10.B∧BOk i_10.p i_10.B)∧∀(o:Unit),True→∃(i0_1:Bool),∃(I:Bool→Prop),cnd (decide (n<1)) (∃(i':Bool),i'=true∧I i'∧zC i_10.s=zC i_10.s∧AObj.adt Mkt 5 zL i_9=AObj.adt Mkt 5 zL i_9∧kW i_8=kW i_8∧kZ n n_1 n_2 n_3 n_4 n_5 n_6 n_7 s i_6=kZ n n_1 n_2 n_3 n_4 n_5 n_6 n_7 s i_6∧AObj.adt Mkt 5 zL i0.snd=AObj.adt Mkt 5 zL i0.snd∧y9 i_1=y9 i_1∧AObj.fro 1 (iE i_1.months)=AObj.fro 1 (iE i_1.months)∧AObj.fro 1 (iE i_1.settle)=AObj.fro 1 (iE i_1.settle)∧y3 i=y3 i∧AObj.fro 1 (iE i.x.settle)=AObj.fro 1 (iE i.x.settle)∧AObj.fro 1 (iE i.x.months)=AObj.fro 1 (iE i.x.months)) (cnd (decide (n>4)) (∃(i':Bool),i'=true∧I i'∧zC i_10.s=zC i_10.s∧AObj.adt Mkt 5 zL i_9=AObj.adt Mkt 5 zL i_9∧kW i_8=kW i_8∧kZ n n_1 n_2 n_3 n_4 n_5 n_6 n_7 s i_6=kZ n n_1 n_2 n_3 n_4 n_5 n_6 n_7 s i_6∧AObj.adt Mkt 5 zL i0.snd=AObj.adt Mkt 5 zL i0.snd∧y9 i_1=y9 i_1∧AObj.fro 1 (iE i_1.months)=AObj.fro 1 (iE i_1.months)∧AObj.fro 1 (iE i_1.settle)=AObj.fro 1 (iE i_1.settle)∧y3 i=y3 i∧AObj.fro 1 (iE i.x.settle)=AObj.fro 1 (iE i.x.settle)∧AObj.fro 1 (iE i.x.months)=AObj.fro 1 (iE i.x.months)) (cnd (decide (n_5<1)) (∃(i':Bool),i'=true∧I i'∧zC i_10.s=zC i_10.s∧AObj.adt Mkt 5 zL i_9=AObj.adt Mkt 5 zL i_9∧kW i_8=kW i_8∧kZ n n_1 n_2 n_3 n_4 n_5 n_6 n_7 s i_6=kZ n n_1 n_2 n_3 n_4 n_5 n_6 n_7 s i_6∧AObj.adt Mkt 5 zL i0.snd=AObj.adt Mkt 5 zL i0.snd∧y9 i_1=y9 i_1∧AObj.fro 1 (iE i_1.months)=AObj.fro 1 (iE i_1.months)∧AObj.fro 1 (iE i_1.settle)=AObj.fro 1 (iE i_1.settle)∧y3 i=y3 i∧AObj.fro 1 (iE i.x.settle)=AObj.fro 1 (iE i.x.settle)∧AObj.fro 1 (iE i.x.months)=AObj.fro 1 (iE i.x.months)) (∃(i':Bool),i'=decide (n_5>1000000)∧I i'∧zC i_10.s=zC i_10.s∧AObj.adt Mkt 5 zL i_9=AObj.adt Mkt 5 zL i_9∧kW i_8=kW i_8∧kZ n n_1 n_2 n_3 n_4 n_5 n_6 n_7 s i_6=kZ n n_1 n_2 n_3 n_4 n_5 n_6 n_7 s i_6∧AObj.adt Mkt 5 zL i0.snd=AObj.adt Mkt 5 zL i0.snd∧y9 i_1=y9 i_1∧AObj.fro 1 (iE i_1.months)=AObj.fro 1 (iE i_1.months)∧AObj.fro 1 (iE i_1.settle)=AObj.fro 1 (iE i_1.settle)∧y3 i=y3 i∧AObj.fro 1 (iE i.x.settle)=AObj.fro 1 (iE i.x.settle)∧AObj.fro 1 (iE i.x.months)=AObj.fro 1 (iE i.x.months))))∧∀(i_11:Bool),I i_11→cnd i_11 (∃(i_12:EnI),i_12.c.kind=n∧i_12.c.id=n_1∧i_12.c.inst=n_2∧i_12.c.side=n_3∧i_12.c.price=n_4∧i_12.c.qty=n_5∧i_12.c.least=n_6∧i_12.c.time=n_7∧sb i_12.c.label=sb (fW i_6.s i_6.n)∧AObj.adt Mkt 5 zL i_12.m=AObj.adt Mkt 5 zL i_9∧((i_12.m.Rep i_12.p i_12.B i_12.U∧BOk i_12.p i_12.B)∧i_12.c.label.length≤140737488355328∧((-9223372036854775808)≤i_12.c.qty∧i_12.c.qty≤9223372036854775807)∧i_12.X=doF i_12.p i_12.B i_12.U i_12.c)∧∀(o:Mkt),o.Rep i_12.p i_12.X.B i_12.X.U→∃(i_13:MfI),i_13.id=n_1∧AObj.adt Mkt 5 zL i_13.m=AObj.adt Mkt 5 zL o∧(i_13.m.Rep i_13.p i_13.B i_13.U∧BOk i_13.p i_13.B)∧∀(o:Unit),True→∃(i0_2:Bool),∃(I:Bool→Prop),cnd (n !=2) (cnd ((↑(List.map z5 i_12.X.R).length:Int) !=1) (∃(i':Bool),i'=true∧I i'∧vN i_13=vN i_13∧AObj.adt Mkt 5 zL i_13.m=AObj.adt Mkt 5 zL i_13.m∧AObj.own tRp 8 (List.map z5 i_12.X.R)=AObj.own tRp 8 (List.map z5 i_12.X.R)∧zC i_10.s=zC i_10.s∧kW i_8=kW i_8∧kZ n n_1 n_2 n_3 n_4 n_5 n_6 n_7 s i_6=kZ n n_1 n_2 n_3 n_4 n_5 n_6 n_7 s i_6∧AObj.adt Mkt 5 zL i0.snd=AObj.adt Mkt 5 zL i0.snd∧y9 i_1=y9 i_1∧AObj.fro 1 (iE i_1.months)=AObj.fro 1 (iE i_1.months)∧AObj.fro 1 (iE i_1.settle)=AObj.fro 1 (iE i_1.settle)∧y3 i=y3 i∧AObj.fro 1 (iE i.x.settle)=AObj.fro 1 (iE i.x.settle)∧AObj.fro 1 (iE i.x.months)=AObj.fro 1 (iE i.x.months)) (((0:Int)≤(0:Int)∧0<(↑(List.map z5 i_12.X.R).length:Int))∧∃(n_8:Int),zH (List.map z5 i_12.X.R) (Int.toNat 0) ((0:Nat)+(0:Nat)) 1=some [D.v (.int .i64 n_8)]∧cnd (n_8 !=2) (∃(i':Bool),i'=true∧I i'∧vN i_13=vN i_13∧AObj.adt Mkt 5 zL i_13.m=AObj.adt Mkt 5 zL i_13.m∧AObj.own tRp 8 (List.map z5 i_12.X.R)=AObj.own tRp 8 (List.map z5 i_12.X.R)∧zC i_10.s=zC i_10.s∧kW i_8=kW i_8∧kZ n n_1 n_2 n_3 n_4 n_5 n_6 n_7 s i_6=kZ n n_1 n_2 n_3 n_4 n_5 n_6 n_7 s i_6∧AObj.adt Mkt 5 zL i0.snd=AObj.adt Mkt 5 zL i0.snd∧y9 i_1=y9 i_1∧AObj.fro 1 (iE i_1.months)=AObj.fro 1 (iE i_1.months)∧AObj.fro 1 (iE i_1.settle)=AObj.fro 1 (iE i_1.settle)∧y3 i=y3 i∧AObj.fro 1 (iE i.x.settle)=AObj.fro 1 (iE i.x.settle)∧AObj.fro 1 (iE i.x.months)=AObj.fro 1 (iE i.x.months)) (((0:Int)≤(0:Int)∧0<(↑(List.map z5 i_12.X.R).length:Int))∧∃(n_9:Int),zH (List.map z5 i_12.X.R) (Int.toNat 0) ((0:Nat)+(1:Nat)) 1=some [D.v (.int .i64 n_9)]∧cnd (n_9 !=n_1) (∃(i':Bool),i'=true∧I i'∧vN i_13=vN i_13∧AObj.adt Mkt 5 zL i_13.m=AObj.adt Mkt 5 zL i_13.m∧AObj.own tRp 8 (List.map z5 i_12.X.R)=AObj.own tRp 8 (List.map z5 i_12.X.R)∧zC i_10.s=zC i_10.s∧kW i_8=kW i_8∧kZ n n_1 n_2 n_3 n_4 n_5 n_6 n_7 s i_6=kZ n n_1 n_2 n_3 n_4 n_5 n_6 n_7 s i_6∧AObj.adt Mkt 5 zL i0.snd=AObj.adt Mkt 5 zL i0.snd∧y9 i_1=y9 i_1∧AObj.fro 1 (iE i_1.months)=AObj.fro 1 (iE i_1.months)∧AObj.fro 1 (iE i_1.settle)=AObj.fro 1 (iE i_1.settle)∧y3 i=y3 i∧AObj.fro 1 (iE i.x.settle)=AObj.fro 1 (iE i.x.settle)∧AObj.fro 1 (iE i.x.months)=AObj.fro 1 (iE i.x.months)) (∃(i_14:MfI),AObj.adt Mkt 5 zL i_14.m=AObj.adt Mkt 5 zL i_13.m∧(i_14.m.Rep i_14.p i_14.B i_14.U∧BOk i_14.p i_14.B)∧∀(o:Unit),True→cnd ((↑(nI i_14.B):Int) !=(↑(nI i_7.B):Int)) (∃(i':Bool),i'=true∧I i'∧vN i_13=vN i_13∧AObj.adt Mkt 5 zL i_14.m=AObj.adt Mkt 5 zL i_13.m∧AObj.own tRp 8 (List.map z5 i_12.X.R)=AObj.own tRp 8 (List.map z5 i_12.X.R)∧zC i_10.s=zC i_10.s∧kW i_8=kW i_8∧kZ n n_1 n_2 n_3 n_4 n_5 n_6 n_7 s i_6=kZ n n_1 n_2 n_3 n_4 n_5 n_6 n_7 s i_6∧AObj.adt Mkt 5 zL i0.snd=AObj.adt Mkt 5 zL i0.snd∧y9 i_1=y9 i_1∧AObj.fro 1 (iE i_1.months)=AObj.fro 1 (iE i_1.months)∧AObj.fro 1 (iE i_1.settle)=AObj.fro 1 (iE i_1.settle)∧y3 i=y3 i∧AObj.fro 1 (iE i.x.settle)=AObj.fro 1 (iE i.x.settle)∧AObj.fro 1 (iE i.x.months)=AObj.fro 1 (iE i.x.months)) (cnd (!((zO i_8.B i_8.id).snd.fst.id==(zO i_13.B i_13.id).snd.fst.id && ((zO i_8.B i_8.id).snd.fst.side==(zO i_13.B i_13.id).snd.fst.side && ((zO i_8.B i_8.id).snd.fst.price==(zO i_13.B i_13.id).snd.fst.price && ((zO i_8.B i_8.id).snd.fst.qty==(zO i_13.B i_13.id).snd.fst.qty && ((zO i_8.B i_8.id).snd.fst.top==(zO i_13.B i_13.id).snd.fst.top && true)))))) (∃(i':Bool),i'=true∧I i'∧vN i_13=vN i_13∧AObj.adt Mkt 5 zL i_14.m=AObj.adt Mkt 5 zL i_13.m∧AObj.own tRp 8 (List.map z5 i_12.X.R)=AObj.own tRp 8 (List.map z5 i_12.X.R)∧zC i_10.s=zC i_10.s∧kW i_8=kW i_8∧kZ n n_1 n_2 n_3 n_4 n_5 n_6 n_7 s i_6=kZ n n_1 n_2 n_3 n_4 n_5 n_6 n_7 s i_6∧AObj.adt Mkt 5 zL i0.snd=AObj.adt Mkt 5 zL i0.snd∧y9 i_1=y9 i_1∧AObj.fro 1 (iE i_1.months)=AObj.fro 1 (iE i_1.months)∧AObj.fro 1 (iE i_1.settle)=AObj.fro 1 (iE i_1.settle)∧y3 i=y3 i∧AObj.fro 1 (iE i.x.settle)=AObj.fro 1 (iE i.x.settle)∧AObj.fro 1 (iE i.x.months)=AObj.fro 1 (iE i.x.months)) (cnd (!(zO i_8.B i_8.id).snd.snd==(zO i_13.B i_13.id).snd.snd) (∃(i':Bool),i'=true∧I i'∧vN i_13=vN i_13∧AObj.adt Mkt 5 zL i_14.m=AObj.adt Mkt 5 zL i_13.m∧AObj.own tRp 8 (List.map z5 i_12.X.R)=AObj.own tRp 8 (List.map z5 i_12.X.R)∧zC i_10.s=zC i_10.s∧kW i_8=kW i_8∧kZ n n_1 n_2 n_3 n_4 n_5 n_6 n_7 s i_6=kZ n n_1 n_2 n_3 n_4 n_5 n_6 n_7 s i_6∧AObj.adt Mkt 5 zL i0.snd=AObj.adt Mkt 5 zL i0.snd∧y9 i_1=y9 i_1∧AObj.fro 1 (iE i_1.months)=AObj.fro 1 (iE i_1.months)∧AObj.fro 1 (iE i_1.settle)=AObj.fro 1 (iE i_1.settle)∧y3 i=y3 i∧AObj.fro 1 (iE i.x.settle)=AObj.fro 1 (iE i.x.settle)∧AObj.fro 1 (iE i.x.months)=AObj.fro 1 (iE i.x.months)) (∃(i_15:Mkt),AObj.adt Mkt 5 zL i_15=AObj.adt Mkt 5 zL i_14.m∧(i_15.s.books.length≤1000000∧∀(b:Book),b∈i_15.s.books→(b.a.slots.length≤1000000∧b.a.queues.length≤1000000)∧b.buys.length≤1000000∧b.sells.length≤1000000∧b.spare.length≤1000000)∧∀(o:Unit),True→n_4=n_4∧n_3=n_3∧n_2=n_2∧∃(i_16:zGh),i_16.inst=n_2∧i_16.side=n_3∧i_16.price=n_4∧i_16.q=1∧zC i_16.s=zC i_15.s∧(i_16.s.Rep i_16.p i_16.B∧BOk i_16.p i_16.B)∧∀(o:Unit),True→∃(i':Bool),i'=(dF i_16.p i_16.B i_16.inst i_16.side i_16.price i_16.q !=dF i_10.p i_10.B i_10.inst i_10.side i_10.price i_10.q)∧I i'∧vN i_13=vN i_13∧AObj.adt Mkt 5 zL i_15=AObj.adt Mkt 5 zL i_13.m∧AObj.own tRp 8 (List.map z5 i_12.X.R)=AObj.own tRp 8 (List.map z5 i_12.X.R)∧zC i_10.s=zC i_10.s∧kW i_8=kW i_8∧kZ n n_1 n_2 n_3 n_4 n_5 n_6 n_7 s i_6=kZ n n_1 n_2 n_3 n_4 n_5 n_6 n_7 s i_6∧AObj.adt Mkt 5 zL i0.snd=AObj.adt Mkt 5 zL i0.snd∧y9 i_1=y9 i_1∧AObj.fro 1 (iE i_1.months)=AObj.fro 1 (iE i_1.months)∧AObj.fro 1 (iE i_1.settle)=AObj.fro 1 (iE i_1.settle)∧y3 i=y3 i∧AObj.fro 1 (iE i.x.settle)=AObj.fro 1 (iE i.x.settle)∧AObj.fro 1 (iE i.x.months)=AObj.fro 1 (iE i.x.months)))))))) (∃(i':Bool),i'=false∧I i'∧vN i_13=vN i_13∧AObj.adt Mkt 5 zL i_13.m=AObj.adt Mkt 5 zL i_13.m∧AObj.own tRp 8 (List.map z5 i_12.X.R)=AObj.own tRp 8 (List.map z5 i_12.X.R)∧zC i_10.s=zC i_10.s∧kW i_8=kW i_8∧kZ n n_1 n_2 n_3 n_4 n_5 n_6 n_7 s i_6=kZ n n_1 n_2 n_3 n_4 n_5 n_6 n_7 s i_6∧AObj.adt Mkt 5 zL i0.snd=AObj.adt Mkt 5 zL i0.snd∧y9 i_1=y9 i_1∧AObj.fro 1 (iE i_1.months)=AObj.fro 1 (iE i_1.months)∧AObj.fro 1 (iE i_1.settle)=AObj.fro 1 (iE i_1.settle)∧y3 i=y3 i∧AObj.fro 1 (iE i.x.settle)=AObj.fro 1 (iE i.x.settle)∧AObj.fro 1 (iE i.x.months)=AObj.fro 1 (iE i.x.months))∧∀(i_14:Bool),I i_14→cnd i_14 (∃(o:Unit),true=false∧True) (cnd (n==2) (∃(i_15:EnI),i_15.c.kind=n∧i_15.c.id=n_1∧i_15.c.inst=n_2∧i_15.c.side=n_3∧i_15.c.price=n_4∧i_15.c.qty=n_5∧i_15.c.least=n_6∧i_15.c.time=n_7∧sb i_15.c.label=sb (fW i_6.s i_6.n)∧AObj.adt Mkt 5 zL i_15.m=AObj.adt Mkt 5 zL i0.snd∧((i_15.m.Rep i_15.p i_15.B i_15.U∧BOk i_15.p i_15.B)∧i_15.c.label.length≤140737488355328∧((-9223372036854775808)≤i_15.c.qty∧i_15.c.qty≤9223372036854775807)∧i_15.X=doF i_15.p i_15.B i_15.U i_15.c)∧∀(o:Mkt),o.Rep i_15.p i_15.X.B i_15.X.U→∃(i':Mkt×Mkt),AObj.adt Mkt 5 zL i'.fst=AObj.adt Mkt 5 zL i_13.m∧AObj.adt Mkt 5 zL i'.snd=AObj.adt Mkt 5 zL o∧I_2 i'∧y9 i_1=y9 i_1∧AObj.fro 1 (iE i_1.months)=AObj.fro 1 (iE i_1.months)∧AObj.fro 1 (iE i_1.settle)=AObj.fro 1 (iE i_1.settle)∧y3 i=y3 i∧AObj.fro 1 (iE i.x.settle)=AObj.fro 1 (iE i.x.settle)∧AObj.fro 1 (iE i.x.months)=AObj.fro 1 (iE i.x.months)) (∃(i':Mkt×Mkt),AObj.adt Mkt 5 zL i'.fst=AObj.adt Mkt 5 zL i_13.m∧AObj.adt Mkt 5 zL i'.snd=AObj.adt Mkt 5 zL i0.snd∧I_2 i'∧y9 i_1=y9 i_1∧AObj.fro 1 (iE i_1.months)=AObj.fro 1 (iE i_1.months)∧AObj.fro 1 (iE i_1.settle)=AObj.fro 1 (iE i_1.settle)∧y3 i=y3 i∧AObj.fro 1 (iE i.x.settle)=AObj.fro 1 (iE i.x.settle)∧AObj.fro 1 (iE i.x.months)=AObj.fro 1 (iE i.x.months)))) (∃(i':Mkt×Mkt),AObj.adt Mkt 5 zL i'.fst=AObj.adt Mkt 5 zL i_9∧AObj.adt Mkt 5 zL i'.snd=AObj.adt Mkt 5 zL i0.snd∧I_2 i'∧y9 i_1=y9 i_1∧AObj.fro 1 (iE i_1.months)=AObj.fro 1 (iE i_1.months)∧AObj.fro 1 (iE i_1.settle)=AObj.fro 1 (iE i_1.settle)∧y3 i=y3 i∧AObj.fro 1 (iE i.x.settle)=AObj.fro 1 (iE i.x.settle)∧AObj.fro 1 (iE i.x.months)=AObj.fro 1 (iE i.x.months))) (∃(i':Mkt×Mkt),AObj.adt Mkt 5 zL i'.fst=AObj.adt Mkt 5 zL i0.fst∧AObj.adt Mkt 5 zL i'.snd=AObj.adt Mkt 5 zL i0.snd∧I_2 i'∧y9 i_1=y9 i_1∧AObj.fro 1 (iE i_1.months)=AObj.fro 1 (iE i_1.months)∧AObj.fro 1 (iE i_1.settle)=AObj.fro 1 (iE i_1.settle)∧y3 i=y3 i∧AObj.fro 1 (iE i.x.settle)=AObj.fro 1 (iE i.x.settle)∧AObj.fro 1 (iE i.x.months)=AObj.fro 1 (iE i.x.months))∧∀(i_6:Mkt×Mkt),I_2 i_6→∃(i0:Cmd),∃(I_3:Cmd→Prop),((0≤(↑i_4.fst:Int)∧(↑i_4.fst:Int)<(↑(List.map cmdE i.l).length:Int))∧∃(n:Int),∃(n_1:Int),∃(n_2:Int),∃(n_3:Int),∃(n_4:Int),∃(n_5:Int),∃(n_6:Int),∃(n_7:Int),∃(s:ByteArray),zH (List.map cmdE i.l) (↑i_4.fst:Int).toNat 0 9=some [D.v (.int .i64 n),D.v (.int .i64 n_1),D.v (.int .i64 n_2),D.v (.int .i64 n_3),D.v (.int .i64 n_4),D.v (.int .i64 n_5),D.v (.int .i64 n_6),D.v (.int .i64 n_7),D.v (Value.string s)]∧(zWe i i_1 o i_4 i_6 I_3 n n_1 n_2 n_3 n_4 n_5 n_6 n_7 s)∧True∧(sb i_1.code=sb i_1.code∧True∧i_1.tick=i_1.tick∧i_1.low=i_1.low∧i_1.high=i_1.high∧i_1.wide=i_1.wide∧i_1.rule=i_1.rule∧i_1.top=i_1.top∧i_1.least=i_1.least∧i_1.part=i_1.part∧True∧True)∧zWe i i_1 o i_4 i_6 I_3 n n_1 n_2 n_3 n_4 n_5 n_6 n_7 s)∧∀(i_7:Cmd),I_3 i_7→∃(i0:(Mkt×Mkt)×Bool),AObj.adt Mkt 5 zL i0.fst.fst=AObj.adt Mkt 5 zL i_6.fst∧AObj.adt Mkt 5 zL i0.fst.snd=AObj.adt Mkt 5 zL i_6.snd∧∃(I_4:(Mkt×Mkt)×Bool→Prop),(∃(i_8:EnI),i_8.c.kind=i_7.kind∧i_8.c.id=i_7.id∧i_8.c.inst=i_7.inst∧i_8.c.side=i_7.side∧i_8.c.price=i_7.price∧i_8.c.qty=i_7.qty∧i_8.c.least=i_7.least∧i_8.c.time=i_7.time∧sb i_8.c.label=sb i_7.label∧AObj.adt Mkt 5 zL i_8.m=AObj.adt Mkt 5 zL i0.fst.fst∧((i_8.m.Rep i_8.p i_8.B i_8.U∧BOk i_8.p i_8.B)∧i_8.c.label.length≤140737488355328∧((-9223372036854775808)≤i_8.c.qty∧i_8.c.qty≤9223372036854775807)∧i_8.X=doF i_8.p i_8.B i_8.U i_8.c)∧∀(o:Mkt),o.Rep i_8.p i_8.X.B i_8.X.U→(i_7.kind=i_7.kind∧i_7.id=i_7.id∧i_7.inst=i_7.inst∧i_7.side=i_7.side∧i_7.price=i_7.price∧i_7.qty=i_7.qty∧i_7.least=i_7.least∧i_7.time=i_7.time∧sb i_7.label=sb i_7.label∧True)∧∃(i_9:EnI),i_9.c.kind=i_7.kind∧i_9.c.id=i_7.id∧i_9.c.inst=i_7.inst∧i_9.c.side=i_7.side∧i_9.c.price=i_7.price∧i_9.c.qty=i_7.qty∧i_9.c.least=i_7.least∧i_9.c.time=i_7.time∧sb i_9.c.label=sb i_7.label∧AObj.adt Mkt 5 zL i_9.m=AObj.adt Mkt 5 zL i0.fst.snd∧((i_9.m.Rep i_9.p i_9.B i_9.U∧BOk i_9.p i_9.B)∧i_9.c.label.length≤140737488355328∧((-9223372036854775808)≤i_9.c.qty∧i_9.c.qty≤9223372036854775807)∧i_9.X=doF i_9.p i_9.B i_9.U i_9.c)∧∀(o_1:Mkt),o_1.Rep i_9.p i_9.X.B i_9.X.U→∃(i_10:List Rep),List.map z5 i_10=List.map z5 i_8.X.R∧List.map z5 i_10=List.map z5 i_9.X.R∧i_10.length≤2000000000∧∀(o_2:Unit),True→∃(i':(Mkt×Mkt)×Bool),i'.snd=!true∧AObj.adt Mkt 5 zL i'.fst.fst=AObj.adt Mkt 5 zL o∧AObj.adt Mkt 5 zL i'.fst.snd=AObj.adt Mkt 5 zL o_1∧I_4 i'∧z5o i_7=z5o i_7∧y9 i_1=y9 i_1∧AObj.fro 1 (iE i_1.months)=AObj.fro 1 (iE i_1.months)∧AObj.fro 1 (iE i_1.settle)=AObj.fro 1 (iE i_1.settle)∧y3 i=y3 i∧AObj.fro 1 (iE i.x.settle)=AObj.fro 1 (iE i.x.settle)∧AObj.fro 1 (iE i.x.months)=AObj.fro 1 (iE i.x.months))∧∀(i_8:(Mkt×Mkt)×Bool),I_4 i_8→cnd i_8.snd (∃(o:Unit),true=false∧True) (∃(i':Nat×Mkt×Mkt),(↑i'.fst:Int)=IntKind.i64.wrap ((↑i_4.fst:Int)+1)∧AObj.adt Mkt 5 zL i'.snd.fst=AObj.adt Mkt 5 zL i_8.fst.fst∧AObj.adt Mkt 5 zL i'.snd.snd=AObj.adt Mkt 5 zL i_8.fst.snd∧I i'∧μ i'<μ i_4∧y9 i_1=y9 i_1∧AObj.fro 1 (iE i_1.months)=AObj.fro 1 (iE i_1.months)∧AObj.fro 1 (iE i_1.settle)=AObj.fro 1 (iE i_1.settle)∧y3 i=y3 i∧AObj.fro 1 (iE i.x.settle)=AObj.fro 1 (iE i.x.settle)∧AObj.fro 1 (iE i.x.months)=AObj.fro 1 (iE i.x.months))) (∃(i:Unit),True∧∀(o:Unit),True→∃(o:Unit),true=true∧True))∧∀(o:Unit),i_3.check≠0→∃(o:Unit),true=false∧True)∧∀(o:Unit),i_2.check≠0→∃(i:Prd),sb i.code=sb i_1.code∧iE i.months=iE i_1.months∧i.tick=i_1.tick∧i.low=i_1.low∧i.high=i_1.high∧i.wide=i_1.wide∧i.rule=i_1.rule∧i.top=i_1.top∧i.least=i_1.least∧i.part=i_1.part∧iE i.settle=iE i_1.settle∧(i.code.length≤1099511627776∧i.months.length≤1099511627776∧i.settle.length≤1099511627776)∧(∀(o:Unit),i.check=0→∃(o:Unit),true=false∧True)∧∀(o:Unit),i.check≠0→∃(o:Unit),true=false∧True
theorem eqrf (i:RfI):Vrf i=walk Tryz.prog ([(20,kprodC),(10,newMC),(21,tameC),(28,headC),(19,mcountC),(26,mfindC),(22,stateC),(29,scouldRC),(13,doC),(30,sameRC),(15,known17C)]) 0 (rfJ) (rfA) [] Tryz.f7 (Tryz.f7.body.getD .skip) (rfC.pat i) (rfC.pre i) (rfC.alts i):=by kernel_rfl
open Go Cv Go.Proofs
@[reducible] def bY (i:zGh):Prop:=∃(i_1:MSt),sb i_1.p.code=sb i.s.p.code∧i_1.p.tick=i.s.p.tick∧i_1.p.low=i.s.p.low∧i_1.p.high=i.s.p.high∧i_1.p.wide=i.s.p.wide∧i_1.p.rule=i.s.p.rule∧i_1.p.top=i.s.p.top∧i_1.p.least=i.s.p.least∧i_1.p.part=i.s.p.part∧AObj.objs 102 Book 6 zN i_1.books none=AObj.objs 102 Book 6 zN i.s.books none∧yA i_1.wh=yA i.s.wh∧AObj.fro 1 (iE i_1.p.months)=AObj.fro 1 (iE i.s.p.months)∧AObj.fro 1 (iE i_1.p.settle)=AObj.fro 1 (iE i.s.p.settle)∧(i_1.books.length≤1000000∧∀(b:Book),b∈i_1.books→(b.a.slots.length≤1000000∧b.a.queues.length≤1000000)∧b.buys.length≤1000000∧b.sells.length≤1000000∧b.spare.length≤1000000)∧∀(o:Unit),True→∃(i_2:RunI),i_2.inst=i.inst∧zB i_2.sd=i.side∧i_2.price=i.price∧i_2.q=i.q∧zC i_2.s=zC i_1∧(i_2.s.Rep i_2.p i_2.B∧BOk i_2.p i_2.B∧(0≤i_2.inst∧i_2.inst<(↑i_2.B.length:Int))∧1≤i_2.q∧i_2.q≤1000000)∧∀(o:MSt),o.Rep i_2.p i_2.r.B→∃(o:Unit),dF i.p i.B i.inst i.side i.price i.q=IntKind.i64.wrap (i.q-i_2.r.left)∧zC i.s=zC i_1∧True
@[reducible] def k7 (i:zGh):Prop:=∃(o:Unit),dF i.p i.B i.inst i.side i.price i.q=0∧sb i.s.p.code=sb i.s.p.code∧i.s.p.tick=i.s.p.tick∧i.s.p.low=i.s.p.low∧i.s.p.high=i.s.p.high∧i.s.p.wide=i.s.p.wide∧i.s.p.rule=i.s.p.rule∧i.s.p.top=i.s.p.top∧i.s.p.least=i.s.p.least∧i.s.p.part=i.s.p.part∧AObj.objs 102 Book 6 zN i.s.books none=AObj.objs 102 Book 6 zN i.s.books none∧yA i.s.wh=yA i.s.wh∧AObj.fro 1 (iE i.s.p.months)=AObj.fro 1 (iE i.s.p.months)∧AObj.fro 1 (iE i.s.p.settle)=AObj.fro 1 (iE i.s.p.settle)∧True
def lE (i:zGh):Prop:=
 cnd (decide (i.inst≥0)) (cnd (decide (i.inst<(↑i.s.books.length:Int))) (cnd (i.side==1) (cnd (decide (i.q≥1)) (cnd (!decide (i.q≤1000000)) (k7 i) (bY i)) (k7 i)) (cnd (i.side==2) (cnd (decide (i.q≥1)) (cnd (!decide (i.q≤1000000)) (k7 i) (bY i)) (k7 i)) (k7 i))) (k7 i)) (k7 i)
theorem zSw (hG:GOk Tryz.prog ([(48,copySC),(56,runC)])) (h:∀(i:zGh),scouldRC.cnd i→lE i):scouldRC.ok Tryz.prog 29:=okw mixed hG 2 (fun _=>[]) (fun _=>[]) [0] Tryz.func29 h
def zUp (i:HdI):Prop:=
 cnd (decide ((↑(sb i.s).size:Int)>i.n)) ((0≤i.n∧i.n≤(↑(sb i.s).size:Int))∧∃(o:Unit),sb (fW i.s i.n)=(sb i.s).extract 0 i.n.toNat∧True) (∃(o:Unit),sb (fW i.s i.n)=sb i.s∧True)
theorem z9y (hG:GOk Tryz.prog ([])) (h:∀(i:HdI),headC.cnd i→zUp i):headC.ok Tryz.prog 28:=okw mixed hG 0 (fun _=>[]) (fun _=>[]) [] Tryz.func28 h
def zMq (l:List Rep):Prop:=
 cnd ((↑(List.map z5 l).length:Int) !=(↑(List.map z5 l).length:Int)) (∃(o:Unit),true=false∧List.map z5 l=List.map z5 l∧List.map z5 l=List.map z5 l∧True) (∃(i0:Nat),(↑i0:Int)=0∧∃(I:Nat→Prop),∃(μ:Nat→Nat),I i0∧∀(i:Nat),I i→cnd (decide ((↑i:Int)<(↑(List.map z5 l).length:Int))) ((0≤(↑i:Int)∧(↑i:Int)<(↑(List.map z5 l).length:Int))∧∃(n:Int),∃(n_1:Int),∃(n_2:Int),∃(n_3:Int),∃(n_4:Int),∃(n_5:Int),∃(n_6:Int),∃(n_7:Int),zH (List.map z5 l) (↑i:Int).toNat 0 8=some [D.v (.int .i64 n),D.v (.int .i64 n_1),D.v (.int .i64 n_2),D.v (.int .i64 n_3),D.v (.int .i64 n_4),D.v (.int .i64 n_5),D.v (.int .i64 n_6),D.v (.int .i64 n_7)]∧(0≤(↑i:Int)∧(↑i:Int)<(↑(List.map z5 l).length:Int))∧∃(n_8:Int),∃(n_9:Int),∃(n_10:Int),∃(n_11:Int),∃(n_12:Int),∃(n_13:Int),∃(n_14:Int),∃(n_15:Int),zH (List.map z5 l) (↑i:Int).toNat 0 8=some [D.v (.int .i64 n_8),D.v (.int .i64 n_9),D.v (.int .i64 n_10),D.v (.int .i64 n_11),D.v (.int .i64 n_12),D.v (.int .i64 n_13),D.v (.int .i64 n_14),D.v (.int .i64 n_15)]∧cnd (!(n==n_8 && (n_1==n_9 && (n_2==n_10 && (n_3==n_11 && (n_4==n_12 && (n_5==n_13 && (n_6==n_14 && (n_7==n_15 && true))))))))) (∃(o:Unit),true=false∧List.map z5 l=List.map z5 l∧List.map z5 l=List.map z5 l∧True) (∃(i':Nat),(↑i':Int)=IntKind.i64.wrap ((↑i:Int)+1)∧I i'∧μ i'<μ i∧bL l=bL l∧bL l=bL l)) (∃(o:Unit),true=true∧List.map z5 l=List.map z5 l∧List.map z5 l=List.map z5 l∧True))
theorem z2x (hG:GOk Tryz.prog ([])) (h:∀(l:List Rep),sameRC.cnd l→zMq l):sameRC.ok Tryz.prog 30:=okw mixed hG 0 (fun _=>[]) (fun _=>z7r) [] Tryz.func30 h
open Go Cv Go.Proofs
theorem zYn (i:zGh) (h:scouldRC.cnd i):lE i:=by
 obtain⟨hR,hB⟩:i.s.Rep i.p i.B∧BOk i.p i.B:=h
 have hbl:=hR.bl
 unfold lE bY k7
 have hbad:¬((0≤i.inst∧i.inst<i.B.length)∧(i.side=1∨i.side=2)∧1≤i.q∧i.q≤1000000)→dF i.p i.B i.inst i.side i.price i.q=0:=fun e=>by rw[dF,if_neg e]
 have hq2:∀{q:Int},(!decide (q≤1000000))=true→¬q≤1000000:=fun e=>by simpa using e
 have hq3:∀{q:Int},(!decide (q≤1000000))=false→q≤1000000:=fun e=>by simpa using e
 have hs1:∀{a b:Int},(a==b)=false→¬a=b:=fun e=>by simpa using e
 refine(fun(hT:((0≤i.inst∧i.inst<i.B.length)∧(i.side=1∨i.side=2)∧1≤i.q∧i.q≤1000000)→_)=>zQ (fun c=>zQ (fun c2=>Cv.cnd.mk (fun c3=>zQ (fun c4=>Cv.cnd.mk (fun e=>⟨(),hbad (by have:=hq2 e;omega),by(repeat'(first|exact trivial|exact rfl|apply And.intro))⟩) (fun e=>hT ⟨⟨by omega,by omega⟩,.inl (by simpa using c3),by omega,hq3 e⟩)) (fun e=>⟨(),hbad (by omega),by(repeat'(first|exact trivial|exact rfl|apply And.intro))⟩)) (fun c3=>Cv.cnd.mk (fun c4=>zQ (fun c5=>Cv.cnd.mk (fun e=>⟨(),hbad (by have:=hq2 e;omega),by(repeat'(first|exact trivial|exact rfl|apply And.intro))⟩) (fun e=>hT ⟨⟨by omega,by omega⟩,.inr (by simpa using c4),by omega,hq3 e⟩)) (fun e=>⟨(),hbad (by omega),by(repeat'(first|exact trivial|exact rfl|apply And.intro))⟩)) (fun c4=>⟨(),hbad (by have:=hs1 c3;have:=hs1 c4;omega),by(repeat'(first|exact trivial|exact rfl|apply And.intro))⟩))) (fun c2=>⟨(),hbad (by omega),by(repeat'(first|exact trivial|exact rfl|apply And.intro))⟩)) (fun c=>⟨(),hbad (by omega),by(repeat'(first|exact trivial|exact rfl|apply And.intro))⟩)) ?_
 intro hg
 have hl:=(vZ (inst:=i.inst) (sd:=decide (i.side=2)) (price:=i.price) _ i.q i.B (Nat.le_refl _) (hR.wf hB)).2.2 (by omega)
 refine⟨i.s,rfl,rfl,rfl,rfl,rfl,rfl,rfl,rfl,rfl,rfl,rfl,rfl,rfl,hR.small hB,fun _ _=>⟨⟨i.s,i.p,i.B,i.inst,decide (i.side=2),i.price,i.q⟩,rfl,jG hg.2.1,rfl,rfl,rfl,⟨hR,hB,hg.1,hg.2.2⟩,fun o ho=>⟨(),?_,rfl,trivial⟩⟩⟩
 have er:RunI.r ⟨i.s,i.p,i.B,i.inst,decide (i.side=2),i.price,i.q⟩=qQ i.p i.B i.inst (decide (i.side=2)) i.price i.q:=rfl
 rw[dF,if_pos hg,er,w64 (by omega)]
theorem scouldR_ok:scouldRC.ok Tryz.prog 29:=zSw (gokc dZ (gokc zFe gok0)) zYn
theorem z9p (a:List UInt8) (i j:Nat):(sb a).extract i j=sb ((a.take j).drop i):=by
 apply ByteArray.ext
 simp only[sb,ByteArray.data_extract,List.extract_toArray]
 rw[List.extract_eq_drop_take',List.drop_take]
theorem yDo (i:HdI) (h:headC.cnd i):zUp i:=by
 obtain⟨h1,h2,h3⟩:0≤i.n∧i.n≤1000000∧i.s.length≤9223372036854775807:=h
 unfold zUp
 have sz:(sb i.s).size=i.s.length:=by simp[sb,ByteArray.size]
 rw[sz]
 refine zQ (fun c=>⟨⟨h1,by omega⟩,(),?_,trivial⟩) (fun c=>⟨(),?_,trivial⟩)
 ·rw[fW,if_pos (by omega),z9p,List.drop_zero]
 ·rw[fW,if_neg (by omega)]
theorem head_ok:headC.ok Tryz.prog 28:=z9y gok0 yDo
theorem yAs (l:List Rep) (h:sameRC.cnd l):zMq l:=by
 have hl:l.length≤2000000000:=h
 unfold zMq
 have e:(List.map z5 l).length=l.length:=List.length_map _
 rw[e]
 refine Cv.cnd.mk (fun e=>absurd e (by simp)) (fun _=>⟨0,rfl,fun j=>j≤l.length,fun j=>l.length-j,Nat.zero_le _,fun j hj=>zQ (fun c=> ?_) (fun c=>⟨(),rfl,rfl,rfl,trivial⟩)⟩)
 obtain⟨r,hr⟩:=yE (l:=l) (i:=j) (by omega)
 have hel:zH (l.map z5) (j:Int).toNat 0 8=some [D.v (.int .i64 r.kind),D.v (.int .i64 r.id),D.v (.int .i64 r.inst),D.v (.int .i64 r.side),D.v (.int .i64 r.price),D.v (.int .i64 r.qty),D.v (.int .i64 r.left),D.v (.int .i64 r.why)]:=elA hr (by simp[z5]) rfl
 exact⟨⟨by omega,by omega⟩,_,_,_,_,_,_,_,_,hel,⟨by omega,by omega⟩,_,_,_,_,_,_,_,_,hel,Cv.cnd.mk (fun e=>absurd e (by simp)) (fun _=>⟨j+1,by rw[w64 (by omega)];rfl,by omega,by dsimp only;omega,rfl,rfl⟩)⟩
theorem sameR_ok:sameRC.ok Tryz.prog 30:=z2x gok0 yAs
theorem zKn {c:Cmd} (h:c.right=0):¬(c.kind<1∨4<c.kind):=fun e=>by rw[Cmd.right,if_pos e]at h;cases h
theorem z4a (p:Prd) (B:List (List zM)) (U:List Int) {c:Cmd} (h:c.kind<1∨4<c.kind∨c.qty<1∨1000000<c.qty) (hk:¬c.kind=2):∃w,doF p B U c=⟨B,U,vR c w⟩:=by
 have hr:c.right≠0:=fun e=>by
  have h1:=zKn e
  by_cases h2:c.kind=1
  ·have:=(nY e h2).2.1;omega
  ·have:=cW e h2 hk;omega
 exact⟨_,by rw[doF,if_pos hr]⟩
theorem z0t {p:Prd} {B:List (List zM)} (h:BWf p B) (U:List Int) (c:Cmd):(doF p B U c).R.length≤1503000003:=by
 have hbl:=h.ok.bl
 have hrj:∀w,(vR c w).length≤1503000003:=fun w=>by simp[vR]
 rw[doF]
 split
 ·exact hrj _
 rename_i hr
 have hr:c.right=0:=by simpa using hr
 split
 ·rename_i hk
  obtain⟨_,hq,_⟩:=nY hr hk
  rw[fE]
  split
  ·exact hrj _
  rename_i hp
  have hp:p.price c.inst c.price=0:=by simpa using hp
  have hin:=sZ hp
  split
  ·exact hrj _
  split
  ·exact hrj _
  split
  ·exact hrj _
  split
  ·exact hrj _
  have:=b8 h U (c:=c) (by omega) hq
  omega
 rename_i hk
 split
 ·exact hrj _
 rename_i hf
 have hf:(zO B c.id).2.2=true:=by simpa using hf
 have hf:zO B c.id=((zO B c.id).1,(zO B c.id).2.1,true):=by rw[← hf]
 obtain⟨hin,_⟩:=zFd h hf
 split
 ·rename_i h4
  have hq:=cW hr hk (by omega)
  rw[vI]
  split
  ·exact hrj _
  split
  ·simp[uY]
  split
  ·exact hrj _
  have:=b8 (h.take c.id (zO B c.id).2.1.qty) U (c:=⟨1,c.id,(zO B c.id).1,(zO B c.id).2.1.side,c.price,c.qty,0,1,[]⟩) (by dsimp only;rw[gN];exact hin) hq
  dsimp only
  rw[List.length_append]
  have e1:(jY B U c.id (zO B c.id).1 (zO B c.id).2.1).R.length=1:=rfl
  have e2:(jY B U c.id (zO B c.id).1 (zO B c.id).2.1).B=(xN B c.id (zO B c.id).2.1.qty).1:=rfl
  rw[e1,e2]
  omega
 split
 ·simp[jY]
 ·simp[uY]
open Go Cv Go.Proofs
theorem vrf (i:RfI) (h:rfC.cnd i):Vrf i:=by
 obtain⟨hraw,hcraw,hbraw,hlen⟩:i.raw:=h
 have hc:=zIo i.x
 have hs:=zFs i.x
 have hml:(List.map cmdE i.l).length=i.l.length:=List.length_map _
 have hmb:(List.map cmdE i.bad).length=i.bad.length:=List.length_map _
 unfold Vrf zWe
 rw[hml,hmb]
 refine⟨yT i.x,fun y=>y=yT i.x,⟨i.x,rfl,rfl,rfl,rfl,rfl,rfl,rfl,rfl,rfl,rfl,rfl,hraw,fun _ _=>⟨yT i.x,rfl,rfl,rfl,rfl,rfl,rfl,rfl,rfl,rfl,rfl,rfl,rfl,by(repeat'(first|exact trivial|exact rfl|apply And.intro))⟩⟩,?_⟩
 rintro _ rfl
 refine⟨yT i.x,rfl,rfl,rfl,rfl,rfl,rfl,rfl,rfl,rfl,rfl,rfl,hs,fun _ _=>⟨yT i.x,rfl,rfl,rfl,rfl,rfl,rfl,rfl,rfl,rfl,rfl,rfl,hs,fun _ _=> ?_,fun _ hne=>absurd hc hne⟩,fun _ hne=>absurd hc hne⟩
 refine⟨(0,mk0 (yT i.x),mk0 (yT i.x)),rfl,rfl,rfl,fun j=>(j.1≤40∧j.1≤i.l.length)∧∃B U,j.2.1.Rep (yT i.x) B U∧j.2.2.Rep (yT i.x) B U∧BOk (yT i.x) B,fun j=>40-j.1,⟨⟨Nat.zero_le _,Nat.zero_le _⟩,_,_,zFm _,zFm _,BOk.new hc hs⟩,?_⟩
 rintro⟨j,m,n⟩ ⟨⟨hj30,hjl⟩,B,U,hM,hN,hB⟩
 dsimp only at hj30 hjl hM hN ⊢
 refine⟨true,fun b=>b=decide (j<i.l.length∧j<40),zQ (fun c=>⟨_,rfl,?_,by(repeat'(first|exact trivial|exact rfl|apply And.intro))⟩) (fun c=>⟨_,rfl,?_,by(repeat'(first|exact trivial|exact rfl|apply And.intro))⟩),fun b hb=> ?_⟩
 ·show decide ((j:Int)<40)=decide (j<i.l.length∧j<40)
  rw[Bool.eq_iff_iff,decide_eq_true_eq,decide_eq_true_eq];omega
 ·exact(decide_eq_false (by omega)).symm
 subst hb
 refine zQ (fun hb=> ?_) (fun _=>⟨(),trivial,fun _ _=>⟨(),rfl,trivial⟩⟩)
 obtain⟨hb1,hb2⟩:=hb
 refine⟨(m,n),rfl,rfl,fun q=>∃B U,q.1.Rep (yT i.x) B U∧q.2.Rep (yT i.x) B U∧BOk (yT i.x) B,zQ (fun hb=> ?_) (fun _=>⟨(m,n),rfl,rfl,⟨B,U,hM,hN,hB⟩,by(repeat'(first|exact trivial|exact rfl|apply And.intro))⟩),?_⟩
 ·obtain⟨c,hcj⟩:=yE (l:=i.bad) (i:=j) (by omega)
  obtain⟨hcr,hcl⟩:=hbraw c (List.mem_of_getElem? hcj)
  have hsm:=hM.s.small hB
  have hlb:(fW c.label 30).length≤140737488355328:=by
   rw[fW];split
   ·rw[List.length_take];omega
   ·omega
  obtain⟨C,hC⟩:∃C:Cmd,C={c with label:=fW c.label 30}:=⟨_,rfl⟩
  have hkd:C.kind=c.kind:=by rw[hC]
  have hidd:C.id=c.id:=by rw[hC]
  have hqt:C.qty=c.qty:=by rw[hC]
  obtain⟨X,hX⟩:∃X,X=doF (yT i.x) B U C:=⟨_,rfl⟩
  have hB':BOk (yT i.x) X.B:=by rw[hX];exact mdo hM hB C
  have hqr:=hcr.2.2.2.2.2.1
  have hC':∀(P:Cmd→Prop),P C→P {c with label:=fW c.label 30}:=fun P h=>hC▸h
  refine⟨⟨by omega,by omega⟩,c.kind,c.id,c.inst,c.side,c.price,c.qty,c.least,c.time,sb c.label,yCp hcj,⟨c.label,30⟩,rfl,rfl,⟨(by decide:(0:Int)≤30),(by decide:(30:Int)≤1000000),hcl⟩,fun _ _=>⟨⟨m,yT i.x,B,U,0⟩,rfl,⟨hM,hB⟩,fun _ _=>⟨⟨m,yT i.x,B,U,c.id⟩,rfl,rfl,⟨hM,hB⟩,fun _ _=>⟨m,rfl,hsm,fun _ _=>⟨⟨m.s,yT i.x,B,c.inst,c.side,c.price,1⟩,rfl,rfl,rfl,rfl,rfl,⟨hM.s,hB⟩,fun _ _=> ?_⟩⟩⟩⟩⟩
  refine⟨true,fun b=>b=decide (c.kind<1∨4<c.kind∨c.qty<1∨1000000<c.qty),zQ (fun e=>⟨_,rfl,(decide_eq_true (.inl e)).symm,by(repeat'(first|exact trivial|exact rfl|apply And.intro))⟩) (fun e1=>zQ (fun e=>⟨_,rfl,(decide_eq_true (.inr (.inl e))).symm,by(repeat'(first|exact trivial|exact rfl|apply And.intro))⟩) (fun e2=>zQ (fun e=>⟨_,rfl,(decide_eq_true (.inr (.inr (.inl e)))).symm,by(repeat'(first|exact trivial|exact rfl|apply And.intro))⟩) (fun e3=>⟨_,rfl,?_,by(repeat'(first|exact trivial|exact rfl|apply And.intro))⟩))),?_⟩
  ·show decide (c.qty>1000000)=decide (c.kind<1∨4<c.kind∨c.qty<1∨1000000<c.qty)
   rw[Bool.eq_iff_iff,decide_eq_true_eq,decide_eq_true_eq];omega
  rintro _ rfl
  refine zQ (fun hw=> ?_) (fun _=>⟨(m,n),rfl,rfl,⟨B,U,hM,hN,hB⟩,by(repeat'(first|exact trivial|exact rfl|apply And.intro))⟩)
  refine⟨⟨m,yT i.x,B,U,C,X⟩,by rw[hC],by rw[hC],by rw[hC],by rw[hC],by rw[hC],by rw[hC],by rw[hC],by rw[hC],by rw[hC],rfl,⟨⟨hM,hB⟩,by rw[hC];exact hlb,by rw[hC];exact hqr,hX⟩,fun o ho=>⟨⟨o,yT i.x,X.B,X.U,c.id⟩,rfl,rfl,⟨ho,hB'⟩,fun _ _=> ?_⟩⟩
  dsimp only at ho ⊢
  have hbad:¬c.kind=2→∃w,X=⟨B,U,vR C w⟩:=fun e=>by
   obtain⟨w,hw⟩:=z4a (yT i.x) B U (c:=C) (by rw[hkd,hqt];exact hw) (by rw[hkd];exact e)
   exact⟨w,by rw[hX,hw]⟩
  refine⟨true,fun b=>b=false,Cv.cnd.mk (fun e=> ?_) (fun _=>⟨_,rfl,rfl,by(repeat'(first|exact trivial|exact rfl|apply And.intro))⟩),?_⟩
  ·have e:¬c.kind=2:=by simpa using e
   obtain⟨w,hXw⟩:=hbad e
   clear hX hbad
   subst hXw
   have hr:List.map z5 (vR C w)=[z5 ⟨2,c.id,0,0,0,0,0,w⟩]:=by rw[← hidd];rfl
   dsimp only at ho hB' ⊢
   rw[hr]
   refine Cv.cnd.mk (fun e=>absurd e (by simp)) (fun _=>⟨⟨by decide,by simp⟩,2,rfl,Cv.cnd.mk (fun e=>absurd e (by decide)) (fun _=>⟨⟨by decide,by simp⟩,c.id,rfl,Cv.cnd.mk (fun e=>absurd e (by simp)) (fun _=>⟨⟨o,yT i.x,B,U,0⟩,rfl,⟨ho,hB⟩,fun _ _=>Cv.cnd.mk (fun e=>absurd e (by simp)) (fun _=>Cv.cnd.mk (fun e=>absurd e (by simp)) (fun _=>Cv.cnd.mk (fun e=>absurd e (by simp)) (fun _=>⟨o,rfl,ho.s.small hB,fun _ _=>⟨rfl,rfl,rfl,⟨o.s,yT i.x,B,c.inst,c.side,c.price,1⟩,rfl,rfl,rfl,rfl,rfl,⟨ho.s,hB⟩,fun _ _=>⟨_,rfl,?_,by(repeat'(first|exact trivial|exact rfl|apply And.intro))⟩⟩⟩)))⟩)⟩)⟩)
   simp
  rintro _ rfl
  refine Cv.cnd.mk (fun e=>absurd e (by decide)) (fun _=>Cv.cnd.mk (fun e=> ?_) (fun e=> ?_))
  ·exact⟨⟨n,yT i.x,B,U,C,X⟩,by rw[hC],by rw[hC],by rw[hC],by rw[hC],by rw[hC],by rw[hC],by rw[hC],by rw[hC],by rw[hC],rfl,⟨⟨hN,hB⟩,by rw[hC];exact hlb,by rw[hC];exact hqr,hX⟩,fun o2 ho2=>⟨(o,o2),rfl,rfl,⟨X.B,X.U,ho,ho2,hB'⟩,by(repeat'(first|exact trivial|exact rfl|apply And.intro))⟩⟩
  ·have e:¬c.kind=2:=by simpa using e
   obtain⟨w,hXw⟩:=hbad e
   exact⟨(o,n),rfl,rfl,⟨B,U,by rw[hXw]at ho;exact ho,hN,hB⟩,by(repeat'(first|exact trivial|exact rfl|apply And.intro))⟩
 clear hM hN hB
 rintro⟨m,n⟩ ⟨B,U,hM,hN,hB⟩
 dsimp only at hM hN ⊢
 obtain⟨c,hcj⟩:=yE (l:=i.l) (i:=j) hb1
 have hcr:=hcraw c (List.mem_of_getElem? hcj)
 obtain⟨C,hC⟩:∃C:Cmd,C=xD ⟨yT i.x,c,j⟩:=⟨_,rfl⟩
 refine⟨yFl,fun y=>y=C,⟨⟨by omega,by omega⟩,c.kind,c.id,c.inst,c.side,c.price,c.qty,c.least,c.time,sb c.label,yCp hcj,yFo ?_ (by(repeat'(first|exact trivial|exact rfl|apply And.intro)))⟩,?_⟩
 ·exact⟨⟨yT i.x,c,j⟩,rfl,rfl,rfl,rfl,rfl,rfl,rfl,rfl,rfl,rfl,rfl,rfl,rfl,rfl,rfl,rfl,rfl,rfl,rfl,rfl,rfl,⟨hc,hs,hcr,by dsimp only;omega,by dsimp only;omega⟩,fun _ _=>⟨_,rfl,rfl,rfl,rfl,rfl,rfl,rfl,rfl,rfl,hC.symm,by(repeat'(first|exact trivial|exact rfl|apply And.intro))⟩⟩
 intro D hD
 obtain rfl:C=D:=Eq.symm hD
 have hlb:C.label.length≤140737488355328:=by
  have:C.label=[]:=by rw[hC];exact zLc _
  rw[this];decide
 have hqt:1≤C.qty∧C.qty≤12:=by rw[hC];exact zUr _
 clear hC
 obtain⟨X,hX⟩:∃X,X=doF (yT i.x) B U C:=⟨_,rfl⟩
 have hB':BOk (yT i.x) X.B:=by rw[hX];exact mdo hM hB C
 have hXl:X.R.length≤2000000000:=by
  have:=z0t (hM.s.wf hB) U C
  rw[hX];omega
 refine⟨((m,n),false),rfl,rfl,fun q=>q.2=false∧∃B U,q.1.1.Rep (yT i.x) B U∧q.1.2.Rep (yT i.x) B U∧BOk (yT i.x) B,⟨⟨m,yT i.x,B,U,C,X⟩,rfl,rfl,rfl,rfl,rfl,rfl,rfl,rfl,rfl,rfl,⟨⟨hM,hB⟩,hlb,⟨by dsimp only;omega,by dsimp only;omega⟩,hX⟩,fun o ho=>⟨by(repeat'(first|exact trivial|exact rfl|apply And.intro)),⟨n,yT i.x,B,U,C,X⟩,rfl,rfl,rfl,rfl,rfl,rfl,rfl,rfl,rfl,rfl,⟨⟨hN,hB⟩,hlb,⟨by dsimp only;omega,by dsimp only;omega⟩,hX⟩,fun o2 ho2=>⟨X.R,rfl,rfl,hXl,fun _ _=>⟨((o,o2),false),rfl,rfl,rfl,⟨rfl,X.B,X.U,ho,ho2,hB'⟩,by(repeat'(first|exact trivial|exact rfl|apply And.intro))⟩⟩⟩⟩,?_⟩
 rintro⟨⟨m2,n2⟩,b⟩ ⟨hb,B2,U2,h1,h2,h3⟩
 dsimp only at hb h1 h2 ⊢
 subst hb
 exact Cv.cnd.mk (fun e=>absurd e (by decide)) (fun _=>⟨(j+1,m2,n2),by rw[w64 (by omega)];rfl,rfl,rfl,⟨⟨by dsimp only;omega,by dsimp only;omega⟩,_,_,h1,h2,h3⟩,by dsimp only;omega,by(repeat'(first|exact trivial|exact rfl|apply And.intro))⟩)
end Sx
