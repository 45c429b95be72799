/- Texts of ours, one behind the other: a walk that the kernel reckons, and contracts of functions. No condition. -/
import Derived.Test.YtpgpnnncaidcjaaGreatM9
namespace Sx
set_option linter.unusedVariables false
set_option linter.unusedSimpArgs false
set_option maxRecDepth 100000
open Go Cv Go.Proofs
open Go Cv Go.Proofs
theorem dN {inst s:Int} {f:wP}:∀{os:List zL} {sh:List Int},f∈xA inst s os sh→f.side=s∧f.inst=inst∧∃o∈os,f.price=o.price
 |[],sh,h=>by cases h
 |o::os,[],h=>by cases h
 |o::os,k::sh,h=>by
  rw[xA]at h
  split at h
  ·rcases List.mem_cons.1 h with rfl|h
   ·exact⟨rfl,rfl,o,List.mem_cons_self,rfl⟩
   ·obtain⟨a,b,o',c,d⟩:=dN h
    exact⟨a,b,o',List.mem_cons_of_mem _ c,d⟩
  ·obtain⟨a,b,o',c,d⟩:=dN h
   exact⟨a,b,o',List.mem_cons_of_mem _ c,d⟩
def FOk (f:wP):Prop:=(f.side=1∨f.side=2)∧-2000000≤f.price∧f.price≤2000000
theorem nP {p:Prd} {B:List (List zL)} (h:BOk p B) (inst:Int) {s:Int} (hs:s=1∨s=2) (q:Int):∀f∈yW p B inst s q,FOk f:=by
 intro f hf
 obtain⟨a,_,o,ho,e⟩:=dN hf
 refine⟨by rw[a];exact hs,?_⟩
 rw[e]
 have ho:=(List.mem_filter.1 ho).1
 by_cases hk:inst.toNat<B.length
 ·obtain⟨L,hL⟩:=yG hk
  rw[zY hL]at ho
  exact h.prices hL o ho
 ·rw[List.getD_eq_getElem?_getD,List.getElem?_eq_none (by omega)]at ho;cases ho
def SOk (t:kF):Prop:=(-2000000≤t.price∧t.price≤2000000)∧(∀f∈t.fills,FOk f)∧t.fills.length≤500
theorem z3z {p:Prd} {B:List (List zL)} (h:BWf p B) {inst:Int} (hi:0≤inst∧inst<B.length) {s:Int} (hs:s=1∨s=2) (hn:(zO p B inst s).2.2=true): -2000000≤(zO p B inst s).1.price∧(zO p B inst s).1.price≤2000000:=by
 rw[zO]at hn ⊢
 obtain⟨L,hL⟩:=yG (l:=B) (i:=inst.toNat) (by omega)
 rw[zY hL]at hn ⊢
 split
 ·exact zEo (h.ok.prices hL)
 ·rename_i c
  rw[if_neg c]at hn
  have hm:=zAi hn
  have:=(List.mem_filter.1 hm).2
  exact dE h.ok.pc (of_decide_eq_true this)
theorem z4j {p:Prd} {B:List (List zL)} (h:BWf p B) {inst:Int} (hi:0≤inst∧inst<B.length) {sd:Bool} {price q:Int} {t:kF} {B':List (List zL)} (e:vJ p B inst sd price q=some (t,B')):SOk t:=by
 have hs:zB (!sd)=1∨zB (!sd)=2:=mH _
 have hb:=z3z h hi hs
 have hin:=zOy h.ok h.od hi hs
 rw[vJ]at e
 dsimp only at e
 split at e
 ·rename_i c
  have c1:(zO p B inst (zB (!sd))).2.2=true:=by
   cases hx:(zO p B inst (zB (!sd))).2.2 with
   |false=>rw[hx]at c;cases c
   |true=>rfl
  have hb:=hb c1
  obtain⟨_,hin,_⟩:=hin c1
  split at e
  ·rename_i c2
   obtain⟨_,ok⟩:=hin c2
   cases e
   refine⟨hb,fun f hf=> ?_,?_⟩
   ·rcases List.mem_append.1 hf with hf|hf
    ·exact nP h.ok _ ok.sa _ f hf
    ·exact nP h.ok.takes _ ok.sb _ f hf
   ·dsimp only
    rw[List.length_append]
    have:=gD (p:=p) h.od (zO p B inst (zB (!sd))).1.a.inst (zO p B inst (zB (!sd))).1.a.side (min q (zO p B inst (zB (!sd))).1.qty)
    have:=gD (p:=p) (h.takes (fs:=yW p B (zO p B inst (zB (!sd))).1.a.inst (zO p B inst (zB (!sd))).1.a.side (min q (zO p B inst (zB (!sd))).1.qty))).od (zO p B inst (zB (!sd))).1.b.inst (zO p B inst (zB (!sd))).1.b.side (min q (zO p B inst (zB (!sd))).1.qty)
    omega
  ·cases e
   refine⟨hb,fun f hf=>nP h.ok _ hs _ f hf,?_⟩
   have:=gD (p:=p) h.od inst (zB (!sd)) (min q (zO p B inst (zB (!sd))).1.qty)
   dsimp only
   omega
 ·cases e
open Go Cv Go.Proofs
open Go Cv Go.Proofs
def zJt (i:StI):Prop:=
 (∀(p:Value×List D),p∈yD i.s.wh→like (Value.int IntKind.i64 i.id) p.fst=true)∧∃(b:Bool),∃(n:Int),(x6 (Value.int IntKind.i64 i.id) (yD i.s.wh)=some [D.v (.int .i64 n)]∧b=true∨x6 (Value.int IntKind.i64 i.id) (yD i.s.wh)=none∧[D.v (.int .i64 n)]=[D.v (.int .i64 0)]∧b=false)∧cnd (!b) (∃(o:Unit),(z5 i.B i.id).fst=0∧(z5 i.B i.id).snd.fst.id=0∧(z5 i.B i.id).snd.fst.side=0∧(z5 i.B i.id).snd.fst.price=0∧(z5 i.B i.id).snd.fst.qty=0∧(z5 i.B i.id).snd.fst.top=false∧(z5 i.B i.id).snd.snd=false∧sb i.s.p.code=sb i.s.p.code∧i.s.p.tick=i.s.p.tick∧i.s.p.low=i.s.p.low∧i.s.p.high=i.s.p.high∧i.s.p.wide=i.s.p.wide∧i.s.p.rule=i.s.p.rule∧i.s.p.top=i.s.p.top∧i.s.p.least=i.s.p.least∧i.s.p.part=i.s.p.part∧AObj.objs 102 Book 6 zM i.s.books none=AObj.objs 102 Book 6 zM i.s.books none∧yD i.s.wh=yD i.s.wh∧AObj.fro 1 (iE i.s.p.months)=AObj.fro 1 (iE i.s.p.months)∧AObj.fro 1 (iE i.s.p.settle)=AObj.fro 1 (iE i.s.p.settle)∧True) ((0≤n∧n<(↑i.s.books.length:Int))∧n.toNat<i.s.books.length∧∃(x:Book),i.s.books[n.toNat]?=some x∧∃(i_1:FlI),i_1.id=i.id∧yC i_1.b=yC x∧i_1.b.Rep i_1.L∧∀(o:Unit),True→∃(x:Book),yC i_1.b=yC x∧n.toNat=n.toNat∧n.toNat<i.s.books.length∧∃(o:Unit),(z5 i.B i.id).fst=n∧(z5 i.B i.id).snd.fst.id=(wZ i_1.L i_1.id).id∧(z5 i.B i.id).snd.fst.side=(wZ i_1.L i_1.id).side∧(z5 i.B i.id).snd.fst.price=(wZ i_1.L i_1.id).price∧(z5 i.B i.id).snd.fst.qty=(wZ i_1.L i_1.id).qty∧(z5 i.B i.id).snd.fst.top=(wZ i_1.L i_1.id).top∧(z5 i.B i.id).snd.snd=true∧sb i.s.p.code=sb i.s.p.code∧i.s.p.tick=i.s.p.tick∧i.s.p.low=i.s.p.low∧i.s.p.high=i.s.p.high∧i.s.p.wide=i.s.p.wide∧i.s.p.rule=i.s.p.rule∧i.s.p.top=i.s.p.top∧i.s.p.least=i.s.p.least∧i.s.p.part=i.s.p.part∧AObj.objs 102 Book 6 zM i.s.books none=AObj.objs 102 Book 6 zM (i.s.books.set n.toNat x) none∧yD i.s.wh=yD i.s.wh∧AObj.fro 1 (iE i.s.p.months)=AObj.fro 1 (iE i.s.p.months)∧AObj.fro 1 (iE i.s.p.settle)=AObj.fro 1 (iE i.s.p.settle)∧True)
theorem z4b (hG:GOk Tryz.prog ([(75,bfindC)])) (h:∀(i:StI),sfindC.cnd i→zJt i):sfindC.ok Tryz.prog 41:=okw mixed hG 0 (fun _=>[]) (fun _=>[]) [0] Tryz.func41 h
open Go Cv Go.Proofs
theorem z8l (i:StI) (h:sfindC.cnd i):zJt i:=by
 obtain⟨hR,hB⟩:i.s.Rep i.p i.B∧i.B.length≤1000:=h
 have hat:=hR.at_ i.id
 unfold zJt
 rw[z5]
 cases hi:vL i.B i.id with
 |none=>
  rw[hi]at hat
  exact⟨wR _ _,false,0,.inr ⟨by rw[gG,hat];rfl,rfl,rfl⟩,Cv.cnd.mk (fun _=>⟨(),by(repeat'(first|exact trivial|exact rfl|apply And.intro))⟩) (fun e=>absurd e (by decide))⟩
 |some k=>
  rw[hi]at hat
  obtain⟨L,hL,hh⟩:=qP hi
  have hk:=(List.getElem?_eq_some_iff.1 hL).1
  obtain⟨b,hb⟩:=yG (l:=i.s.books) (i:=k) (by rw[hR.bl];exact hk)
  have hbR:=hR.bk k b L hb hL
  have hbl:=hR.bl
  refine⟨wR _ _,true,k,.inl ⟨by rw[gG,hat];rfl,rfl⟩,Cv.cnd.mk (fun e=>absurd e (by decide)) (fun _=> ?_)⟩
  dsimp only
  rw[Int.toNat_natCast,zY hL]
  have hs:=wC hb
  refine⟨⟨by omega,by omega⟩,by omega,b,hb,⟨b,L,i.id,0⟩,rfl,rfl,hbR,fun _ _=>⟨b,rfl,rfl,by omega,(),?_⟩⟩
  rw[hs]
  (repeat'(first|exact trivial|exact rfl|apply And.intro))
theorem zZh:sfindC.ok Tryz.prog 41:=z4b (gokc zFy gok0) z8l
open Go Cv Go.Proofs
theorem nN (id:Int) (U:List Int):∀p∈zU U,like (Value.int IntKind.i64 id) p.1=true:=by
 intro p hp
 obtain⟨k,_,rfl⟩:=List.mem_map.1 hp
 rfl
theorem zAs (id:Int):∀U:List Int,jQ (Value.int IntKind.i64 id) [D.v (.bool true)] (zU U)=zU (aF U id)
 |[]=>rfl
 |k::U=>by
  have ih:=zAs id U
  have e:fZ (Value.int IntKind.i64 id) (Value.int IntKind.i64 k)=decide (id=k):=by simp[fZ,keq]
  show(bif fZ (Value.int IntKind.i64 id) (Value.int IntKind.i64 k)then(Value.int IntKind.i64 k,[D.v (.bool true)])::zU U else(Value.int IntKind.i64 k,[D.v (.bool true)])::jQ (Value.int IntKind.i64 id) [D.v (.bool true)] (zU U))=_
  rw[e,ih]
  by_cases c:id=k
  ·rw[decide_eq_true c,cond_true,aF,if_pos (by rw[c];exact List.mem_cons_self)];rfl
  ·rw[decide_eq_false c,cond_false,aF,aF]
   have hm:id∈k::U↔id∈U:=by simp[c]
   by_cases d:id∈U
   ·rw[if_pos d,if_pos (hm.2 d)];rfl
   ·rw[if_neg d,if_neg (fun x=>d (hm.1 x))];rfl
theorem zAt (id:Int):∀U:List Int,x6 (Value.int IntKind.i64 id) (zU U)=if id∈U then some [D.v (.bool true)]else none
 |[]=>rfl
 |k::U=>by
  have ih:=zAt id U
  have e:fZ (Value.int IntKind.i64 id) (Value.int IntKind.i64 k)=decide (id=k):=by simp[fZ,keq]
  show(bif fZ (Value.int IntKind.i64 id) (Value.int IntKind.i64 k)then some [D.v (.bool true)]else x6 (Value.int IntKind.i64 id) (zU U))=_
  rw[e,ih]
  by_cases c:id=k
  ·rw[decide_eq_true c,cond_true,if_pos (by rw[c];exact List.mem_cons_self)]
  ·rw[decide_eq_false c,cond_false]
   have hm:id∈k::U↔id∈U:=by simp[c]
   by_cases d:id∈U
   ·rw[if_pos d,if_pos (hm.2 d)]
   ·rw[if_neg d,if_neg (fun x=>d (hm.1 x))]
theorem zHe (id:Int) (U:List Int):x6 (Value.int IntKind.i64 id) (zU U)=some [D.v (.bool (decide (id∈U)))]∧decide (id∈U)=true∨x6 (Value.int IntKind.i64 id) (zU U)=none∧[D.v (.bool (decide (id∈U)))]=[D.v (.bool false)]∧decide (id∈U)=false:=by
 rw[zAt]
 by_cases c:id∈U
 ·rw[if_pos c,decide_eq_true c];exact .inl ⟨rfl,rfl⟩
 ·rw[if_neg c,decide_eq_false c];exact .inr ⟨rfl,rfl,rfl⟩
theorem zCs {p:Prd} {inst:Int} {sd:Bool} {price:Int}:∀(m:Nat) (q:Int) (B:List (List zL)),q.toNat≤m→BWf p B→0≤inst∧inst<B.length→
 (∀t∈(qY p B inst sd price q).steps,SOk t∧1≤t.qty)∧((qY p B inst sd price q).steps.map (·.qty)).sum=q-(qY p B inst sd price q).left
 |m,q,B,hm,h,hi=>by
  by_cases hq:q≤0
  ·rw[uK (.inl hq)];exact⟨fun t ht=>(by cases ht),by simp⟩
  cases hs:vJ p B inst sd price q with
  |none=>rw[uK (.inr hs)];exact⟨fun t ht=>(by cases ht),by simp⟩
  |some x=>
   obtain⟨t,C⟩:=x
   obtain⟨k1,k2⟩:=zCd h hs
   have hq2:=nD (by omega) hs
   cases m with
   |zero=>omega
   |succ m=>
   obtain⟨i1,i2⟩:=zCs (p:=p) (inst:=inst) (sd:=sd) (price:=price) m (q-t.qty) C (by omega) k1 (by rw[k2];exact hi)
   rw[aI (by omega) hs]
   refine⟨fun u hu=> ?_,?_⟩
   ·rcases List.mem_cons.1 hu with rfl|hu
    ·exact⟨z4j h hi hs,hq2.1⟩
    ·exact i1 u hu
   ·dsimp only
    rw[List.map_cons,List.sum_cons,i2];omega
theorem z5l {α:Type} {f:α→List Rep} (hf:∀x,(f x).length≤3):∀l:List α,(l.flatMap f).length≤3*l.length
 |[]=>Nat.le_refl _
 |x::l=>by
  have:=z5l hf l
  have:=hf x
  rw[List.flatMap_cons,List.length_append,List.length_cons];omega
theorem zCl (p:Prd) (c:Cmd) (x:kF) (left:Int):(gR p c x left).length≤3*x.fills.length+3:=by
 rw[gR,List.length_append]
 have:=z5l (fun f=>tM p x (aX f)) x.fills
 have:=tM p x ⟨3,c.id,c.inst,c.side,x.price,x.qty,left,0⟩
 omega
theorem zDe {l:List kF} (h:∀t∈l,SOk t∧1≤t.qty):(l.length:Int)≤(l.map (·.qty)).sum:=by
 induction l with
 |nil=>exact Int.le_refl _
 |cons t l ih=>
  have:=ih fun u hu=>h u (List.mem_cons_of_mem _ hu)
  have:=(h t List.mem_cons_self).2
  rw[List.map_cons,List.sum_cons,List.length_cons];omega
theorem z6h (i:EnI) (h:enterC.cnd i):zMm i:=by
 obtain⟨m,p,B,U,c,X⟩:=i
 have h':(m.Rep p B U∧BOk p B)∧((0≤c.inst∧c.inst<B.length)∧(1≤c.qty∧c.qty≤1000000)∧(c.side=1∨c.side=2))∧p.price c.inst c.price=0∧X=wS p B U c:=h
 clear h
 obtain⟨⟨⟨ep,hR,eu⟩,hB⟩,⟨⟨h0,h1⟩,hq,hs⟩,hpz,hX⟩:=h'
 subst ep eu hX
 have hwf:=hR.wf hB
 obtain⟨k1,k2,k3⟩:=gJ (inst:=c.inst) (sd:=decide (c.side=2)) (price:=c.price) _ c.qty B (Nat.le_refl _) hwf
 have k3:=k3 (by omega)
 obtain⟨s1,s2⟩:=zCs (inst:=c.inst) (sd:=decide (c.side=2)) (price:=c.price) _ c.qty B (Nat.le_refl _) hwf ⟨h0,h1⟩
 have hX:=wW m.p B m.used c
 have hbd:=dE hB.pc hpz
 unfold zMm
 dsimp only
 rw[zAs,hX]
 refine⟨nN _ _,⟨m.s,m.p,B,c.inst,decide (c.side=2),c.price,c.qty⟩,rfl,wB hs,rfl,rfl,rfl,⟨hR,hB,⟨h0,h1⟩,hq.1,hq.2⟩,fun o ho=> ?_⟩
 have er:RunI.r ⟨m.s,m.p,B,c.inst,decide (c.side=2),c.price,c.qty⟩=qY m.p B c.inst (decide (c.side=2)) c.price c.qty:=rfl
 rw[er]at ho ⊢
 clear hX er
 generalize qY m.p B c.inst (decide (c.side=2)) c.price c.qty=R at*
 obtain⟨ts,lf,RB⟩:=R
 dsimp only at*
 have hlen:=zDe s1
 have e4:(ts.map qD).length=ts.length:=List.length_map ..
 refine⟨⟨c.qty,0,[⟨1,c.id,c.inst,c.side,c.price,c.qty,c.qty,0⟩]⟩,rfl,rfl,rfl,fun j=>j.k≤ts.length∧j.left=lf+((ts.drop j.k).map (·.qty)).sum∧(⟨1,c.id,c.inst,c.side,c.price,c.qty,c.qty,0⟩::fG m.p c ts c.qty)=j.out++fG m.p c (ts.drop j.k) j.left∧j.out.length≤1+1503*j.k,fun j=>ts.length-j.k,⟨Nat.zero_le _,by dsimp only;rw[List.drop_zero,s2];omega,rfl,Nat.le_refl _⟩,?_⟩
 rintro⟨left,k,out⟩ ⟨j1,j2,j3,j4⟩
 dsimp only at j1 j2 j3 j4 ⊢
 have e5:(out.map yI).length=out.length:=List.length_map ..
 refine zP (fun c1=> ?_) (fun c1=> ?_)
 ·obtain⟨t,ht⟩:=yG (l:=ts) (i:=k) (by omega)
  have hd:ts.drop k=t::ts.drop (k+1):=by rw[List.drop_eq_getElem_cons (by omega),(List.getElem?_eq_some_iff.1 ht).2]
  obtain⟨⟨t1,t2,t3⟩,t4⟩:=s1 t (List.mem_of_getElem? ht)
  have hsd:=zDe (l:=ts.drop (k+1)) fun u hu=>s1 u (List.mem_of_mem_drop hu)
  have hsk:((ts.drop k).map (·.qty)).sum≤(ts.map (·.qty)).sum:=by
   have:=zDe (l:=ts.take k) fun u hu=>s1 u (List.mem_of_mem_take hu)
   have e:(ts.map (·.qty)).sum=((ts.take k).map (·.qty)).sum+((ts.drop k).map (·.qty)).sum:=by
    rw[← List.sum_append,← List.map_append,List.take_append_drop]
   omega
  rw[hd,List.map_cons,List.sum_cons]at j2 hsk
  rw[hd,fG]at j3
  have hrl:=zCl m.p c t (left-t.qty)
  have e6:((gR m.p c t (left-t.qty)).map yI).length=(gR m.p c t (left-t.qty)).length:=List.length_map ..
  have hw:IntKind.i64.wrap (left-t.qty)=left-t.qty:=w64 (by omega)
  refine⟨⟨by omega,by omega⟩,t.price,t.qty,t.implied,t.fills.map yJ,elA ht (by simp[qD]) rfl,?_⟩
  rw[hw]
  refine⟨⟨⟨m.p,o,aF m.used c.id⟩,c,t,left-t.qty⟩,rfl,rfl,rfl,rfl,rfl,rfl,rfl,rfl,rfl,rfl,rfl,rfl,rfl,rfl,rfl,rfl,rfl,rfl,rfl,rfl,rfl,rfl,rfl,rfl,rfl,rfl,rfl,⟨⟨hB.pc,hB.ps⟩,⟨by dsimp only;omega,by dsimp only;omega⟩,by dsimp only;omega,hs,fun f hf=>(t2 f hf).1⟩,fun _ _=>⟨by dsimp only;rw[e5,e6];omega,⟨left-t.qty,k+1,out++gR m.p c t (left-t.qty)⟩,rfl,wjn (by omega),by dsimp only;rw[List.map_append],⟨by dsimp only;omega,by dsimp only;omega,by dsimp only;rw[j3,List.append_assoc],by dsimp only;rw[List.length_append];omega⟩,by dsimp only;omega,by(repeat'(first|exact trivial|exact rfl|apply And.intro))⟩⟩
 have hk:k=ts.length:=by omega
 subst hk
 rw[List.drop_of_length_le (Nat.le_refl _)]at j2 j3
 rw[fG,List.append_nil]at j3
 rw[← j3]
 rw[← j3]at e5 j4
 have hRB:=k1.ok
 refine Cv.cnd.mk (fun e=> ?_) (fun e=>Cv.cnd.mk (fun e2=> ?_) (fun e2=> ?_))
 ·have e:lf=0:=by simpa using e
  rw[if_neg (by omega),if_neg (by omega),List.append_nil]
  exact⟨⟨m.p,o,aF m.used c.id⟩,rfl,rfl,rfl,rfl,rfl,rfl,rfl,rfl,rfl,rfl,rfl,rfl,rfl,rfl,rfl,ho,rfl⟩
 ·have e:¬lf=0:=by simpa using e
  have e2:c.time=1:=by simpa using e2
  rw[if_neg (show ¬(lf≠0∧c.time≠1)by omega),if_pos (show lf≠0∧c.time=1 from⟨e,e2⟩),List.append_nil]
  have ha:=(ho.add c.inst c.id (decide (c.side=2)) c.price lf).1
  rw[wB hs]at ha
  exact⟨⟨o,c.inst,c.id,decide (c.side=2),c.price,lf⟩,rfl,rfl,wB hs,rfl,rfl,rfl,ho.fit hRB,fun _ _=>⟨⟨m.p,(MSt.addF ⟨o,c.inst,c.id,decide (c.side=2),c.price,lf⟩).1,aF m.used c.id⟩,rfl,rfl,rfl,rfl,rfl,rfl,rfl,rfl,rfl,rfl,rfl,rfl,rfl,rfl,rfl,ha,rfl⟩⟩
 ·have e:¬lf=0:=by simpa using e
  have e2:¬c.time=1:=by simpa using e2
  rw[if_pos (show lf≠0∧c.time≠1 from⟨e,e2⟩),if_neg (show ¬(lf≠0∧c.time=1)by omega)]
  exact⟨by rw[e5];omega,⟨m.p,o,aF m.used c.id⟩,rfl,rfl,rfl,rfl,rfl,rfl,rfl,rfl,rfl,rfl,rfl,rfl,rfl,by rw[List.map_append];rfl,rfl,ho,rfl⟩
theorem zGw:enterC.ok Tryz.prog 74:=z1i (gokc zKi (gokc zWb (gokc z3v gok0))) z6h
theorem mused_ok:musedC.ok Tryz.prog 27:=z2a gok0 fun i h=>by
 obtain⟨m,p,B,U,id⟩:=i
 have h':m.Rep p B U:=h
 clear h
 obtain⟨ep,hR,eu⟩:=h'
 subst ep eu
 exact⟨nN _ _,_,_,zHe _ _,(),rfl,by(repeat'(first|exact trivial|exact rfl|apply And.intro))⟩
theorem zSl:mcountC.ok Tryz.prog 19:=zZp (gokc eX gok0) fun i h=>by
 obtain⟨m,p,B,U,id⟩:=i
 have h':m.Rep p B U∧BOk p B:=h
 clear h
 obtain⟨⟨ep,hR,eu⟩,hB⟩:=h'
 subst ep eu
 have:=xK m.p
 have:=hB.bl
 exact⟨⟨m.s,m.p,B,0,false⟩,rfl,⟨hR,by dsimp only;omega⟩,fun _ _=>⟨(),by(repeat'(first|exact trivial|exact rfl|apply And.intro))⟩⟩
theorem zAk:cancelC.ok Tryz.prog 43:=zWo (gokc mT gok0) fun i h=>by
 obtain⟨m,p,B,U,id,q,inst,o,X⟩:=i
 have h':(m.Rep p B U∧BOk p B)∧X=vY B U id inst o:=h
 clear h
 obtain⟨⟨⟨ep,hR,eu⟩,hB⟩,hX⟩:=h'
 subst ep eu hX
 have:=xK m.p
 have:=hB.bl
 exact⟨⟨m.s,m.p,B,id,o.qty⟩,rfl,rfl,rfl,⟨hR,by dsimp only;omega⟩,fun o' ho=>⟨⟨m.p,o',m.used⟩,rfl,rfl,rfl,rfl,rfl,rfl,rfl,rfl,rfl,rfl,rfl,rfl,rfl,rfl,rfl,ho,rfl⟩⟩
theorem zAg:reduceC.ok Tryz.prog 44:=zWm (gokc mT gok0) fun i h=>by
 obtain⟨m,p,B,U,id,q,inst,o,X⟩:=i
 have h':(m.Rep p B U∧BOk p B)∧yN (o.qty-q)∧X=cT B U id q inst o:=h
 clear h
 obtain⟨⟨⟨ep,hR,eu⟩,hB⟩,hw,hX⟩:=h'
 subst ep eu hX
 have:=xK m.p
 have:=hB.bl
 have hw:=w64 hw
 unfold zQj
 dsimp only
 rw[hw]
 exact⟨⟨m.s,m.p,B,id,q⟩,rfl,rfl,rfl,⟨hR,by dsimp only;omega⟩,fun o' ho=>⟨⟨m.p,o',m.used⟩,rfl,rfl,rfl,rfl,rfl,rfl,rfl,rfl,rfl,rfl,rfl,rfl,rfl,rfl,rfl,ho,rfl⟩⟩
theorem zBe {c:Cmd} (h:c.right=0):(if c.kind=1 then c.orderE else if c.kind≠2∧qW c.qty=false then 24 else if c.kind=4∧j0 c.price=false then 23 else 0)=0:=by
 rw[Cmd.right]at h
 by_cases c1:c.kind<1∨4<c.kind
 ·rw[if_pos c1]at h;cases h
 rw[if_neg c1]at h
 by_cases c2:c.id<1∨1099511627776<c.id
 ·rw[if_pos c2]at h;cases h
 rw[if_neg c2]at h
 exact h
theorem zSc {c:Cmd} (h:c.right=0) (hk:c.kind=1):(c.side=1∨c.side=2)∧(1≤c.qty∧c.qty≤1000000)∧(0≤c.least∧c.least≤c.qty):=by
 have h:=zBe h
 rw[if_pos hk,Cmd.orderE]at h
 by_cases c1:c.side≠1∧c.side≠2
 ·rw[if_pos c1]at h;cases h
 rw[if_neg c1]at h
 by_cases c2:c.time<1∨3<c.time
 ·rw[if_pos c2]at h;cases h
 rw[if_neg c2]at h
 cases c3:qW c.qty with
 |false=>rw[if_pos c3]at h;cases h
 |true=>
  rw[if_neg (by rw[c3];decide)]at h
  by_cases c4:c.least<0∨c.qty<c.least
  ·rw[if_pos c4]at h;cases h
  simp only[qW,Bool.and_eq_true,decide_eq_true_eq]at c3
  exact⟨by omega,c3,by omega⟩
theorem zAe {c:Cmd} (h:c.right=0) (hk:¬c.kind=1) (hk2:¬c.kind=2):1≤c.qty∧c.qty≤1000000:=by
 have h:=zBe h
 rw[if_neg hk]at h
 cases c3:qW c.qty with
 |false=>rw[if_pos ⟨hk2,c3⟩]at h;cases h
 |true=>
  simp only[qW,Bool.and_eq_true,decide_eq_true_eq]at c3
  exact c3
theorem z8o (i:EnI) (h:orderC.cnd i):zJz i:=by
 obtain⟨m,p,B,U,c,X⟩:=i
 have h':(m.Rep p B U∧BOk p B)∧c.right=0∧c.kind=1∧X=fJ p B U c:=h
 clear h
 obtain⟨⟨hM,hB⟩,hr,hkd,hX⟩:=h'
 obtain⟨ep,hR,eu⟩:=hM
 subst ep eu
 have hM:m.Rep m.p B m.used:=⟨rfl,hR,rfl⟩
 obtain⟨hs,hq,hl⟩:=zSc hr hkd
 have hbl:=hB.bl
 have hcl:=xK m.p
 unfold zJz
 dsimp only
 refine⟨⟨m.p,c.inst,c.price⟩,rfl,rfl,rfl,rfl,rfl,rfl,rfl,rfl,rfl,rfl,rfl,rfl,rfl,hB.ps,fun _ _=>Cv.cnd.mk (fun e=> ?_) (fun e=> ?_)⟩
 ·have e:m.p.price c.inst c.price≠0:=by simpa using e
  have hx:X=⟨B,m.used,gF c (m.p.price c.inst c.price)⟩:=by rw[hX,fJ,if_pos e]
  exact⟨⟨c,m.p.price c.inst c.price⟩,rfl,rfl,rfl,rfl,rfl,rfl,rfl,rfl,rfl,rfl,trivial,fun _ _=>⟨m,rfl,rfl,rfl,rfl,rfl,rfl,rfl,rfl,rfl,rfl,rfl,rfl,rfl,by rw[hx];rfl,by rw[hx];exact hM⟩⟩
 have hpz:m.p.price c.inst c.price=0:=by simpa using e
 have hin:=zGm hpz
 have hib:0≤c.inst∧c.inst<B.length:=by omega
 rw[fJ,if_neg (by rw[hpz];decide)]at hX
 refine⟨0,fun l=>l=c.lst,Cv.cnd.mk (fun e=>⟨c.qty,rfl,by rw[Cmd.lst,if_pos (by simpa using e)],by(repeat'(first|exact trivial|exact rfl|apply And.intro))⟩) (fun e=>⟨c.least,rfl,by rw[Cmd.lst,if_neg (by simpa using e)],by(repeat'(first|exact trivial|exact rfl|apply And.intro))⟩),?_⟩
 rintro _ rfl
 refine⟨nN _ _,_,_,zHe _ _,zP (fun e=> ?_) (fun e=> ?_)⟩
 ·have hx:X=⟨B,m.used,gF c 25⟩:=by rw[hX,if_pos e]
  exact⟨⟨c,25⟩,rfl,rfl,rfl,rfl,rfl,rfl,rfl,rfl,rfl,rfl,trivial,fun _ _=>⟨m,rfl,rfl,rfl,rfl,rfl,rfl,rfl,rfl,rfl,rfl,rfl,rfl,rfl,by rw[hx];rfl,by rw[hx];exact hM⟩⟩
 rw[if_neg e]at hX
 refine⟨⟨m.s,m.p,B,0,false⟩,rfl,⟨hR,by dsimp only;omega⟩,fun _ _=>zP (fun e=> ?_) (fun e=> ?_)⟩
 ·have hx:X=⟨B,m.used,gF c 13⟩:=by rw[hX,if_pos (by dsimp only at e;omega)]
  exact⟨⟨c,13⟩,rfl,rfl,rfl,rfl,rfl,rfl,rfl,rfl,rfl,rfl,trivial,fun _ _=>⟨m,rfl,rfl,rfl,rfl,rfl,rfl,rfl,rfl,rfl,rfl,rfl,rfl,rfl,by rw[hx];rfl,by rw[hx];exact hM⟩⟩
 rw[if_neg (by dsimp only at e;omega)]at hX
 have hok:RunI.ok ⟨m.s,m.p,B,c.inst,decide (c.side=2),c.price,c.qty⟩:=⟨hR,hB,hib,hq.1,hq.2⟩
 refine⟨true,fun b=>b=decide (0<c.lst∧c.qty-(qY m.p B c.inst (decide (c.side=2)) c.price c.qty).left<c.lst),zP (fun e=>⟨⟨m.s,m.p,B,c.inst,decide (c.side=2),c.price,c.qty⟩,rfl,wB hs,rfl,rfl,rfl,hok,fun _ _=>⟨_,rfl,decide_eq_decide.2 ⟨fun x=>⟨e,x⟩,fun x=>x.2⟩,by(repeat'(first|exact trivial|exact rfl|apply And.intro))⟩⟩) (fun e=>⟨false,rfl,(decide_eq_false fun x=>e x.1).symm,by(repeat'(first|exact trivial|exact rfl|apply And.intro))⟩),?_⟩
 rintro _ rfl
 refine zP (fun e=> ?_) (fun e=> ?_)
 ·have hx:X=⟨B,m.used,gF c 28⟩:=by rw[hX,if_pos e]
  exact⟨⟨c,28⟩,rfl,rfl,rfl,rfl,rfl,rfl,rfl,rfl,rfl,rfl,trivial,fun _ _=>⟨m,rfl,rfl,rfl,rfl,rfl,rfl,rfl,rfl,rfl,rfl,rfl,rfl,rfl,by rw[hx];rfl,by rw[hx];exact hM⟩⟩
 rw[if_neg e]at hX
 refine⟨true,fun b=>b=decide (c.time=1∧uS m.p B c.inst (decide (c.side=2)) c.price c.qty=true),Cv.cnd.mk (fun e=>⟨⟨m.s,m.p,B,c.inst,decide (c.side=2),c.price,c.qty⟩,rfl,wB hs,rfl,rfl,rfl,hok,fun _ _=>⟨_,rfl,?_,by(repeat'(first|exact trivial|exact rfl|apply And.intro))⟩⟩) (fun e=>⟨false,rfl,(decide_eq_false fun x=> ?_).symm,by(repeat'(first|exact trivial|exact rfl|apply And.intro))⟩),?_⟩
 ·have e:c.time=1:=by simpa using e
  dsimp only
  cases hb:uS m.p B c.inst (decide (c.side=2)) c.price c.qty with
  |true=>exact(decide_eq_true ⟨e,rfl⟩).symm
  |false=>exact(decide_eq_false fun x=>by cases x.2).symm
 ·rw[x.1]at e;cases e
 rintro _ rfl
 refine zP (fun e=> ?_) (fun e=> ?_)
 ·have hx:X=⟨B,m.used,gF c 23⟩:=by rw[hX,if_pos e]
  exact⟨⟨c,23⟩,rfl,rfl,rfl,rfl,rfl,rfl,rfl,rfl,rfl,rfl,trivial,fun _ _=>⟨m,rfl,rfl,rfl,rfl,rfl,rfl,rfl,rfl,rfl,rfl,rfl,rfl,rfl,by rw[hx];rfl,by rw[hx];exact hM⟩⟩
 rw[if_neg e]at hX
 exact⟨⟨m,m.p,B,m.used,c,X⟩,rfl,rfl,rfl,rfl,rfl,rfl,rfl,rfl,rfl,rfl,rfl,rfl,rfl,rfl,rfl,rfl,rfl,rfl,rfl,rfl,rfl,rfl,⟨⟨hM,hB⟩,⟨hib,hq,hs⟩,hpz,hX⟩,fun o ho=>⟨o,rfl,rfl,rfl,rfl,rfl,rfl,rfl,rfl,rfl,rfl,rfl,rfl,rfl,rfl,ho⟩⟩
theorem zVt:orderC.ok Tryz.prog 40:=z4s (gokc dJ (gokc zLn (gokc eX (gokc zQt (gokc zHw (gokc zGw gok0)))))) z8o
theorem zPr {p:Prd} {B:List (List zL)} (h:BWf p B) {id inst:Int} {o:zL} (hf:z5 B id=(inst,o,true)):(0≤inst∧inst<B.length)∧rN o:=by
 rw[z5]at hf
 split at hf
 ·cases hf
 ·rename_i k hk
  obtain⟨L,hL,hh⟩:=qP hk
  rw[zY hL]at hf
  cases hf
  have hlt:=(List.getElem?_eq_some_iff.1 hL).1
  obtain⟨o,ho,e⟩:=List.mem_map.1 (hasId_iff.1 hh)
  have hg:=fC (h.od k L hL).2.1 ho
  rw[e]at hg
  rw[hg]
  exact⟨by omega,(h.od k L hL).1 o ho⟩
theorem tW (p:Prd) (c:Cmd):∀(l:List kF) (left:Int),(∀t∈l,SOk t∧1≤t.qty)→(fG p c l left).length≤1503*l.length
 |[],_,_=>Nat.le_refl _
 |t::l,left,h=>by
  have a:=tW p c l (left-t.qty) fun u hu=>h u (List.mem_cons_of_mem _ hu)
  have b:=zCl p c t (left-t.qty)
  have d:=(h t List.mem_cons_self).1.2.2
  rw[fG,List.length_append,List.length_cons];omega
theorem zMc {p:Prd} {B:List (List zL)} (h:BWf p B) (U:List Int) {c:Cmd} (hi:0≤c.inst∧c.inst<B.length) (hq:1≤c.qty∧c.qty≤1000000):(wS p B U c).R.length≤1503000002:=by
 obtain⟨s1,s2⟩:=zCs (inst:=c.inst) (sd:=decide (c.side=2)) (price:=c.price) _ c.qty B (Nat.le_refl _) h hi
 have k3:=(gJ (inst:=c.inst) (sd:=decide (c.side=2)) (price:=c.price) _ c.qty B (Nat.le_refl _) h).2.2 (by omega)
 have:=zDe s1
 have:=tW p c _ c.qty s1
 rw[wW]
 dsimp only
 rw[List.length_append,List.length_cons]
 split
 ·rw[List.length_cons,List.length_nil];omega
 ·rw[List.length_nil];omega
theorem zXt (i:zTh) (h:replaceC.cnd i):eE i:=by
 obtain⟨m,p,B,U,c,inst,o,X⟩:=i
 have h':m.Rep p B U∧BOk p B∧z5 B c.id=(inst,o,true)∧(1≤c.qty∧c.qty≤1000000)∧X=vK p B U c inst o:=h
 clear h
 obtain⟨hM,hB,hf,hq,hX⟩:=h'
 obtain⟨ep,hR,eu⟩:=hM
 subst ep eu
 have hM:m.Rep m.p B m.used:=⟨rfl,hR,rfl⟩
 have hwf:=hR.wf hB
 obtain⟨hin,hoo⟩:=zPr hwf hf
 have hos:=hoo.s
 have hoq:=hoo.q
 have hbl:=hB.bl
 have hcl:=xK m.p
 unfold eE bZ
 dsimp only
 refine⟨⟨m.p,inst,c.price⟩,rfl,rfl,rfl,rfl,rfl,rfl,rfl,rfl,rfl,rfl,rfl,rfl,rfl,hB.ps,fun _ _=>Cv.cnd.mk (fun e=> ?_) (fun e=> ?_)⟩
 ·have e:m.p.price inst c.price≠0:=by simpa using e
  have hx:X=⟨B,m.used,gF c (m.p.price inst c.price)⟩:=by rw[hX,vK,if_pos e]
  exact⟨⟨c,m.p.price inst c.price⟩,rfl,rfl,rfl,rfl,rfl,rfl,rfl,rfl,rfl,rfl,trivial,fun _ _=>⟨m,rfl,rfl,rfl,rfl,rfl,rfl,rfl,rfl,rfl,rfl,rfl,rfl,rfl,by rw[hx];rfl,by rw[hx];exact hM⟩⟩
 have hpz:m.p.price inst c.price=0:=by simpa using e
 rw[vK,if_neg (by rw[hpz];decide)]at hX
 have hw:IntKind.i64.wrap (o.qty-c.qty)=o.qty-c.qty:=w64 (by omega)
 rw[hw]
 refine(fun hT=>Cv.cnd.mk (fun e1=>zP (fun e2=> ?_) (fun e2=>hT fun x=>e2 x.2)) (fun e1=>hT fun x=>by rw[x.1]at e1;simp at e1)) (fun(hn:¬(c.price=o.price∧c.qty≤o.qty))=> ?_)
 ·have e1:c.price=o.price:=by simpa using e1
  rw[if_pos ⟨e1,e2⟩]at hX
  exact⟨⟨m,m.p,B,m.used,c.id,o.qty-c.qty,inst,o,X⟩,rfl,rfl,rfl,rfl,rfl,rfl,rfl,rfl,rfl,rfl,rfl,rfl,rfl,rfl,rfl,rfl,rfl,rfl,rfl,rfl,rfl,⟨⟨hM,hB⟩,⟨by dsimp only;omega,by dsimp only;omega⟩,hX⟩,fun o' ho=>⟨o',rfl,rfl,rfl,rfl,rfl,rfl,rfl,rfl,rfl,rfl,rfl,rfl,rfl,rfl,ho⟩⟩
 rw[if_neg hn]at hX
 have hBt:=hB.take c.id o.qty
 refine⟨m.s,rfl,hR.small hB,fun _ _=>⟨⟨m.s,m.p,B,c.id,o.qty⟩,rfl,rfl,rfl,⟨hR,by dsimp only;omega⟩,fun o' ho'=>⟨⟨o',m.p,(xQ B c.id o.qty).1,inst,decide (o.side=2),c.price,c.qty⟩,rfl,wB hos,rfl,rfl,rfl,⟨ho',hBt,by dsimp only;rw[dG];exact hin,hq.1,hq.2⟩,fun _ _=>Cv.cnd.mk (fun e=> ?_) (fun e=> ?_)⟩⟩⟩
 ·have hx:X=⟨B,m.used,gF c 23⟩:=by rw[hX,if_pos e]
  exact⟨⟨c,23⟩,rfl,rfl,rfl,rfl,rfl,rfl,rfl,rfl,rfl,rfl,trivial,fun _ _=>⟨m,rfl,rfl,rfl,rfl,rfl,rfl,rfl,rfl,rfl,rfl,rfl,rfl,rfl,by rw[hx];rfl,by rw[hx];exact hM⟩⟩
 rw[if_neg (by rw[e];decide)]at hX
 refine⟨⟨m,m.p,B,m.used,c.id,0,inst,o,vY B m.used c.id inst o⟩,rfl,rfl,rfl,rfl,rfl,rfl,rfl,rfl,rfl,rfl,rfl,rfl,rfl,rfl,rfl,rfl,rfl,rfl,rfl,rfl,⟨⟨hM,hB⟩,rfl⟩,fun o1 ho1=>⟨⟨o1,m.p,(xQ B c.id o.qty).1,m.used,⟨1,c.id,inst,o.side,c.price,c.qty,0,1,[]⟩,wS m.p (xQ B c.id o.qty).1 m.used ⟨1,c.id,inst,o.side,c.price,c.qty,0,1,[]⟩⟩,rfl,rfl,rfl,rfl,rfl,rfl,rfl,rfl,rfl,rfl,rfl,rfl,rfl,rfl,rfl,rfl,rfl,rfl,rfl,rfl,rfl,rfl,⟨⟨ho1,hBt⟩,⟨by dsimp only;rw[dG];exact hin,hq,hos⟩,hpz,rfl⟩,fun o2 ho2=>⟨?_,o2,rfl,rfl,rfl,rfl,rfl,rfl,rfl,rfl,rfl,rfl,rfl,rfl,rfl,?_,?_⟩⟩⟩
 ·have:=zMc (hwf.take c.id o.qty) m.used (c:=⟨1,c.id,inst,o.side,c.price,c.qty,0,1,[]⟩) (by dsimp only;rw[dG];exact hin) hq
  dsimp only
  rw[List.length_map,List.length_map]
  have e1:(vY B m.used c.id inst o).R.length=1:=rfl
  omega
 ·rw[hX,← List.map_append];rfl
 ·rw[hX];exact ho2
theorem zMu:replaceC.ok Tryz.prog 42:=zSq (gokc dJ (gokc zLn (gokc tT (gokc mT (gokc zHw (gokc zAk (gokc zAg (gokc zGw gok0)))))))) zXt
theorem vdo (i:EnI) (h:doC.cnd i):Vdo i:=by
 obtain⟨m,p,B,U,c,X⟩:=i
 have h':(m.Rep p B U∧BOk p B)∧c.label.length≤140737488355328∧yN c.qty∧X=doF p B U c:=h
 clear h
 obtain⟨⟨hM,hB⟩,hlb,hqr,hX⟩:=h'
 obtain⟨ep,hR,eu⟩:=hM
 subst ep eu
 have hM:m.Rep m.p B m.used:=⟨rfl,hR,rfl⟩
 have hwf:=hR.wf hB
 have hbl:=hB.bl
 have hcl:=xK m.p
 unfold Vdo zXv
 dsimp only
 refine⟨c,rfl,rfl,rfl,rfl,rfl,rfl,rfl,rfl,rfl,hlb,fun _ _=>Cv.cnd.mk (fun e=> ?_) (fun e=> ?_)⟩
 ·have e:c.right≠0:=by simpa using e
  have hx:X=⟨B,m.used,gF c c.right⟩:=by rw[hX,doF,if_pos e]
  exact⟨⟨c,c.right⟩,rfl,rfl,rfl,rfl,rfl,rfl,rfl,rfl,rfl,rfl,trivial,fun _ _=>⟨m,rfl,rfl,rfl,rfl,rfl,rfl,rfl,rfl,rfl,rfl,rfl,rfl,rfl,by rw[hx];rfl,by rw[hx];exact hM⟩⟩
 have hr:c.right=0:=by simpa using e
 rw[doF,if_neg (by rw[hr];decide)]at hX
 refine Cv.cnd.mk (fun e=> ?_) (fun e=> ?_)
 ·have e:c.kind=1:=by simpa using e
  rw[if_pos e]at hX
  exact⟨⟨m,m.p,B,m.used,c,X⟩,rfl,rfl,rfl,rfl,rfl,rfl,rfl,rfl,rfl,rfl,rfl,rfl,rfl,rfl,rfl,rfl,rfl,rfl,rfl,rfl,rfl,rfl,⟨⟨hM,hB⟩,hr,e,hX⟩,fun o ho=>⟨o,rfl,rfl,rfl,rfl,rfl,rfl,rfl,rfl,rfl,rfl,rfl,rfl,rfl,rfl,ho⟩⟩
 have hk:¬c.kind=1:=by simpa using e
 rw[if_neg hk]at hX
 refine(fun hT=>⟨hT,rfl,trivial,hT⟩) ?_
 refine⟨⟨m.s,m.p,B,c.id,0⟩,rfl,rfl,⟨hR,by dsimp only;omega⟩,fun _ _=>Cv.cnd.mk (fun e=> ?_) (fun e=> ?_)⟩
 ·have e:(z5 B c.id).2.2=false:=by simpa using e
  have hx:X=⟨B,m.used,gF c 26⟩:=by rw[hX,if_pos e]
  exact⟨⟨c,26⟩,rfl,rfl,rfl,rfl,rfl,rfl,rfl,rfl,rfl,rfl,trivial,fun _ _=>⟨m,rfl,rfl,rfl,rfl,rfl,rfl,rfl,rfl,rfl,rfl,rfl,rfl,rfl,by rw[hx];rfl,by rw[hx];exact hM⟩⟩
 have e:(z5 B c.id).2.2=true:=by simpa using e
 rw[if_neg (by rw[e];decide)]at hX
 dsimp only
 have hf:z5 B c.id=((z5 B c.id).1,(z5 B c.id).2.1,true):=by rw[← e]
 generalize (z5 B c.id).1=inst at*
 generalize (z5 B c.id).2.1=o at*
 obtain⟨hin,hoo⟩:=zPr hwf hf
 have hoq:=hoo.q
 refine Cv.cnd.mk (fun e4=> ?_) (fun e4=>Cv.cnd.mk (fun e2=> ?_) (fun e2=>zP (fun e3=> ?_) (fun e3=> ?_)))
 ·have e4:c.kind=4:=by simpa using e4
  rw[if_pos e4]at hX
  exact⟨⟨m,m.p,B,m.used,c,inst,o,X⟩,rfl,rfl,rfl,rfl,rfl,rfl,rfl,rfl,rfl,rfl,rfl,rfl,rfl,rfl,rfl,rfl,rfl,rfl,rfl,rfl,rfl,rfl,rfl,rfl,rfl,rfl,rfl,rfl,⟨hM,hB,hf,zAe hr hk (by rw[e4];decide),hX⟩,fun o' ho=>⟨o',rfl,rfl,rfl,rfl,rfl,rfl,rfl,rfl,rfl,rfl,rfl,rfl,rfl,rfl,ho⟩⟩
 all_goals
  have e4:¬c.kind=4:=by simpa using e4
  rw[if_neg e4]at hX
 ·have e2:c.kind=2:=by simpa using e2
  rw[if_pos (.inl e2)]at hX
  exact⟨⟨m,m.p,B,m.used,c.id,0,inst,o,X⟩,rfl,rfl,rfl,rfl,rfl,rfl,rfl,rfl,rfl,rfl,rfl,rfl,rfl,rfl,rfl,rfl,rfl,rfl,rfl,rfl,⟨⟨hM,hB⟩,hX⟩,fun o' ho=>⟨o',rfl,rfl,rfl,rfl,rfl,rfl,rfl,rfl,rfl,rfl,rfl,rfl,rfl,rfl,ho⟩⟩
 ·rw[if_pos (.inr (by omega))]at hX
  exact⟨⟨m,m.p,B,m.used,c.id,0,inst,o,X⟩,rfl,rfl,rfl,rfl,rfl,rfl,rfl,rfl,rfl,rfl,rfl,rfl,rfl,rfl,rfl,rfl,rfl,rfl,rfl,rfl,⟨⟨hM,hB⟩,hX⟩,fun o' ho=>⟨o',rfl,rfl,rfl,rfl,rfl,rfl,rfl,rfl,rfl,rfl,rfl,rfl,rfl,rfl,ho⟩⟩
 ·have e2:¬c.kind=2:=by simpa using e2
  have hq:=zAe hr hk e2
  rw[if_neg (by omega)]at hX
  exact⟨⟨m,m.p,B,m.used,c.id,c.qty,inst,o,X⟩,rfl,rfl,rfl,rfl,rfl,rfl,rfl,rfl,rfl,rfl,rfl,rfl,rfl,rfl,rfl,rfl,rfl,rfl,rfl,rfl,rfl,⟨⟨hM,hB⟩,⟨by dsimp only;omega,by dsimp only;omega⟩,hX⟩,fun o' ho=>⟨o',rfl,rfl,rfl,rfl,rfl,rfl,rfl,rfl,rfl,rfl,rfl,rfl,rfl,rfl,ho⟩⟩
theorem do_ok:doC.ok Tryz.prog 13:=yEo (gokc zYn (gokc zLn (gokc zZh (gokc zVt (gokc zMu (gokc zAk (gokc zAg gok0))))))) vdo
open Go Cv Go.Proofs
def known17C:Con:=con1 Unit (fun _=>[]) (fun _=>[]) (fun _=>True) (fun _=>yL true) (fun _=>[])
def yDv (t:Nat):SAnn:={ι:=Prd,slots:=fun _=>[(t,.nm 0 0)],rows:=fun p=>[.cells [sV p.code,.own 1,zC p.tick,zC p.low,zC p.high,zC p.wide,zC p.rule,zC p.top,zC p.least,zC p.part,.own 2] 29,.fro 1 (iE p.months),.fro 1 (iE p.settle)]}
def yEu (t:Nat):SAnn:={ι:=Cmd,slots:=fun _=>[(t,.nm 0 0)],rows:=fun c=>[.cells c.cells 35]}
def yEf (t:Nat):SAnn:={ι:=Cmd,slots:=fun _=>[(t,.nm 0 0)],rows:=fun c=>[.cells c.cells 35],slots0:=fun _=>[(t,.nm 0 0)],rows0:=fun c=>[.cells c.cells 35]}
def bD (l:List Bool):List D:=l.map fun b=> .v (.bool b)
def bvT (t T:Nat):SAnn:={ι:=List Bool,slots:=fun _=>[(t,.nm 0 0)],rows:=fun l=>[.vec (bD l) T],slots0:=fun _=>[(t,.nm 0 0)],rows0:=fun l=>[.vec (bD l) T]}
def AbI.p (i:AbI):Prd:=yA i.x
def AbI.n (i:AbI) (m:Nat):Nat:=min i.l.length m
@[reducible] def AbI.raw (i:AbI):Prop:=i.x.raw∧(∀c∈i.l,c.raw)∧i.l.length≤9223372036854775807
def vI (U:List Int):List Bool:=(List.range 40).map fun(k:Nat)=>decide ((k:Int)∈U)
def muC:Con:=con1 AbI (fun i=>[prdV i.x,roV 9 (i.l.map cmdE)]) (fun _=>[]) (fun i=>i.raw) (fun _=>yL true) (fun _=>[])
def muA:List SAnn:=[
 {ι:=Nat×Mkt×List Bool,slots:=fun j=>[(6,.nm 0 0),(8,.nm 1 0),(9,zC j.1)],rows:=fun j=>[zJb j.2.1,.vec (bD j.2.2) 71]},
 {ι:=Nat,slots:=fun j=>[(12,zC j)],rows:=fun _=>[]}]
def muJ:List (Nat×SAnn):=[(4,yDv 5),(28,bj 33),(36,yEu 10),(40,yEf 10),(48,bj 73),(56,bj 83),(58,bvT 8 71)]
open Go Cv Go.Proofs
def rM (u:Unit):Prop:=
 ∃(i:Int),i=1∧True∧∀(o:Unit),True→∃(i_1:Prd),sb i_1.code=sb [(67:UInt8),(76:UInt8)]∧iE i_1.months=iE [(320:Int),(321:Int),(323:Int)]∧i_1.tick=5∧i_1.low=0∧i_1.high=1000∧i_1.wide=200∧i_1.rule=i∧i_1.top=4∧i_1.least=2∧i_1.part=40∧iE i_1.settle=iE [(500:Int),(505:Int),(490:Int)]∧(i_1.code.length≤1099511627776∧i_1.months.length≤1099511627776∧i_1.settle.length≤1099511627776)∧(∀(o:Unit),i_1.check=0→∃(i:EnI),i.c.kind=1∧i.c.id=1∧i.c.inst=0∧i.c.side=2∧i.c.price=10∧i.c.qty=5∧i.c.least=0∧i.c.time=1∧sb i.c.label=ByteArray.mk #[]∧AObj.adt Mkt 5 zW i.m=AObj.adt Mkt 5 zW (Mkt.mk i_1 (wX i_1) [])∧((i.m.Rep i.p i.B i.U∧BOk i.p i.B)∧i.c.label.length≤140737488355328∧((-9223372036854775808)≤i.c.qty∧i.c.qty≤9223372036854775807)∧i.X=doF i.p i.B i.U i.c)∧∀(o:Mkt),o.Rep i.p i.X.B i.X.U→∃(i_2:EnI),i_2.c.kind=1∧i_2.c.id=2∧i_2.c.inst=0∧i_2.c.side=1∧i_2.c.price=15∧i_2.c.qty=3∧i_2.c.least=0∧i_2.c.time=1∧sb i_2.c.label=ByteArray.mk #[]∧AObj.adt Mkt 5 zW i_2.m=AObj.adt Mkt 5 zW o∧((i_2.m.Rep i_2.p i_2.B i_2.U∧BOk i_2.p i_2.B)∧i_2.c.label.length≤140737488355328∧((-9223372036854775808)≤i_2.c.qty∧i_2.c.qty≤9223372036854775807)∧i_2.X=doF i_2.p i_2.B i_2.U i_2.c)∧∀(o:Mkt),o.Rep i_2.p i_2.X.B i_2.X.U→cnd ((↑(List.map yI i.X.R).length:Int)==1) (((0:Int)≤(0:Int)∧0<(↑(List.map yI i.X.R).length:Int))∧∃(n:Int),zI (List.map yI i.X.R) (Int.toNat 0) ((0:Nat)+(0:Nat)) 1=some [D.v (.int .i64 n)]∧cnd (n==1) (cnd ((↑(List.map yI i_2.X.R).length:Int)==3) (((0:Int)≤(1:Int)∧1<(↑(List.map yI i_2.X.R).length:Int))∧∃(n:Int),∃(n_1:Int),∃(n_2:Int),∃(n_3:Int),∃(n_4:Int),∃(n_5:Int),∃(n_6:Int),∃(n_7:Int),zI (List.map yI i_2.X.R) (Int.toNat 1) 0 8=some [D.v (.int .i64 n),D.v (.int .i64 n_1),D.v (.int .i64 n_2),D.v (.int .i64 n_3),D.v (.int .i64 n_4),D.v (.int .i64 n_5),D.v (.int .i64 n_6),D.v (.int .i64 n_7)]∧cnd (n==3 && (n_1==1 && (n_2==0 && (n_3==2 && (n_4==10 && (n_5==3 && (n_6==2 && (n_7==0 && true)))))))) (((0:Int)≤(2:Int)∧2<(↑(List.map yI i_2.X.R).length:Int))∧∃(n:Int),∃(n_8:Int),∃(n_9:Int),∃(n_10:Int),∃(n_11:Int),∃(n_12:Int),∃(n_13:Int),∃(n_14:Int),zI (List.map yI i_2.X.R) (Int.toNat 2) 0 8=some [D.v (.int .i64 n),D.v (.int .i64 n_8),D.v (.int .i64 n_9),D.v (.int .i64 n_10),D.v (.int .i64 n_11),D.v (.int .i64 n_12),D.v (.int .i64 n_13),D.v (.int .i64 n_14)]∧cnd (n==3 && (n_8==2 && (n_9==0 && (n_10==1 && (n_11==10 && (n_12==3 && (n_13==0 && (n_14==0 && true)))))))) (∃(i:MfI),AObj.adt Mkt 5 zW i.m=AObj.adt Mkt 5 zW o∧(i.m.Rep i.p i.B i.U∧BOk i.p i.B)∧∀(o:Unit),True→∃(o:Unit),true=((↑(lM i.B):Int)==1)∧True) (∃(o:Unit),true=false∧True)) (∃(o:Unit),true=false∧True)) (∃(o:Unit),true=false∧True)) (∃(o:Unit),true=false∧True)) (∃(o:Unit),true=false∧True))∧∀(o:Unit),i_1.check≠0→∃(o:Unit),true=false∧True
theorem zRs (hG:GOk Tryz.prog ([(11,threeC),(10,newMC),(13,doC),(19,mcountC)])) (h:∀(u:Unit),known17C.cnd u→rM u):known17C.ok Tryz.prog 15:=okw mixed hG 0 (fun _=>[]) (fun _=>[]) [] Tryz.func15 h
@[reducible] def qQ (i:AbI):AObj:=Sx.AObj.cells [V.d (D.v (Value.string (sb i.x.code))),V.own (0:Nat),V.d (D.v (.int .i64 i.x.tick)),V.d (D.v (.int .i64 i.x.low)),V.d (D.v (.int .i64 i.x.high)),V.d (D.v (.int .i64 i.x.wide)),V.d (D.v (.int .i64 i.x.rule)),V.d (D.v (.int .i64 i.x.top)),V.d (D.v (.int .i64 i.x.least)),V.d (D.v (.int .i64 i.x.part)),V.own ((0:Nat)+(1:Nat))] (29:Nat)
@[reducible] def kC (i_1:Prd):AObj:=Sx.AObj.cells (uC (eR ((0:Nat)+(1:Nat)+(1:Nat)+(1:Nat)) (qK [] (0:Nat) []) (3:Nat)) [sV i_1.code,V.own (1:Nat),zC i_1.tick,zC i_1.low,zC i_1.high,zC i_1.wide,zC i_1.rule,zC i_1.top,zC i_1.least,zC i_1.part,V.own (2:Nat)]) (29:TypeId)
@[reducible] def vR (i0:Cmd) (i_6:Cmd):AObj:=Sx.AObj.cells (uC (eR ((0:Nat)+(1:Nat)+(1:Nat)+(1:Nat)+(3:Nat)+((1:Nat)-(0:Nat))+(1:Nat)+(2:Nat)+(0:Nat)+(1:Nat)) (qK [((0:Nat),none.getD ((0:Nat)+(1:Nat)+(1:Nat)+(1:Nat)+(3:Nat)+((1:Nat)-(0:Nat))+(1:Nat)+(2:Nat)+(0:Nat)+nat_lit 0))] (0:Nat) [Sx.AObj.cells i0.cells (35:TypeId)]) (1:Nat)) i_6.cells) (35:TypeId)
@[reducible] def zYb (i:AbI) (i_1:Prd) (o:Unit) (i_3:Nat×Mkt×List Bool) (I_2:Cmd→Prop) (n:Int) (n_1:Int) (n_2:Int) (n_3:Int) (n_4:Int) (n_5:Int) (n_6:Int) (n_7:Int) (s:ByteArray):Prop:=∃(i_5:TmI),sb i_5.p.code=sb i_1.code∧iE i_5.p.months=iE i_1.months∧i_5.p.tick=i_1.tick∧i_5.p.low=i_1.low∧i_5.p.high=i_1.high∧i_5.p.wide=i_1.wide∧i_5.p.rule=i_1.rule∧i_5.p.top=i_1.top∧i_5.p.least=i_1.least∧i_5.p.part=i_1.part∧iE i_5.p.settle=iE i_1.settle∧i_5.c.kind=n∧i_5.c.id=n_1∧i_5.c.inst=n_2∧i_5.c.side=n_3∧i_5.c.price=n_4∧i_5.c.qty=n_5∧i_5.c.least=n_6∧i_5.c.time=n_7∧sb i_5.c.label=s∧i_5.i=(↑i_3.fst:Int)∧(i_5.p.check=0∧(i_5.p.code.length≤1099511627776∧i_5.p.months.length≤1099511627776∧i_5.p.settle.length≤1099511627776)∧(((-9223372036854775808)≤i_5.c.kind∧i_5.c.kind≤9223372036854775807)∧((-9223372036854775808)≤i_5.c.id∧i_5.c.id≤9223372036854775807)∧((-9223372036854775808)≤i_5.c.inst∧i_5.c.inst≤9223372036854775807)∧((-9223372036854775808)≤i_5.c.side∧i_5.c.side≤9223372036854775807)∧((-9223372036854775808)≤i_5.c.price∧i_5.c.price≤9223372036854775807)∧((-9223372036854775808)≤i_5.c.qty∧i_5.c.qty≤9223372036854775807)∧((-9223372036854775808)≤i_5.c.least∧i_5.c.least≤9223372036854775807)∧(-9223372036854775808)≤i_5.c.time∧i_5.c.time≤9223372036854775807)∧0≤i_5.i∧i_5.i≤1000000)∧∀(o:Unit),True→∃(i':Cmd),i'.kind=(yZ i_5).kind∧i'.id=(yZ i_5).id∧i'.inst=(yZ i_5).inst∧i'.side=(yZ i_5).side∧i'.price=(yZ i_5).price∧i'.qty=(yZ i_5).qty∧i'.least=(yZ i_5).least∧i'.time=(yZ i_5).time∧sb i'.label=sb (yZ i_5).label∧I_2 i'∧AObj.adt Mkt 5 zW i_3.snd.fst=AObj.adt Mkt 5 zW i_3.snd.fst∧AObj.vec (bD i_3.snd.snd) (71:TypeId)=AObj.vec (bD i_3.snd.snd) (71:TypeId)∧kC i_1=kC i_1∧AObj.fro 1 (iE i_1.months)=AObj.fro 1 (iE i_1.months)∧AObj.fro 1 (iE i_1.settle)=AObj.fro 1 (iE i_1.settle)∧qQ i=qQ i∧AObj.fro 1 (iE i.x.settle)=AObj.fro 1 (iE i.x.settle)∧AObj.fro 1 (iE i.x.months)=AObj.fro 1 (iE i.x.months)
def Vmu (i:AbI):Prop:=
 ∃(i0:Prd),∃(I:Prd→Prop),(∃(i_1:Prd),sb i_1.code=sb i.x.code∧iE i_1.months=iE i.x.months∧i_1.tick=i.x.tick∧i_1.low=i.x.low∧i_1.high=i.x.high∧i_1.wide=i.x.wide∧i_1.rule=i.x.rule∧i_1.top=i.x.top∧i_1.least=i.x.least∧i_1.part=i.x.part∧iE i_1.settle=iE i.x.settle∧(((-9223372036854775808)≤i_1.tick∧i_1.tick≤9223372036854775807)∧((-9223372036854775808)≤i_1.wide∧i_1.wide≤9223372036854775807)∧((-9223372036854775808)≤i_1.rule∧i_1.rule≤9223372036854775807)∧((-9223372036854775808)≤i_1.top∧i_1.top≤9223372036854775807)∧((-9223372036854775808)≤i_1.least∧i_1.least≤9223372036854775807)∧((-9223372036854775808)≤i_1.part∧i_1.part≤9223372036854775807)∧i_1.months.length≤9223372036854775807)∧∀(o:Unit),True→∃(i':Prd),sb i'.code=sb [(206:UInt8),(169:UInt8)]∧i'.tick=zV i_1∧i'.low=(-20)*zV i_1∧i'.high=100*zV i_1∧i'.wide=zV i_1*(5+zF i_1.wide 0 60)∧i'.rule=1+zF i_1.rule 0 2∧i'.top=zF i_1.top 0 9∧i'.least=1+zF i_1.least 0 4∧i'.part=zF i_1.part 0 100∧AObj.fro 1 (iE i'.months)=AObj.fro 1 (iE (xU (kN i_1).toNat))∧AObj.fro 1 (iE i'.settle)=AObj.fro 1 (iE (xB (zV i_1) (kN i_1).toNat))∧I i'∧qQ i=qQ i∧AObj.fro 1 (iE i.x.settle)=AObj.fro 1 (iE i.x.settle)∧AObj.fro 1 (iE i.x.months)=AObj.fro 1 (iE i.x.months))∧∀(i_1:Prd),I i_1→∃(i_2:Prd),sb i_2.code=sb i_1.code∧iE i_2.months=iE i_1.months∧i_2.tick=i_1.tick∧i_2.low=i_1.low∧i_2.high=i_1.high∧i_2.wide=i_1.wide∧i_2.rule=i_1.rule∧i_2.top=i_1.top∧i_2.least=i_1.least∧i_2.part=i_1.part∧iE i_2.settle=iE i_1.settle∧(i_2.code.length≤1099511627776∧i_2.months.length≤1099511627776∧i_2.settle.length≤1099511627776)∧(∀(o:Unit),i_2.check=0→∃(i0:Nat×Mkt×List Bool),(↑i0.fst:Int)=0∧AObj.adt Mkt 5 zW i0.snd.fst=AObj.adt Mkt 5 zW (Mkt.mk i_2 (wX i_2) [])∧List.map V.d (bD i0.snd.snd)=(Sx.V.agg [V.d (D.v (.bool false)),V.d (D.v (.bool false)),V.d (D.v (.bool false)),V.d (D.v (.bool false)),V.d (D.v (.bool false)),V.d (D.v (.bool false)),V.d (D.v (.bool false)),V.d (D.v (.bool false)),V.d (D.v (.bool false)),V.d (D.v (.bool false)),V.d (D.v (.bool false)),V.d (D.v (.bool false)),V.d (D.v (.bool false)),V.d (D.v (.bool false)),V.d (D.v (.bool false)),V.d (D.v (.bool false)),V.d (D.v (.bool false)),V.d (D.v (.bool false)),V.d (D.v (.bool false)),V.d (D.v (.bool false)),V.d (D.v (.bool false)),V.d (D.v (.bool false)),V.d (D.v (.bool false)),V.d (D.v (.bool false)),V.d (D.v (.bool false)),V.d (D.v (.bool false)),V.d (D.v (.bool false)),V.d (D.v (.bool false)),V.d (D.v (.bool false)),V.d (D.v (.bool false)),V.d (D.v (.bool false)),V.d (D.v (.bool false)),V.d (D.v (.bool false)),V.d (D.v (.bool false)),V.d (D.v (.bool false)),V.d (D.v (.bool false)),V.d (D.v (.bool false)),V.d (D.v (.bool false)),V.d (D.v (.bool false)),V.d (D.v (.bool false))]).cl∧∃(I:Nat×Mkt×List Bool→Prop),∃(μ:Nat×Mkt×List Bool→Nat),I i0∧∀(i_3:Nat×Mkt×List Bool),I i_3→∃(i0:Bool),∃(I_1:Bool→Prop),cnd (decide ((↑i_3.fst:Int)<(↑(List.map cmdE i.l).length:Int))) (∃(i':Bool),i'=decide ((↑i_3.fst:Int)<60)∧I_1 i'∧AObj.adt Mkt 5 zW i_3.snd.fst=AObj.adt Mkt 5 zW i_3.snd.fst∧AObj.vec (bD i_3.snd.snd) (71:TypeId)=AObj.vec (bD i_3.snd.snd) (71:TypeId)∧kC i_1=kC i_1∧AObj.fro 1 (iE i_1.months)=AObj.fro 1 (iE i_1.months)∧AObj.fro 1 (iE i_1.settle)=AObj.fro 1 (iE i_1.settle)∧qQ i=qQ i∧AObj.fro 1 (iE i.x.settle)=AObj.fro 1 (iE i.x.settle)∧AObj.fro 1 (iE i.x.months)=AObj.fro 1 (iE i.x.months)) (∃(i':Bool),i'=false∧I_1 i'∧AObj.adt Mkt 5 zW i_3.snd.fst=AObj.adt Mkt 5 zW i_3.snd.fst∧AObj.vec (bD i_3.snd.snd) (71:TypeId)=AObj.vec (bD i_3.snd.snd) (71:TypeId)∧kC i_1=kC i_1∧AObj.fro 1 (iE i_1.months)=AObj.fro 1 (iE i_1.months)∧AObj.fro 1 (iE i_1.settle)=AObj.fro 1 (iE i_1.settle)∧qQ i=qQ i∧AObj.fro 1 (iE i.x.settle)=AObj.fro 1 (iE i.x.settle)∧AObj.fro 1 (iE i.x.months)=AObj.fro 1 (iE i.x.months))∧∀(i_4:Bool),I_1 i_4→cnd i_4 (∃(i0:Cmd),∃(I_2:Cmd→Prop),((0≤(↑i_3.fst:Int)∧(↑i_3.fst:Int)<(↑(List.map cmdE i.l).length:Int))∧∃(n:Int),∃(n_1:Int),∃(n_2:Int),∃(n_3:Int),∃(n_4:Int),∃(n_5:Int),∃(n_6:Int),∃(n_7:Int),∃(s:ByteArray),zI (List.map cmdE i.l) (↑i_3.fst:Int).toNat 0 9=some [D.v (.int .i64 n),D.v (.int .i64 n_1),D.v (.int .i64 n_2),D.v (.int .i64 n_3),D.v (.int .i64 n_4),D.v (.int .i64 n_5),D.v (.int .i64 n_6),D.v (.int .i64 n_7),D.v (Value.string s)]∧(zYb i i_1 o i_3 I_2 n n_1 n_2 n_3 n_4 n_5 n_6 n_7 s)∧True∧(sb i_1.code=sb i_1.code∧True∧i_1.tick=i_1.tick∧i_1.low=i_1.low∧i_1.high=i_1.high∧i_1.wide=i_1.wide∧i_1.rule=i_1.rule∧i_1.top=i_1.top∧i_1.least=i_1.least∧i_1.part=i_1.part∧True∧True)∧zYb i i_1 o i_3 I_2 n n_1 n_2 n_3 n_4 n_5 n_6 n_7 s)∧∀(i_5:Cmd),I_2 i_5→∃(i0:Cmd),i0.kind=i_5.kind∧i0.id=i_5.id∧i0.inst=i_5.inst∧i0.side=i_5.side∧i0.price=i_5.price∧i0.qty=i_5.qty∧i0.least=i_5.least∧i0.time=i_5.time∧sb i0.label=sb i_5.label∧∃(I_3:Cmd→Prop),((0≤(↑i_3.fst:Int)∧(↑i_3.fst:Int)<(↑(List.map cmdE i.l).length:Int))∧∃(n:Int),zI (List.map cmdE i.l) (↑i_3.fst:Int).toNat ((0:Nat)+(1:Nat)) 1=some [D.v (.int .i64 n)]∧∃(i_6:WiI),i_6.n=n∧i_6.lo=0∧i_6.hi=29∧(((-9223372036854775808)≤i_6.n∧i_6.n≤9223372036854775807)∧(-1000000)≤i_6.lo∧i_6.lo≤i_6.hi∧i_6.hi≤1000000)∧∀(o:Unit),True→∃(i':Cmd),i'.kind=i0.kind∧i'.id=IntKind.i64.wrap (zF i_6.n i_6.lo i_6.hi+1)∧i'.inst=i0.inst∧i'.side=i0.side∧i'.price=i0.price∧i'.qty=i0.qty∧i'.least=i0.least∧i'.time=i0.time∧sb i'.label=sb i0.label∧I_3 i'∧AObj.adt Mkt 5 zW i_3.snd.fst=AObj.adt Mkt 5 zW i_3.snd.fst∧AObj.vec (bD i_3.snd.snd) (71:TypeId)=AObj.vec (bD i_3.snd.snd) (71:TypeId)∧kC i_1=kC i_1∧AObj.fro 1 (iE i_1.months)=AObj.fro 1 (iE i_1.months)∧AObj.fro 1 (iE i_1.settle)=AObj.fro 1 (iE i_1.settle)∧qQ i=qQ i∧AObj.fro 1 (iE i.x.settle)=AObj.fro 1 (iE i.x.settle)∧AObj.fro 1 (iE i.x.months)=AObj.fro 1 (iE i.x.months))∧∀(i_6:Cmd),I_3 i_6→∃(i_7:EnI),i_7.c.kind=i_6.kind∧i_7.c.id=i_6.id∧i_7.c.inst=i_6.inst∧i_7.c.side=i_6.side∧i_7.c.price=i_6.price∧i_7.c.qty=i_6.qty∧i_7.c.least=i_6.least∧i_7.c.time=i_6.time∧sb i_7.c.label=sb i_6.label∧AObj.adt Mkt 5 zW i_7.m=AObj.adt Mkt 5 zW i_3.snd.fst∧((i_7.m.Rep i_7.p i_7.B i_7.U∧BOk i_7.p i_7.B)∧i_7.c.label.length≤140737488355328∧((-9223372036854775808)≤i_7.c.qty∧i_7.c.qty≤9223372036854775807)∧i_7.X=doF i_7.p i_7.B i_7.U i_7.c)∧∀(o:Mkt),o.Rep i_7.p i_7.X.B i_7.X.U→∃(i0_1:Bool),∃(I_4:Bool→Prop),cnd ((↑(List.map yI i_7.X.R).length:Int)==0) (∃(i':Bool),i'=true∧I_4 i'∧AObj.adt Mkt 5 zW o=AObj.adt Mkt 5 zW o∧AObj.own tRp 8 (List.map yI i_7.X.R)=AObj.own tRp 8 (List.map yI i_7.X.R)∧vR i0 i_6=vR i0 i_6∧AObj.vec (bD i_3.snd.snd) (71:TypeId)=AObj.vec (bD i_3.snd.snd) (71:TypeId)∧kC i_1=kC i_1∧AObj.fro 1 (iE i_1.months)=AObj.fro 1 (iE i_1.months)∧AObj.fro 1 (iE i_1.settle)=AObj.fro 1 (iE i_1.settle)∧qQ i=qQ i∧AObj.fro 1 (iE i.x.settle)=AObj.fro 1 (iE i.x.settle)∧AObj.fro 1 (iE i.x.months)=AObj.fro 1 (iE i.x.months)) (cnd (i_6.kind==1) ((0≤i_6.id∧i_6.id<(↑(40:Nat):Int))∧∃(b:Bool),(List.drop 0 (bD i_3.snd.snd))[i_6.id.toNat]?=some (D.v (.bool b))∧((0:Int)≤(0:Int)∧0<(↑(List.map yI i_7.X.R).length:Int))∧∃(n:Int),zI (List.map yI i_7.X.R) (Int.toNat 0) ((0:Nat)+(7:Nat)) 1=some [D.v (.int .i64 n)]∧∃(i':Bool),i'=!b==(n==25)∧I_4 i'∧AObj.adt Mkt 5 zW o=AObj.adt Mkt 5 zW o∧AObj.own tRp 8 (List.map yI i_7.X.R)=AObj.own tRp 8 (List.map yI i_7.X.R)∧vR i0 i_6=vR i0 i_6∧AObj.vec (bD i_3.snd.snd) (71:TypeId)=AObj.vec (bD i_3.snd.snd) (71:TypeId)∧kC i_1=kC i_1∧AObj.fro 1 (iE i_1.months)=AObj.fro 1 (iE i_1.months)∧AObj.fro 1 (iE i_1.settle)=AObj.fro 1 (iE i_1.settle)∧qQ i=qQ i∧AObj.fro 1 (iE i.x.settle)=AObj.fro 1 (iE i.x.settle)∧AObj.fro 1 (iE i.x.months)=AObj.fro 1 (iE i.x.months)) (∃(i':Bool),i'=false∧I_4 i'∧AObj.adt Mkt 5 zW o=AObj.adt Mkt 5 zW o∧AObj.own tRp 8 (List.map yI i_7.X.R)=AObj.own tRp 8 (List.map yI i_7.X.R)∧vR i0 i_6=vR i0 i_6∧AObj.vec (bD i_3.snd.snd) (71:TypeId)=AObj.vec (bD i_3.snd.snd) (71:TypeId)∧kC i_1=kC i_1∧AObj.fro 1 (iE i_1.months)=AObj.fro 1 (iE i_1.months)∧AObj.fro 1 (iE i_1.settle)=AObj.fro 1 (iE i_1.settle)∧qQ i=qQ i∧AObj.fro 1 (iE i.x.settle)=AObj.fro 1 (iE i.x.settle)∧AObj.fro 1 (iE i.x.months)=AObj.fro 1 (iE i.x.months)))∧∀(i_8:Bool),I_4 i_8→cnd i_8 (∃(o:Unit),true=false∧True) (∃(i0_2:List Bool),AObj.vec (bD i0_2) 71=AObj.vec (bD i_3.snd.snd) (71:TypeId)∧∃(I_5:List Bool→Prop),(∃(i0_3:Bool),∃(I:Bool→Prop),cnd (i_6.kind==1) (((0:Int)≤(0:Int)∧0<(↑(List.map yI i_7.X.R).length:Int))∧∃(n:Int),zI (List.map yI i_7.X.R) (Int.toNat 0) ((0:Nat)+(0:Nat)) 1=some [D.v (.int .i64 n)]∧∃(i':Bool),i'=(n==1)∧I i'∧AObj.vec (bD i0_2) 71=AObj.vec (bD i0_2) 71∧AObj.adt Mkt 5 zW o=AObj.adt Mkt 5 zW o∧AObj.own tRp 8 (List.map yI i_7.X.R)=AObj.own tRp 8 (List.map yI i_7.X.R)∧vR i0 i_6=vR i0 i_6∧kC i_1=kC i_1∧AObj.fro 1 (iE i_1.months)=AObj.fro 1 (iE i_1.months)∧AObj.fro 1 (iE i_1.settle)=AObj.fro 1 (iE i_1.settle)∧qQ i=qQ i∧AObj.fro 1 (iE i.x.settle)=AObj.fro 1 (iE i.x.settle)∧AObj.fro 1 (iE i.x.months)=AObj.fro 1 (iE i.x.months)) (∃(i':Bool),i'=false∧I i'∧AObj.vec (bD i0_2) 71=AObj.vec (bD i0_2) 71∧AObj.adt Mkt 5 zW o=AObj.adt Mkt 5 zW o∧AObj.own tRp 8 (List.map yI i_7.X.R)=AObj.own tRp 8 (List.map yI i_7.X.R)∧vR i0 i_6=vR i0 i_6∧kC i_1=kC i_1∧AObj.fro 1 (iE i_1.months)=AObj.fro 1 (iE i_1.months)∧AObj.fro 1 (iE i_1.settle)=AObj.fro 1 (iE i_1.settle)∧qQ i=qQ i∧AObj.fro 1 (iE i.x.settle)=AObj.fro 1 (iE i.x.settle)∧AObj.fro 1 (iE i.x.months)=AObj.fro 1 (iE i.x.months))∧∀(i_9:Bool),I i_9→cnd i_9 ((0≤i_6.id∧i_6.id<(↑(40:Nat):Int))∧i_6.id.toNat<(List.drop 0 (bD i0_2)).length∧∃(i':List Bool),AObj.vec (bD i') 71=AObj.vec ([]++(List.drop 0 (bD i0_2)).set i_6.id.toNat (D.v (.bool true))) 71∧I_5 i'∧AObj.adt Mkt 5 zW o=AObj.adt Mkt 5 zW o∧AObj.own tRp 8 (List.map yI i_7.X.R)=AObj.own tRp 8 (List.map yI i_7.X.R)∧vR i0 i_6=vR i0 i_6∧kC i_1=kC i_1∧AObj.fro 1 (iE i_1.months)=AObj.fro 1 (iE i_1.months)∧AObj.fro 1 (iE i_1.settle)=AObj.fro 1 (iE i_1.settle)∧qQ i=qQ i∧AObj.fro 1 (iE i.x.settle)=AObj.fro 1 (iE i.x.settle)∧AObj.fro 1 (iE i.x.months)=AObj.fro 1 (iE i.x.months)) (∃(i':List Bool),AObj.vec (bD i') 71=AObj.vec (bD i0_2) 71∧I_5 i'∧AObj.adt Mkt 5 zW o=AObj.adt Mkt 5 zW o∧AObj.own tRp 8 (List.map yI i_7.X.R)=AObj.own tRp 8 (List.map yI i_7.X.R)∧vR i0 i_6=vR i0 i_6∧kC i_1=kC i_1∧AObj.fro 1 (iE i_1.months)=AObj.fro 1 (iE i_1.months)∧AObj.fro 1 (iE i_1.settle)=AObj.fro 1 (iE i_1.settle)∧qQ i=qQ i∧AObj.fro 1 (iE i.x.settle)=AObj.fro 1 (iE i.x.settle)∧AObj.fro 1 (iE i.x.months)=AObj.fro 1 (iE i.x.months)))∧∀(i_9:List Bool),I_5 i_9→∃(i0_3:Nat),(↑i0_3:Int)=1∧∃(I_6:Nat→Prop),∃(μ_1:Nat→Nat),I_6 i0_3∧∀(i_10:Nat),I_6 i_10→cnd (decide ((↑i_10:Int)<40)) ((0≤(↑i_10:Int)∧(↑i_10:Int)<(↑(40:Nat):Int))∧∃(b:Bool),(List.drop 0 (bD i_9))[(↑i_10:Int).toNat]?=some (D.v (.bool b))∧∃(i_11:MfI),i_11.id=(↑i_10:Int)∧AObj.adt Mkt 5 zW i_11.m=AObj.adt Mkt 5 zW o∧i_11.m.Rep i_11.p i_11.B i_11.U∧∀(o_1:Unit),True→(∃(b_1:Bool),(List.drop 0 (bD i_9))[(↑i_10:Int).toNat]?=some (D.v (.bool b_1))∧b_1=b)∧cnd (!decide (i_11.id∈i_11.U)==b) (∃(o:Unit),true=false∧True) (∃(i':Nat),(↑i':Int)=IntKind.i64.wrap ((↑i_10:Int)+1)∧I_6 i'∧μ_1 i'<μ_1 i_10∧AObj.vec (bD i_9) 71=AObj.vec (bD i_9) 71∧AObj.adt Mkt 5 zW i_11.m=AObj.adt Mkt 5 zW o∧AObj.own tRp 8 (List.map yI i_7.X.R)=AObj.own tRp 8 (List.map yI i_7.X.R)∧vR i0 i_6=vR i0 i_6∧kC i_1=kC i_1∧AObj.fro 1 (iE i_1.months)=AObj.fro 1 (iE i_1.months)∧AObj.fro 1 (iE i_1.settle)=AObj.fro 1 (iE i_1.settle)∧qQ i=qQ i∧AObj.fro 1 (iE i.x.settle)=AObj.fro 1 (iE i.x.settle)∧AObj.fro 1 (iE i.x.months)=AObj.fro 1 (iE i.x.months))) (∃(i':Nat×Mkt×List Bool),(↑i'.fst:Int)=IntKind.i64.wrap ((↑i_3.fst:Int)+1)∧AObj.adt Mkt 5 zW i'.snd.fst=AObj.adt Mkt 5 zW o∧AObj.vec (bD i'.snd.snd) (71:TypeId)=AObj.vec (bD i_9) 71∧I i'∧μ i'<μ i_3∧kC i_1=kC i_1∧AObj.fro 1 (iE i_1.months)=AObj.fro 1 (iE i_1.months)∧AObj.fro 1 (iE i_1.settle)=AObj.fro 1 (iE i_1.settle)∧qQ i=qQ i∧AObj.fro 1 (iE i.x.settle)=AObj.fro 1 (iE i.x.settle)∧AObj.fro 1 (iE i.x.months)=AObj.fro 1 (iE i.x.months)))) (∃(i:Unit),True∧∀(o:Unit),True→∃(o:Unit),true=true∧True))∧∀(o:Unit),i_2.check≠0→∃(o:Unit),true=false∧True
theorem eqmu (i:AbI):Vmu i=walk Tryz.prog ([(20,kprodC),(10,newMC),(21,tameC),(12,withinC),(13,doC),(27,musedC),(15,known17C)]) 0 (muJ) (muA) [] Tryz.f6 (Tryz.f6.body.getD .skip) (muC.pat i) (muC.pre i) (muC.alts i):=by kernel_rfl
open Go Cv Go.Proofs
theorem zBu {p:Prd} (hc:p.check=0):1≤p.count∧p.count≤21:=by
 have h1:=aM hc
 have h2:=(xY hc).m2
 have h3:=xK p
 omega
theorem z0r (c:Cmd):1≤kU c∧kU c≤4:=by
 have:=yE (n:=c.kind) (lo:=0) (hi:=8) (by omega)
 rw[kU];split<;>omega
theorem zBr (t:TmI):(yZ t).kind=kU t.c:=by
 rw[yZ];split<;>rfl
theorem zGb (t:TmI):1≤(yZ t).qty∧(yZ t).qty≤12:=by
 have:=yE (n:=t.c.qty) (lo:=0) (hi:=11) (by omega)
 have e:(yZ t).qty=1+zF t.c.qty 0 11:=by rw[yZ];split<;>rfl
 omega
theorem lC (t:TmI):(yZ t).label=[]:=by
 rw[yZ];split<;>rfl
theorem lL (x:Prd) (c:Cmd) (i:Int) (hk:kU c=1):let y:=yZ ⟨yA x,c,i⟩
 (0≤y.inst∧y.inst<(yA x).count)∧(y.side=1∨y.side=2)∧(1≤y.time∧y.time≤3)∧(0≤y.least∧y.least≤y.qty)∧(-2000000≤y.price∧y.price≤2000000)∧(yA x).price y.inst y.price=0:=by
 have hc:=u6 x
 have hcb:=zBu hc
 have ht:=dP x
 have wi:=yE (n:=c.inst) (lo:=0) (hi:=((yA x).count:Int)-1) (by omega)
 have ws:=yE (n:=c.side) (lo:=0) (hi:=1) (by omega)
 have wq:=yE (n:=c.qty) (lo:=0) (hi:=11) (by omega)
 have wp:=yE (n:=c.price) (lo:=0) (hi:=9) (by omega)
 have ww:=yE (n:=x.wide) (lo:=0) (hi:=60) (by omega)
 have wl:=yE (n:=c.least) (lo:=0) (hi:=1+zF c.qty 0 11) (by omega)
 have hm:=hZ (a:=zV x) (b:=zF c.price 0 9) (m:=zV x) (n:=9) (by omega) wp
 have hw:=hZ (a:=zV x) (b:=zF x.wide 0 60) (m:=zV x) (n:=60) (by omega) ww
 have hh:(yP ⟨yA x,c,i⟩).kind=1:=hk
 have e:yZ ⟨yA x,c,i⟩={yP ⟨yA x,c,i⟩with id:=i+1,time:=wK c,least:=vD c (1+zF c.qty 0 11),price:=if((yA x).legs (zF c.inst 0 ((yA x).count-1))).2.2=true then zV x*zF c.price 0 9-4*zV x else zV x*zF c.price 0 9+8*zV x}:=by
  rw[yZ,if_pos hh];rfl
 intro y
 have ey:y=_:=e
 rw[ey]
 have htm:1≤wK c∧wK c≤3:=by rw[wK];split;omega;split<;>omega
 have hle:0≤vD c (1+zF c.qty 0 11)∧vD c (1+zF c.qty 0 11)≤1+zF c.qty 0 11:=by rw[vD];split<;>omega
 refine⟨⟨wi.1,by show zF c.inst 0 ((yA x).count-1)<_;omega⟩,by show 1+zF c.side 0 1=1∨1+zF c.side 0 1=2;omega,htm,hle,?_,?_⟩
 ·dsimp only
  split<;>omega
 ·dsimp only
  show(yA x).price (zF c.inst 0 ((yA x).count-1)) _=0
  obtain⟨k,hk2⟩:∃k:Nat,zF c.inst 0 (((yA x).count:Int)-1)=k:=⟨(zF c.inst 0 (((yA x).count:Int)-1)).toNat,by omega⟩
  rw[hk2]at wi ⊢
  have hkc:k<(yA x).count:=by omega
  have et:(yA x).tick=zV x:=rfl
  have el:(yA x).low= -20*zV x:=rfl
  have eh:(yA x).high=100*zV x:=rfl
  have ew:(yA x).wide=zV x*(5+zF x.wide 0 60):=rfl
  rw[Int.mul_add]at ew
  rw[Prd.price,if_neg (by omega),if_neg (by omega),et,el,eh,ew]
  rcases wA hc hkc with⟨h1,_⟩|⟨h1,h2⟩
  ·have hge:((yA x).months.length:Int)≤k:=by
    rcases Nat.lt_or_ge k (yA x).months.length with y|y
    ·rw[Prd.legs,if_neg (by omega),if_pos (by omega)]at h1;cases h1
    ·omega
   rw[if_pos h1,if_pos hge,if_pos hge,if_neg,if_neg (by omega)]
   have:zV x*zF c.price 0 9-4*zV x=zV x*(zF c.price 0 9-4):=by rw[Int.mul_sub,Int.mul_comm 4]
   rw[this,wM];decide
  ·have hlt:¬((yA x).months.length:Int)≤k:=by omega
   rw[if_neg (show ¬((yA x).legs k).2.2=true by rw[h1];decide),if_neg hlt,if_neg hlt,if_neg,if_neg (by omega)]
   have:zV x*zF c.price 0 9+8*zV x=zV x*(zF c.price 0 9+8):=by rw[Int.mul_add,Int.mul_comm 8]
   rw[this,wM];decide
theorem lN (x:Prd) (c:Cmd) (i:Int): -2000000≤(yZ ⟨yA x,c,i⟩).price∧(yZ ⟨yA x,c,i⟩).price≤2000000:=by
 have ht:=dP x
 have wp:=yE (n:=c.price) (lo:=0) (hi:=9) (by omega)
 have hm:=hZ (a:=zV x) (b:=zF c.price 0 9) (m:=zV x) (n:=9) (by omega) wp
 have et:(yA x).tick=zV x:=rfl
 by_cases h1:kU c=1
 ·obtain⟨_,_,_,_,h,_⟩:=lL x c i h1;exact h
 ·have hh:¬(yP ⟨yA x,c,i⟩).kind=1:=h1
  have e:(yZ ⟨yA x,c,i⟩).price=if(yP ⟨yA x,c,i⟩).kind=4 then zV x*zF c.price 0 9+5*zV x else zV x*zF c.price 0 9:=by rw[yZ,if_neg hh];rfl
  rw[e]
  split<;>omega
theorem zKy (x:Prd) (c:Cmd) (i id:Int) (hid:1≤id∧id≤1099511627776):Cmd.right {yZ ⟨yA x,c,i⟩with id:=id}=0:=by
 have hk:=z0r c
 have hq:=zGb ⟨yA x,c,i⟩
 have hp:=lN x c i
 have hcb:=zBu (u6 x)
 rw[Cmd.right]
 dsimp only
 rw[zBr]
 dsimp only
 rw[if_neg (by omega),if_neg (by omega)]
 have q1:qW (yZ ⟨yA x,c,i⟩).qty=true:=by rw[qW,decide_eq_true (by omega),decide_eq_true (by omega)];rfl
 have q2:j0 (yZ ⟨yA x,c,i⟩).price=true:=by rw[j0,decide_eq_true (by omega),decide_eq_true (by omega)];rfl
 by_cases h1:kU c=1
 ·obtain⟨a1,a2,a3,a4,a5,a6⟩:=lL x c i h1
  rw[if_pos h1,Cmd.orderE]
  dsimp only
  rw[if_neg (by omega),if_neg (by omega),if_neg (by rw[q1];decide),if_neg (by omega),if_neg (by rw[lC];simp),if_neg (by rw[q2];decide),if_neg (by omega)]
 ·rw[if_neg h1,if_neg (by rw[q1];simp),if_neg (by rw[q2];simp)]
open Go Cv Go.Proofs
theorem z2w (n:Int): -9223372036854775808≤IntKind.i64.wrap n∧IntKind.i64.wrap n≤9223372036854775807:=by
 have:IntKind.i64.wrap n=if 9223372036854775808≤n % 18446744073709551616 then n % 18446744073709551616-18446744073709551616 else n % 18446744073709551616:=by unfold IntKind.wrap;simp[IntKind.signed,IntKind.bits]
 rw[this]
 split<;>omega
theorem bR {α β:Type} {g:α→β} {f:α→α} (h:∀x,g (f x)=g x):∀(l:List α) (i:Nat),(l.modify i f).map g=l.map g
 |[],i=>by simp
 |a::l,0=>by simp[h]
 |a::l,i+1=>by rw[List.modify_succ_cons,List.map_cons,List.map_cons,bR h l i]
theorem zBt:∀(l:List Bool) (i:Nat) (b:Bool),(l.set i b).count true≤l.count true+1
 |[],i,b=>by simp
 |a::l,0,b=>by cases a<;>cases b<;>simp<;>omega
 |a::l,i+1,b=>by
  have:=zBt l i b
  cases a<;>simp[List.count_cons]<;>omega
def Arena.inv (m n:Nat) (a:Arena):Prop:=a.slots.length=250∧(a.slots.map (·.used)).count true≤n∧a.queues.length≤m∧∀q∈a.queues,(q.last= -1∨(0≤q.last∧q.last<250))∧yN q.count
theorem Arena.inv.mono {m n m' n':Nat} {a:Arena} (h:a.inv m n) (hm:m≤m') (hn:n≤n'):a.inv m' n':=⟨h.1,Nat.le_trans h.2.1 hn,Nat.le_trans h.2.2.1 hm,h.2.2.2⟩
theorem Arena.inv.free {m n:Nat} {a:Arena} (h:a.inv m n) (hn:n<250):∃s∈a.slots,s.used=false:=by
 apply Classical.byContradiction
 intro hx
 have:(a.slots.map (·.used)).count true=(a.slots.map (·.used)).length:=by
  rw[List.count_eq_length]
  intro b hb
  obtain⟨s,hs,rfl⟩:=List.mem_map.1 hb
  cases hu:s.used with
  |true=>rfl
  |false=>exact absurd ⟨s,hs,hu⟩ hx
 rw[List.length_map,h.1]at this
 have:=h.2.1
 omega
theorem Arena.inv.fit {m n:Nat} {a:Arena} (h:a.inv m n) (hn:n<250):a.fit:=by
 refine⟨by rw[h.1];decide,fun _=>h.free hn,fun q hq=> ?_⟩
 rw[h.1]
 exact(h.2.2.2 q hq).1
theorem Arena.inv.top {m n:Nat} {a:Arena} (h:a.inv m n) (k:Int) (t:Bool):(a.topF k t).inv m n:=by
 rw[Arena.topF]
 split
 ·refine⟨by simpa using h.1,?_,h.2.2.1,h.2.2.2⟩
  dsimp only
  rw[bR (g:=fun s:Slot=>s.used) (f:=fun s:Slot=>{s with top:=t}) (fun _=>rfl)]
  exact h.2.1
 ·exact h
theorem Arena.inv.open {m n:Nat} {a:Arena} (h:a.inv m n):a.openQ.inv (m+1) n:=by
 refine⟨h.1,h.2.1,by have:=h.2.2.1;simp[Arena.openQ];omega,fun q hq=> ?_⟩
 rcases List.mem_append.1 hq with hq|hq
 ·exact h.2.2.2 q hq
 ·rw[List.mem_singleton.1 hq];exact⟨.inl rfl,by decide⟩
theorem Arena.inv.push {m n:Nat} {a:Arena} (h:a.inv m n) (hn:n<250) (k id qty:Int) (top:Bool):(a.push k id qty top).1.inv m (n+1):=by
 have h':a.inv m (n+1):=h.mono (Nat.le_refl m) (Nat.le_succ n)
 rw[Arena.push]
 split
 ·exact h'
 split
 ·exact h'
 split
 ·exact h'
 obtain⟨f,hf,hfl⟩:=zIz (h.free hn)
 rw[h.1]at hfl
 have hc:∀x:Slot,((a.slots.set (y3 a.slots).toNat x).map (·.used)).count true≤n+1:=by
  intro x
  rw[List.map_set]
  have:=zBt (a.slots.map (·.used)) (y3 a.slots).toNat x.used
  have:=h.2.1
  omega
 refine⟨?_,?_,?_,?_⟩
 ·dsimp only[Arena.put]
  split<;>simp[h.1]
 ·dsimp only[Arena.put]
  split
  ·exact hc _
  ·rw[bR (g:=fun s:Slot=>s.used) (f:=fun s:Slot=>{s with back:=y3 a.slots}) (fun _=>rfl)];exact hc _
 ·dsimp only[Arena.put];rw[List.length_set];exact h.2.2.1
 ·intro q hq
  rcases List.mem_or_eq_of_mem_set hq with hq|rfl
  ·exact h.2.2.2 q hq
  ·exact⟨.inr (by dsimp only;omega),z2w _⟩
structure Book.Inv (Q:Int→Prop) (n:Nat) (b:Book):Prop where
 a:b.a.inv n n
 l1:b.buys.length≤n
 l2:b.sells.length≤n
 sp:b.spare=[]
 p1:∀r∈b.buys,Q r.price
 p2:∀r∈b.sells,Q r.price
theorem Book.Inv.fit {Q n b} (h:Book.Inv Q n b) (hn:n<250):b.fit:=by
 have:=h.l1
 have:=h.l2
 have:=h.a.2.2.1
 exact⟨h.a.fit hn,by omega,by omega,by omega,by rw[h.sp];decide⟩
theorem Book.Inv.mono {Q n m b} (h:Book.Inv Q n b) (hm:n≤m):b.Inv Q m:=⟨h.a.mono hm hm,Nat.le_trans h.l1 hm,Nat.le_trans h.l2 hm,h.sp,h.p1,h.p2⟩
theorem Book.Inv.untop {Q n b} (h:Book.Inv Q n b) (s:Int):(b.untop s).inv n n:=by
 rw[Book.untop]
 repeat' split
 all_goals first|exact h.a|exact h.a.top _ _
theorem Book.Inv.led {Q n b} (h:Book.Inv Q n b) (id s p:Int):(b.led id s p).Inv Q n:=by
 rw[Book.led]
 split
 ·rw[Book.leadF]
  split
  all_goals exact⟨h.untop s,h.l1,h.l2,h.sp,h.p1,h.p2⟩
 ·exact h
theorem z0q (b:Book) (s p:Int):(b.ins s p).length=(b.rungs s).length+1:=by
 have:=dI s p (b.rungs s)
 simp[Book.ins];omega
theorem zNp {Q:Int→Prop} {b:Book} {s p:Int} (hp:Q p) (h:∀r∈b.rungs s,Q r.price):∀r∈b.ins s p,Q r.price:=by
 intro r hr
 rw[Book.ins]at hr
 rcases List.mem_append.1 hr with hr|hr
 ·exact h r (List.mem_of_mem_take hr)
 ·rcases List.mem_cons.1 hr with rfl|hr
  ·exact hp
  ·exact h r (List.mem_of_mem_drop hr)
theorem Book.Inv.queue {Q n b} (h:Book.Inv Q n b) (s p:Int) (hp:Q p):(b.queueF s p).1.a.inv (n+1) n∧(b.queueF s p).1.buys.length≤n+1∧(b.queueF s p).1.sells.length≤n+1∧(b.queueF s p).1.spare=[]∧(∀r∈(b.queueF s p).1.buys,Q r.price)∧∀r∈(b.queueF s p).1.sells,Q r.price:=by
 have hl1:=h.l1
 have hl2:=h.l2
 have hq:b.newQ=((b.a.queues.length:Int),b.spare,b.a.openQ):=by rw[Book.newQ,if_pos (by rw[h.sp];rfl)]
 have hi:=z0q b s p
 rw[Book.queueF]
 split
 ·exact⟨h.a.mono (Nat.le_succ n) (Nat.le_refl n),by dsimp only;omega,by dsimp only;omega,h.sp,h.p1,h.p2⟩
 split
 ·rename_i e
  subst e
  rw[hJ]at hi
  exact⟨by dsimp only;rw[hq];exact h.a.open,by dsimp only;omega,by dsimp only;omega,by dsimp only;rw[hq];exact h.sp,zNp hp h.p1,h.p2⟩
 ·rename_i e
  have er:b.rungs s=b.sells:=by rw[Book.rungs,if_neg e]
  rw[er]at hi
  exact⟨by dsimp only;rw[hq];exact h.a.open,by dsimp only;omega,by dsimp only;omega,by dsimp only;rw[hq];exact h.sp,h.p1,zNp hp (by rw[er];exact h.p2)⟩
theorem Book.Inv.stand {Q n b} (h:Book.Inv Q n b) (hn:n<250) (s id p qty:Int) (hp:Q p):(b.stand s id p qty).Inv Q (n+1):=by
 obtain⟨q1,q2,q3,q4,q5,q6⟩:=(h.led id s p).queue s p hp
 exact⟨q1.push hn _ _ _ _,q2,q3,q4,q5,q6⟩
theorem Book.Inv.add {Q n b} (h:Book.Inv Q n b) (hn:n<250) (s id p qty:Int) (hp:Q p):(b.addF s id p qty).1.Inv Q (n+1):=by
 rw[Book.addF]
 repeat' split
 all_goals first|exact h.mono (Nat.le_succ n)|exact h.stand hn s id p qty hp
structure MSt.Inv (p:Prd) (n:Nat) (s:MSt):Prop where
 e:s.p=p
 l:s.books.length=p.count
 b:∀(k:Nat) (b:Book),s.books[k]? =some b→b.Inv (fun v=>p.price k v=0) n
theorem MSt.Inv.mono {p n m s} (h:MSt.Inv p n s) (hm:n≤m):s.Inv p m:=⟨h.e,h.l,fun k b hb=>(h.b k b hb).mono hm⟩
theorem MSt.Inv.add {p n s} (h:MSt.Inv p n s) (hn:n<250) (inst id:Int) (sd:Bool) (price qty:Int):(MSt.addF ⟨s,inst,id,sd,price,qty⟩).1.Inv p (n+1):=by
 rw[MSt.addF]
 split
 ·exact h.mono (Nat.le_succ n)
 split
 ·exact h.mono (Nat.le_succ n)
 split
 ·exact h.mono (Nat.le_succ n)
 split
 ·exact h.mono (Nat.le_succ n)
 rename_i c1 _ _ c4
 dsimp only at c1 c4 ⊢
 have c4:s.p.price inst price=0:=by simpa using c4
 rw[h.e]at c4
 refine⟨h.e,by simpa using h.l,fun k b hb=> ?_⟩
 dsimp only at hb
 rw[List.getElem?_set]at hb
 split at hb
 ·rename_i e
  split at hb
  ·cases hb
   obtain⟨x,hx⟩:=yG (l:=s.books) (i:=inst.toNat) (by omega)
   have hba:s.bookAt inst=x:=zY hx
   rw[hba]
   have hx':=h.b _ _ hx
   rw[e]at hx'
   exact hx'.add hn _ _ _ _ (by rw[← e,Int.toNat_of_nonneg (by omega)];exact c4)
  ·cases hb
 ·exact(h.b k b hb).mono (Nat.le_succ n)
theorem MSt.Inv.fit {p n s} (h:MSt.Inv p n s) (hp:p.small) (hn:n<250) (hc:p.count≤1000):s.fit:=by
 refine⟨by rw[h.e];exact hp,by have:=h.l;omega,fun b hb=> ?_⟩
 obtain⟨k,hk⟩:=List.mem_iff_getElem?.1 hb
 exact(h.b k b hk).fit hn
theorem MSt.Inv.cnt {p n s} (h:MSt.Inv p n s) (hc:p.count≤1000):s.cntOk:=by
 refine⟨by have:=h.l;omega,fun b hb q hq=> ?_⟩
 obtain⟨k,hk⟩:=List.mem_iff_getElem?.1 hb
 exact((h.b k b hk).a.2.2.2 q hq).2
structure yFm (p:Prd) (k:Nat) (t:Top):Prop where
 a:t.has1=true→p.price k t.p1=0
 b:t.has2=true→p.price k t.p2=0
 c: -2000000≤t.p1∧t.p1≤2000000
 d: -2000000≤t.p2∧t.p2≤2000000
open Go Cv Go.Proofs
structure Tri (p:Prd) (a b k:Nat):Prop where
 hab:a<b
 hb:b<p.months.length
 hs:(p.spread a b).1=k
 hk:k<p.count
 hm:p.months.length≤k
 hl:p.legs k=((a:Int),(b:Int),true)
open Go Cv Go.Proofs
theorem yFc {P Q:Prop} (h:P) (q:Q):P∧True∧Q∧P:=⟨h,trivial,q,h⟩
theorem yEx {l:List Cmd} {k:Nat} {c:Cmd} (h:l[k]? =some c):zI (l.map cmdE) k 0 9=some [D.v (.int .i64 c.kind),.v (.int .i64 c.id),.v (.int .i64 c.inst),.v (.int .i64 c.side),.v (.int .i64 c.price),.v (.int .i64 c.qty),.v (.int .i64 c.least),.v (.int .i64 c.time),.v (.string (sb c.label))]:=elA h (by simp[cmdE]) rfl
def mk0 (p:Prd):Mkt:=⟨p,wX p,[]⟩
theorem zOz (p:Prd):(mk0 p).Rep p (List.replicate p.count []) []:=⟨rfl,zKe _,rfl⟩
theorem mdo {m:Mkt} {p:Prd} {B:List (List zL)} {U:List Int} (h:m.Rep p B U) (hB:BOk p B) (c:Cmd):BOk p (doF p B U c).B:=z9f (by have:=h.s;exact this.wf hB) U c
def kc1:Cmd:=⟨1,1,0,2,10,5,0,1,[]⟩
def kc2:Cmd:=⟨1,2,0,1,15,3,0,1,[]⟩
def kX1:MkX:=doF (uJ 1) (List.replicate (uJ 1).count []) [] kc1
def kX2:MkX:=doF (uJ 1) kX1.B kX1.U kc2
theorem kR1:kX1.R=[⟨1,1,0,2,10,5,5,0⟩]:=by kernel_rfl
theorem kR2:kX2.R=[⟨1,2,0,1,15,3,3,0⟩,⟨3,1,0,2,10,3,2,0⟩,⟨3,2,0,1,10,3,0,0⟩]:=by kernel_rfl
theorem kN2:lM kX2.B=1:=by kernel_rfl
theorem zYq (u:Unit) (h:known17C.cnd u):rM u:=by
 have hc:(uJ 1).check=0:=by decide+kernel
 have hp:(uJ 1).small:=by refine⟨?_,?_,?_⟩<;>decide
 have hB0:=BOk.new hc hp
 have hM0:=zOz (uJ 1)
 have hB1:BOk (uJ 1) kX1.B:=mdo hM0 hB0 kc1
 unfold rM
 refine⟨1,rfl,trivial,fun _ _=>⟨uJ 1,rfl,rfl,rfl,rfl,rfl,rfl,rfl,rfl,rfl,rfl,rfl,hp,fun _ _=>⟨⟨mk0 (uJ 1),uJ 1,List.replicate (uJ 1).count [],[],kc1,kX1⟩,rfl,rfl,rfl,rfl,rfl,rfl,rfl,rfl,rfl,rfl,⟨⟨hM0,hB0⟩,by decide,by decide,by dsimp only;rw[kX1]⟩,fun o1 ho1=> ?_⟩,fun _ hx=>absurd hc hx⟩⟩
 have hB2:BOk (uJ 1) kX2.B:=mdo ho1 hB1 kc2
 refine⟨⟨o1,uJ 1,kX1.B,kX1.U,kc2,kX2⟩,rfl,rfl,rfl,rfl,rfl,rfl,rfl,rfl,rfl,rfl,⟨⟨ho1,hB1⟩,Nat.zero_le _,(by decide:yN 3),by dsimp only;rw[kX2]⟩,fun o2 ho2=> ?_⟩
 dsimp only at ho2 ⊢
 rw[kR1,kR2]
 refine Cv.cnd.mk (fun _=>⟨⟨by decide,by decide⟩,_,rfl,Cv.cnd.mk (fun _=>Cv.cnd.mk (fun _=>⟨⟨by decide,by decide⟩,_,_,_,_,_,_,_,_,rfl,Cv.cnd.mk (fun _=>⟨⟨by decide,by decide⟩,_,_,_,_,_,_,_,_,rfl,Cv.cnd.mk (fun _=>⟨⟨o2,uJ 1,kX2.B,kX2.U,0⟩,rfl,⟨ho2,hB2⟩,fun _ _=>⟨(),?_,trivial⟩⟩) (fun e=>absurd e (by decide))⟩) (fun e=>absurd e (by decide))⟩) (fun e=>absurd e (by decide))) (fun e=>absurd e (by decide))⟩) (fun e=>absurd e (by decide))
 dsimp only
 rw[kN2];rfl
theorem known17_ok:known17C.ok Tryz.prog 15:=zRs (gokc zZi (gokc newM_ok (gokc do_ok (gokc zSl gok0)))) zYq
theorem cE (U:List Int) {k:Nat} (h:k<40):(bD (vI U))[k]? =some (D.v (.bool (decide ((k:Int)∈U)))):=by
 rw[bD,vI,List.getElem?_map,List.getElem?_map,List.getElem?_range h];rfl
theorem zRz {U U':List Int} {id:Int} (h0:0≤id) (h:∀k,k∈U'↔k∈U∨k=id):bD (vI U')=(bD (vI U)).set id.toNat (D.v (.bool true)):=by
 have hl:∀V,(bD (vI V)).length=40:=fun V=>by rw[bD,vI,List.length_map,List.length_map,List.length_range]
 apply List.ext_getElem?
 intro k
 rcases Nat.lt_or_ge k 40 with hk|hk
 ·rw[cE U' hk,List.getElem?_set,cE U hk,hl]
  by_cases e:id.toNat=k
  ·rw[if_pos e,if_pos (by omega),decide_eq_true ((h k).2 (.inr (by omega)))]
  ·rw[if_neg e]
   have:(k:Int)∈U'↔(k:Int)∈U:=by rw[h];exact⟨fun x=>x.resolve_right (by omega),.inl⟩
   rw[decide_eq_decide.2 this]
 ·rw[List.getElem?_eq_none (by rw[hl];exact hk),List.getElem?_eq_none (by rw[List.length_set,hl];exact hk)]
theorem zKq {U U':List Int} (h:∀k,k∈U'↔k∈U):vI U'=vI U:=by
 rw[vI,vI]
 exact List.map_congr_left fun k _=>decide_eq_decide.2 (h _)
theorem vmu (i:AbI) (h:muC.cnd i):Vmu i:=by
 obtain⟨hraw,hcraw,hlen⟩:i.x.raw∧(∀c∈i.l,c.raw)∧i.l.length≤9223372036854775807:=h
 have hc:=u6 i.x
 have hs:=nZ i.x
 have hml:(List.map cmdE i.l).length=i.l.length:=List.length_map _
 unfold Vmu zYb
 rw[hml]
 refine⟨yA i.x,fun y=>y=yA i.x,⟨i.x,rfl,rfl,rfl,rfl,rfl,rfl,rfl,rfl,rfl,rfl,rfl,hraw,fun _ _=>⟨yA i.x,rfl,rfl,rfl,rfl,rfl,rfl,rfl,rfl,rfl,rfl,rfl,rfl,by(repeat'(first|exact trivial|exact rfl|apply And.intro))⟩⟩,?_⟩
 rintro _ rfl
 refine⟨yA i.x,rfl,rfl,rfl,rfl,rfl,rfl,rfl,rfl,rfl,rfl,rfl,hs,fun _ _=> ?_,fun _ hne=>absurd hc hne⟩
 refine⟨(0,mk0 (yA i.x),vI []),rfl,rfl,rfl,fun j=>(j.1≤60∧j.1≤i.l.length)∧∃B U,j.2.1.Rep (yA i.x) B U∧BOk (yA i.x) B∧Acc B U∧j.2.2=vI U,fun j=>60-j.1,⟨⟨Nat.zero_le _,Nat.zero_le _⟩,_,_,zOz _,BOk.new hc hs,?_,rfl⟩,?_⟩
 ·intro L hL o ho
  rw[List.eq_of_mem_replicate hL]at ho
  cases ho
 rintro⟨j,m,us⟩ ⟨⟨hj30,hjl⟩,B,U,hM,hB,hA,hus⟩
 dsimp only at hj30 hjl hM hus ⊢
 subst hus
 refine⟨true,fun b=>b=decide (j<i.l.length∧j<60),zP (fun c=>⟨_,rfl,?_,by(repeat'(first|exact trivial|exact rfl|apply And.intro))⟩) (fun c=>⟨_,rfl,?_,by(repeat'(first|exact trivial|exact rfl|apply And.intro))⟩),fun b hb=> ?_⟩
 ·show decide ((j:Int)<60)=decide (j<i.l.length∧j<60)
  rw[Bool.eq_iff_iff,decide_eq_true_eq,decide_eq_true_eq];omega
 ·exact(decide_eq_false (by omega)).symm
 subst hb
 refine zP (fun hb=> ?_) (fun _=>⟨(),trivial,fun _ _=>⟨(),rfl,trivial⟩⟩)
 obtain⟨hb1,hb2⟩:=hb
 obtain⟨c,hcj⟩:=yG (l:=i.l) (i:=j) hb1
 have hcr:=hcraw c (List.mem_of_getElem? hcj)
 have wb:=yE (n:=c.id) (lo:=0) (hi:=29) (by omega)
 obtain⟨C,hC⟩:∃C:Cmd,C={yZ ⟨yA i.x,c,j⟩with id:=zF c.id 0 29+1}:=⟨_,rfl⟩
 refine⟨yEk,fun y=>y=yZ ⟨yA i.x,c,j⟩,⟨⟨by omega,by omega⟩,c.kind,c.id,c.inst,c.side,c.price,c.qty,c.least,c.time,sb c.label,yEx hcj,yFc ?_ (by(repeat'(first|exact trivial|exact rfl|apply And.intro)))⟩,?_⟩
 ·exact⟨⟨yA i.x,c,j⟩,rfl,rfl,rfl,rfl,rfl,rfl,rfl,rfl,rfl,rfl,rfl,rfl,rfl,rfl,rfl,rfl,rfl,rfl,rfl,rfl,rfl,⟨hc,hs,hcr,by dsimp only;omega,by dsimp only;omega⟩,fun _ _=>⟨_,rfl,rfl,rfl,rfl,rfl,rfl,rfl,rfl,rfl,rfl,by(repeat'(first|exact trivial|exact rfl|apply And.intro))⟩⟩
 rintro _ rfl
 refine⟨_,rfl,rfl,rfl,rfl,rfl,rfl,rfl,rfl,rfl,fun y=>y=C,⟨⟨by omega,by omega⟩,c.id,elA hcj (by simp[cmdE]) rfl,⟨c.id,0,29⟩,rfl,rfl,rfl,⟨hcr.2.1,by dsimp only;decide,by dsimp only;decide,by dsimp only;decide⟩,fun _ _=>⟨C,by rw[hC],by rw[hC,w64 (by dsimp only;omega)],by rw[hC],by rw[hC],by rw[hC],by rw[hC],by rw[hC],by rw[hC],by rw[hC],rfl,by(repeat'(first|exact trivial|exact rfl|apply And.intro))⟩⟩,?_⟩
 intro D hD
 obtain rfl:C=D:=Eq.symm hD
 have hid:C.id=zF c.id 0 29+1:=by rw[hC]
 have hkd:C.kind=kU c:=by rw[hC];exact zBr _
 have hr:C.right=0:=by rw[hC];exact zKy i.x c j _ (by omega)
 have hpz:C.kind=1→(yA i.x).price C.inst C.price=0:=fun e=>by
  have:=(lL i.x c j (by rw[← hkd];exact e)).2.2.2.2.2
  rw[hC];exact this
 have hlb:C.label.length≤140737488355328:=by
  have:C.label=[]:=by rw[hC];exact lC _
  rw[this];decide
 have hqt:1≤C.qty∧C.qty≤12:=by rw[hC];exact zGb _
 clear hC
 obtain⟨X,hX⟩:∃X,X=doF (yA i.x) B U C:=⟨_,rfl⟩
 obtain⟨hA',r,l,hR,hw,hU⟩:DoU (yA i.x) B U C X:=by rw[hX];exact z1m hA C
 have hB':BOk (yA i.x) X.B:=by rw[hX];exact mdo hM hB C
 refine⟨⟨m,yA i.x,B,U,C,X⟩,rfl,rfl,rfl,rfl,rfl,rfl,rfl,rfl,rfl,rfl,⟨⟨hM,hB⟩,hlb,⟨by dsimp only;omega,by dsimp only;omega⟩,hX⟩,fun o ho=> ?_⟩
 dsimp only at ho ⊢
 rw[hR,List.map_cons]
 have hg:=cE U (k:=C.id.toNat) (by omega)
 have ei:((C.id.toNat:Nat):Int)=C.id:=by omega
 rw[ei]at hg
 refine⟨true,fun b=>b=false,Cv.cnd.mk (fun e=>absurd e (by simp;omega)) (fun _=>Cv.cnd.mk (fun e=>⟨⟨by omega,by omega⟩,_,hg,⟨by decide,by simp⟩,r.why,rfl,_,rfl,?_,by(repeat'(first|exact trivial|exact rfl|apply And.intro))⟩) (fun _=>⟨_,rfl,rfl,by(repeat'(first|exact trivial|exact rfl|apply And.intro))⟩)),?_⟩
 ·have e:C.kind=1:=by simpa using e
  have:=hw hr e (hpz e)
  rw[show(r.why==25)=decide (C.id∈U)from by rw[Bool.eq_iff_iff,decide_eq_true_eq,beq_iff_eq];exact this]
  simp
 rintro _ rfl
 refine Cv.cnd.mk (fun e=>absurd e (by decide)) (fun _=> ?_)
 refine⟨vI U,rfl,fun y=>y=vI X.U,⟨true,fun b=>b=decide (C.kind=1∧r.kind=1),Cv.cnd.mk (fun e=>⟨⟨by decide,by simp⟩,r.kind,rfl,_,rfl,?_,by(repeat'(first|exact trivial|exact rfl|apply And.intro))⟩) (fun e=>⟨_,rfl,(decide_eq_false fun x=> ?_).symm,by(repeat'(first|exact trivial|exact rfl|apply And.intro))⟩),?_⟩,?_⟩
 ·have e:C.kind=1:=by simpa using e
  show(r.kind==1)=decide (C.kind=1∧r.kind=1)
  rw[Bool.eq_iff_iff,decide_eq_true_eq,beq_iff_eq];exact⟨fun x=>⟨e,x⟩,fun x=>x.2⟩
 ·rw[x.1]at e;cases e
 ·rintro _ rfl
  refine zP (fun e=>⟨⟨by omega,by omega⟩,?_,vI X.U,?_,rfl,by(repeat'(first|exact trivial|exact rfl|apply And.intro))⟩) (fun e=>⟨vI X.U,?_,rfl,by(repeat'(first|exact trivial|exact rfl|apply And.intro))⟩)
  ·exact(List.getElem?_eq_some_iff.1 hg).1
  ·rw[zRz (U:=U) (id:=C.id) (by omega) fun k=>by rw[hU];exact⟨fun x=>x.imp id fun y=>y.2.2,fun x=>x.imp id fun y=>⟨e.1,e.2,y⟩⟩];rfl
  ·rw[zKq (U:=U) (U':=X.U) fun k=>by rw[hU];exact⟨fun x=>x.elim id fun y=>absurd ⟨y.1,y.2.1⟩ e,.inl⟩]
 rintro _ rfl
 refine⟨1,rfl,fun k=>1≤k∧k≤40,fun k=>40-k,⟨by decide,by decide⟩,fun k hk=> ?_⟩
 refine zP (fun e=> ?_) (fun e=> ?_)
 ·have hg:=cE X.U (k:=k) (by omega)
  refine⟨⟨by omega,by omega⟩,_,hg,⟨o,yA i.x,X.B,X.U,k⟩,rfl,rfl,ho,fun _ _=>⟨⟨_,hg,rfl⟩,Cv.cnd.mk (fun e=> ?_) (fun _=>⟨k+1,by rw[w64 (by omega)];rfl,⟨by omega,by omega⟩,by dsimp only;omega,by(repeat'(first|exact trivial|exact rfl|apply And.intro))⟩)⟩⟩
  dsimp only at e
  simp at e
 ·exact⟨(j+1,o,vI X.U),by rw[w64 (by omega)];rfl,rfl,rfl,⟨⟨by dsimp only;omega,by dsimp only;omega⟩,_,_,ho,hB',hA',rfl⟩,by dsimp only;omega,by(repeat'(first|exact trivial|exact rfl|apply And.intro))⟩
end Sx
