/- Texts of ours, one behind the other: a walk that the kernel reckons, and contracts of functions. No condition. -/
import Derived.Test.YthkofaanekmpmaaGreatU6
namespace Sx
set_option linter.unusedVariables false
set_option linter.unusedSimpArgs false
set_option maxRecDepth 100000
open Go Cv Go.Proofs
theorem yBf {l:List Int} {q r:Int} (h:yS l q=true) (h0:0≤r) (h1:r≤q):yS l r=true:=by
 obtain⟨a,b,c,d⟩:=kW h
 have e:(l.all fun n=>decide (1≤n) && decide (n≤1000000))=true:=by
  rw[yZn];intro x hx;simpa using c x hx
 rw[yS,e,yXc a,yXc h0,yXc (show r≤l.sum by omega)];rfl
theorem getD_none {l:List Int} {n:Nat} (h:l[n]? =none):l.getD n 0=0:=by rw[yWs,h];rfl
theorem zAx {l:List Int} {q:Int} (h:yS l q=true) (n:Nat):0≤l.getD n 0∧l.getD n 0≤1000000:=by
 cases hn:l[n]? with
 |none=>rw[getD_none hn];decide
 |some x=>rw[zR hn];have:=(kW h).2.2.1 x (yWt hn);omega
theorem z6p {l:List Int} {q:Int} (h:yS l q=true) (n:Nat):0≤(uK l q).getD n 0∧(uK l q).getD n 0≤l.getD n 0:=by
 rw[uK,yWl h]
 obtain⟨a,b,c,d⟩:=kW h
 cases hn:l[n]? with
 |none=>
  have:(uD l q)[n]? =none:=by rw[List.getElem?_eq_none_iff,rN];exact List.getElem?_eq_none_iff.1 hn
  rw[getD_none hn,getD_none this];decide
 |some x=>
  rw[zR hn,zR (zJg l q n x hn)]
  have:=zEx l q n b (fun y hy=>by have:=c y hy;omega)
  have:=c x (yWt hn)
  omega
theorem yVv (i:SpI) (h:splC.cnd i):yTc i:=by
 obtain⟨hl,hq,hle,hpa⟩:i.l.length≤1000000∧yU i.q∧yU i.least∧yU i.part:=h
 unfold yTc zBi j0
 have no (e:¬(yS i.l i.q=true∧0≤i.part∧i.part≤100∧1≤i.least)):lU i=[]:=by rw[lU,yWj e]
 refine⟨⟨i.l,i.q⟩,rfl,rfl,⟨hl,hq⟩,fun _ _=>Cv.cnd.mk (fun c=> ?_) (fun c=>zI (fun d=> ?_) (fun d=>zI (fun e=> ?_) (fun e=>zI (fun f=> ?_) (fun f=> ?_))))⟩
 ·have c:yS i.l i.q=false:=by simpa using c
  exact⟨(),by rw[no (by rw[c];simp)];rfl,trivial⟩
 ·exact⟨(),by rw[no (by omega)];rfl,trivial⟩
 ·exact⟨(),by rw[no (by omega)];rfl,trivial⟩
 ·exact⟨(),by rw[no (by omega)];rfl,trivial⟩
 have c:yS i.l i.q=true:=by simpa using c
 obtain⟨h1,h2,h3,h4⟩:=kW c
 have hq2:=zHn c
 have m0:0≤i.q*i.part:=y2u h2 (by omega)
 have m1:i.q*i.part≤i.q*100:=y1k (by omega) h2
 have hr:=yBf (r:=i.q*i.part / 100) c (by omega) (by omega)
 have es:lU i=aP i.rs:=by rw[lU,yWl ⟨c,by omega,by omega,by omega⟩]
 refine⟨⟨i.q,i.part,100⟩,rfl,rfl,rfl,⟨by dsimp only;omega,by dsimp only;omega,by dsimp only;omega,by dsimp only;omega,by dsimp only;omega,by dsimp only;omega⟩,fun _ _=>⟨⟨i.l,i.q*i.part / 100⟩,rfl,rfl,⟨hl,by dsimp only;omega,by dsimp only;omega⟩,fun _ _=>⟨i.rs,rfl,rfl,?_,rfl,⟨h1,?_,?_,hle,?_⟩,fun _ _=>⟨(),by rw[es],trivial⟩⟩⟩⟩
 ·rw[w64 (by dsimp only;omega)];rfl
 ·show(uK i.l (i.q*i.part / 100)).length=i.l.length
  rw[uK,yWl hr,rN]
 ·show yU (i.q-i.q*i.part / 100)
  exact⟨by omega,by omega⟩
 ·intro n
  have a:=z6p hr n
  have b:=zAx c n
  exact⟨a.1,a.2,b.2⟩
theorem yLv:splC.ok Tryz.prog 290:=okw mixed (gokc zBk (gokc zOa (gokc z0r (gokc z3l gok0)))) 0 (fun _=>[]) (fun _=>[]) [] Tryz.func290 yVv
theorem yPo (n:Nat):List.replicate n [D.v (.int .i64 0)]=iE (List.replicate n 0):=by simp[iE]
theorem zUu (n k:Nat):(List.replicate n (0:Int)).getD k 0=0:=by
 rw[yWs,List.getElem?_replicate];split<;>rfl
theorem yCp (n t k:Nat) (x:Int):((List.replicate n (0:Int)).set t x).getD k 0=x∧k=t∨((List.replicate n (0:Int)).set t x).getD k 0=0:=by
 rw[yWs,yZt]
 split
 ·rename_i e
  split
  ·exact .inl ⟨rfl,e.symm⟩
  ·exact .inr rfl
 ·right;rw[← yWs];exact zUu n k
theorem yUr (i:PsI) (h:proC.cnd i):yQk i:=by
 obtain⟨hl,hq,hle,hmo⟩:i.l.length≤1000000∧yU i.q∧yU i.least∧yU i.most:=h
 unfold yQk zRs zRp zBi zJq sB j0 dI
 have no (e:¬(yS i.l i.q=true∧1≤i.least∧0≤i.most)):zBf i=[]:=by rw[zBf,yWj e]
 refine⟨⟨i.l,i.q⟩,rfl,rfl,⟨hl,hq⟩,fun _ _=>Cv.cnd.mk (fun c=> ?_) (fun c=>zI (fun d=> ?_) (fun d=>zI (fun e=> ?_) (fun e=> ?_)))⟩
 ·have c:yS i.l i.q=false:=by simpa using c
  exact⟨(),by rw[no (by rw[c];simp)];rfl,trivial⟩
 ·exact⟨(),by rw[no (by omega)];rfl,trivial⟩
 ·exact⟨(),by rw[no (by omega)];rfl,trivial⟩
 have c:yS i.l i.q=true:=by simpa using c
 obtain⟨h1,h2,h3,h4⟩:=kW c
 have hq2:=zHn c
 have es:zBf i=aP i.rs:=by rw[zBf,yWl ⟨c,by omega,by omega⟩]
 simp only[xF,yXa,yPo]
 have out (hn:¬(0≤i.top∧i.top<(i.l.length:Int))):i.rs=⟨i.l,List.replicate i.l.length 0,i.least,i.q⟩:=by rw[PsI.rs,yWj hn]
 have ok0:RsI.ok ⟨i.l,List.replicate i.l.length 0,i.least,i.q⟩:=⟨h1,by simp,hq,hle,fun n=>by
  have:=zAx c n
  dsimp only
  rw[zUu];omega⟩
 refine⟨⟨by omega,by omega,by omega,by omega⟩,zI (fun a=>zI (fun b=> ?_) (fun b=> ?_)) (fun a=> ?_)⟩
 ·obtain⟨n,hn⟩:=yD (l:=i.l) (i:=i.top.toNat) (by omega)
  have hf:i.first=min (min n i.most) i.q:=by rw[PsI.first,zR hn]
  have bn:=h3 n (yWt hn)
  have hr0:(List.replicate i.l.length (0:Int))[i.top.toNat]? =some 0:=by rw[List.getElem?_replicate,yWl (by omega)]
  have ers:i.rs=⟨i.l,(List.replicate i.l.length 0).set i.top.toNat i.first,i.least,i.q-i.first⟩:=by rw[PsI.rs,yWl ⟨by omega,by omega⟩]
  refine⟨⟨by omega,by omega⟩,n,elI hn,?_⟩
  rw[zQv hr0,← hf]
  simp only[xF,yXf,yZm]
  refine⟨⟨by omega,by omega⟩,by omega,⟨by omega,by omega⟩,i.first,elI (uC hr0),?_⟩
  rw[w64 (x:=i.q-i.first) (by omega)]
  refine⟨⟨i.l,(List.replicate i.l.length 0).set i.top.toNat i.first,i.least,i.q-i.first⟩,rfl,rfl,rfl,rfl,⟨h1,by simp,⟨by dsimp only;omega,by dsimp only;omega⟩,hle,fun k=> ?_⟩,fun _ _=>⟨(),by rw[es,ers],trivial⟩⟩
  have bk:=zAx c k
  dsimp only
  rcases yCp i.l.length i.top.toNat k i.first with⟨g,gk⟩|g
  ·rw[g,gk,zR hn];omega
  ·rw[g];omega
 ·refine⟨⟨i.l,List.replicate i.l.length 0,i.least,i.q⟩,rfl,rfl,rfl,rfl,ok0,fun _ _=>⟨(),by rw[es,out (by omega)],trivial⟩⟩
 ·refine⟨⟨i.l,List.replicate i.l.length 0,i.least,i.q⟩,rfl,rfl,rfl,rfl,ok0,fun _ _=>⟨(),by rw[es,out (by omega)],trivial⟩⟩
theorem yOt:proC.ok Tryz.prog 289:=okw mixed (gokc zBk (gokc z3l gok0)) 0 (fun _=>[]) (fun _=>[]) [] Tryz.func289 yUr
open Go Cv Go.Proofs
structure AlI where
 p:Prd
 l:List zH
 q:Int
def AlI.qs (i:AlI):List Int:=i.l.map (·.qty)
def qX (i:AlI):List Int:=if i.p.rule=1 then uK i.qs i.q else if i.p.rule=2 then zBf ⟨i.qs,topI i.l,i.p.top,i.p.least,i.q⟩else if i.p.rule=3 then lU ⟨i.qs,i.p.part,i.p.least,i.q⟩else[]
def allocC:Con:=con1 AlI (fun i=>[prdV i.p,roV 5 (i.l.map wP),zA i.q]) (fun _=>[]) (fun i=>i.l.length≤1000∧yU i.q∧yU i.p.least∧yU i.p.top∧yU i.p.part) (fun _=> .own 0) (fun i=>[.own 2 1 (iE (qX i))])
def yNg (i:AlI):List SAnn:=[{ι:=Nat,slots:=fun j=>[(7,.own 0),(13,zA j)],rows:=fun j=>[.own 2 1 (iE (i.qs.take j))]}]
open Go Cv Go.Proofs
def z8w (i:AlI):Prop:=
 ∃(a:Nat),(↑a:Int)=0∧iE (List.take a i.qs)=[]∧∃(b:Nat→Prop),∃(c:Nat→Nat),b a∧∀(d:Nat),b d→cnd (decide ((↑d:Int)<(↑(List.map wP i.l).length:Int))) ((0≤(↑d:Int)∧(↑d:Int)<(↑(List.map wP i.l).length:Int))∧∃(e:Int),∃(f:Int),∃(g:Int),∃(h:Int),∃(j:Bool),zE (List.map wP i.l) (↑d:Int).toNat 0 5=some [dI e,dI f,dI g,dI h,D.v (.bool j)]∧((iE (List.take d i.qs)).length+1)*(8:Nat)≤(140737488355328:Nat)∧∃(k:Nat),(↑k:Int)=IntKind.i64.wrap ((↑d:Int)+1)∧iE (List.take k i.qs)=iE (List.take d i.qs)++[[dI h]]∧b k∧c k<c d∧Sx.AObj.cells [V.d (D.v (Value.string (sb i.p.code))),V.own 0,V.d (dI i.p.tick),V.d (dI i.p.low),V.d (dI i.p.high),V.d (dI i.p.wide),V.d (dI i.p.rule),V.d (dI i.p.top),V.d (dI i.p.least),V.d (dI i.p.part),V.own ((0:Nat)+(1:Nat))] 25=Sx.AObj.cells [V.d (D.v (Value.string (sb i.p.code))),V.own 0,V.d (dI i.p.tick),V.d (dI i.p.low),V.d (dI i.p.high),V.d (dI i.p.wide),V.d (dI i.p.rule),V.d (dI i.p.top),V.d (dI i.p.least),V.d (dI i.p.part),V.own ((0:Nat)+(1:Nat))] 25∧AObj.fro 1 (iE i.p.settle)=AObj.fro 1 (iE i.p.settle)∧AObj.fro 1 (iE i.p.months)=AObj.fro 1 (iE i.p.months)) (cnd (i.p.rule==1) (∃(e:LqI),iE e.l=iE (List.take d i.qs)∧e.q=i.q∧(j0 e)∧∀(f:Unit),True→∃(g:Unit),iE (qX i)=iE (uK e.l e.q)∧True) (cnd (i.p.rule==2) (∃(e:List zH),List.map wP e=List.map wP i.l∧e.length≤1000000∧∀(f:Unit),True→∃(g:PsI),iE g.l=iE (List.take d i.qs)∧g.top=topI e∧g.most=i.p.top∧g.least=i.p.least∧g.q=i.q∧(g.l.length≤1000000∧((-9223372036854775808)≤g.q∧g.q≤9223372036854775807)∧((-9223372036854775808)≤g.least∧g.least≤9223372036854775807)∧(-9223372036854775808)≤g.most∧g.most≤9223372036854775807)∧∀(h:Unit),True→∃(j:Unit),iE (qX i)=iE (zBf g)∧True) (cnd (i.p.rule==3) (∃(e:SpI),iE e.l=iE (List.take d i.qs)∧e.part=i.p.part∧e.least=i.p.least∧e.q=i.q∧(e.l.length≤1000000∧((-9223372036854775808)≤e.q∧e.q≤9223372036854775807)∧((-9223372036854775808)≤e.least∧e.least≤9223372036854775807)∧(-9223372036854775808)≤e.part∧e.part≤9223372036854775807)∧∀(f:Unit),True→∃(g:Unit),iE (qX i)=iE (lU e)∧True) (∃(e:Unit),iE (qX i)=[]∧True))))
open Go Cv Go.Proofs
theorem yLp (i:AlI) (h:allocC.cnd i):z8w i:=by
 obtain⟨hl,hq,hle,hto,hpa⟩:i.l.length≤1000∧yU i.q∧yU i.p.least∧yU i.p.top∧yU i.p.part:=h
 have hql:i.qs.length=i.l.length:=by simp[AlI.qs]
 unfold z8w j0 dI
 simp only[xF,yWk]
 refine⟨0,by(first|exact rfl|exact trivial),by(first|exact rfl|exact trivial),fun j=>j≤i.l.length,fun j=>i.l.length-j,yYh _,fun j hj=>zI (fun c=> ?_) (fun c=> ?_)⟩
 ·have hj':j<i.l.length:=by omega
  obtain⟨o,ho⟩:=yD (l:=i.l) (i:=j) hj'
  have hqo:i.qs[j]? =some o.qty:=by rw[AlI.qs,yXr,ho];rfl
  refine⟨⟨by omega,by omega⟩,o.id,o.side,o.price,o.qty,o.top,yMj ho,by rw[yXd];omega,j+1,wjn (by omega),?_,hj',by dsimp only;omega,k0q⟩
  rw[yXt,hqo];simp[iE]
 have hje:j=i.l.length:=by omega
 subst hje
 rw[yWu (l:=i.qs) (by omega)]
 refine Cv.cnd.mk (fun a=> ?_) (fun a=>Cv.cnd.mk (fun b=> ?_) (fun b=>Cv.cnd.mk (fun d=> ?_) (fun d=> ?_)))
 ·have a:i.p.rule=1:=by simpa using a
  exact⟨⟨i.qs,i.q⟩,rfl,rfl,⟨by dsimp only;omega,hq⟩,fun _ _=>⟨(),by rw[qX,yWl a],trivial⟩⟩
 ·have a:¬i.p.rule=1:=by simpa using a
  have b:i.p.rule=2:=by simpa using b
  exact⟨i.l,rfl,by omega,fun _ _=>⟨⟨i.qs,topI i.l,i.p.top,i.p.least,i.q⟩,rfl,rfl,rfl,rfl,rfl,⟨by dsimp only;omega,hq,hle,hto⟩,fun _ _=>⟨(),by rw[qX,yWj a,yWl b],trivial⟩⟩⟩
 ·have a:¬i.p.rule=1:=by simpa using a
  have b:¬i.p.rule=2:=by simpa using b
  have d:i.p.rule=3:=by simpa using d
  exact⟨⟨i.qs,i.p.part,i.p.least,i.q⟩,rfl,rfl,rfl,rfl,⟨by dsimp only;omega,hq,hle,hpa⟩,fun _ _=>⟨(),by rw[qX,yWj a,yWj b,yWl d],trivial⟩⟩
 ·have a:¬i.p.rule=1:=by simpa using a
  have b:¬i.p.rule=2:=by simpa using b
  have d:¬i.p.rule=3:=by simpa using d
  exact⟨(),by rw[qX,yWj a,yWj b,yWj d];rfl,trivial⟩
theorem yDz:allocC.ok Tryz.prog 263:=okw mixed (gokc z0r (gokc z7d (gokc yOt (gokc yLv gok0)))) 0 (fun _=>[]) (fun i=>yNg i) [] Tryz.func263 yLp
open Go Cv Go.Proofs
def vB (l:List Nat) (t:Int):Int:=match l with
 |[]=>t
 |k::_=>k
def kK:List Nat→Int→Int
 |[],p=>p
 |k::l,_=>kK l k
structure zRq (s:Slot) (n k:Nat) (p t:Int):Prop where
 used:s.used=true
 no:s.n=k
 queue:s.queue=n
 ahead:s.ahead=p
 back:s.back=t
 q1:0≤s.qty
 q2:s.qty≤1000000
def seg (sl:List Slot) (n:Nat):Int→List Nat→Int→Prop
 |_,[],_=>True
 |p,k::l,t=>(∃s,sl[k]? =some s∧zRq s n k p (vB l t))∧seg sl n k l t
theorem zDv (l1 l2:List Nat) (t:Int):vB (l1++l2) t=vB l1 (vB l2 t):=by cases l1<;>rfl
theorem cD:∀(l1 l2:List Nat) (p:Int),kK (l1++l2) p=kK l2 (kK l1 p)
 |[],l2,p=>rfl
 |k::l1,l2,p=>cD l1 l2 k
theorem tU {sl:List Slot} {n:Nat}:∀{l1 l2:List Nat} {p t:Int},seg sl n p (l1++l2) t↔seg sl n p l1 (vB l2 t)∧seg sl n (kK l1 p) l2 t
 |[],l2,p,t=>by simp[seg,kK]
 |k::l1,l2,p,t=>by
  rw[yYd,seg,seg,zDv,tU,kK,and_assoc]
theorem z2z {sl:List Slot} {n k:Nat}:∀{l:List Nat} {p t:Int},seg sl n p l t→k∈l→∃s p' t',sl[k]? =some s∧zRq s n k p' t'
 |j::l,p,t,h,hk=>by
  rcases yXe.1 hk with rfl|hk
  ·obtain⟨⟨s,h1,h2⟩,_⟩:=h
   exact⟨s,_,_,h1,h2⟩
  ·exact z2z h.2 hk
theorem wR {sl sl':List Slot} {n:Nat}:∀{l:List Nat} {p t:Int},(∀k∈l,sl'[k]? =sl[k]?)→seg sl n p l t→seg sl' n p l t
 |[],p,t,_,h=>h
 |k::l,p,t,e,⟨⟨s,h1,h2⟩,h3⟩=>⟨⟨s,by rw[e k yWp];exact h1,h2⟩,wR (fun j hj=>e j (yWq _ hj)) h3⟩
theorem fA {α:Type} {l:List α} {f:α→α} {i j:Nat} (h:i≠j):(l.modify i f)[j]? =l[j]? :=by rw[y2e];cases l[j]? <;>simp[h]
theorem rX {α:Type} {l:List α} {f:α→α} {i:Nat} {x:α} (h:l[i]? =some x):(l.modify i f)[i]? =some (f x):=by rw[y2e,h];simp
theorem vF {α:Type} {l:List α} {x:α} {i j:Nat} (h:i≠j):(l.set i x)[j]? =l[j]? :=by rw[yZt,yWj h]
theorem gW {α:Type} {l:List α} {x:α} {i:Nat} (h:i<l.length):(l.set i x)[i]? =some x:=by rw[yZt,yWl rfl,yWl h]
theorem dW {α:Type} {Q:List α} {n m:Nat} {x y:α} (h:(Q.set n x)[m]? =some y):(m=n∧y=x)∨(m≠n∧Q[m]? =some y):=by
 by_cases e:n=m
 ·subst e
  have hn:n<Q.length:=by
   have:=(yWn.1 h).1
   simpa using this
  rw[gW hn]at h
  cases h
  exact .inl ⟨rfl,rfl⟩
 ·rw[vF e]at h
  exact .inr ⟨fun c=>e c.symm,h⟩
theorem zXc {sl:List Slot} {n k:Nat} {l:List Nat} {p t:Int} (t':Int) (hk:k∉l) (h:seg sl n p (l++[k]) t):seg (sl.modify k fun s=>{s with back:=t'}) n p (l++[k]) t':=by
 rw[tU]at h ⊢
 obtain⟨h1,⟨s,h2,h3⟩,_⟩:=h
 refine⟨wR (fun j hj=>fA (fun e=>hk (e▸hj))) h1,⟨_,rX h2,?_⟩,trivial⟩
 exact⟨h3.used,h3.no,h3.queue,h3.ahead,rfl,h3.q1,h3.q2⟩
theorem z4u {sl:List Slot} {n k:Nat} {l:List Nat} {p t:Int} (p':Int) (hk:k∉l) (h:seg sl n p (k::l) t):seg (sl.modify k fun s=>{s with ahead:=p'}) n p' (k::l) t:=by
 obtain⟨⟨s,h1,h2⟩,h3⟩:=h
 refine⟨⟨_,rX h1,?_⟩,wR (fun j hj=>fA (fun e=>hk (e▸hj))) h3⟩
 exact⟨h2.used,h2.no,h2.queue,rfl,h2.back,h2.q1,h2.q2⟩
theorem wA (l:List Nat):l=[]∨∃(x:List Nat) (j:Nat),l=x++[j]∧∀p:Int,kK l p=(j:Int):=by
 rcases List.eq_nil_or_concat l with rfl|⟨x,j,rfl⟩
 ·exact .inl rfl
 ·exact .inr ⟨x,j,by simp,fun p=>by rw[List.concat_eq_append,cD];rfl⟩
theorem aY (l:List Nat):kK l (-1)= -1↔l=[]:=by
 rcases wA l with rfl|⟨x,j,rfl,e⟩
 ·simp[kK]
 ·rw[e];simp
theorem zPf (l:List Nat):vB l (-1)= -1↔l=[]:=by
 cases l with
 |nil=>simp[vB]
 |cons k l=>simp only[vB];constructor
            ·intro h;omega
            ·intro h;cases h
theorem eU {α β:Type} {g:α→β} {f:α→α} (h:∀x,g (f x)=g x):∀(l:List α) (i:Nat),(l.modify i f).map g=l.map g
 |[],i=>by simp
 |a::l,0=>by simp[h]
 |a::l,i+1=>by rw[y1y,yWz,yWz,eU h l i]
theorem zHx:∀(m:Nat) {l:List Nat},l.Nodup→(∀k∈l,k<m)→l.length≤m
 |0,[],_,_=>yXl 0
 |0,k::l,_,h=>absurd (h k yWp) (by omega)
 |m+1,l,hn,h=>by
  have:=zHx m (hn.erase m) fun k hk=>by
   have:=(hn.mem_erase_iff).1 hk
   have:=h k this.2
   omega
  by_cases hm:m∈l
  ·rw[List.length_erase_of_mem hm]at this;omega
  ·rw[List.erase_of_not_mem hm]at this;omega
theorem z3j {f g:Nat→Int} {k:Nat}:∀{l:List Nat},l.Nodup→k∈l→(∀j∈l,j≠k→g j=f j)→(l.map g).sum=(l.map f).sum+(g k-f k)
 |j::l,hn,hk,h=>by
  have hn:=yZb.1 hn
  rw[yWz,yWz,yXx,yXx]
  rcases yXe.1 hk with rfl|hk
  ·have:l.map g=l.map f:=yXs fun i hi=>h i (yWq _ hi) (fun e=>hn.1 (e▸hi))
   rw[this];omega
  ·have e:=h j yWp (fun e=>hn.1 (e▸hk))
   rw[z3j hn.2 hk (fun i hi=>h i (yWq _ hi)),e]
   omega
theorem yCq {f:Nat→Int} {m:Int}:∀{l:List Nat},(∀j∈l,0≤f j∧f j≤m)→0≤(l.map f).sum∧(l.map f).sum≤m*l.length
 |[],_=>by simp
 |j::l,h=>by
  have:=h j yWp
  have:=yCq (l:=l) fun i hi=>h i (yWq _ hi)
  rw[yWz,yXx,yWr,Int.natCast_add,Int.mul_add]
  simp only[Int.natCast_one,Int.mul_one]
  omega
def Arena.qsum (a:Arena) (l:List Nat):Int:=(l.map fun k=>(a.slotAt k).qty).sum
structure Arena.Wf0 (a:Arena) (Q:List (List Nat)):Prop where
 len:a.slots.length=250
 ql:a.queues.length=Q.length
 q:∀(n:Nat) (l:List Nat),Q[n]? =some l→a.queues[n]? =some ⟨vB l (-1),kK l (-1),a.qsum l,l.length⟩
 sg:∀(n:Nat) (l:List Nat),Q[n]? =some l→seg a.slots n (-1) l (-1)
 nd:∀(n:Nat) (l:List Nat),Q[n]? =some l→l.Nodup
 us:∀(k:Nat) (s:Slot),a.slots[k]? =some s→s.used=true→∃(n:Nat) (l:List Nat),Q[n]? =some l∧k∈l
 free:a.free=((a.slots.map (·.used)).countP (!·):Nat)
structure Arena.Wf (a:Arena) (Q:List (List Nat)):Prop extends a.Wf0 Q where
 pos:∀(n:Nat) (l:List Nat),Q[n]? =some l→∀k∈l,1≤(a.slotAt k).qty
theorem Arena.Wf0.mem {a:Arena} {Q:List (List Nat)} (h:a.Wf0 Q) {n k:Nat} {l:List Nat} (hl:Q[n]? =some l) (hk:k∈l):k<250∧(∃p t,zRq (a.slotAt k) n k p t)∧a.slots[k]? =some (a.slotAt k):=by
 obtain⟨s,p,t,h1,h2⟩:=z2z (h.sg n l hl) hk
 have e:a.slotAt k=s:=zR h1
 have hlt:=(yWn.1 h1).1
 rw[h.len]at hlt
 exact⟨hlt,⟨p,t,by rw[e];exact h2⟩,by rw[e];exact h1⟩
theorem Arena.Wf0.one {a:Arena} {Q:List (List Nat)} (h:a.Wf0 Q) {n m k:Nat} {l l':List Nat} (hl:Q[n]? =some l) (hl':Q[m]? =some l') (hk:k∈l) (hk':k∈l'):n=m:=by
 obtain⟨_,⟨_,_,h1⟩,_⟩:=h.mem hl hk
 obtain⟨_,⟨_,_,h2⟩,_⟩:=h.mem hl' hk'
 have:=h1.queue
 have:=h2.queue
 omega
theorem Arena.Wf0.short {a:Arena} {Q:List (List Nat)} (h:a.Wf0 Q) {n:Nat} {l:List Nat} (hl:Q[n]? =some l):l.length≤250:=zHx 250 (h.nd n l hl) fun k hk=>(h.mem hl hk).1
theorem bG {a a':Arena} {l:List Nat} (h:∀k∈l,(a'.slotAt k).qty=(a.slotAt k).qty):a'.qsum l=a.qsum l:=by rw[Arena.qsum,Arena.qsum,yXs h]
theorem Arena.Wf0.sum {a:Arena} {Q:List (List Nat)} (h:a.Wf0 Q) {n:Nat} {l:List Nat} (hl:Q[n]? =some l):0≤a.qsum l∧a.qsum l≤250000000:=by
 have:=yCq (f:=fun k=>(a.slotAt k).qty) (m:=1000000) (l:=l) fun j hj=>by
  obtain⟨_,⟨_,_,h1⟩,_⟩:=h.mem hl hj
  exact⟨h1.q1,h1.q2⟩
 have:=h.short hl
 rw[Arena.qsum]
 omega
theorem zOd {sl:List Slot} {n:Nat}:∀{l:List Nat} {p:Int},seg sl n p l (-1)→zVr sl (vB l (-1)) l
 |[],p,_=>rfl
 |k::l,p,⟨⟨s,h1,h2⟩,h3⟩=>by
  refine⟨rfl,(yWn.1 h1).1,?_⟩
  rw[zR h1,h2.back]
  exact zOd h3
theorem Arena.Wf0.ok {a:Arena} {Q:List (List Nat)} (h:a.Wf0 Q):a.okAt:=by
 refine⟨by rw[h.len];decide,fun k s hk hu=> ?_⟩
 obtain⟨n,l,hl,hkl⟩:=h.us k s hk hu
 have hQ:=(yWn.1 hl).1
 have hql:=h.ql
 obtain⟨l1,l2,rfl⟩:=List.append_of_mem hkl
 have hsg:=h.sg n _ hl
 have hnd:=h.nd n _ hl
 rw[tU]at hsg
 obtain⟨_,⟨s',h1,h2⟩,_⟩:=hsg
 rw[hk]at h1;cases h1
 have hq:=h2.queue
 have hd:=yYu.1 hnd
 have hd2:=yZb.1 hd.2.1
 refine⟨⟨by omega,by omega⟩,h2.q2,?_,?_⟩
 ·rw[h2.ahead]
  rcases wA l1 with rfl|⟨x,j,rfl,e⟩
  ·exact .inl rfl
  ·have hj:j∈x++[j]:=by simp
   have hjl:=(h.mem hl (yXy _ hj)).1
   rw[e,h.len]
   refine .inr ⟨by omega,by omega,fun e2=> ?_⟩
   have:j=k:=by omega
   exact hd.2.2 j hj k yWp this
 ·rw[h2.back]
  cases l2 with
  |nil=>exact .inl rfl
  |cons j x=>
   have hjl:=(h.mem hl (yYb _ (yWq _ yWp))).1
   rw[vB,h.len]
   refine .inr ⟨by omega,by omega,fun e2=> ?_⟩
   have:j=k:=by omega
   exact hd2.1 (this▸yWp)
theorem Arena.Wf0.open {a:Arena} {Q:List (List Nat)} (h:a.Wf0 Q):a.openQ.Wf0 (Q++[[]]):=by
 have g:∀{n:Nat} {l:List Nat},(Q++[[]])[n]? =some l→Q[n]? =some l∨(n=Q.length∧l=[]):=by
  intro n l hl
  rw[List.getElem?_append]at hl
  split at hl
  ·exact .inl hl
  ·rename_i hn
   have:=(yWn.1 hl).1
   simp only[yZs]at this
   have e:n-Q.length=0:=by omega
   rw[e]at hl
   cases hl
   exact .inr ⟨by omega,rfl⟩
 refine⟨h.len,by simp[Arena.openQ,h.ql],fun n l hl=> ?_,fun n l hl=> ?_,fun n l hl=> ?_,fun k s hk hu=> ?_,h.free⟩
 ·rcases g hl with hl|⟨rfl,rfl⟩
  ·show(a.queues++[bR])[n]? =_
   rw[yYv (by have:=(yWn.1 hl).1;have:=h.ql;omega)]
   exact h.q n l hl
  ·show(a.queues++[bR])[_]? =_
   rw[← h.ql,yYg (yXl _),y2f]
   rfl
 ·rcases g hl with hl|⟨rfl,rfl⟩
  ·exact h.sg n l hl
  ·trivial
 ·rcases g hl with hl|⟨rfl,rfl⟩
  ·exact h.nd n l hl
  ·exact List.nodup_nil
 ·obtain⟨n,l,hl,hkl⟩:=h.us k s hk hu
  exact⟨n,l,by rw[yYv (yWn.1 hl).1];exact hl,hkl⟩
theorem Arena.Wf.open {a:Arena} {Q:List (List Nat)} (h:a.Wf Q):a.openQ.Wf (Q++[[]]):=by
 refine⟨h.toWf0.open,fun n l hl k hk=> ?_⟩
 rw[List.getElem?_append]at hl
 split at hl
 ·exact h.pos n l hl k hk
 ·have:=(yWn.1 hl).1
  simp only[yZs]at this
  have e:n-Q.length=0:=by omega
  rw[e]at hl
  cases hl
  cases hk
theorem zJb {sl sl':List Slot} {n:Nat}:∀{l:List Nat} {p t:Int},(∀k∈l,∀s,sl[k]? =some s→∃s',sl'[k]? =some s'∧s'.used=s.used∧s'.n=s.n∧s'.queue=s.queue∧s'.ahead=s.ahead∧s'.back=s.back∧0≤s'.qty∧s'.qty≤1000000)→seg sl n p l t→seg sl' n p l t
 |[],p,t,_,h=>h
 |k::l,p,t,e,⟨⟨s,h1,h2⟩,h3⟩=>by
  obtain⟨s',q0,q1,q2,q3,q4,q5,q6,q7⟩:=e k yWp s h1
  exact⟨⟨s',q0,⟨q1.trans h2.used,q2.trans h2.no,q3.trans h2.queue,q4.trans h2.ahead,q5.trans h2.back,q6,q7⟩⟩,zJb (fun j hj=>e j (yWq _ hj)) h3⟩
theorem zSr (a:Arena) (n:Int) (t:Bool) (j:Nat):(a.topF n t).slotAt j=if a.usedAt n=true∧j=n.toNat then{a.slotAt j with top:=t}else a.slotAt j:=by
 rw[Arena.topF]
 by_cases hu:a.usedAt n=true
 ·rw[yWl hu]
  by_cases e:j=n.toNat
  ·subst e
   rw[yWl ⟨hu,rfl⟩]
   have hlt:n.toNat<a.slots.length:=by
    simp only[Arena.usedAt,yWw,yYe]at hu
    omega
   show(a.slots.modify n.toNat _).getD n.toNat slot0=_
   obtain⟨s,hs⟩:=yD hlt
   rw[zR (rX hs),xJ hs]
  ·rw[yWj (fun h=>e h.2)]
   show(a.slots.modify n.toNat _).getD j slot0=a.slots.getD j slot0
   rw[yWs,fA (fun h=>e h.symm),yWs]
 ·rw[yWj hu,yWj (fun h=>hu h.1)]
theorem Arena.Wf.top {a:Arena} {Q:List (List Nat)} (h:a.Wf Q) (n:Int) (t:Bool):(a.topF n t).Wf Q:=by
 have hq:∀j,((a.topF n t).slotAt j).qty=(a.slotAt j).qty:=by
  intro j
  rw[zSr]
  split<;>rfl
 by_cases hu:a.usedAt n=true
 ·have e:a.topF n t={a with slots:=a.slots.modify n.toNat fun s=>{s with top:=t}}:=by rw[Arena.topF,yWl hu]
  have hm:∀(k:Nat) (s:Slot),a.slots[k]? =some s→∃s',(a.topF n t).slots[k]? =some s'∧s'.used=s.used∧s'.n=s.n∧s'.queue=s.queue∧s'.ahead=s.ahead∧s'.back=s.back∧s'.qty=s.qty:=by
   intro k s hk
   rw[e]
   by_cases ek:n.toNat=k
   ·subst ek
    exact⟨_,rX hk,rfl,rfl,rfl,rfl,rfl,rfl⟩
   ·exact⟨s,by rw[fA ek];exact hk,rfl,rfl,rfl,rfl,rfl,rfl⟩
  have hl:(a.topF n t).slots.length=250:=by rw[e];simpa using h.len
  have hmu:(a.topF n t).slots.map (·.used)=a.slots.map (·.used):=by rw[e];exact eU (g:=fun s:Slot=>s.used) (f:=fun s:Slot=>{s with top:=t}) (fun _=>rfl) _ _
  refine⟨⟨hl,by rw[e];exact h.ql,fun m l hm'=> ?_,fun m l hm'=> ?_,h.nd,fun k s hk hs=> ?_,by rw[hmu];rw[e];exact h.free⟩,fun m l hm' k hk=>by rw[hq];exact h.pos m l hm' k hk⟩
  ·rw[bG fun k _=>hq k]
   rw[e];exact h.q m l hm'
  ·refine zJb (fun k hk s hs=> ?_) (h.sg m l hm')
   obtain⟨s',q0,q1,q2,q3,q4,q5,q6⟩:=hm k s hs
   obtain⟨_,⟨_,_,h2⟩,h3⟩:=h.mem hm' hk
   rw[hs]at h3;cases h3
   exact⟨s',q0,q1,q2,q3,q4,q5,by rw[q6];exact h2.q1,by rw[q6];exact h2.q2⟩
  ·have hlt:=(yWn.1 hk).1
   rw[hl,← h.len]at hlt
   obtain⟨s0,h0⟩:=yD hlt
   obtain⟨s',q0,q1,_⟩:=hm k s0 h0
   rw[hk]at q0;cases q0
   exact h.us k s0 h0 (by rw[← q1];exact hs)
 ·have e:a.topF n t=a:=by rw[Arena.topF,yWj hu]
  rw[e];exact h
theorem zIs {sl:List Slot} {k:Nat} {s x:Slot} (hk:sl[k]? =some s):((sl.set k x).map (·.used)).countP (!·)+(if s.used=true then 0 else 1)=(sl.map (·.used)).countP (!·)+(if x.used=true then 0 else 1):=by
 have hlt:=(yWn.1 hk).1
 have e:(sl.map (·.used))[k]'(by simpa using hlt)=s.used:=by
  rw[List.getElem_map,(yWn.1 hk).2]
 rw[List.map_set,List.countP_set (by simpa using hlt),e]
 have hp:s.used=false→1≤(sl.map (·.used)).countP (!·):=by
  intro h
  apply List.countP_pos_iff.2
  exact⟨s.used,yXq (yWt hk),by rw[h];rfl⟩
 generalize (sl.map (·.used)).countP (!·)=c at hp ⊢
 cases h1:s.used<;>cases h2:x.used
 all_goals
  simp only[h1,y1p,Bool.not_true,yXb,↓reduceIte,if_true,if_false]at hp ⊢
  try have hp:=hp trivial
  omega
theorem z2m {sl:List Slot}:(sl.map (·.used)).countP (!·)≤sl.length:=by
 have:=List.countP_le_length (p:=fun b:Bool=> !b) (l:=sl.map (·.used))
 simpa using this
theorem Arena.Wf0.unused {a:Arena} {Q:List (List Nat)} (h:a.Wf0 Q) (hf:a.free≠0):∃k:Nat,kJ a.slots=k∧k<250∧a.slots[k]? =some (a.slotAt k)∧(a.slotAt k).used=false∧∀(n:Nat) (l:List Nat),Q[n]? =some l→k∉l:=by
 have hx:∃s∈a.slots,s.used=false:=by
  have hp:0<(a.slots.map (·.used)).countP (!·):=by have:=h.free;omega
  obtain⟨b,hb,hb2⟩:=List.countP_pos_iff.1 hp
  obtain⟨s,hs,rfl⟩:=yYa.1 hb
  exact⟨s,hs,by simpa using hb2⟩
 obtain⟨s,hs,hu⟩:=hx
 cases hi:a.slots.findIdx? fun s=> !s.used with
 |none=>
  rw[y1c]at hi
  have:=hi s hs
  rw[hu]at this;cases this
 |some k=>
  have hi':=hi
  rw[yZo]at hi
  obtain⟨hk,hku,_⟩:=hi
  have hk1:a.slots[k]? =some a.slots[k]:=yXj hk
  have e:=xJ hk1
  rw[← e]at hku
  have hku:(a.slotAt k).used=false:=by simpa using hku
  refine⟨k,by rw[kJ,hi'];rfl,by rw[← h.len];exact hk,by rw[e];exact hk1,hku,fun n l hl hkl=> ?_⟩
  obtain⟨_,⟨_,_,h2⟩,_⟩:=h.mem hl hkl
  have:=h2.used
  rw[hku]at this
  cases this
theorem Arena.Wf.put {a:Arena} {Q:List (List Nat)} (h:a.Wf Q) {n:Nat} {l:List Nat} (hl:Q[n]? =some l) (hf:a.free≠0) {id qty:Int} (top:Bool) (hq:1≤qty∧qty≤1000000):
 ∃k:Nat,kJ a.slots=k∧k<250∧(a.slotAt k).used=false∧(∀(m:Nat) (l:List Nat),Q[m]? =some l→k∉l)∧(a.put n id qty top).Wf (Q.set n (l++[k]))∧
  (∀j,((a.put n id qty top).slotAt j).ent=if j=k then⟨k,id,qty,top⟩else(a.slotAt j).ent)∧(a.put n id qty top).free=a.free-1:=by
 obtain⟨k,hk,hk2,hk1,hku,hkn⟩:=h.toWf0.unused hf
 have hkl:=hkn n l hl
 have hnQ:=(yWn.1 hl).1
 have hqn:=h.q n l hl
 have hnq:a.queues.getD n bR=⟨vB l (-1),kK l (-1),a.qsum l,l.length⟩:=zR hqn
 have hsum:=h.toWf0.sum hl
 have hsh:=h.toWf0.short hl
 have hlen:=h.len
 have hcl:=z2m (sl:=a.slots)
 have hfree:=h.free
 obtain⟨x,hx⟩:∃x:Slot,x=⟨true,k,id,qty,top,n,kK l (-1),-1⟩:=⟨_,rfl⟩
 have hS:(a.put n id qty top).slots=if kK l (-1)= -1 then a.slots.set k x else(a.slots.set k x).modify (kK l (-1)).toNat fun s=>{s with back:=k}:=by
  simp only[Arena.put,yXa,hnq,hk,hx]
 have hQs:(a.put n id qty top).queues=a.queues.set n ⟨vB (l++[k]) (-1),k,a.qsum l+qty,(l.length:Int)+1⟩:=by
  simp only[Arena.put,yXa,hnq,hk]
  rw[w64 (by omega),w64 (by omega)]
  congr 2
  by_cases e:l=[]
  ·subst e;rfl
  ·rw[yWj (fun c=>e ((aY l).1 c)),zDv]
   cases l with
   |nil=>exact absurd rfl e
   |cons y ys=>rfl
 have hF:(a.put n id qty top).free=a.free-1:=by
  simp only[Arena.put]
  rw[w64 (by omega)]
 have hset:(a.slots.set k x)[k]? =some x:=gW (by omega)
 have hlo:kK l (-1)= -1∨∃(y:List Nat) (j:Nat),l=y++[j]∧kK l (-1)=(j:Int):=by
  rcases wA l with e|⟨y,j,e,e2⟩
  ·exact .inl ((aY l).2 e)
  ·exact .inr ⟨y,j,e,e2 _⟩
 have hoth:∀j,j≠k→(kK l (-1)≠(j:Int))→(a.put n id qty top).slots[j]? =a.slots[j]? :=by
  intro j hj hj2
  rw[hS]
  split
  ·exact vF (fun e=>hj e.symm)
  ·rcases hlo with e|⟨y,i,_,e⟩
   ·contradiction
   ·rw[fA (by omega),vF (fun e=>hj e.symm)]
 have hself:(a.put n id qty top).slots[k]? =some x:=by
  rw[hS]
  split
  ·exact hset
  ·rcases hlo with e|⟨y,i,e1,e⟩
   ·contradiction
   ·have:i≠k:=by rintro rfl;exact hkl (by rw[e1];simp)
    rw[fA (by omega)];exact hset
 have hlike:∀j,j≠k→((a.put n id qty top).slotAt j).ent=(a.slotAt j).ent∧((a.put n id qty top).slotAt j).used=(a.slotAt j).used∧((a.put n id qty top).slotAt j).qty=(a.slotAt j).qty:=by
  intro j hj
  by_cases c:kK l (-1)=(j:Int)
  ·have e:(a.put n id qty top).slots=(a.slots.set k x).modify j fun s=>{s with back:=k}:=by
    rw[hS,yWj (by omega),c];rfl
   by_cases hjl:j<a.slots.length
   ·obtain⟨s,hs⟩:=yD hjl
    have h1:(a.put n id qty top).slots[j]? =some {s with back:=k}:=by rw[e];exact rX (by rw[vF (fun e=>hj e.symm)];exact hs)
    rw[xJ h1,xJ hs];exact⟨rfl,rfl,rfl⟩
   ·have h1:(a.put n id qty top).slots[j]? =none:=yXm (by rw[e];simpa using hjl)
    have h2:a.slots[j]? =none:=yXm (by omega)
    rw[Arena.slotAt,Arena.slotAt,yWs,yWs,h1,h2]
    exact⟨rfl,rfl,rfl⟩
  ·have:=hoth j hj c
   rw[Arena.slotAt,Arena.slotAt,yWs,yWs,this]
   exact⟨rfl,rfl,rfl⟩
 have hselfA:(a.put n id qty top).slotAt k=x:=xJ hself
 have hent:∀j,((a.put n id qty top).slotAt j).ent=if j=k then⟨k,id,qty,top⟩else(a.slotAt j).ent:=by
  intro j
  split
  ·rename_i e;rw[e,hselfA,hx];rfl
  ·rename_i e;exact(hlike j e).1
 have gQ:∀{m:Nat} {l':List Nat},(Q.set n (l++[k]))[m]? =some l'→(m=n∧l'=l++[k])∨(m≠n∧Q[m]? =some l'):=by
  intro m l' hm
  exact dW hm
 have hsgn:seg (a.put n id qty top).slots n (-1) (l++[k]) (-1):=by
  rw[tU]
  refine⟨?_,⟨x,hself,?_⟩,trivial⟩
  ·rcases wA l with e|⟨y,j,e,e2⟩
   ·subst e;trivial
   ·have h0:=h.sg n l hl
    have hnd:=h.nd n l hl
    rw[hS,yWj (by rw[e2];omega),e2,yXa]
    rw[e]at h0 hnd hkl ⊢
    have hd:=yYu.1 hnd
    refine zXc (k:Int) (fun hj=>hd.2.2 j hj j yWp rfl) (t:= -1) ?_
    exact wR (fun i hi=>vF (fun e=>hkl (e▸hi))) h0
  ·rw[hx]
   exact⟨rfl,rfl,rfl,rfl,rfl,by dsimp only;omega,hq.2⟩
 refine⟨k,hk,hk2,hku,hkn,⟨⟨?_,?_,?_,?_,?_,?_,?_⟩,?_⟩,hent,hF⟩
 ·rw[hS];split<;>simp[hlen]
 ·rw[hQs];simp[h.ql]
 ·intro m l' hm
  rcases gQ hm with⟨rfl,rfl⟩|⟨e,hm⟩
  ·rw[hQs,gW (by rw[h.ql];exact hnQ),cD]
   have:(a.put m id qty top).qsum (l++[k])=a.qsum l+qty:=by
    rw[Arena.qsum,yWv,List.sum_append]
    have e1:l.map (fun k=>((a.put m id qty top).slotAt k).qty)=l.map fun k=>(a.slotAt k).qty:=yXs fun j hj=>(hlike j (fun e=>hkl (e▸hj))).2.2
    rw[e1]
    simp only[yWz,y0h,yXx,List.sum_nil,hselfA]
    rw[hx,Arena.qsum];dsimp only;omega
   rw[this]
   simp[kK]
  ·rw[hQs,vF (fun c=>e c.symm),h.q m l' hm,bG]
   intro j hj
   exact(hlike j (fun e=>hkn m l' hm (e▸hj))).2.2.symm
 ·intro m l' hm
  rcases gQ hm with⟨rfl,rfl⟩|⟨e,hm⟩
  ·exact hsgn
  ·refine wR (fun j hj=>hoth j (fun e=>hkn m l' hm (e▸hj)) fun c=> ?_) (h.sg m l' hm)
   rcases hlo with e2|⟨y,i,e1,e2⟩
   ·omega
   ·have:i=j:=by omega
    exact e (h.toWf0.one hm hl hj (by rw[e1];simp[this]))
 ·intro m l' hm
  rcases gQ hm with⟨rfl,rfl⟩|⟨e,hm⟩
  ·refine yYu.2 ⟨h.nd m l hl,by simp,?_⟩
   rintro i hi j hj rfl
   rw[yYc.1 hj]at hi
   exact hkl hi
  ·exact h.nd m l' hm
 ·intro j s hj hs
  by_cases e:j=k
  ·exact⟨n,l++[k],gW hnQ,by rw[e];simp⟩
  ·have hu:(a.slotAt j).used=true:=by rw[← (hlike j e).2.1,xJ hj];exact hs
   have hjl:j<a.slots.length:=by
    have:=(yWn.1 hj).1
    rw[hS]at this
    split at this<;>simpa using this
   obtain⟨s',hs'⟩:=yD hjl
   rw[xJ hs']at hu
   obtain⟨m,l',hm,hjm⟩:=h.us j s' hs' hu
   by_cases em:m=n
   ·subst em
    rw[hl]at hm;cases hm
    exact⟨m,l++[k],gW hnQ,yXy _ hjm⟩
   ·exact⟨m,l',by rw[vF (fun c=>em c.symm)];exact hm,hjm⟩
 ·have hmu:(a.put n id qty top).slots.map (·.used)=(a.slots.set k x).map (·.used):=by
   rw[hS]
   split
   ·rfl
   ·exact eU (g:=fun s:Slot=>s.used) (f:=fun s:Slot=>{s with back:=k}) (fun _=>rfl) _ _
  have:=zIs (x:=x) hk1
  rw[hku,yWj (by decide),show x.used=true by rw[hx],yWl rfl]at this
  rw[hmu,hF,hfree]
  omega
 ·intro m l' hm j hj
  rcases gQ hm with⟨rfl,rfl⟩|⟨e,hm⟩
  ·rcases yXo.1 hj with hj|hj
   ·rw[(hlike j (fun e=>hkl (e▸hj))).2.2];exact h.pos m l hl j hj
   ·rw[yYc.1 hj,hselfA,hx];exact hq.1
  ·rw[(hlike j (fun e=>hkn m l' hm (e▸hj))).2.2];exact h.pos m l' hm j hj
open Go Cv Go.Proofs
theorem zCa (a:Arena) (k:Nat) (q:Int) (j:Nat) (hk:k<a.slots.length):(a.less k q).slotAt j=if j=k then{a.slotAt j with qty:=(a.slotAt j).qty-q}else a.slotAt j:=by
 split
 ·rename_i e
  subst e
  obtain⟨s,hs⟩:=yD hk
  rw[xJ hs,xJ (a:=a.less j q) (rX hs)]
 ·rename_i e
  show(a.slots.modify k _).getD j slot0=a.slots.getD j slot0
  rw[yWs,fA (fun c=>e c.symm),yWs]
theorem Arena.Wf0.less {a:Arena} {Q:List (List Nat)} (h:a.Wf0 Q) {n k:Nat} {l:List Nat} (hl:Q[n]? =some l) (hk:k∈l) {q:Int} (hq:0≤q∧q≤(a.slotAt k).qty):(a.less k q).Wf0 Q:=by
 obtain⟨hk2,⟨p,t,hs⟩,hk1⟩:=h.mem hl hk
 have hkl:k<a.slots.length:=by rw[h.len];exact hk2
 have hqt:(a.slotAt k).queue.toNat=n:=by rw[hs.queue];exact yXa n
 have hm:∀(j:Nat) (s:Slot),a.slots[j]? =some s→∃s',(a.less k q).slots[j]? =some s'∧s'.used=s.used∧s'.n=s.n∧s'.queue=s.queue∧s'.ahead=s.ahead∧s'.back=s.back:=by
  intro j s hj
  by_cases e:k=j
  ·subst e
   exact⟨_,rX hj,rfl,rfl,rfl,rfl,rfl⟩
  ·exact⟨s,by rw[show(a.less k q).slots=a.slots.modify k _ from rfl,fA e];exact hj,rfl,rfl,rfl,rfl,rfl⟩
 have hsl:(a.less k q).slots.length=250:=by simpa[Arena.less]using h.len
 have hqs:(a.less k q).queues=a.queues.modify n fun x=>{x with total:=IntKind.i64.wrap (x.total-q)}:=by rw[Arena.less,hqt]
 have hmu:(a.less k q).slots.map (·.used)=a.slots.map (·.used):=eU (g:=fun s:Slot=>s.used) (f:=fun s:Slot=>{s with qty:=s.qty-q}) (fun _=>rfl) _ _
 refine⟨hsl,by rw[hqs];simpa using h.ql,fun m l' hm'=> ?_,fun m l' hm'=> ?_,h.nd,fun j s hj hu=> ?_,by rw[hmu];exact h.free⟩
 ·by_cases e:n=m
  ·subst e
   rw[hl]at hm';cases hm'
   rw[hqs,rX (h.q n l hl)]
   have hsum:=h.sum hl
   have e2:(a.less k q).qsum l=a.qsum l-q:=by
    rw[Arena.qsum,Arena.qsum,z3j (k:=k) (f:=fun k=>(a.slotAt k).qty) (h.nd n l hl) hk]
    ·rw[zCa a k q k hkl,yWl rfl];dsimp only;omega
    ·intro j _ hj
     rw[zCa a k q j hkl,yWj hj]
   have h1:=hs.q2
   rw[e2]
   dsimp only
   rw[w64 (by omega)]
  ·rw[hqs,fA e,h.q m l' hm',bG]
   intro j hj
   have:j≠k:=fun c=>e (h.one hl hm' hk (c▸hj))
   rw[zCa a k q j hkl,yWj this]
 ·refine zJb (fun j hj s hs'=> ?_) (h.sg m l' hm')
  obtain⟨s',q0,q1,q2,q3,q4,q5⟩:=hm j s hs'
  refine⟨s',q0,q1,q2,q3,q4,q5,?_⟩
  have e:=xJ q0
  rw[← e,zCa a k q j hkl]
  obtain⟨_,⟨_,_,h2⟩,h3⟩:=h.mem hm' hj
  have:=h2.q1
  have:=h2.q2
  split
  ·rename_i c
   subst c
   dsimp only
   omega
  ·omega
 ·have hlt:=(yWn.1 hj).1
  rw[hsl,← h.len]at hlt
  obtain⟨s0,h0⟩:=yD hlt
  obtain⟨s',q0,q1,_⟩:=hm j s0 h0
  rw[hj]at q0;cases q0
  exact h.us j s0 h0 (by rw[← q1];exact hu)
theorem Arena.Wf0.drop {a:Arena} {Q:List (List Nat)} (h:a.Wf0 Q) {n k:Nat} {l1 l2:List Nat} (hl:Q[n]? =some (l1++k::l2)) (h0:(a.slotAt k).qty=0):
 (a.dropF k).Wf0 (Q.set n (l1++l2))∧(∀j,j≠k→((a.dropF k).slotAt j).ent=(a.slotAt j).ent∧((a.dropF k).slotAt j).used=(a.slotAt j).used∧((a.dropF k).slotAt j).qty=(a.slotAt j).qty)∧(a.dropF k).slotAt k=slot0∧(a.dropF k).free=a.free+1:=by
 have hkm:k∈l1++k::l2:=by simp
 have hnQ:=(yWn.1 hl).1
 obtain⟨hk2,_,hk1⟩:=h.mem hl hkm
 have hlen:=h.len
 have hkl:k<a.slots.length:=by omega
 have hsg:=h.sg n _ hl
 have hnd:=h.nd n _ hl
 have hd:=yYu.1 hnd
 have hd2:=yZb.1 hd.2.1
 have k1:k∉l1:=fun hk=>hd.2.2 k hk k yWp rfl
 have k2:k∉l2:=hd2.1
 rw[tU]at hsg
 obtain⟨g1,⟨s,hs1,hs⟩,g2⟩:=hsg
 have es:=xJ hs1
 have eqn:(a.queues.getD s.queue.toNat bR)=⟨vB (l1++k::l2) (-1),kK (l1++k::l2) (-1),a.qsum (l1++k::l2),(l1++k::l2).length⟩:=by
  rw[hs.queue,yXa];exact zR (h.q n _ hl)
 have hfree:=h.free
 have hcl:=z2m (sl:=a.slots)
 have hsh:=h.short hl
 obtain⟨sl1,hsl1⟩:∃sl1,sl1=if kK l1 (-1)= -1 then a.slots else a.slots.modify (kK l1 (-1)).toNat fun x=>{x with back:=vB l2 (-1)}:=⟨_,rfl⟩
 obtain⟨sl2,hsl2⟩:∃sl2,sl2=if vB l2 (-1)= -1 then sl1 else sl1.modify (vB l2 (-1)).toNat fun x=>{x with ahead:=kK l1 (-1)}:=⟨_,rfl⟩
 have hS:(a.dropF k).slots=sl2.set k slot0:=by
  simp only[Arena.dropF,es,hs.ahead,hs.back]
  rw[hsl2,hsl1]
 have hQs:(a.dropF k).queues=a.queues.set n ⟨vB (l1++l2) (-1),kK (l1++l2) (-1),a.qsum (l1++l2),(l1++l2).length⟩:=by
  simp only[Arena.dropF,es,eqn,hs.ahead,hs.back]
  rw[hs.queue,yXa]
  have el:(l1++k::l2).length=(l1++l2).length+1:=by simp;omega
  have eq:a.qsum (l1++k::l2)=a.qsum (l1++l2):=by
   rw[Arena.qsum,Arena.qsum,yWv,List.sum_append,yWv,List.sum_append,yWz,yXx,h0]
   omega
  rw[el]at hsh ⊢
  rw[w64 (by omega),eq]
  congr 2
  ·cases l1 with
   |nil=>simp[kK,zDv,vB]
   |cons y ys=>
    rw[yWj (by rw[aY];simp)]
    rfl
  ·rcases wA l2 with e|⟨x,j,e,e2⟩
   ·subst e;simp[vB,cD,kK]
   ·have:l2≠[]:=by rw[e];simp
    rw[yWj (fun c=>this ((zPf l2).1 c)),cD,cD,kK,e2,e2]
  ·simp
 have hF:(a.dropF k).free=a.free+1:=by
  simp only[Arena.dropF]
  rw[w64 (by omega)]
 have hc1:kK l1 (-1)= -1∨∃(y:List Nat) (j:Nat),l1=y++[j]∧kK l1 (-1)=(j:Int):=by
  rcases wA l1 with e|⟨y,j,e,e2⟩
  ·exact .inl ((aY l1).2 e)
  ·exact .inr ⟨y,j,e,e2 _⟩
 have hc2:vB l2 (-1)= -1∨∃(y:List Nat) (j:Nat),l2=j::y∧vB l2 (-1)=(j:Int):=by
  cases l2 with
  |nil=>exact .inl rfl
  |cons j y=>exact .inr ⟨y,j,rfl,rfl⟩
 have hoth:∀j,j∉l1→j∉l2→j≠k→(a.dropF k).slots[j]? =a.slots[j]? :=by
  intro j h1 h2 h3
  rw[hS,vF (fun e=>h3 e.symm),hsl2]
  have e1:sl1[j]? =a.slots[j]? :=by
   rw[hsl1]
   split
   ·rfl
   ·rcases hc1 with e|⟨y,i,e,e2⟩
    ·contradiction
    ·rw[fA]
     rw[e2,yXa]
     rintro rfl
     exact h1 (by rw[e];simp)
  split
  ·exact e1
  ·rcases hc2 with e|⟨y,i,e,e2⟩
   ·contradiction
   ·rw[fA,e1]
    rw[e2,yXa]
    rintro rfl
    exact h2 (by rw[e];simp)
 have hlike:∀j,j≠k→((a.dropF k).slotAt j).ent=(a.slotAt j).ent∧((a.dropF k).slotAt j).used=(a.slotAt j).used∧((a.dropF k).slotAt j).qty=(a.slotAt j).qty:=by
  intro j hj
  have m1:∀(sl:List Slot) (i:Nat) (b:Int),((sl.modify i fun x=>{x with back:=b}).getD j slot0).ent=(sl.getD j slot0).ent∧((sl.modify i fun x=>{x with back:=b}).getD j slot0).used=(sl.getD j slot0).used∧((sl.modify i fun x=>{x with back:=b}).getD j slot0).qty=(sl.getD j slot0).qty:=by
   intro sl i b
   rw[yWs,yWs,y2e]
   cases sl[j]? with
   |none=>exact⟨rfl,rfl,rfl⟩
   |some s=>by_cases e:i=j<;>simp[e,Slot.ent]
  have m2:∀(sl:List Slot) (i:Nat) (b:Int),((sl.modify i fun x=>{x with ahead:=b}).getD j slot0).ent=(sl.getD j slot0).ent∧((sl.modify i fun x=>{x with ahead:=b}).getD j slot0).used=(sl.getD j slot0).used∧((sl.modify i fun x=>{x with ahead:=b}).getD j slot0).qty=(sl.getD j slot0).qty:=by
   intro sl i b
   rw[yWs,yWs,y2e]
   cases sl[j]? with
   |none=>exact⟨rfl,rfl,rfl⟩
   |some s=>by_cases e:i=j<;>simp[e,Slot.ent]
  have e0:(a.dropF k).slotAt j=sl2.getD j slot0:=by
   rw[Arena.slotAt,hS,yWs,vF (fun e=>hj e.symm),yWs]
  have e1:(sl1.getD j slot0).ent=(a.slotAt j).ent∧(sl1.getD j slot0).used=(a.slotAt j).used∧(sl1.getD j slot0).qty=(a.slotAt j).qty:=by
   rw[hsl1]
   split
   ·exact⟨rfl,rfl,rfl⟩
   ·exact m1 _ _ _
  have e2:(sl2.getD j slot0).ent=(sl1.getD j slot0).ent∧(sl2.getD j slot0).used=(sl1.getD j slot0).used∧(sl2.getD j slot0).qty=(sl1.getD j slot0).qty:=by
   rw[hsl2]
   split
   ·exact⟨rfl,rfl,rfl⟩
   ·exact m2 _ _ _
  rw[e0]
  exact⟨e2.1.trans e1.1,e2.2.1.trans e1.2.1,e2.2.2.trans e1.2.2⟩
 have hl1:sl1.length=250:=by rw[hsl1];split<;>simp[hlen]
 have hl2:sl2.length=250:=by rw[hsl2];split<;>simp[hl1]
 have hself:(a.dropF k).slots[k]? =some slot0:=by rw[hS];exact gW (by omega)
 have hsgn:seg (a.dropF k).slots n (-1) (l1++l2) (-1):=by
  rw[hS,tU]
  constructor
  ·--the part ahead
   refine wR (sl:=sl2) (fun j hj=>vF (fun e=>k1 (e▸hj))) ?_
   have f1:seg sl1 n (-1) l1 (vB l2 (-1)):=by
    rcases wA l1 with e|⟨y,j,e,e2⟩
    ·subst e;trivial
    ·rw[hsl1,yWj (by rw[e2];omega),e2,yXa]
     subst e
     have hd3:=yYu.1 hd.1
     exact zXc _ (fun hj=>hd3.2.2 j hj j yWp rfl) g1
   refine wR (fun j hj=> ?_) f1
   rw[hsl2]
   split
   ·rfl
   ·rcases hc2 with e|⟨y,i,e,e2⟩
    ·contradiction
    ·refine fA ?_
     rw[e2,yXa]
     rintro rfl
     exact hd.2.2 i hj i (yWq _ (by rw[e];simp)) rfl
  ·--the part behind
   refine wR (sl:=sl2) (fun j hj=>vF (fun e=>k2 (e▸hj))) ?_
   have f1:seg sl1 n k l2 (-1):=by
    refine wR (fun j hj=> ?_) g2
    rw[hsl1]
    split
    ·rfl
    ·rcases hc1 with e|⟨y,i,e,e2⟩
     ·contradiction
     ·refine fA ?_
      rw[e2,yXa]
      rintro rfl
      exact hd.2.2 i (by rw[e];simp) i (yWq _ hj) rfl
   rcases hc2 with e|⟨y,j,e,e2⟩
   ·rw[(zPf l2).1 e];trivial
   ·rw[hsl2,yWj (by rw[e2];omega),e2,yXa]
    rw[e]at f1 hd2 ⊢
    exact z4u _ (yZb.1 hd2.2).1 f1
 refine⟨⟨?_,?_,?_,?_,?_,?_,?_⟩,hlike,xJ hself,hF⟩
 ·rw[hS,yXf];exact hl2
 ·rw[hQs];simp[h.ql]
 ·intro m l' hm
  rcases dW hm with⟨rfl,rfl⟩|⟨e,hm⟩
  ·rw[hQs,gW (by rw[h.ql];exact hnQ)]
   congr 2
   refine(bG fun j hj=>(hlike j fun e=> ?_).2.2).symm
   subst e
   rcases yXo.1 hj with hj|hj
   ·exact k1 hj
   ·exact k2 hj
  ·rw[hQs,vF (fun c=>e c.symm),h.q m l' hm]
   congr 2
   refine(bG fun j hj=>(hlike j fun e2=> ?_).2.2).symm
   subst e2
   exact e (h.one hm hl hj hkm)
 ·intro m l' hm
  rcases dW hm with⟨rfl,rfl⟩|⟨e,hm⟩
  ·exact hsgn
  ·refine wR (fun j hj=>hoth j ?_ ?_ ?_) (h.sg m l' hm)
   ·exact fun c=>e (h.one hm hl hj (yXy _ c))
   ·exact fun c=>e (h.one hm hl hj (yYb _ (yWq _ c)))
   ·rintro rfl;exact e (h.one hm hl hj hkm)
 ·intro m l' hm
  rcases dW hm with⟨rfl,rfl⟩|⟨e,hm⟩
  ·refine yYu.2 ⟨hd.1,hd2.2,fun i hi j hj=>hd.2.2 i hi j (yWq _ hj)⟩
  ·exact h.nd m l' hm
 ·intro j s' hj hu
  have hjk:j≠k:=by
   rintro rfl
   rw[hself]at hj;cases hj;cases hu
  have hu2:(a.slotAt j).used=true:=by rw[← (hlike j hjk).2.1,xJ hj];exact hu
  have hjl:j<a.slots.length:=by
   have:=(yWn.1 hj).1
   rw[hS,yXf]at this
   omega
  obtain⟨s0,hs0⟩:=yD hjl
  rw[xJ hs0]at hu2
  obtain⟨m,l',hm,hjm⟩:=h.us j s0 hs0 hu2
  by_cases em:m=n
  ·subst em
   rw[hl]at hm;cases hm
   refine⟨m,_,gW hnQ,?_⟩
   rcases yXo.1 hjm with hj|hj
   ·exact yXy _ hj
   ·rcases yXe.1 hj with e|hj
    ·exact absurd e hjk
    ·exact yYb _ hj
  ·exact⟨m,l',by rw[vF (fun c=>em c.symm)];exact hm,hjm⟩
 ·have hmu:(a.dropF k).slots.map (·.used)=(a.slots.set k slot0).map (·.used):=by
   have e1:sl2.map (·.used)=a.slots.map (·.used):=by
    have f2:sl2.map (·.used)=sl1.map (·.used):=by
     rw[hsl2]
     split
     ·rfl
     ·exact eU (g:=fun s:Slot=>s.used) (f:=fun s:Slot=>{s with ahead:=kK l1 (-1)}) (fun _=>rfl) _ _
    have f1:sl1.map (·.used)=a.slots.map (·.used):=by
     rw[hsl1]
     split
     ·rfl
     ·exact eU (g:=fun s:Slot=>s.used) (f:=fun s:Slot=>{s with back:=vB l2 (-1)}) (fun _=>rfl) _ _
    rw[f2,f1]
   rw[hS,List.map_set,e1,List.map_set]
  have:=zIs (x:=slot0) hs1
  rw[hs.used,yWl rfl,show slot0.used=false from rfl,yWj (by decide)]at this
  rw[hmu,hF,hfree]
  omega
theorem Arena.Wf.take {a:Arena} {Q:List (List Nat)} (h:a.Wf Q) {n k:Nat} {l:List Nat} (hl:Q[n]? =some l) (hk:k∈l) {q:Int} (hq:1≤q∧q≤(a.slotAt k).qty):
 (a.takeF k q).2=0∧(∀j,j≠k→((a.takeF k q).1.slotAt j).ent=(a.slotAt j).ent∧((a.takeF k q).1.slotAt j).used=(a.slotAt j).used)∧
   (if(a.slotAt k).qty=q then(a.takeF k q).1.Wf (Q.set n (l.erase k))∧(a.takeF k q).1.slotAt k=slot0∧(a.takeF k q).1.free=a.free+1
    else(a.takeF k q).1.Wf Q∧(a.takeF k q).1.slotAt k={a.slotAt k with qty:=(a.slotAt k).qty-q}∧(a.takeF k q).1.free=a.free):=by
 obtain⟨hk2,⟨p,t,hs⟩,hk1⟩:=h.toWf0.mem hl hk
 have hkl:k<a.slots.length:=by rw[h.len];exact hk2
 have hu:a.usedAt k=true:=by
  simp only[Arena.usedAt,yWw,yYe]
  refine⟨by omega,by omega,?_⟩
  rw[yXa]
  exact hs.used
 have hless:=h.toWf0.less hl hk (q:=q) (by omega)
 have hat:=zCa a k q
 rw[Arena.takeF,yWj (by rw[hu];decide),yXa,yWj (by omega)]
 by_cases e:(a.slotAt k).qty=q
 ·rw[yWl e,yWl e]
  obtain⟨l1,l2,rfl⟩:=List.append_of_mem hk
  have hnd:=h.nd n _ hl
  have hd:=yYu.1 hnd
  have k1:k∉l1:=fun hk=>hd.2.2 k hk k yWp rfl
  obtain⟨d1,d2,d3,d4⟩:=hless.drop hl (by rw[hat k hkl,yWl rfl];dsimp only;omega)
  have ee:(l1++k::l2).erase k=l1++l2:=by rw[List.erase_append_right _ k1,List.erase_cons_head]
  refine⟨rfl,fun j hj=> ?_,?_,d3,d4⟩
  ·have:=d2 j hj
   rw[hat j hkl,yWj hj]at this
   exact⟨this.1,this.2.1⟩
  ·rw[ee]
   refine⟨d1,fun m l' hm j hj=> ?_⟩
   have hj2:j≠k∧∃l'',Q[m]? =some l''∧j∈l'':=by
    have hd2:=yZb.1 hd.2.1
    rcases dW hm with⟨rfl,rfl⟩|⟨e3,hm⟩
    ·refine⟨?_,_,hl,?_⟩
     ·rintro rfl
      rcases yXo.1 hj with hj|hj
      ·exact k1 hj
      ·exact hd2.1 hj
     ·rcases yXo.1 hj with hj|hj
      ·exact yXy _ hj
      ·exact yYb _ (yWq _ hj)
    ·refine⟨?_,_,hm,hj⟩
     rintro rfl
     exact e3 (h.toWf0.one hm hl hj hk)
   obtain⟨hj3,l'',hm2,hj4⟩:=hj2
   have:=(d2 j hj3).2.2
   rw[hat j hkl,yWj hj3]at this
   dsimp only
   rw[this]
   exact h.pos m l'' hm2 j hj4
 ·rw[yWj e,yWj e]
  refine⟨rfl,fun j hj=> ?_,⟨hless,fun m l' hm j hj=> ?_⟩,?_,rfl⟩
  ·dsimp only
   rw[hat j hkl,yWj hj];exact⟨rfl,rfl⟩
  ·dsimp only
   rw[hat j hkl]
   split
   ·rename_i c
    subst c
    dsimp only
    omega
   ·exact h.pos m l' hm j hj
  ·dsimp only
   rw[hat k hkl,yWl rfl]
open Go Cv Go.Proofs
theorem xA {α β:Type} {f g:α→List β}:∀{l:List α},(∀x∈l,f x=g x)→l.flatMap f=l.flatMap g
 |[],_=>rfl
 |x::l,h=>by rw[yXv,yXv,h x yWp,xA fun y hy=>h y (yWq _ hy)]
theorem rZ {α β γ:Type} {f:α→List β} {g:β→γ}:∀(l:List α),(l.flatMap f).map g=l.flatMap fun x=>(f x).map g
 |[]=>rfl
 |x::l=>by rw[yXv,yXv,yWv,rZ l]
theorem z0e {α β:Type} {f:α→List β}:∀{l:List α},(∀x∈l,f x≠[])→l.length≤(l.flatMap f).length
 |[],_=>yXl 0
 |x::l,h=>by
  have:=z0e (l:=l) fun y hy=>h y (yWq _ hy)
  have:=List.length_pos_iff.2 (h x yWp)
  rw[yXv,yWi,yWr];omega
theorem zFo {α:Type} [DecidableEq α]:∀{l m:List α},l.Nodup→(∀x∈l,x∈m)→l.length≤m.length
 |[],_,_,_=>yYh _
 |x::l,m,h,hs=>by
  have hd:=yZb.1 h
  have hx:=hs x yWp
  have:=zFo (l:=l) (m:=m.erase x) hd.2 fun y hy=>by
   have hne:y≠x:=by rintro rfl;exact hd.1 hy
   exact(List.mem_erase_of_ne hne).2 (hs y (yWq _ hy))
  rw[List.length_erase_of_mem hx]at this
  have:=List.length_pos_of_mem hx
  rw[yWr];omega
theorem z6o {l:List Int} (h:l.Nodup) (hr:∀x∈l,0≤x∧x<l.length) {n:Nat} (hn:n<l.length):(n:Int)∈l:=by
 apply Classical.byContradiction
 intro hx
 have hnd:((n:Int)::l).Nodup:=yZb.2 ⟨hx,h⟩
 have:=zFo (m:=(List.range l.length).map fun k:Nat=>(k:Int)) hnd fun y hy=>by
  rw[yYa]
  rcases yXe.1 hy with rfl|hy
  ·exact⟨n,yZl.2 hn,rfl⟩
  ·have:=hr y hy
   exact⟨y.toNat,yZl.2 (by omega),by omega⟩
 simp at this
 omega
theorem zHr {α β:Type} {l:List (α×β)} (h:(l.map (·.1)).Nodup) {k:α} {x y:β} (hx:(k,x)∈l) (hy:(k,y)∈l):x=y:=by
 induction l with
 |nil=>cases hx
 |cons p l ih=>
  rw[yWz,yZb]at h
  rcases yXe.1 hx with ex|hx<;>rcases yXe.1 hy with ey|hy
  ·rw[← ex]at ey;exact(Prod.mk.inj ey).2.symm
  ·exact absurd (yXq (f:=(·.1)) hy) (by rw[← ex]at h;exact h.1)
  ·exact absurd (yXq (f:=(·.1)) hx) (by rw[← ey]at h;exact h.1)
  ·exact ih h.2 hx hy
theorem rM:∀{l:List (Int×Place)} {k:Int} {x:Place},pget l k=some x→(k,x)∈l
 |[],k,x,h=>by cases h
 |p::l,k,x,h=>by
  rw[pget,List.find?_cons]at h
  by_cases e:p.1=k
  ·rw[yXc e]at h
   simp only[yYk,Option.some.injEq]at h
   subst h;subst e
   exact yWp
  ·rw[yWx e]at h
   exact yWq _ (rM h)
theorem zDp {l:List (Int×Place)} {k:Int} (h:pget l k=none):k∉l.map (·.1):=by
 intro hk
 obtain⟨⟨k',x⟩,hx,rfl⟩:=yYa.1 hk
 rw[pget,Option.map_eq_none_iff,List.find?_eq_none]at h
 have:=h _ hx
 simp at this
theorem zWk:∀{l:List (Int×Place)} {k:Int} {x:Place},k∉l.map (·.1)→pE k x l=l++[(k,x)]
 |[],k,x,_=>rfl
 |p::l,k,x,h=>by
  rw[yWz,yXe,not_or]at h
  rw[pE,yWj h.1,zWk h.2];rfl
def y9 (Q:List (List Nat)) (r:xH):List Nat:=Q.getD r.queue.toNat []
def yEc (s p:Int) (e:Ent):zH:=⟨e.id,s,p,e.qty,e.top⟩
def wO (a:Arena) (s p:Int) (k:Nat):zH:=yEc s p (a.slotAt k).ent
def Book.rOrds (b:Book) (Q:List (List Nat)) (s:Int) (r:xH):List zH:=(y9 Q r).map (wO b.a s r.price)
def Book.sideL (b:Book) (Q:List (List Nat)) (s:Int):List zH:=(b.rungs s).flatMap (b.rOrds Q s)
def Book.flat (b:Book) (Q:List (List Nat)):List zH:=b.sideL Q 1++b.sideL Q 2
def vA (a:Arena) (s p:Int) (k:Nat):Int×Place:=((a.slotAt k).id,⟨s,p,k⟩)
def Book.plcs (b:Book) (Q:List (List Nat)) (s:Int):List (Int×Place):=(b.rungs s).flatMap fun r=>(y9 Q r).map (vA b.a s r.price)
def Book.qs (b:Book):List Int:=b.buys.map (·.queue)++b.sells.map (·.queue)++b.spare
structure Book.Core (b:Book) (Q:List (List Nat)) (hole:Int):Prop where
 wf:b.a.Wf Q
 srt:∀s,s=1∨s=2→(b.rungs s).Pairwise fun r r'=>btr s r.price r'.price=true
 rng:∀q∈b.qs,0≤q∧q<Q.length
 nd:b.qs.Nodup
 ql:b.qs.length=Q.length
 ne:∀s,s=1∨s=2→∀r∈b.rungs s,r.queue≠hole→y9 Q r≠[]
 sp:∀q∈b.spare,Q.getD q.toNat []=[]
 at_:b.at_.Perm (b.plcs Q 1++b.plcs Q 2)
 ids:((b.flat Q).map (·.id)).Nodup
 qb:Q.length≤250
structure Book.Tops (b:Book) (L:List zH):Prop where
 fl:∀o∈L,o.top=(b.hasF o.side && decide (o.id=b.topI o.side))
 th:∀s,s=1∨s=2→b.hasF s=true→∃o∈L,o.side=s∧o.id=b.topI s
structure Book.Rep (b:Book) (L:List zH):Prop where
 ex:∃Q,b.Core Q (-1)∧b.Tops L∧L=b.flat Q
theorem bC (b:Book) (Q:List (List Nat)) (s:Int):(b.plcs Q s).map (·.1)=(b.sideL Q s).map (·.id):=by
 rw[Book.plcs,Book.sideL,rZ,rZ]
 refine xA fun r _=> ?_
 rw[Book.rOrds,yZc,yZc]
 rfl
theorem Book.Core.keysP {b:Book} {Q:List (List Nat)} {h:Int} (c:b.Core Q h):(b.at_.map (·.1)).Perm ((b.flat Q).map (·.id)):=by
 have:=c.at_.map (·.1)
 rw[yWv,bC,bC,← yWv]at this
 exact this
theorem Book.Core.keys {b:Book} {Q:List (List Nat)} {h:Int} (c:b.Core Q h):(b.at_.map (·.1)).Nodup:=c.keysP.nodup_iff.2 c.ids
theorem Book.Core.len {b:Book} {Q:List (List Nat)} {h:Int} (c:b.Core Q h):b.at_.length=(b.flat Q).length:=by
 have:=c.keysP.length_eq
 simpa using this
theorem Book.Core.plc {b:Book} {Q:List (List Nat)} {h:Int} (c:b.Core Q h) {s:Int} (hs:s=1∨s=2) {r:xH} (hr:r∈b.rungs s) {k:Nat} (hk:k∈y9 Q r):((b.a.slotAt k).id,(⟨s,r.price,k⟩:Place))∈b.at_:=by
 refine c.at_.mem_iff.2 ?_
 have hp:vA b.a s r.price k∈b.plcs Q s:=yYz.2 ⟨r,hr,yXq hk⟩
 rcases hs with rfl|rfl
 ·exact yXy _ hp
 ·exact yYb _ hp
theorem Book.Core.plcI {b:Book} {Q:List (List Nat)} {h:Int} (c:b.Core Q h) {id:Int} {x:Place} (hx:(id,x)∈b.at_):∃(k:Nat) (r:xH),(x.side=1∨x.side=2)∧r∈b.rungs x.side∧k∈y9 Q r∧x=⟨x.side,r.price,k⟩∧(b.a.slotAt k).id=id:=by
 have:=c.at_.mem_iff.1 hx
 rcases yXo.1 this with hp|hp
 all_goals
  obtain⟨r,hr,hp⟩:=yYz.1 hp
  obtain⟨k,hk,e⟩:=yYa.1 hp
  simp only[vA,Prod.mk.injEq]at e
  obtain⟨e1,rfl⟩:=e
  exact⟨k,r,by simp,hr,hk,rfl,e1⟩
theorem zUx {Q:List (List Nat)} {r:xH} (h:0≤r.queue∧r.queue<Q.length):Q[r.queue.toNat]? =some (y9 Q r):=by
 obtain⟨l,hl⟩:=yD (l:=Q) (i:=r.queue.toNat) (by omega)
 rw[y9,zR hl,hl]
theorem uG {b:Book} {s:Int} (hs:s=1∨s=2) {r:xH} (hr:r∈b.rungs s):r.queue∈b.qs:=by
 rcases hs with rfl|rfl
 ·exact yXy _ (yXy _ (yXq (f:=(·.queue)) hr))
 ·exact yXy _ (yYb _ (yXq (f:=(·.queue)) hr))
theorem Book.Core.get {b:Book} {Q:List (List Nat)} {h:Int} (c:b.Core Q h) {s:Int} (hs:s=1∨s=2) {r:xH} (hr:r∈b.rungs s):Q[r.queue.toNat]? =some (y9 Q r):=zUx (c.rng _ (uG hs hr))
def clr (L:List zH) (s:Int):List zH:=L.map fun o=>if o.side=s then{o with top:=false}else o
theorem eL (s x:Int):btr s x x=false:=by
 rw[btr];split<;>exact yWx (by omega)
theorem Book.Core.flag {b:Book} {Q:List (List Nat)} {h:Int} (c:b.Core Q h) {a':Arena} (hw:a'.Wf Q) (hi:∀k,(a'.slotAt k).id=(b.a.slotAt k).id):({b with a:=a'}:Book).Core Q h:=by
 have e1:∀s,({b with a:=a'}:Book).plcs Q s=b.plcs Q s:=by
  intro s
  refine xA fun r _=>yXs fun k _=> ?_
  simp only[vA,hi]
 have e2:((({b with a:=a'}:Book).flat Q).map (·.id))=(b.flat Q).map (·.id):=by
  rw[Book.flat,Book.flat,yWv,yWv,← bC,← bC,← bC,← bC,e1,e1]
 exact⟨hw,c.srt,c.rng,c.nd,c.ql,c.ne,c.sp,by rw[e1,e1];exact c.at_,by rw[e2];exact c.ids,c.qb⟩
theorem yFd (a:Arena) (n:Int) (t:Bool) (k:Nat):((a.topF n t).slotAt k).id=(a.slotAt k).id:=by
 rw[zSr];split<;>rfl
theorem Book.Core.untop {b:Book} {Q:List (List Nat)} {h:Int} (c:b.Core Q h) (s:Int):(b.untop s).Wf Q∧∀k,((b.untop s).slotAt k).id=(b.a.slotAt k).id:=by
 rw[Book.untop]
 repeat' split
 all_goals first|exact⟨c.wf,fun _=>rfl⟩|exact⟨c.wf.top _ _,fun k=>yFd _ _ _ k⟩
theorem Book.Core.untop_flat {b:Book} {Q:List (List Nat)} {h:Int} (c:b.Core Q h) (ht:b.Tops (b.flat Q)) {s:Int} (hs:s=1∨s=2):({b with a:=b.untop s}:Book).flat Q=clr (b.flat Q) s:=by
 have hfl:∀{s':Int} (hs':s'=1∨s'=2) {r:xH} (hr:r∈b.rungs s') {k:Nat} (hk:k∈y9 Q r),(b.a.slotAt k).top=(b.hasF s' && decide ((b.a.slotAt k).id=b.topI s')):=by
  intro s' hs' r hr k hk
  have hm:wO b.a s' r.price k∈b.flat Q:=by
   have:wO b.a s' r.price k∈b.sideL Q s':=yYz.2 ⟨r,hr,yXq hk⟩
   rcases hs' with rfl|rfl
   ·exact yXy _ this
   ·exact yYb _ this
  exact ht.fl _ hm
 have key:∀{s':Int} (hs':s'=1∨s'=2) {r:xH} (hr:r∈b.rungs s') {k:Nat} (hk:k∈y9 Q r),((b.untop s).slotAt k).ent=if s'=s then{(b.a.slotAt k).ent with top:=false}else(b.a.slotAt k).ent:=by
  intro s' hs' r hr k hk
  have hplc:=c.plc hs' hr hk
  have htop:=hfl hs' hr hk
  have hno:(b.a.slotAt k).top=false→(b.a.slotAt k).ent=if s'=s then{(b.a.slotAt k).ent with top:=false}else(b.a.slotAt k).ent:=by
   intro e
   split
   ·rw[Slot.ent,e]
   ·rfl
  rw[Book.untop]
  by_cases hh:b.hasF s=true
  ·rw[yWl hh]
   cases hg:pget b.at_ (b.topI s)with
   |none=>
    dsimp only
    by_cases e:s'=s
    ·subst e
     refine hno ?_
     rw[htop,hh,yZe]
     refine yWx fun e2=> ?_
     rw[← e2]at hg
     exact zDp hg (yXq (f:=(·.1)) hplc)
    ·rw[yWj e]
   |some o=>
    dsimp only
    obtain⟨k',r',hs2,hr2,hk2,ho,hid⟩:=c.plcI (rM hg)
    by_cases es:o.side=s
    ·rw[yWl es,zSr]
     have hos:o.slot=(k':Int):=by rw[ho]
     by_cases ek:k=k'
     ·subst ek
      have hu:b.a.usedAt o.slot=true:=by
       obtain⟨_,⟨_,_,h2⟩,h3⟩:=c.wf.toWf0.mem (c.get hs' hr) hk
       have hlt:=(yWn.1 h3).1
       simp only[Arena.usedAt,yWw,yYe,hos,yXa]
       exact⟨by omega,by omega,h2.used⟩
      rw[yWl ⟨hu,by rw[hos];rfl⟩]
      have:=c.plc hs2 hr2 hk2
      have e3:=zHr c.keys hplc this
      have e4:s'=s:=by
       have:=congrArg Place.side e3
       dsimp only at this
       rw[this,es]
      rw[yWl e4];rfl
     ·rw[yWj (fun e=>ek (by have:=e.2;rw[hos]at this;simpa using this))]
      by_cases e:s'=s
      ·subst e
       refine hno ?_
       rw[htop,hh,yZe]
       refine yWx fun e2=>ek ?_
       have hp2:=c.plc hs2 hr2 hk2
       rw[hid,← e2]at hp2
       have e3:=zHr c.keys hplc hp2
       have:=congrArg Place.slot e3
       dsimp only at this
       omega
      ·rw[yWj e]
    ·rw[yWj es]
     by_cases e:s'=s
     ·subst e
      refine hno ?_
      rw[htop,hh,yZe]
      refine yWx fun e2=>es ?_
      have hp2:=rM hg
      rw[← e2]at hp2
      have e3:=zHr c.keys hplc hp2
      rw[← e3]
     ·rw[yWj e]
  ·rw[yWj hh]
   by_cases e:s'=s
   ·subst e
    refine hno ?_
    have:b.hasF s'=false:=by simpa using hh
    rw[htop,this,yZp]
   ·rw[yWj e]
 have side:∀s',s'=1∨s'=2→({b with a:=b.untop s}:Book).sideL Q s'=clr (b.sideL Q s') s:=by
  intro s' hs'
  rw[clr,Book.sideL,Book.sideL,rZ]
  refine xA fun r hr=> ?_
  rw[Book.rOrds,Book.rOrds,yZc]
  refine yXs fun k hk=> ?_
  simp only[wO,Function.comp,key hs' hr hk,yEc]
  by_cases e:s'=s
  ·rw[yWl e];exact(yWl e).symm
  ·rw[yWj e];exact(yWj e).symm
 rw[Book.flat,side 1 (.inl rfl),side 2 (.inr rfl),Book.flat,clr,clr,clr,yWv]
open Go Cv Go.Proofs
def before (s p:Int) (o:zH):Bool:=decide (o.side<s)||(decide (o.side=s) && !btr s p o.price)
def u0 (L:List zH) (s p:Int):Bool:=L.all fun o=> !decide (o.side=s)||btr s p o.price
def zPu (L:List zH) (s id p q:Int):List zH:=
 let L1:=if u0 L s p=true then clr L s else L
 L1.takeWhile (before s p)++⟨id,s,p,q,u0 L s p⟩::L1.dropWhile (before s p)
theorem yBb {α:Type} {f:α→Bool}:∀{A B:List α},(∀x∈A,f x=true)→(∀x∈B,f x=false)→(A++B).takeWhile f=A∧(A++B).dropWhile f=B
 |[],[],_,_=>⟨rfl,rfl⟩
 |[],b::B,_,h=>by
  have:=h b yWp
  simp[this]
 |a::A,B,h,h2=>by
  obtain⟨i1,i2⟩:=yBb (A:=A) (B:=B) (fun x hx=>h x (yWq _ hx)) h2
  have:=h a yWp
  rw[yYd,List.takeWhile_cons,List.dropWhile_cons,this]
  simp[i1,i2]
theorem qB {b:Book} {Q:List (List Nat)} {s:Int} {r:xH} {o:zH} (h:o∈b.rOrds Q s r):o.side=s∧o.price=r.price:=by
 obtain⟨k,_,rfl⟩:=yYa.1 h
 exact⟨rfl,rfl⟩
theorem bF {b:Book} {Q:List (List Nat)} {s:Int} {o:zH} (h:o∈b.sideL Q s):o.side=s∧∃r∈b.rungs s,o∈b.rOrds Q s r∧o.price=r.price:=by
 obtain⟨r,hr,ho⟩:=yYz.1 h
 exact⟨(qB ho).1,r,hr,ho,(qB ho).2⟩
structure Spl (s p:Int) (R1 R2:List xH):Prop where
 a:∀r∈R1,btr s r.price p=true
 b:∀r∈R2,btr s p r.price=true
theorem zXb {s x y:Int} (h:btr s x y=true):btr s y x=false:=by
 rw[btr]at h ⊢
 split at h
 ·rename_i e;rw[yWl e];have:=yYx h;exact yWx (by omega)
 ·rename_i e;rw[yWj e];have:=yYx h;exact yWx (by omega)
theorem zOc {s x y z:Int} (h:btr s x y=true) (h2:btr s y z=true):btr s x z=true:=by
 rw[btr]at h h2 ⊢
 split at h
 ·rename_i e;rw[yWl e]at h2 ⊢;have:=yYx h;have:=yYx h2;exact yXc (by omega)
 ·rename_i e;rw[yWj e]at h2 ⊢;have:=yYx h;have:=yYx h2;exact yXc (by omega)
theorem z4t {s x y:Int} (h:btr s x y=false) (hne:x≠y):btr s y x=true:=by
 rw[btr]at h ⊢
 split at h
 ·rename_i e;rw[yWl e];have:=y0z h;exact yXc (by omega)
 ·rename_i e;rw[yWj e];have:=y0z h;exact yXc (by omega)
theorem zAt {s p:Int} {l:List xH} (hs:l.Pairwise fun r r'=>btr s r.price r'.price=true):
 (∀r∈l.take (zW s l p),btr s r.price p=true)∧
 (if kH s l p=true then ∃r,l[zW s l p]? =some r∧r.price=p∧∀r'∈l.drop (zW s l p+1),btr s p r'.price=true
  else ∀r'∈l.drop (zW s l p),btr s p r'.price=true):=by
 have e1:l.take (zW s l p)=l.takeWhile fun r=>btr s r.price p:=by
  rw[zW]
  have h:=y2t (l₁:=l.takeWhile fun r=>btr s r.price p) (l₂:=l.dropWhile fun r=>btr s r.price p)
  rwa [y2l]at h
 have e2:l.drop (zW s l p)=l.dropWhile fun r=>btr s r.price p:=by
  have h:=yYw (zW s l p) l
  have h2:=y2l (p:=fun r:xH=>btr s r.price p) (l:=l)
  rw[e1]at h
  exact List.append_cancel_left (h.trans h2.symm)
 refine⟨fun r hr=> ?_,?_⟩
 ·rw[e1]at hr
  exact yZn.1 List.all_takeWhile r hr
 have hd:∀r,l[zW s l p]? =some r→btr s r.price p=false:=by
  intro r hr
  have h0:(l.drop (zW s l p))[0]? =some r:=by rw[yYt];exact hr
  rw[e2]at h0
  cases hdw:l.dropWhile fun r=>btr s r.price p with
  |nil=>rw[hdw]at h0;cases h0
  |cons x y=>
   rw[hdw]at h0
   cases h0
   have:=List.head?_dropWhile_not (fun r:xH=>btr s r.price p) l
   rw[hdw]at this
   simpa using this
 have hpw:∀r r',l[zW s l p]? =some r→r'∈l.drop (zW s l p+1)→btr s r.price r'.price=true:=by
  intro r r' hr hr'
  have hlt:=(yWn.1 hr).1
  have:=List.Pairwise.sublist (List.drop_sublist (zW s l p) l) hs
  rw[yYo hlt,y0d,(yWn.1 hr).2]at this
  exact this.1 r' hr'
 split
 ·rename_i hb
  rw[kH]at hb
  cases hr:l[zW s l p]? with
  |none=>rw[hr]at hb;cases hb
  |some r=>
   rw[hr]at hb
   have hp:r.price=p:=yYx hb
   exact⟨r,rfl,hp,fun r' hr'=>by rw[← hp];exact hpw r r' hr hr'⟩
 ·rename_i hb
  intro r' hr'
  by_cases hlt:zW s l p<l.length
  ·obtain⟨r,hr⟩:=yD hlt
   rw[kH,hr]at hb
   have hp:¬r.price=p:=fun e=>hb (yXc e)
   have h1:=z4t (hd r hr) hp
   rw[yYo hlt,(yWn.1 hr).2]at hr'
   rcases yXe.1 hr' with rfl|hr'
   ·exact h1
   ·exact zOc h1 (hpw r r' hr hr')
  ·rw[yZz (by omega)]at hr'
   cases hr'
def Book.setR (b:Book) (s:Int) (l:List xH):Book:=if s=1 then{b with buys:=l}else{b with sells:=l}
theorem z1k {b:Book} {s:Int} (hs:s=1∨s=2):∃rest,b.qs.Perm ((b.rungs s).map (·.queue)++rest)∧∀l,(b.setR s l).qs.Perm (l.map (·.queue)++rest):=by
 rcases hs with rfl|rfl
 ·refine⟨b.sells.map (·.queue)++b.spare,?_,fun l=> ?_⟩
  ·rw[Book.qs,yWo];exact .refl _
  ·show(l.map (·.queue)++b.sells.map (·.queue)++b.spare).Perm _
   rw[yWo]
 ·refine⟨b.buys.map (·.queue)++b.spare,?_,fun l=> ?_⟩
  ·rw[Book.qs]
   show(b.buys.map (·.queue)++b.sells.map (·.queue)++b.spare).Perm (b.sells.map (·.queue)++(b.buys.map (·.queue)++b.spare))
   rw[← yWo];exact yYm.append_right _
  ·show(b.buys.map (·.queue)++l.map (·.queue)++b.spare).Perm (l.map (·.queue)++(b.buys.map (·.queue)++b.spare))
   rw[← yWo];exact yYm.append_right _
structure Queued (b:Book) (Q:List (List Nat)) (s p:Int) (b':Book) (n:Int) (Q':List (List Nat)) (R1 R2:List xH):Prop where
 core:b'.Core Q' n
 rungs:b'.rungs s=R1++⟨p,n⟩::R2
 spl:Spl s p R1 R2
 flat:b'.flat Q'=b.flat Q
 at_:b'.at_=b.at_
 free:b'.a.free=b.a.free
 tops:∀L,b.Tops L→b'.Tops L
 qty:∀x,b'.hasF x=b.hasF x∧b'.topI x=b.topI x
theorem z7v {α:Type} {l:List α} {x d:α} {n:Nat}:(l++[x]).getD n d=if n=l.length then x else l.getD n d:=by
 rw[yWs,yWs,List.getElem?_append]
 split
 ·rw[yWj (by omega)]
 ·rename_i h
  by_cases e:n=l.length
  ·rw[yWl e,e,y2f];rfl
  ·rw[yWj e,yXm (show([x]:List α).length≤n-l.length by simp;omega),yXm (by omega)]
theorem Book.Core.add {b:Book} {Q:List (List Nat)} (c:b.Core Q (-1)) {s p n:Int} (hs:s=1∨s=2) {R1 R2:List xH} (hr:b.rungs s=R1++R2) (spl:Spl s p R1 R2) {b':Book} {Q':List (List Nat)}
 (hrs:b'.rungs s=R1++⟨p,n⟩::R2) (hro:∀s',s'≠s→s'=1∨s'=2→b'.rungs s'=b.rungs s') (hat:b'.at_=b.at_) (hw:b'.a.Wf Q') (hsl:b'.a.slots=b.a.slots)
 (hQ:∀k,Q'.getD k []=Q.getD k []) (hn:Q.getD n.toNat []=[]) (hrng:∀q∈b'.qs,0≤q∧q<Q'.length) (hnd:b'.qs.Nodup) (hql:b'.qs.length=Q'.length) (hsp:∀q∈b'.spare,Q.getD q.toNat []=[]) (hqb:Q'.length≤250):
 b'.Core Q' n∧b'.flat Q'=b.flat Q:=by
 have hslQ:∀r,y9 Q' r=y9 Q r:=fun r=>hQ _
 have hsa:∀k,b'.a.slotAt k=b.a.slotAt k:=fun k=>by rw[Arena.slotAt,Arena.slotAt,hsl]
 have hn':y9 Q ⟨p,n⟩=[]:=hn
 have hro':∀s' r,b'.rOrds Q' s' r=b.rOrds Q s' r:=by
  intro s' r
  rw[Book.rOrds,Book.rOrds,hslQ]
  exact yXs fun k _=>by rw[wO,wO,hsa]
 have hpo:∀s' (r:xH),(y9 Q' r).map (vA b'.a s' r.price)=(y9 Q r).map (vA b.a s' r.price):=by
  intro s' r
  rw[hslQ]
  exact yXs fun k _=>by rw[vA,vA,hsa]
 have hside:∀s',s'=1∨s'=2→b'.sideL Q' s'=b.sideL Q s':=by
  intro s' hs'
  rw[Book.sideL,Book.sideL]
  by_cases e:s'=s
  ·subst e
   rw[hrs,hr,yYi,yYi,yXv,xA (fun r _=>hro' s' r),xA (l:=R2) (fun r _=>hro' s' r),hro',Book.rOrds,hn',y0h,yZa]
  ·rw[hro s' e hs'];exact xA fun r _=>hro' s' r
 have hplc:∀s',s'=1∨s'=2→b'.plcs Q' s'=b.plcs Q s':=by
  intro s' hs'
  rw[Book.plcs,Book.plcs]
  by_cases e:s'=s
  ·subst e
   rw[hrs,hr,yYi,yYi,yXv,xA (fun r _=>hpo s' r),xA (l:=R2) (fun r _=>hpo s' r),hpo,hn',y0h,yZa]
  ·rw[hro s' e hs'];exact xA fun r _=>hpo s' r
 have hflat:b'.flat Q'=b.flat Q:=by rw[Book.flat,Book.flat,hside 1 (.inl rfl),hside 2 (.inr rfl)]
 refine⟨⟨hw,fun s' hs'=> ?_,hrng,hnd,hql,fun s' hs' r hr' hne=> ?_,fun q hq=>by rw[hQ];exact hsp q hq,by rw[hat,hplc 1 (.inl rfl),hplc 2 (.inr rfl)];exact c.at_,by rw[hflat];exact c.ids,hqb⟩,hflat⟩
 ·by_cases e:s'=s
  ·subst e
   have h0:=c.srt s' hs'
   rw[hr,List.pairwise_append]at h0
   rw[hrs,List.pairwise_append,y0d]
   refine⟨h0.1,⟨spl.b,h0.2.1⟩,fun x hx y hy=> ?_⟩
   rcases yXe.1 hy with rfl|hy
   ·exact spl.a x hx
   ·exact h0.2.2 x hx y hy
  ·rw[hro s' e hs'];exact c.srt s' hs'
 ·rw[hslQ]
  have hold:∀r∈b.rungs s',y9 Q r≠[]:=fun r hr=>c.ne s' hs' r hr fun e=>by
   have:=c.rng _ (uG hs' hr)
   omega
  by_cases e:s'=s
  ·subst e
   rw[hrs]at hr'
   rcases yXo.1 hr' with h|h
   ·exact hold r (by rw[hr];exact yXy _ h)
   ·rcases yXe.1 h with rfl|h
    ·exact absurd rfl hne
    ·exact hold r (by rw[hr];exact yYb _ h)
  ·rw[hro s' e hs']at hr';exact hold r hr'
theorem zJr (b:Book) {s:Int} (hs:s=1∨s=2) (l:List xH):(b.setR s l).rungs s=l∧∀s',s'≠s→s'=1∨s'=2→(b.setR s l).rungs s'=b.rungs s':=by
 rcases hs with rfl|rfl
 ·exact⟨rfl,fun s' h h2=>by rcases h2 with rfl|rfl;exact absurd rfl h;rfl⟩
 ·exact⟨rfl,fun s' h h2=>by rcases h2 with rfl|rfl;rfl;exact absurd rfl h⟩
theorem z4m (b:Book) {s p:Int} (hs:s=1∨s=2):b.queueF s p=if kH s (b.rungs s) p=true then(b,((b.rungs s).getD (zW s (b.rungs s) p) ⟨0,0⟩).queue)else(({b with a:=b.newQ.2.2,spare:=b.newQ.2.1}:Book).setR s (b.ins s p),b.newQ.1):=by
 rcases hs with rfl|rfl<;>rfl
theorem Book.Core.queue {b:Book} {Q:List (List Nat)} (c:b.Core Q (-1)) (hl:(b.flat Q).length<250) {s:Int} (hs:s=1∨s=2) (p:Int):∃Q' R1 R2,Queued b Q s p (b.queueF s p).1 (b.queueF s p).2 Q' R1 R2:=by
 have hsp:=zAt (p:=p) (c.srt s hs)
 rw[z4m b hs]
 by_cases hb:kH s (b.rungs s) p=true
 ·rw[yWl hb]at hsp ⊢
  obtain⟨h1,r,hr,hp,h2⟩:=hsp
  have hlt:=(yWn.1 hr).1
  have er:(⟨p,r.queue⟩:xH)=r:=by rw[← hp]
  have hsplit:b.rungs s=(b.rungs s).take (zW s (b.rungs s) p)++r::(b.rungs s).drop (zW s (b.rungs s) p+1):=by
   conv=>lhs;rw[← yYw (zW s (b.rungs s) p) (b.rungs s)]
   rw[yYo hlt,(yWn.1 hr).2]
  refine⟨Q,_,_,⟨⟨c.wf,c.srt,c.rng,c.nd,c.ql,fun s' hs' r' hr' _=>c.ne s' hs' r' hr' fun e=> ?_,c.sp,c.at_,c.ids,c.qb⟩,?_,⟨h1,h2⟩,rfl,rfl,rfl,fun _ h=>h,fun _=>⟨rfl,rfl⟩⟩⟩
  ·have:=c.rng _ (uG hs' hr');omega
  ·dsimp only
   rw[zR hr,er];exact hsplit
 ·rw[yWj hb]at hsp ⊢
  obtain⟨h1,h2⟩:=hsp
  have hr:b.rungs s=(b.rungs s).take (zW s (b.rungs s) p)++(b.rungs s).drop (zW s (b.rungs s) p):=(yYw _ _).symm
  obtain⟨g1,g2⟩:=zJr ({b with a:=b.newQ.2.2,spare:=b.newQ.2.1}:Book) hs (b.ins s p)
  have tops:∀x,((({b with a:=b.newQ.2.2,spare:=b.newQ.2.1}:Book).setR s (b.ins s p)).hasF x=b.hasF x∧(({b with a:=b.newQ.2.2,spare:=b.newQ.2.1}:Book).setR s (b.ins s p)).topI x=b.topI x):=by
   intro x;rcases hs with rfl|rfl<;>exact⟨rfl,rfl⟩
  have hat:(({b with a:=b.newQ.2.2,spare:=b.newQ.2.1}:Book).setR s (b.ins s p)).at_=b.at_:=by rcases hs with rfl|rfl<;>rfl
  have ha:(({b with a:=b.newQ.2.2,spare:=b.newQ.2.1}:Book).setR s (b.ins s p)).a=b.newQ.2.2:=by rcases hs with rfl|rfl<;>rfl
  have hspr:(({b with a:=b.newQ.2.2,spare:=b.newQ.2.1}:Book).setR s (b.ins s p)).spare=b.newQ.2.1:=by rcases hs with rfl|rfl<;>rfl
  obtain⟨rest,q1,q2⟩:=z1k (b:=({b with a:=b.newQ.2.2,spare:=b.newQ.2.1}:Book)) hs
  have q2:=q2 (b.ins s p)
  have hqs:(({b with a:=b.newQ.2.2,spare:=b.newQ.2.1}:Book).setR s (b.ins s p)).qs.Perm (b.newQ.1::({b with a:=b.newQ.2.2,spare:=b.newQ.2.1}:Book).qs):=by
   refine q2.trans (.trans ?_ (q1.symm.cons _))
   rw[← yYd]
   refine List.Perm.append_right _ ?_
   show((b.ins s p).map (·.queue)).Perm (b.newQ.1::(b.rungs s).map (·.queue))
   conv=>rhs;rw[hr]
   rw[Book.ins,yWv,yWv,yWz]
   exact yWy
  generalize hB:(({b with a:=b.newQ.2.2,spare:=b.newQ.2.1}:Book).setR s (b.ins s p))=B at*
  have fin:∀Q',B.a.Wf Q'→B.a.slots=b.a.slots→B.a.free=b.a.free→(∀k,Q'.getD k []=Q.getD k [])→Q.getD b.newQ.1.toNat []=[]→(∀q∈B.qs,0≤q∧q<Q'.length)→B.qs.Nodup→B.qs.length=Q'.length→(∀q∈B.spare,Q.getD q.toNat []=[])→Q'.length≤250→∃Q' R1 R2,Queued b Q s p B b.newQ.1 Q' R1 R2:=by
   intro Q' w1 w2 w3 w4 w5 w6 w7 w8 w9 w10
   obtain⟨u1,u2⟩:=c.add hs hr ⟨h1,h2⟩ (b':=B) (Q':=Q') (n:=b.newQ.1) (by rw[g1];rfl) g2 hat w1 w2 w4 w5 w6 w7 w8 w9 w10
   refine⟨Q',_,_,⟨u1,g1.trans rfl,⟨h1,h2⟩,u2,hat,w3,fun L h=>⟨fun o ho=> ?_,fun s' hs' hh=> ?_⟩,tops⟩⟩
   ·rw[(tops o.side).1,(tops o.side).2];exact h.fl o ho
   ·rw[(tops s').1]at hh
    rw[(tops s').2];exact h.th s' hs' hh
  by_cases he:b.spare.length=0
  ·have hnq:b.newQ=((b.a.queues.length:Int),b.spare,b.a.openQ):=by rw[Book.newQ,yWl he]
   have hql:=c.wf.ql
   have hspe:b.spare=[]:=yXn he
   have hqs':B.qs.Perm ((Q.length:Int)::b.qs):=by
    rw[hnq]at hqs
    rw[← hql];exact hqs
   refine fin (Q++[[]]) (by rw[ha,hnq];exact c.wf.open) (by rw[ha,hnq];rfl) (by rw[ha,hnq];rfl) (fun k=> ?_) ?_ (fun q hq=> ?_) ?_ ?_ (fun q hq=> ?_) ?_
   ·rw[z7v]
    split
    ·rename_i e;rw[e,yWs,yXm (yXl _)];rfl
    ·rfl
   ·rw[hnq,yWs,yXm (by dsimp only;omega)];rfl
   ·rw[yWi]
    rcases yXe.1 (hqs'.mem_iff.1 hq)with rfl|hq
    ·simp only[yZs];omega
    ·have:=c.rng q hq;simp only[yZs];omega
   ·refine hqs'.nodup_iff.2 (yZb.2 ⟨fun hm=> ?_,c.nd⟩)
    have:=c.rng _ hm;omega
   ·rw[hqs'.length_eq,yWr,yWi,c.ql];rfl
   ·rw[hspr,hnq]at hq
    rw[hspe]at hq;cases hq
   ·have h1:=z0e (l:=b.rungs 1) (f:=b.rOrds Q 1) fun r hr e=>c.ne 1 (.inl rfl) r hr (fun e2=>by have:=c.rng _ (uG (.inl rfl) hr);omega) (List.map_eq_nil_iff.1 e)
    have h2:=z0e (l:=b.rungs 2) (f:=b.rOrds Q 2) fun r hr e=>c.ne 2 (.inr rfl) r hr (fun e2=>by have:=c.rng _ (uG (.inr rfl) hr);omega) (List.map_eq_nil_iff.1 e)
    have h3:=c.ql
    rw[Book.flat,yWi,Book.sideL,Book.sideL]at hl
    rw[Book.qs,yWi,yWi,yWk,yWk,he]at h3
    rw[pT]at h1 hl
    rw[nD]at h2 hl
    rw[yWi,yZs]
    omega
  ·have hnq:b.newQ=(b.spare.getD (b.spare.length-1) 0,b.spare.take (b.spare.length-1),b.a):=by rw[Book.newQ,yWj he]
   obtain⟨sp,q,hspq⟩:∃sp q,b.spare=sp++[q]:=⟨_,_,(List.dropLast_concat_getLast (l:=b.spare) (by intro e;rw[e]at he;exact he rfl)).symm⟩
   have e1:b.newQ=(q,sp,b.a):=by
    rw[hnq,hspq]
    simp
   have hqs':B.qs.Perm b.qs:=by
    refine hqs.trans ?_
    rw[e1]
    show(q::(b.buys.map (·.queue)++b.sells.map (·.queue)++sp)).Perm (b.buys.map (·.queue)++b.sells.map (·.queue)++b.spare)
    rw[hspq,← yWo]
    exact y0y q _|>.symm
   have hq0:q∈b.spare:=by rw[hspq];simp
   refine fin Q (by rw[ha,e1];exact c.wf) (by rw[ha,e1]) (by rw[ha,e1]) (fun _=>rfl) (by rw[e1];exact c.sp q hq0) (fun q hq=>c.rng q (hqs'.mem_iff.1 hq)) (hqs'.nodup_iff.2 c.nd) (by rw[hqs'.length_eq];exact c.ql) (fun q' hq'=> ?_) c.qb
   rw[hspr,e1]at hq'
   exact c.sp q' (by rw[hspq];exact yXy _ hq')
open Go Cv Go.Proofs
theorem Book.Core.used {b:Book} {Q:List (List Nat)} (c:b.Core Q (-1)) (hl:(b.flat Q).length<250):b.a.free≠0:=by
 intro hf
 have hcn:=c.wf.free
 rw[hf]at hcn
 have hz:(b.a.slots.map (·.used)).countP (!·)=0:=by omega
 rw[List.countP_eq_zero]at hz
 have hin:∀k∈List.range 250,k∈((b.rungs 1).flatMap (y9 Q)++(b.rungs 2).flatMap (y9 Q)):=by
  intro k hk
  have hk:=yZl.1 hk
  obtain⟨s,hs⟩:=yD (l:=b.a.slots) (i:=k) (by rw[c.wf.len];exact hk)
  have hu:s.used=true:=by
   have:=hz s.used (yXq (yWt hs))
   simpa using this
  obtain⟨n,l,hn,hkl⟩:=c.wf.us k s hs hu
  have hnQ:=(yWn.1 hn).1
  have hm:(n:Int)∈b.qs:=z6o c.nd (fun x hx=>by rw[c.ql];exact c.rng x hx) (by rw[c.ql];exact hnQ)
  have e:∀r:xH,r.queue=(n:Int)→k∈y9 Q r:=by
   intro r hr
   rw[y9,hr,yXa,zR hn];exact hkl
  rw[Book.qs]at hm
  rcases yXo.1 hm with hm|hm
  ·rcases yXo.1 hm with hm|hm
   ·obtain⟨r,hr,er⟩:=yYa.1 hm
    exact yXy _ (yYz.2 ⟨r,hr,e r er⟩)
   ·obtain⟨r,hr,er⟩:=yYa.1 hm
    exact yYb _ (yYz.2 ⟨r,hr,e r er⟩)
  ·have:=c.sp _ hm
   rw[yXa,zR hn]at this
   rw[this]at hkl;cases hkl
 have h1:=zFo List.nodup_range hin
 have e:∀s,(b.sideL Q s).length=((b.rungs s).flatMap (y9 Q)).length:=by
  intro s
  rw[Book.sideL,y1o,y1o]
  congr 1
  exact yXs fun r _=>by rw[Book.rOrds,yWk]
 rw[yWi,← e,← e,List.length_range]at h1
 rw[Book.flat,yWi]at hl
 omega
theorem zPv {s p:Int} {o:zH} (h:o.side≠s) (hlt:o.side=1∨o.side=2) (hs:s=1∨s=2):before s p o=decide (s=2):=by
 rw[before,yWx h,yZp,Bool.or_false]
 rcases hs with rfl|rfl
 ·rw[yWx (by omega),yWx (by omega)]
 ·rw[yXc (by omega),yXc rfl]
theorem Queued.put {b:Book} {Q:List (List Nat)} {s p:Int} {b':Book} {n:Int} {Q':List (List Nat)} {R1 R2:List xH} (h:Queued b Q s p b' n Q' R1 R2) (hs:s=1∨s=2) {id qty:Int} (top:Bool) (hid:id∉(b.flat Q).map (·.id)) (hf:b.a.free≠0) (hq:1≤qty∧qty≤1000000):
 ∃Q3 A B,({b' with a:=(b'.a.push n id qty top).1,at_:=pE id ⟨s,p,(b'.a.push n id qty top).2.1⟩ b'.at_}:Book).Core Q3 (-1)∧b'.flat Q'=A++B∧
  ({b' with a:=(b'.a.push n id qty top).1,at_:=pE id ⟨s,p,(b'.a.push n id qty top).2.1⟩ b'.at_}:Book).flat Q3=A++⟨id,s,p,qty,top⟩::B∧(∀o∈A,before s p o=true)∧∀o∈B,before s p o=false:=by
 have c:=h.core
 have hrm:(⟨p,n⟩:xH)∈b'.rungs s:=by rw[h.rungs];simp
 have hnr:0≤n∧n<Q'.length:=c.rng n (uG hs hrm)
 obtain⟨m,rfl⟩:∃m:Nat,n=m:=⟨n.toNat,by omega⟩
 have hl:Q'[m]? =some (y9 Q' ⟨p,m⟩):=zUx (r:=⟨p,m⟩) hnr
 obtain⟨k,k1,k2,k3,k4,kw,kent,kfree⟩:=c.wf.put (id:=id) hl (by rw[h.free];exact hf) top hq
 have hpush:b'.a.push m id qty top=(b'.a.put m id qty top,(k:Int),0):=by
  have:=c.wf.ql
  rw[Arena.push,yWj (by omega),yWj (by omega),yWj (by rw[h.free];exact hf),k1]
 rw[hpush]
 dsimp only
 have hmQ:=(yWn.1 hl).1
 have hqd:∀s' (r:xH),(s'=1∨s'=2)→r∈b'.rungs s'→(r.queue=m→s'=s∧r=⟨p,m⟩):=by
  intro s' r hs' hr e
  obtain⟨rest,q1,_⟩:=z1k (b:=b') hs
  have hnd:=q1.nodup_iff.1 c.nd
  rw[h.rungs,yWv,yWz]at hnd
  by_cases es:s'=s
  ·subst es
   refine⟨rfl,?_⟩
   rw[h.rungs]at hr
   have hnd2:=(yYu.1 hnd).1
   rcases yXo.1 hr with hr|hr
   ·exact absurd e ((yYu.1 hnd2).2.2 r.queue (yXq (f:=(·.queue)) hr) m yWp)
   ·rcases yXe.1 hr with rfl|hr
    ·rfl
    ·have:=(yZb.1 (yYu.1 hnd2).2.1).1
     exact absurd (e▸yXq (f:=(·.queue)) hr) this
  ·exfalso
   have hcn:=c.nd
   rw[Book.qs]at hcn
   have hcn2:=(yYu.1 (yYu.1 hcn).1).2.2
   have ha:(m:Int)∈(b'.rungs s).map (·.queue):=yYa.2 ⟨_,hrm,rfl⟩
   have hb:(m:Int)∈(b'.rungs s').map (·.queue):=yYa.2 ⟨r,hr,e⟩
   rcases hs with rfl|rfl<;>rcases hs' with rfl|rfl
   ·exact es rfl
   ·exact hcn2 _ ha _ hb rfl
   ·exact hcn2 _ hb _ ha rfl
   ·exact es rfl
 have hsl1:y9 (Q'.set m (y9 Q' ⟨p,m⟩++[k])) ⟨p,m⟩=y9 Q' ⟨p,m⟩++[k]:=by
  show(Q'.set m _).getD (Int.toNat (m:Int)) []=_
  rw[yXa];exact zR (gW hmQ)
 have hsl2:∀q:Int,0≤q→q≠m→(Q'.set m (y9 Q' ⟨p,m⟩++[k])).getD q.toNat []=Q'.getD q.toNat []:=by
  intro q h0 hne
  rw[yWs,vF (by omega),yWs]
 generalize hQ3:Q'.set m (y9 Q' ⟨p,m⟩++[k])=Q3 at*
 have hQl:Q3.length=Q'.length:=by rw[← hQ3,yXf]
 have hpid:=bC
 have hord:∀s' (r:xH),(s'=1∨s'=2)→r∈b'.rungs s'→∀j∈y9 Q' r,j≠k∧(wO (b'.a.put m id qty top) s' r.price j=wO b'.a s' r.price j∧vA (b'.a.put m id qty top) s' r.price j=vA b'.a s' r.price j):=by
  intro s' r hs' hr j hj
  have hjk:j≠k:=by rintro rfl;exact k4 _ _ (c.get hs' hr) hj
  have:=kent j
  rw[yWj hjk]at this
  refine⟨hjk,by rw[wO,wO,this],?_⟩
  have:=congrArg Ent.id this
  rw[vA,vA]
  exact congrArg (fun i=>(i,(⟨s',r.price,j⟩:Place))) this
 have hr0:∀s' (r:xH),(s'=1∨s'=2)→r∈b'.rungs s'→r.queue≠m→y9 Q3 r=y9 Q' r:=by
  intro s' r hs' hr hne
  exact hsl2 _ (c.rng _ (uG hs' hr)).1 hne
 generalize hB:({b' with a:=b'.a.put m id qty top,at_:=pE id ⟨s,p,k⟩ b'.at_}:Book)=B3
 have hBr:∀s',B3.rungs s'=b'.rungs s':=by intro s';rw[← hB];rfl
 have hBa:B3.a=b'.a.put m id qty top:=by rw[← hB]
 have hBat:B3.at_=pE id ⟨s,p,k⟩ b'.at_:=by rw[← hB]
 have hBqs:B3.qs=b'.qs:=by rw[← hB];rfl
 have hBsp:B3.spare=b'.spare:=by rw[← hB]
 have hro:∀s' (r:xH),(s'=1∨s'=2)→r∈b'.rungs s'→r.queue≠m→B3.rOrds Q3 s' r=b'.rOrds Q' s' r∧(y9 Q3 r).map (vA B3.a s' r.price)=(y9 Q' r).map (vA b'.a s' r.price):=by
  intro s' r hs' hr hne
  rw[Book.rOrds,Book.rOrds,hr0 s' r hs' hr hne,hBa]
  exact⟨yXs fun j hj=>(hord s' r hs' hr j hj).2.1,yXs fun j hj=>(hord s' r hs' hr j hj).2.2⟩
 have hnew:wO B3.a s p k=⟨id,s,p,qty,top⟩∧vA B3.a s p k=(id,⟨s,p,k⟩):=by
  have:=kent k
  rw[yWl rfl]at this
  rw[wO,hBa,this]
  refine⟨rfl,?_⟩
  have:=congrArg Ent.id this
  rw[vA]
  exact congrArg (fun i=>(i,(⟨s,p,k⟩:Place))) this
 have hroN:B3.rOrds Q3 s ⟨p,m⟩=b'.rOrds Q' s ⟨p,m⟩++[⟨id,s,p,qty,top⟩]∧(y9 Q3 ⟨p,m⟩).map (vA B3.a s p)=(y9 Q' ⟨p,m⟩).map (vA b'.a s p)++[(id,⟨s,p,k⟩)]:=by
  rw[Book.rOrds,Book.rOrds,hsl1,yWv,yWv,List.map_singleton,List.map_singleton]
  refine⟨?_,?_⟩
  ·rw[hnew.1,yXs (g:=wO b'.a s p) fun j hj=>by rw[hBa];exact(hord s ⟨p,m⟩ hs hrm j hj).2.1]
  ·rw[hnew.2,yXs (g:=vA b'.a s p) fun j hj=>by rw[hBa];exact(hord s ⟨p,m⟩ hs hrm j hj).2.2]
 have hR1:∀r∈R1,r∈b'.rungs s∧r.queue≠m:=by
  intro r hr
  have hm:r∈b'.rungs s:=by rw[h.rungs];exact yXy _ hr
  refine⟨hm,fun e=> ?_⟩
  have e2:=(hqd s r hs hm e).2
  have:=h.spl.a r hr
  rw[e2,eL]at this;cases this
 have hR2:∀r∈R2,r∈b'.rungs s∧r.queue≠m:=by
  intro r hr
  have hm:r∈b'.rungs s:=by rw[h.rungs];exact yYb _ (yWq _ hr)
  refine⟨hm,fun e=> ?_⟩
  have e2:=(hqd s r hs hm e).2
  have:=h.spl.b r hr
  rw[e2,eL]at this;cases this
 have zC:B3.sideL Q3 s=(R1.flatMap (b'.rOrds Q' s)++b'.rOrds Q' s ⟨p,m⟩)++⟨id,s,p,qty,top⟩::R2.flatMap (b'.rOrds Q' s):=by
  rw[Book.sideL,hBr,h.rungs,yYi,yXv,hroN.1,xA (l:=R1) (fun r hr=>(hro s r hs (hR1 r hr).1 (hR1 r hr).2).1),xA (l:=R2) (fun r hr=>(hro s r hs (hR2 r hr).1 (hR2 r hr).2).1)]
  simp
 have sideO:b'.sideL Q' s=(R1.flatMap (b'.rOrds Q' s)++b'.rOrds Q' s ⟨p,m⟩)++R2.flatMap (b'.rOrds Q' s):=by
  rw[Book.sideL,h.rungs,yYi,yXv,yWo]
 have plcN:(B3.plcs Q3 s).Perm ((id,⟨s,p,k⟩)::b'.plcs Q' s):=by
  rw[Book.plcs,hBr,h.rungs,yYi,yXv,hroN.2,xA (l:=R1) (fun r hr=>(hro s r hs (hR1 r hr).1 (hR1 r hr).2).2),xA (l:=R2) (fun r hr=>(hro s r hs (hR2 r hr).1 (hR2 r hr).2).2),Book.plcs,h.rungs,yYi,yXv]
  rw[yWo,List.singleton_append,← yWo]
  refine yWy.trans ?_
  rw[yWo]
 have other:∀s',s'≠s→s'=1∨s'=2→B3.sideL Q3 s'=b'.sideL Q' s'∧B3.plcs Q3 s'=b'.plcs Q' s':=by
  intro s' hne hs'
  have hne':∀r∈b'.rungs s',r.queue≠m:=fun r hr e=>hne (hqd s' r hs' hr e).1
  rw[Book.sideL,Book.sideL,Book.plcs,Book.plcs,hBr]
  exact⟨xA fun r hr=>(hro s' r hs' hr (hne' r hr)).1,xA fun r hr=>(hro s' r hs' hr (hne' r hr)).2⟩
 have bA:∀o∈R1.flatMap (b'.rOrds Q' s)++b'.rOrds Q' s ⟨p,m⟩,before s p o=true:=by
  intro o ho
  rcases yXo.1 ho with ho|ho
  ·obtain⟨r,hr,ho⟩:=yYz.1 ho
   obtain⟨e1,e2⟩:=qB ho
   rw[before,e1,e2,zXb (h.spl.a r hr)];simp
  ·obtain⟨e1,e2⟩:=qB ho
   rw[before,e1,e2,eL];simp
 have bB:∀o∈R2.flatMap (b'.rOrds Q' s),before s p o=false:=by
  intro o ho
  obtain⟨r,hr,ho⟩:=yYz.1 ho
  obtain⟨e1,e2⟩:=qB ho
  rw[before,e1,e2,h.spl.b r hr];simp
 have bO:∀s',s'≠s→s'=1∨s'=2→∀o∈b'.sideL Q' s',before s p o=decide (s=2):=by
  intro s' hne hs' o ho
  have:=(bF ho).1
  exact zPv (by omega) (by omega) hs
 have flatE:∃A B,b'.flat Q'=A++B∧B3.flat Q3=A++⟨id,s,p,qty,top⟩::B∧(∀o∈A,before s p o=true)∧∀o∈B,before s p o=false:=by
  rcases hs with rfl|rfl
  ·refine⟨_,R2.flatMap (b'.rOrds Q' 1)++b'.sideL Q' 2,?_,?_,bA,fun o ho=> ?_⟩
   ·rw[Book.flat,sideO];simp only[yWo]
   ·rw[Book.flat,zC,(other 2 (by decide) (.inr rfl)).1];simp only[yWo,yYd]
   ·rcases yXo.1 ho with ho|ho
    ·exact bB o ho
    ·exact bO 2 (by decide) (.inr rfl) o ho
  ·refine⟨b'.sideL Q' 1++(R1.flatMap (b'.rOrds Q' 2)++b'.rOrds Q' 2 ⟨p,m⟩),R2.flatMap (b'.rOrds Q' 2),?_,?_,fun o ho=> ?_,bB⟩
   ·rw[Book.flat,sideO];simp only[yWo]
   ·rw[Book.flat,zC,(other 1 (by decide) (.inl rfl)).1];simp only[yWo]
   ·rcases yXo.1 ho with ho|ho
    ·exact bO 1 (by decide) (.inl rfl) o ho
    ·exact bA o ho
 obtain⟨A,B,f1,f2,f3,f4⟩:=flatE
 refine⟨Q3,A,B,⟨by rw[hBa];exact kw,fun s' hs'=>by rw[hBr];exact c.srt s' hs',by rw[hBqs,hQl];exact c.rng,by rw[hBqs];exact c.nd,by rw[hBqs,hQl];exact c.ql,fun s' hs' r hr _=> ?_,fun q hq=> ?_,?_,?_,by rw[hQl];exact c.qb⟩,f1,f2,f3,f4⟩
 ·rw[hBr]at hr
  by_cases e:r.queue=m
  ·obtain⟨rfl,rfl⟩:=hqd s' r hs' hr e
   rw[hsl1];simp
  ·rw[hr0 s' r hs' hr e];exact c.ne s' hs' r hr e
 ·rw[hBsp]at hq
  have hqq:q∈b'.qs:=yYb _ hq
  rw[hsl2 q (c.rng q hqq).1 fun e=> ?_]
  ·exact c.sp q hq
  ·have hcn:=c.nd
   rw[Book.qs]at hcn
   refine(yYu.1 hcn).2.2 m ?_ q hq e.symm
   rcases hs with rfl|rfl
   ·exact yXy _ (yYa.2 ⟨_,hrm,rfl⟩)
   ·exact yYb _ (yYa.2 ⟨_,hrm,rfl⟩)
 ·have hnk:id∉b'.at_.map (·.1):=by
   rw[c.keysP.mem_iff,h.flat];exact hid
  rw[hBat,zWk hnk]
  refine(y0y _ _).trans ?_
  rcases hs with rfl|rfl
  ·rw[(other 2 (by decide) (.inr rfl)).2]
   exact(c.at_.cons _).trans (plcN.symm.append_right _)
  ·rw[(other 1 (by decide) (.inl rfl)).2]
   refine(c.at_.cons _).trans ?_
   refine(yWy.symm).trans (plcN.symm.append_left _)
 ·rw[f2,yWv,yWz]
  have h1:=c.ids
  rw[f1,yWv]at h1
  have h2:id∉(A++B).map (·.id):=by rw[← f1,h.flat];exact hid
  refine yWy.nodup_iff.2 (yZb.2 ⟨by rw[yWv]at h2;exact h2,h1⟩)
open Go Cv Go.Proofs
def wC (L:List zH) (id:Int):Bool:=L.any fun o=>decide (o.id=id)
def zGs (L:List zH) (s id p q:Int):List zH×Int:=if q<1∨1000000<q then(L,24)else if wC L id=true then(L,25)else if 250≤L.length then(L,13)else(zPu L s id p q,0)
theorem hasId_iff {L:List zH} {id:Int}:wC L id=true↔id∈L.map (·.id):=by
 rw[wC,List.any_eq_true,yYa]
 constructor
 ·rintro⟨o,ho,e⟩;exact⟨o,ho,yYx e⟩
 ·rintro⟨o,ho,e⟩;exact⟨o,ho,yXc e⟩
theorem mG {b:Book} {Q:List (List Nat)} {o:zH} (h:o∈b.flat Q):(o.side=1∨o.side=2)∧∃r∈b.rungs o.side,o∈b.rOrds Q o.side r∧o.price=r.price:=by
 rcases yXo.1 h with h|h
 all_goals
  obtain⟨e,r,hr,ho,hp⟩:=bF h
  rw[e]
  exact⟨by simp,r,hr,ho,hp⟩
theorem flat_mem {b:Book} {Q:List (List Nat)} {s:Int} (hs:s=1∨s=2) {o:zH} (h:o∈b.sideL Q s):o∈b.flat Q:=by
 rcases hs with rfl|rfl
 ·exact yXy _ h
 ·exact yYb _ h
theorem Book.Core.leads {b:Book} {Q:List (List Nat)} (c:b.Core Q (-1)) {s:Int} (hs:s=1∨s=2) (p:Int):b.leads s p=u0 (b.flat Q) s p:=by
 have hsrt:=c.srt s hs
 have hne:=c.ne s hs
 rw[Book.leads]
 cases hr:b.rungs s with
 |nil=>
  symm
  dsimp only
  rw[u0,yZn]
  intro o ho
  obtain⟨_,r,hr2,_⟩:=mG ho
  by_cases e:o.side=s
  ·rw[e,hr]at hr2;cases hr2
  ·rw[yWx e];rfl
 |cons r0 l=>
  dsimp only
  rw[hr,y0d]at hsrt
  have hm:r0∈b.rungs s:=by rw[hr];exact yWp
  cases hb:btr s p r0.price with
  |true=>
   symm
   rw[u0,yZn]
   intro o ho
   obtain⟨_,r,hr2,_,hp⟩:=mG ho
   by_cases e:o.side=s
   ·rw[e,hr]at hr2
    rw[hp]
    rcases yXe.1 hr2 with rfl|hr2
    ·rw[hb];simp
    ·rw[zOc hb (hsrt.1 r hr2)];simp
   ·rw[yWx e];rfl
  |false=>
   symm
   rw[u0,List.all_eq_false]
   have h0:=hne r0 hm fun e=>by have:=c.rng _ (uG hs hm);omega
   cases hk:y9 Q r0 with
   |nil=>exact absurd hk h0
   |cons k ks=>
    refine⟨wO b.a s r0.price k,flat_mem hs (yYz.2 ⟨r0,hm,by rw[Book.rOrds,hk];exact yWp⟩),?_⟩
    show ¬((!decide (s=s))||btr s p r0.price)=true
    rw[hb];simp
theorem z2h {L:List zH} {s:Int} {o:zH} (h:o∈clr L s):∃o'∈L,o.id=o'.id∧o.side=o'.side∧o.price=o'.price∧o.qty=o'.qty∧o.top=(if o.side=s then false else o'.top):=by
 obtain⟨o',ho,e⟩:=yYa.1 h
 refine⟨o',ho,?_⟩
 by_cases c:o'.side=s
 ·rw[yWl c]at e
  subst e
  exact⟨rfl,rfl,rfl,rfl,(yWl c).symm⟩
 ·rw[yWj c]at e
  subst e
  exact⟨rfl,rfl,rfl,rfl,(yWj c).symm⟩
theorem yGr {L:List zH} {s:Int} {o:zH} (h:o∈L) (hs:o.side≠s):o∈clr L s:=yYa.2 ⟨o,h,yWj hs⟩
theorem z3p (L:List zH) (s:Int):(clr L s).map (·.id)=L.map (·.id):=by
 rw[clr,yZc]
 refine yXs fun o _=> ?_
 simp only[Function.comp]
 split<;>rfl
theorem zSv (b:Book) (id:Int) {s:Int} (hs:s=1∨s=2):(b.leadF id s).a=b.untop s∧(b.leadF id s).buys=b.buys∧(b.leadF id s).sells=b.sells∧(b.leadF id s).at_=b.at_∧(b.leadF id s).spare=b.spare∧∀s',s'=1∨s'=2→(b.leadF id s).hasF s'=(if s'=s then true else b.hasF s')∧(b.leadF id s).topI s'=(if s'=s then id else b.topI s'):=by
 rcases hs with rfl|rfl
 ·exact⟨rfl,rfl,rfl,rfl,rfl,fun s' h=>by rcases h with rfl|rfl<;>exact⟨rfl,rfl⟩⟩
 ·exact⟨rfl,rfl,rfl,rfl,rfl,fun s' h=>by rcases h with rfl|rfl<;>exact⟨rfl,rfl⟩⟩
theorem Book.Core.like {b b':Book} {Q:List (List Nat)} {h:Int} (c:b.Core Q h) (e1:b'.a=b.a) (e2:b'.buys=b.buys) (e3:b'.sells=b.sells) (e4:b'.at_=b.at_) (e5:b'.spare=b.spare):b'.Core Q h∧b'.flat Q=b.flat Q:=by
 have er:∀s,b'.rungs s=b.rungs s:=fun s=>by rw[Book.rungs,Book.rungs,e2,e3]
 have eo:∀s r,b'.rOrds Q s r=b.rOrds Q s r:=fun s r=>by rw[Book.rOrds,Book.rOrds,e1]
 have es:∀s,b'.sideL Q s=b.sideL Q s:=fun s=>by rw[Book.sideL,Book.sideL,er];exact xA fun r _=>eo s r
 have ep:∀s,b'.plcs Q s=b.plcs Q s:=fun s=>by rw[Book.plcs,Book.plcs,er,e1]
 have ef:b'.flat Q=b.flat Q:=by rw[Book.flat,Book.flat,es,es]
 have eq:b'.qs=b.qs:=by rw[Book.qs,Book.qs,e2,e3,e5]
 exact⟨⟨by rw[e1];exact c.wf,fun s hs=>by rw[er];exact c.srt s hs,by rw[eq];exact c.rng,by rw[eq];exact c.nd,by rw[eq];exact c.ql,fun s hs=>by rw[er];exact c.ne s hs,by rw[e5];exact c.sp,by rw[e4,ep,ep];exact c.at_,by rw[ef];exact c.ids,c.qb⟩,ef⟩
theorem Book.Rep.stand {b:Book} {L:List zH} (h:b.Rep L) {s:Int} (hs:s=1∨s=2) {id p q:Int} (hid:id∉L.map (·.id)) (hl:L.length<250) (hq:1≤q∧q≤1000000):(b.stand s id p q).Rep (zPu L s id p q):=by
 obtain⟨Q,c,ht,rfl⟩:=h
 have hld:=c.leads hs p
 have h1:(b.led id s p).Core Q (-1)∧(b.led id s p).flat Q=(if u0 (b.flat Q) s p=true then clr (b.flat Q) s else b.flat Q):=by
  rw[Book.led,hld]
  split
  ·obtain⟨e1,e2,e3,e4,e5,_⟩:=zSv b id hs
   obtain⟨u1,u2⟩:=c.untop s
   obtain⟨v1,v2⟩:=Book.Core.like (b':=b.leadF id s) (c.flag u1 u2) e1 e2 e3 e4 e5
   exact⟨v1,v2.trans (c.untop_flat ht hs)⟩
  ·exact⟨c,rfl⟩
 obtain⟨c1,f1⟩:=h1
 have hlen1:((b.led id s p).flat Q).length<250:=by
  rw[f1];split
  ·rw[clr,yWk];exact hl
  ·exact hl
 have hid1:id∉((b.led id s p).flat Q).map (·.id):=by
  rw[f1];split
  ·rw[z3p];exact hid
  ·exact hid
 obtain⟨Q',R1,R2,hqd⟩:=c1.queue hlen1 hs p
 obtain⟨Q3,A,B,k1,k2,k3,k4,k5⟩:=hqd.put hs (b.leads s p) hid1 (c1.used hlen1) hq
 have hAB:A++B=(if u0 (b.flat Q) s p=true then clr (b.flat Q) s else b.flat Q):=by rw[← k2,hqd.flat,f1]
 have hins:zPu (b.flat Q) s id p q=A++⟨id,s,p,q,b.leads s p⟩::B:=by
  rw[zPu]
  obtain⟨t1,t2⟩:=yBb k4 k5
  rw[← hAB,t1,t2,hld]
 refine⟨Q3,k1,?_,?_⟩
 ·rw[hins,hld]
  show Book.Tops {((b.led id s p).queueF s p).1 with a:=_,at_:=_} _
  have hto:∀x,({((b.led id s p).queueF s p).1 with a:=(((b.led id s p).queueF s p).1.a.push ((b.led id s p).queueF s p).2 id q (b.leads s p)).1,at_:=pE id ⟨s,p,(((b.led id s p).queueF s p).1.a.push ((b.led id s p).queueF s p).2 id q (b.leads s p)).2.1⟩ ((b.led id s p).queueF s p).1.at_}:Book).hasF x=(b.led id s p).hasF x∧({((b.led id s p).queueF s p).1 with a:=(((b.led id s p).queueF s p).1.a.push ((b.led id s p).queueF s p).2 id q (b.leads s p)).1,at_:=pE id ⟨s,p,(((b.led id s p).queueF s p).1.a.push ((b.led id s p).queueF s p).2 id q (b.leads s p)).2.1⟩ ((b.led id s p).queueF s p).1.at_}:Book).topI x=(b.led id s p).topI x:=hqd.qty
  generalize ({((b.led id s p).queueF s p).1 with a:=(((b.led id s p).queueF s p).1.a.push ((b.led id s p).queueF s p).2 id q (b.leads s p)).1,at_:=pE id ⟨s,p,(((b.led id s p).queueF s p).1.a.push ((b.led id s p).queueF s p).2 id q (b.leads s p)).2.1⟩ ((b.led id s p).queueF s p).1.at_}:Book)=B3 at*
  have mAB:∀o,o∈A++⟨id,s,p,q,u0 (b.flat Q) s p⟩::B↔o=⟨id,s,p,q,u0 (b.flat Q) s p⟩∨o∈A++B:=by
   intro o
   rw[yXo,yXe,yXo]
   constructor
   ·rintro(h|h|h)
    ·exact .inr (.inl h)
    ·exact .inl h
    ·exact .inr (.inr h)
   ·rintro(h|h|h)
    ·exact .inr (.inl h)
    ·exact .inl h
    ·exact .inr (.inr h)
  have hsd:∀o∈b.flat Q,o.side=1∨o.side=2:=fun o ho=>(mG ho).1
  by_cases hlead:u0 (b.flat Q) s p=true
  ·rw[yWl hlead]at hAB
   have hb1:b.led id s p=b.leadF id s:=by rw[Book.led,yWl (hld.trans hlead)]
   obtain⟨_,_,_,_,_,e6⟩:=zSv b id hs
   rw[hb1]at hto
   refine⟨fun o ho=> ?_,fun s' hs' hh=> ?_⟩
   ·rcases(mAB o).1 ho with rfl|ho
    ·rw[(hto s).1,(hto s).2,(e6 s hs).1,(e6 s hs).2,yWl rfl,yWl rfl,hlead];simp
    ·rw[hAB]at ho
     obtain⟨o',ho',i1,i2,_,_,i5⟩:=z2h ho
     rw[(hto _).1,(hto _).2,i5,(e6 o.side (by rw[i2];exact hsd o' ho')).1,(e6 o.side (by rw[i2];exact hsd o' ho')).2]
     by_cases e:o.side=s
     ·rw[yWl e,yWl e,yWl e,yZe]
      symm
      refine yWx fun e2=>hid ?_
      rw[← e2,i1];exact yXq ho'
     ·rw[yWj e,yWj e,yWj e,ht.fl o' ho',i1,i2]
   ·rw[(hto s').2,(e6 s' hs').2]
    by_cases e:s'=s
    ·rw[yWl e]
     exact⟨_,(mAB _).2 (.inl rfl),e.symm,rfl⟩
    ·rw[(hto s').1,(e6 s' hs').1,yWj e]at hh
     rw[yWj e]
     obtain⟨o,ho,o1,o2⟩:=ht.th s' hs' hh
     exact⟨o,(mAB _).2 (.inr (by rw[hAB];exact yGr ho (by rw[o1];exact e))),o1,o2⟩
  ·rw[yWj hlead]at hAB
   have hlf:u0 (b.flat Q) s p=false:=by simpa using hlead
   have hb1:b.led id s p=b:=by rw[Book.led,yWj (by rw[hld];exact hlead)]
   rw[hb1]at hto
   refine⟨fun o ho=> ?_,fun s' hs' hh=> ?_⟩
   ·rw[(hto _).1,(hto _).2]
    rcases(mAB o).1 ho with rfl|ho
    ·show u0 (b.flat Q) s p=(b.hasF s && decide (id=b.topI s))
     rw[hlf]
     cases hh:b.hasF s with
     |false=>rfl
     |true=>
      rw[yZe]
      symm
      refine yWx fun e2=>hid ?_
      obtain⟨o,ho,_,o2⟩:=ht.th s hs hh
      rw[e2,← o2];exact yXq ho
    ·rw[hAB]at ho;exact ht.fl o ho
   ·rw[(hto s').1]at hh
    rw[(hto s').2]
    obtain⟨o,ho,o1,o2⟩:=ht.th s' hs' hh
    exact⟨o,(mAB _).2 (.inr (by rw[hAB];exact ho)),o1,o2⟩
 ·rw[hins];exact k3.symm
theorem Book.Rep.pget {b:Book} {L:List zH} (h:b.Rep L) (id:Int):(pget b.at_ id).isSome=wC L id:=by
 obtain⟨Q,c,ht,rfl⟩:=h
 cases hg:Sx.pget b.at_ id with
 |none=>
  have:=zDp hg
  rw[c.keysP.mem_iff,← hasId_iff]at this
  symm;simpa using this
 |some x=>
  have:=yXq (f:=(·.1)) (rM hg)
  rw[c.keysP.mem_iff,← hasId_iff]at this
  symm;exact this
theorem Book.Rep.len {b:Book} {L:List zH} (h:b.Rep L):b.at_.length=L.length:=by
 obtain⟨Q,c,ht,rfl⟩:=h
 exact c.len
theorem Book.Rep.add {b:Book} {L:List zH} (h:b.Rep L) {s:Int} (hs:s=1∨s=2) (id p q:Int):(b.addF s id p q).1.Rep (zGs L s id p q).1∧(b.addF s id p q).2=(zGs L s id p q).2:=by
 rw[Book.addF,zGs,h.pget,h.len]
 repeat' split
 all_goals first|exact⟨h,rfl⟩|skip
 rename_i c1 c2 c3
 exact⟨h.stand hs (fun e=>c2 (hasId_iff.2 e)) (by omega) (by omega),rfl⟩
theorem z5p:book0.Rep []:=by
 refine⟨[],⟨⟨⟨by simp[book0,zJp],rfl,fun n l h=>by simp at h,fun n l h=>by simp at h,fun n l h=>by simp at h,fun k s hk hu=> ?_,?_⟩,fun n l h=>by simp at h⟩,fun s hs=> ?_,fun q hq=>by simp[book0,Book.qs]at hq,by simp[book0,Book.qs],rfl,fun s hs r hr=> ?_,fun q hq=>by simp[book0]at hq,?_,?_,by decide⟩,⟨fun o ho=>(by cases ho),fun s hs hh=> ?_⟩,?_⟩
 ·have:=yWt hk
  rw[y2i this]at hu;cases hu
 ·decide
 ·rcases hs with rfl|rfl<;>exact List.Pairwise.nil
 ·rcases hs with rfl|rfl<;>cases hr
 ·exact List.Perm.refl _
 ·exact List.nodup_nil
 ·rcases hs with rfl|rfl<;>cases hh
 ·rfl
open Go Cv Go.Proofs
structure BoI where
 b:Book
 s:Int
 r:xH
 l:List Nat
def BoI.ords (i:BoI):List zH:=(i.b.a.ents i.l).map fun e=>⟨e.id,i.s,i.r.price,e.qty,e.top⟩
def ordersC:Con:=con1 BoI (fun i=>[.nm 0 0,zA i.s,.agg [zA i.r.price,zA i.r.queue]]) (fun i=>[z5 i.b]) (fun i=>i.b.a.listOk i.r.queue i.l) (fun _=> .own 1) (fun i=>[z5 i.b,.own 192 5 (i.ords.map wP)])
def yEl (i:BoI):List SAnn:=[{ι:=Nat,slots:=fun j=>[(7,.own 0),(18,zA j)],rows:=fun j=>[.own 192 5 ((i.ords.take j).map wP)]}]
open Go Cv Go.Proofs
def h9 (a:ArL):=(List.map zGr (a.a.ents a.l))
def z1q (i:BoI):Prop:=
 ∃(a:ArL),a.n=i.r.queue∧AObj.adt Arena 3 zF a.a=AObj.adt Arena 3 zF i.b.a∧a.a.listOk a.n a.l∧∀(b:Unit),True→∃(c:Nat),(↑c:Int)=0∧List.map wP (List.take c i.ords)=[]∧∃(d:Nat→Prop),∃(e:Nat→Nat),d c∧∀(f:Nat),d f→cnd (decide ((↑f:Int)<(↑(h9 a).length:Int))) ((0≤(↑f:Int)∧(↑f:Int)<(↑(h9 a).length:Int))∧∃(g:Int),∃(h:Int),∃(j:Int),∃(k:Bool),zE (h9 a) (↑f:Int).toNat 0 4=some [dI g,dI h,dI j,D.v (.bool k)]∧((List.map wP (List.take f i.ords)).length+1)*(40:Nat)≤(140737488355328:Nat)∧∃(l:Nat),(↑l:Int)=IntKind.i64.wrap ((↑f:Int)+1)∧List.map wP (List.take l i.ords)=List.map wP (List.take f i.ords)++[[dI h,dI i.s,dI i.r.price,dI j,D.v (.bool k)]]∧d l∧e l<e f∧AObj.adt Arena 3 zF a.a=AObj.adt Arena 3 zF a.a∧AObj.own 326 4 (h9 a)=AObj.own 326 4 (h9 a)∧Sx.AObj.cells [V.d (dI i.r.price),V.d (dI i.r.queue)] 304=Sx.AObj.cells [V.d (dI i.r.price),V.d (dI i.r.queue)] 304∧Sx.AObj.cells (gX (jG 0 1 6) [V.nm 1 0,V.own 2,V.own 3,V.mp 4,zA i.b.top1,zA i.b.top2,V.own 5,yF i.b.has1,yF i.b.has2]) (299:TypeId)=Sx.AObj.cells (gX (jG 0 1 6) [V.nm 1 0,V.own 2,V.own 3,V.mp 4,zA i.b.top1,zA i.b.top2,V.own 5,yF i.b.has1,yF i.b.has2]) (299:TypeId)∧AObj.own 304 2 (List.map zB i.b.buys)=AObj.own 304 2 (List.map zB i.b.buys)∧AObj.own 304 2 (List.map zB i.b.sells)=AObj.own 304 2 (List.map zB i.b.sells)∧Sx.AObj.map (atE i.b.at_)=Sx.AObj.map (atE i.b.at_)∧AObj.own 3 1 (iE i.b.spare)=AObj.own 3 1 (iE i.b.spare)) (∃(g:Unit),i.b.top1=i.b.top1∧i.b.top2=i.b.top2∧i.b.has1=i.b.has1∧i.b.has2=i.b.has2∧AObj.adt Arena 3 zF i.b.a=AObj.adt Arena 3 zF a.a∧List.map zB i.b.buys=List.map zB i.b.buys∧List.map zB i.b.sells=List.map zB i.b.sells∧atE i.b.at_=atE i.b.at_∧iE i.b.spare=iE i.b.spare∧List.map wP i.ords=List.map wP (List.take f i.ords)∧True)
open Go Cv Go.Proofs
theorem yVa {l:List Ent} {k:Nat} {e:Ent} (h:l[k]? =some e):zE (l.map zGr) k 0 4=some [D.v (.int .i64 e.slot),.v (.int .i64 e.id),.v (.int .i64 e.qty),.v (.bool e.top)]:=elA h (by simp[zGr]) rfl
theorem yIn (i:BoI) (h:ordersC.cnd i):z1q i:=by
 have h:i.b.a.listOk i.r.queue i.l:=h
 have hl:=h.len
 have hen:(i.b.a.ents i.l).length=i.l.length:=by simp[Arena.ents]
 have hol:i.ords.length=i.l.length:=by simp[BoI.ords,Arena.ents]
 unfold z1q h9 dI
 refine⟨⟨i.b.a,i.r.queue,i.l⟩,rfl,rfl,h,fun _ _=> ?_⟩
 simp only[yWk]
 refine⟨0,rfl,rfl,fun j=>j≤i.l.length,fun j=>i.l.length-j,yYh _,fun j hj=>zI (fun c=> ?_) (fun c=> ?_)⟩
 ·obtain⟨e,he⟩:=yD (l:=i.b.a.ents i.l) (i:=j) (by omega)
  have ho:i.ords[j]? =some ⟨e.id,i.s,i.r.price,e.qty,e.top⟩:=by rw[BoI.ords,yXr,he];rfl
  refine⟨⟨by omega,by omega⟩,e.slot,e.id,e.qty,e.top,yVa he,by rw[yXd];omega,j+1,wjn (by omega),?_,by omega,by dsimp only;omega,k0q⟩
  rw[yXt,ho];simp[wP]
 ·have hje:j=i.l.length:=by omega
  subst hje
  rw[yWu (l:=i.ords) (by omega)]
  (repeat'(first|exact rfl|exact trivial|assumption|apply And.intro|refine fun(_:Unit) (_:True)=>?_|refine Exists.intro () ?_|omega|(dsimp only;omega)))
theorem zOm:ordersC.ok Tryz.prog 285:=okw mixed (gokc yBa gok0) 0 (fun _=>[]) (fun i=>yEl i) [0] Tryz.func285 yIn
open Go Go.RowKit Cv
theorem zUs {P:Program} {tS rt e sz by_:Nat} {z:Array Value} (hi:uF P tS=some (e,sz,by_,z)) {w:World} {g i c n k:Nat} {A:Option Addr} {cur src:List Value} {T:TypeId}
 (hg:w.heap[g]? =some (.cells cur.toArray T (0,0))) (hs:(Builtin.firstCells sz n (.slice A n k)).run P w= .ok src.toArray w) (hl:src.length=n*sz) (hfit:i+n≤c) (hroom:i*sz+n*sz≤cur.length) (hone:∀v∈src,v.oneC=true):
 u6 P (Builtin.append_ #[tS,tS] rt #[.slice (some ⟨g,0,none⟩) i c,.slice A n k]) w (.slice (some ⟨g,0,none⟩) (i+n) c) (World.setB w g (.cells (spl cur (i*sz) src).toArray T (0,0))):=by
 obtain⟨inf,zv,q1,q2,rfl,rfl,q5,rfl⟩:=kZ hi
 have hst:=jU (P:=P) src 0 (i*inf.size) cur w hg (by omega) hone
 simp only[y0u]at hst
 have hln:∀w,(Builtin.lenOf (.slice A n k)).run P w= .ok n w:=fun w=>rfl
 unfold u6 Builtin.append_
 simp only[yYj,yYp,yYf,bind,pure,run_bind,Sem.bind,Sem.run,Cv.run_underlying q1,Cv.run_sizeOf q2,yXb,if_false,hs,hln,hfit,if_true,vM,yXk,hst,y1p]
theorem zXw {P:Program} {tS ty e sz by_:Nat} {z:Array Value} (hi:uF P tS=some (e,sz,by_,z)) (hz:z.size=sz) (h1:∀v∈z.toList,v.oneC=true) {w:World} {g o n c:Nat} {cur:List Value} {T:TypeId} (hn:0<n)
 (hg:w.heap[g]? =some (.cells cur.toArray T (0,0))) (hroom:o+n*sz≤cur.length):
 u6 P (Builtin.clear_ #[tS] ty #[.slice (some ⟨g,o,none⟩) n c]) w (.tuple #[]) (World.setB w g (.cells (spl cur o (Builtin.zeroCells z n).toList).toArray T (0,0))):=by
 obtain⟨inf,zv,q1,q2,rfl,rfl,q5,rfl⟩:=kZ hi
 have hlz:(Builtin.zeroCells zv.cells n).toList.length=n*inf.size:=by rw[y1n,size_zeroCells,hz]
 have hst:=jU (P:=P) (Builtin.zeroCells zv.cells n).toList 0 o cur w hg (by omega) (by
  intro v hv
  obtain⟨i,hi,rfl⟩:=List.getElem_of_mem hv
  simp only[Builtin.zeroCells,Array.getElem_toList,Array.getElem_map,Array.getElem_range]
  have hpos:0<zv.cells.size:=by
   rcases Nat.eq_zero_or_pos zv.cells.size with h0|h0
   ·rw[hlz,← hz,h0]at hi;omega
   ·exact h0
  have hlt:i % zv.cells.size<zv.cells.size:=Nat.mod_lt _ hpos
  rw[getElem!_pos zv.cells (i % zv.cells.size) hlt]
  exact h1 _ (by simp))
 simp only[y0u]at hst
 have hzr:∀w,(zeroValue e).run P w= .ok zv w:=fun w=>zero_run (by unfold zero?;rw[q2];exact q5) w
 obtain⟨m,rfl⟩:∃m,n=m+1:=⟨n-1,by omega⟩
 unfold u6 Builtin.clear_
 simp only[yYj,yYp,yYf,bind,pure,run_bind,Sem.bind,Sem.run,Cv.run_underlying q1,hzr,hst]
def yMw (P:Program) (tS sz:Nat) (s:Option Addr) (sn sk:Nat) (i j:Int) (w:World) (R:Ending→World→Prop):Prop:=
yPg s sk i j (sn:Int) sz fun a1 na1 ka1=>
cnd ((i:Int)==j) (
R (.returned (.slice s sn sk)) w) (
z2x w fun w2=>
slN s sn sk none (some i) sz fun a3 na3 ka3=>
slN s sn sk (some j) none sz fun a4 na4 ka4=>
∃(a5:Option Addr) (na5 ka5:Nat),∃w6:World,u6 P (Builtin.append_ #[tS,tS] tS #[.slice a3 na3 ka3,.slice a4 na4 ka4]) w2 (.slice a5 na5 ka5) w6∧
slN a5 na5 ka5 (some (na5:Int)) (some (sn:Int)) sz fun a7 na7 ka7=>
∃w8:World,u6 P (Builtin.clear_ #[tS] 0 #[.slice a7 na7 ka7]) w6 (.tuple #[]) w8∧
R (.returned (.slice a5 na5 ka5)) w8)
theorem yVm {P:Program} {tS e sz by_:Nat} {z:Array Value} (hi:uF P tS=some (e,sz,by_,z)) (hz:z.size=sz) (hz1:∀v∈z.toList,v.oneC=true)
 {k:Ko} {w:World} {L:List HP} {s:Option Addr} {sn sk i j:Nat} {xs:List Value} (H:Hp k w (slO e sz s sn sk xs::L)) (h1:∀u∈xs,u.oneC=true) (hij:i<j) (hj:j≤sn):
 yMw P tS sz s sn sk i j w fun en w'=>∃a kk,en= .returned (.slice a (sn-(j-i)) kk)∧Hp k w' (slO e sz a (sn-(j-i)) kk (xs.take (i*sz)++xs.drop (j*sz))::L):=by
 obtain⟨hxl,hnk⟩:=H.len
 rcases H.slcases with⟨_,e0,_⟩|⟨b,r,rfl,g1,g2,g3,H0⟩
 ·omega
 have hle:i*sz≤xs.length:=by rw[hxl];exact yXu _ (by omega)
 have hjle:j*sz≤xs.length:=by rw[hxl];exact yXu _ hj
 have hdl:(xs.drop (j*sz)).length=(sn-j)*sz:=by rw[yXg,hxl,Nat.sub_mul]
 have hsum:i*sz+(sn-j)*sz=(sn-(j-i))*sz:=by rw[← yZk];congr 1;omega
 have hsum2:i*sz+(sn-j)*sz+(j-i)*sz=sn*sz:=by rw[← yZk,← yZk];congr 1;omega
 have hsum3:j*sz+(sn-j)*sz=sn*sz:=by rw[← yZk];congr 1;omega
 have hlen:(xs++r).length=xs.length+r.length:=yWi
 unfold yMw
 simp only[yPg,slN,yXa]
 refine⟨⟨by omega,by omega,by omega,by omega⟩,Cv.cnd.mk (fun c=>absurd c (by simp;omega)) fun _=> ?_⟩
 rintro _ rfl
 have H1:=H0.drew
 have hsrc:(Builtin.firstCells sz (sn-j) (.slice (if sk=j then some ⟨b,0,none⟩else(some ⟨b,0,none⟩:Option Addr).map (·.add (j*sz))) (sn-j) (sk-j))).run P w.drew= .ok (xs.drop (j*sz)).toArray w.drew:=by
  by_cases h0:(sn-j)*sz=0
  ·have:xs.drop (j*sz)=[]:=yXn (by omega)
   rw[this]
   by_cases hk:sk=j
   ·rw[yWl hk];unfold Builtin.firstCells;rw[h0];rfl
   ·rw[yWj hk,yYk,vM];unfold Builtin.firstCells;rw[h0];rfl
  ·have hk:sk≠j:=by rintro rfl;have:sn-sk=0:=by omega
                    rw[this]at h0;simp at h0
   rw[yWj hk,yYk,vM]
   unfold Builtin.firstCells
   rw[uN H1.get (by rw[hlen];omega)]
   rw[yXk,yYr hjle,yXh (by omega),yWu (by omega)]
 refine⟨⟨by omega,by omega⟩,⟨by omega,by omega,hnk⟩,_,_,_,_,zUs (i:=i) (c:=sk) hi H1.get hsrc hdl (by omega) (by rw[hlen];omega) (fun v hv=>h1 v (y0e hv)),⟨by omega,by omega,by omega⟩,?_⟩
 have H2:=H1.upd (.cells (spl (xs++r) (i*sz) (xs.drop (j*sz))).toArray e)
 have e1:i+(sn-j)=sn-(j-i):=by omega
 rw[yWj (show sk≠i+(sn-j)by omega),yYk,vM,yXk,e1]
 have espl:spl (xs++r) (i*sz) (xs.drop (j*sz))=(xs.take (i*sz)++xs.drop (j*sz))++(xs++r).drop ((sn-(j-i))*sz):=by
  simp only[spl]
  rw[yXh hle,hdl,hsum]
 rw[espl]at H2
 have hA:(xs.take (i*sz)++xs.drop (j*sz)).length=(sn-(j-i))*sz:=by
  rw[yWi,yXd,hdl];omega
 have hB:((xs++r).drop ((sn-(j-i))*sz)).length=(j-i)*sz+r.length:=by
  rw[yXg,hlen];omega
 rw[espl]
 have hn:sn-(sn-(j-i))=j-i:=by omega
 rw[hn]
 refine⟨_,zXw hi hz hz1 (by omega) H2.get (by rw[yWi,hA,hB];omega),_,_,rfl,?_⟩
 have H3:=H2.upd (.cells (spl (xs.take (i*sz)++xs.drop (j*sz)++(xs++r).drop ((sn-(j-i))*sz)) ((sn-(j-i))*sz) (Builtin.zeroCells z (j-i)).toList).toArray e)
 have es:=zQi (xs.take (i*sz)++xs.drop (j*sz)) ((xs++r).drop ((sn-(j-i))*sz)) (Builtin.zeroCells z (j-i)).toList
 rw[hA]at es
 rw[es]at H3
 rw[es]
 rw[yWo (xs.take (i*sz)++xs.drop (j*sz))]at H3 ⊢
 have hzl:(Builtin.zeroCells z (j-i)).toList.length=(j-i)*sz:=by rw[y1n,size_zeroCells,hz]
 refine H3.slmk hA ?_ (by omega)
 rw[yWi,hA,yWi,hzl,yXg,hB,← g2,hlen,hxl]
 omega
structure yNi where
 els:List (List D)
 i:Nat
 j:Nat
def yLx (e sz:Nat):Con where
 ι:=yNi
 pat:=fun i=>[.own 0,.d (.v (.int .i64 i.i)),.d (.v (.int .i64 i.j))]
 pre:=fun i=>[.own e sz i.els]
 cnd:=fun i=>i.i<i.j∧i.j≤i.els.length
 alts:=fun i=>[{o:=Unit,res:=fun _=> .own 1,post:=fun _=>[.gone,.own e sz (i.els.take i.i++i.els.drop i.j)],rel:=fun _=>True}]
theorem delX_ok {P:Program} (hm:P.follows .mixedOrders=true) {tS e sz by_ fI:Nat} {z:Array Value} {fn:Func} {c:Code} (hf:P.funcs[fI]? =some fn) (hb:fn.body=some c) (hbd:uB P fI=true) (hok:okC fn.ntmps c=true) (hfx:okF [] c=true) (hsz3:Nat.ble 3 fn.ntmps=true)
 (hi:uF P tS=some (e,sz,by_,z)) (hz:z.size=sz) (hz1:∀v∈z.toList,v.oneC=true)
 (heq:∀(s:Option Addr) (sn sk:Nat) (i j:Int) (w:World) (R:Ending→World→Prop),yMw P tS sz s sn sk i j w R=cwp P [] c (zSp P fn R) (qJ [.slice s sn sk,.int .i64 i,.int .i64 j]) w):
 (yLx e sz).ok P fI:=by
 intro i hc k L E w ys R hv
 obtain⟨c1,c2⟩:i.i<i.j∧i.j≤i.els.length:=hc
 simp only[yLx,VRL,VR,DR]at hv
 obtain⟨y0,_,rfl,⟨l0,e0,_⟩,y1,_,rfl,⟨rfl,_⟩,y2,_,rfl,⟨rfl,_⟩,rfl⟩:=hv
 obtain⟨s,sk,xs,sub0,g1,hxs,hu,H⟩:=R.ownOpen (n:=0) (t:=e) (sz:=sz) (els:=i.els) rfl
 rw[e0]at g1;cases g1
 have H2:Hp k w (slO e sz s i.els.length sk xs::fz E.F::L):=H
 have hv:=yVm hi hz hz1 H2 hxs.one c1 c2
 have hcall:=zFz (args:=[.slice s i.els.length sk,.int .i64 i.i,.int .i64 i.j]) hm hf hb [] hok hfx hsz3 (heq s i.els.length sk i.i i.j w _) hv
 refine lY hbd (hcall.mono ?_)
 rintro en w' ⟨a,kk,rfl,H3⟩
 have hl:(i.els.take i.i++i.els.drop i.j).length=i.els.length-(i.j-i.i):=by
  rw[yWi,yXd,yXg];omega
 have H4:Hp k w' (slO e sz a (i.els.take i.i++i.els.drop i.j).length kk (xs.take (i.i*sz)++xs.drop (i.j*sz))::(([]:List (Nat×AObj)).map (rHP E)++fz E.F::L)):=by
  rw[hl]
  exact H3
 obtain⟨E',r1,r2,r3⟩:=cS (nx:=1) R.nx (by
  rw[List.flatten_append,← a8 i.i hu,← aX i.j hu]
  exact(hxs.take _).append (hxs.drop _)) (fun x hx=>by
   rcases yXo.1 hx with hx|hx
   ·exact hu x (y1h hx)
   ·exact hu x (y0e hx)) H4
 rw[hl]at r3
 refine⟨_,rfl,_,yYc.2 rfl,(),trivial,E',r1,r3,⟨r2.nx,?_⟩⟩
 exact((@vC k w' True _).2 ⟨trivial,r2.hp⟩).imp (B:=rHP E' (0,.gone)) fun x hx=> .inl ⟨rfl,hx.2⟩
open Go Cv Go.Proofs
def aL (k:Int):List (Int×Place)→List (Int×Place)
 |[]=>[]
 |(a,b)::l=>if k=a then l else(a,b)::aL k l
structure DrI where
 b:Book
 id:Int
 price:Int
 slot:Int
def Book.unhas (b:Book) (s id:Int):Book:=if b.hasF s=true∧b.topI s=id then(if s=1 then{b with has1:=false}else{b with has2:=false})else b
def Book.dropF (b:Book) (s id price:Int):Book:=
 if(b.a.qAt ((b.rungs s).getD (zW s (b.rungs s) price) ⟨0,0⟩).queue).count=0 then
  ({b.unhas s id with at_:=aL id b.at_,spare:=b.spare++[((b.rungs s).getD (zW s (b.rungs s) price) ⟨0,0⟩).queue]}:Book).setR s ((b.rungs s).take (zW s (b.rungs s) price)++(b.rungs s).drop (zW s (b.rungs s) price+1))
 else{b.unhas s id with at_:=aL id b.at_}
def yGd (b:Book):AObj:= .cells [.nm 1 0,.own 6,.own 7,.mp 4,zA b.top1,zA b.top2,.own 8,yF b.has1,yF b.has2] 299
@[reducible] def yJx (b:Book):List AObj:=[yGd b,zQ b 1,.gone,.gone,zQ b 4,.gone,zQ b 2,zQ b 3,zQ b 5]
@[reducible] def DrI.ok (i:DrI) (s:Int):Prop:=i.b.small∧zW s (i.b.rungs s) i.price<(i.b.rungs s).length
def z9q (s:Int):Con:=con1 DrI (fun i=>[.nm 0 0,zA i.id,.agg [zA s,zA i.price,zA i.slot]]) (fun i=>zGm i.b) (fun i=>i.ok s) (fun _=>zBo) (fun i=>yJx (i.b.dropF s i.id i.price))
def drop1C:Con:=z9q 1
def drop2C:Con:=z9q 2
structure DrJ where
 i:DrI
 s:Bool
def dropC:Con:=con1 DrJ (fun j=>[.nm 0 0,zA j.i.id,.agg [zA (zC j.s),zA j.i.price,zA j.i.slot]]) (fun j=>zGm j.i.b) (fun j=>j.i.ok (zC j.s)) (fun _=>zBo) (fun j=>yJx (j.i.b.dropF (zC j.s) j.i.id j.i.price))
def delRC:Con:=yLx 304 2
def yOm:zH:=⟨0,0,0,0,false⟩
def fV (L:List zH) (id:Int):zH:=(L.find? fun o=>decide (o.id=id)).getD yOm
def uE (L:List zH) (id q:Int):List zH:=L.filterMap fun o=>if o.id=id then(if o.qty=q then none else some {o with qty:=o.qty-q})else some o
def xY (L:List zH) (id q:Int):List zH×Int:=if wC L id=false then(L,26)else if q<1∨(fV L id).qty<q then(L,24)else(uE L id q,0)
def atL (L:List zH) (s p:Int):List zH:=L.filter fun o=>decide (o.side=s) && decide (o.price=p)
def grp:List zH→List Lv
 |[]=>[]
 |o::l=>match grp l with
  |[]=>[⟨o.price,o.qty,1⟩]
  |v::vs=>if v.price=o.price then⟨v.price,o.qty+v.qty,v.count+1⟩::vs else⟨o.price,o.qty,1⟩::v::vs
def uM (L:List zH) (s:Int):List Lv:=grp (L.filter fun o=>decide (o.side=s))
def bestL (L:List zH) (s:Int):Lv×Bool:=match uM L s with
 |[]=>(⟨0,0,0⟩,false)
 |v::_=>(v,true)
structure BkL where
 b:Book
 L:List zH
structure FlI where
 b:Book
 L:List zH
 id:Int
 qty:Int
structure AtI where
 b:Book
 L:List zH
 s:Bool
 price:Int
def fillC:Con where
 ι:=FlI
 pat:=fun i=>[.nm 0 0,zA i.id,zA i.qty]
 pre:=fun i=>[z5 i.b]
 cnd:=fun i=>i.b.Rep i.L
 alts:=fun i=>[{o:=Book,res:=fun _=>zA (xY i.L i.id i.qty).2,post:=fun b=>[z5 b],rel:=fun b=>b.Rep (xY i.L i.id i.qty).1}]
def bfindC:Con:=con1 FlI (fun i=>[.nm 0 0,zA i.id]) (fun i=>[z5 i.b]) (fun i=>i.b.Rep i.L) (fun i=> .tup [z5l (fV i.L i.id),yF (wC i.L i.id)]) (fun i=>[z5 i.b])
def yRy (s:Bool):Con:=con1 AtI (fun i=>[.nm 0 0,zA (zC s),zA i.price]) (fun i=>[z5 i.b]) (fun i=>i.b.Rep i.L) (fun _=> .own 1) (fun i=>[z5 i.b,.own 192 5 ((atL i.L (zC s) i.price).map wP)])
def at1C:Con:=yRy false
def at2C:Con:=yRy true
def atC:Con:=con1 AtI (fun i=>[.nm 0 0,zA (zC i.s),zA i.price]) (fun i=>[z5 i.b]) (fun i=>i.b.Rep i.L) (fun _=> .own 1) (fun i=>[z5 i.b,.own 192 5 ((atL i.L (zC i.s) i.price).map wP)])
open Go Cv Go.Proofs
def y7 (a:DrI):=(a.b.dropF 1 a.id a.price)
def zEb (a:BkP) (b:DrI):Prop:=a.b.has2=b.b.has2∧AObj.adt Arena 3 zF a.b.a=zQ b.b 1∧List.map zB a.b.buys=List.map zB b.b.buys∧List.map zB a.b.sells=List.map zB b.b.sells∧atE a.b.at_=eZ (Value.int IntKind.i64 b.id) (atE b.b.at_)∧iE a.b.spare=iE b.b.spare∧(x3 a)∧∀(c:Unit),True→(gB a)∧∃(d:Int),zE (List.map zB a.b.buys) (xO a).toNat ((0:Nat)+(1:Nat)) 1=some [dI d]∧∃(e:ArN),e.n=d∧AObj.adt Arena 3 zF e.a=AObj.adt Arena 3 zF a.b.a∧True∧∀(f:Unit),True→cnd ((e.a.qAt e.n).count==0) (((iE a.b.spare).length+1)*(8:Nat)≤(140737488355328:Nat)∧∃(g:yNi),(↑g.i:Int)=(xO a)∧(↑g.j:Int)=IntKind.i64.wrap ((xO a)+1)∧g.els=List.map zB a.b.buys∧(g.i<g.j∧g.j≤g.els.length)∧∀(h:Unit),True→(1:Int)=(1:Int)∧∃(j:Unit),(y7 b).top1=a.b.top1∧(y7 b).top2=a.b.top2∧(y7 b).has1=a.b.has1∧(y7 b).has2=a.b.has2∧AObj.adt Arena 3 zF (y7 b).a=AObj.adt Arena 3 zF e.a∧atE (y7 b).at_=atE a.b.at_∧List.map zB (y7 b).buys=List.take g.i g.els++List.drop g.j g.els∧List.map zB (y7 b).sells=List.map zB a.b.sells∧iE (y7 b).spare=iE a.b.spare++[[dI d]]∧True) (∃(g:Unit),(y7 b).top1=a.b.top1∧(y7 b).top2=a.b.top2∧(y7 b).has1=a.b.has1∧(y7 b).has2=a.b.has2∧AObj.adt Arena 3 zF (y7 b).a=AObj.adt Arena 3 zF e.a∧atE (y7 b).at_=atE a.b.at_∧List.map zB (y7 b).buys=List.map zB a.b.buys∧List.map zB (y7 b).sells=List.map zB a.b.sells∧iE (y7 b).spare=iE a.b.spare∧True)
def zDx (a:DrI):Prop:=∃(b:BkP),(1:Int)=(1:Int)∧b.price=a.price∧b.b.top1=a.b.top1∧b.b.top2=a.b.top2∧b.b.has1=a.b.has1∧zEb b a
def yCk (i:DrI):Prop:=
 (∀(a:Value×List D),a∈atE i.b.at_→like (Value.int IntKind.i64 i.id) a.fst=true)∧cnd i.b.has1 (cnd (i.b.top1==i.id) (∃(a:BkP),(1:Int)=(1:Int)∧a.price=i.price∧a.b.top1=i.b.top1∧a.b.top2=i.b.top2∧a.b.has1=false∧zEb a i) (zDx i)) (zDx i)
def y5 (a:DrI):=(a.b.dropF 2 a.id a.price)
def zEl (a:BkP) (b:DrI):Prop:=AObj.adt Arena 3 zF a.b.a=zQ b.b 1∧List.map zB a.b.buys=List.map zB b.b.buys∧List.map zB a.b.sells=List.map zB b.b.sells∧atE a.b.at_=eZ (Value.int IntKind.i64 b.id) (atE b.b.at_)∧iE a.b.spare=iE b.b.spare∧(x3 a)∧∀(c:Unit),True→(hY a)∧∃(d:Int),zE (List.map zB a.b.sells) (xP a).toNat ((0:Nat)+(1:Nat)) 1=some [dI d]∧∃(e:ArN),e.n=d∧AObj.adt Arena 3 zF e.a=AObj.adt Arena 3 zF a.b.a∧True∧∀(f:Unit),True→cnd ((e.a.qAt e.n).count==0) (((iE a.b.spare).length+1)*(8:Nat)≤(140737488355328:Nat)∧∃(g:yNi),(↑g.i:Int)=(xP a)∧(↑g.j:Int)=IntKind.i64.wrap ((xP a)+1)∧g.els=List.map zB a.b.sells∧(g.i<g.j∧g.j≤g.els.length)∧∀(h:Unit),True→(2:Int)=(2:Int)∧∃(j:Unit),(y5 b).top1=a.b.top1∧(y5 b).top2=a.b.top2∧(y5 b).has1=a.b.has1∧(y5 b).has2=a.b.has2∧AObj.adt Arena 3 zF (y5 b).a=AObj.adt Arena 3 zF e.a∧atE (y5 b).at_=atE a.b.at_∧List.map zB (y5 b).buys=List.map zB a.b.buys∧List.map zB (y5 b).sells=List.take g.i g.els++List.drop g.j g.els∧iE (y5 b).spare=iE a.b.spare++[[dI d]]∧True) (∃(g:Unit),(y5 b).top1=a.b.top1∧(y5 b).top2=a.b.top2∧(y5 b).has1=a.b.has1∧(y5 b).has2=a.b.has2∧AObj.adt Arena 3 zF (y5 b).a=AObj.adt Arena 3 zF e.a∧atE (y5 b).at_=atE a.b.at_∧List.map zB (y5 b).buys=List.map zB a.b.buys∧List.map zB (y5 b).sells=List.map zB a.b.sells∧iE (y5 b).spare=iE a.b.spare∧True)
def zFi (a:DrI):Prop:=∃(b:BkP),(2:Int)=(2:Int)∧b.price=a.price∧b.b.top1=a.b.top1∧b.b.top2=a.b.top2∧b.b.has1=a.b.has1∧b.b.has2=a.b.has2∧zEl b a
def z7w (i:DrI):Prop:=
 (∀(a:Value×List D),a∈atE i.b.at_→like (Value.int IntKind.i64 i.id) a.fst=true)∧cnd i.b.has2 (cnd (i.b.top2==i.id) (∃(a:BkP),(2:Int)=(2:Int)∧a.price=i.price∧a.b.top1=i.b.top1∧a.b.top2=i.b.top2∧a.b.has1=i.b.has1∧a.b.has2=false∧zEl a i) (zFi i)) (zFi i)
def zAm (a:FlI):Prop:=List.map zB a.b.buys=List.map zB a.b.buys∧List.map zB a.b.sells=List.map zB a.b.sells∧atE a.b.at_=atE a.b.at_∧iE a.b.spare=iE a.b.spare∧True
def zEu (a:Int) (b:FlI) (c:Int) (d:Int):Prop:=∃(e:ArN),e.n=a∧AObj.adt Arena 3 zF e.a=AObj.adt Arena 3 zF b.b.a∧e.a.slots.length≤1000000∧∀(f:Unit),True→∃(g:Unit),(fV b.L b.id).id=b.id∧(fV b.L b.id).side=c∧(fV b.L b.id).price=d∧(fV b.L b.id).qty=(e.a.getF e.n).fst.qty∧(fV b.L b.id).top=(e.a.getF e.n).fst.top∧wC b.L b.id=true∧b.b.top1=b.b.top1∧b.b.top2=b.b.top2∧b.b.has1=b.b.has1∧b.b.has2=b.b.has2∧AObj.adt Arena 3 zF b.b.a=AObj.adt Arena 3 zF e.a∧zAm b
def pL (a:FlI) (b:Int) (c:Int) (d:Int) (e:Bool):Prop:=vT (Value.int IntKind.i64 a.id) (atE a.b.at_)=some [dI b,dI c,dI d]∧e=true∨vT (Value.int IntKind.i64 a.id) (atE a.b.at_)=none∧[dI b,dI c,dI d]=[dI 0,dI 0,dI 0]∧e=false
def z8n (i:FlI):Prop:=
 (∀(a:Value×List D),a∈atE i.b.at_→like (Value.int IntKind.i64 i.id) a.fst=true)∧∃(a:Bool),∃(b:Int),∃(c:Int),∃(d:Int),(pL i b c d a)∧cnd (!a) (∃(e:Unit),(fV i.L i.id).id=0∧(fV i.L i.id).side=0∧(fV i.L i.id).price=0∧(fV i.L i.id).qty=0∧(fV i.L i.id).top=false∧wC i.L i.id=false∧i.b.top1=i.b.top1∧i.b.top2=i.b.top2∧i.b.has1=i.b.has1∧i.b.has2=i.b.has2∧AObj.adt Arena 3 zF i.b.a=AObj.adt Arena 3 zF i.b.a∧zAm i) ((zEu d i b c)∧d=d∧True∧zEu d i b c)
def eF (a:Book) (b:FlI):Prop:=List.map zB a.buys=List.map zB b.b.buys∧List.map zB a.sells=List.map zB b.b.sells∧atE a.at_=atE b.b.at_∧iE a.spare=iE b.b.spare∧a.Rep (xY b.L b.id b.qty).fst
def wV (a:DrJ):=(a.i.b.dropF (zC a.s) a.i.id a.i.price)
def zKi (a:FlI) (b:Int) (c:Int) (d:Int) (e:ArN):Prop:=∃(f:DrJ),f.i.id=a.id∧zC f.s=b∧f.i.price=c∧f.i.slot=d∧f.i.b.top1=a.b.top1∧f.i.b.top2=a.b.top2∧f.i.b.has1=a.b.has1∧f.i.b.has2=a.b.has2∧AObj.adt Arena 3 zF f.i.b.a=AObj.adt Arena 3 zF e.a∧List.map zB f.i.b.buys=List.map zB a.b.buys∧List.map zB f.i.b.sells=List.map zB a.b.sells∧atE f.i.b.at_=atE a.b.at_∧iE f.i.b.spare=iE a.b.spare∧(((f.i.b.a.slots.length≤1000000∧f.i.b.a.queues.length≤1000000)∧f.i.b.buys.length≤1000000∧f.i.b.sells.length≤1000000∧f.i.b.spare.length≤1000000)∧zW (zC f.s) (f.i.b.rungs (zC f.s)) f.i.price<(f.i.b.rungs (zC f.s)).length)∧∀(g:Unit),True→∃(h:Book),(xY a.L a.id a.qty).snd=0∧h.top1=(wV f).top1∧h.top2=(wV f).top2∧h.has1=(wV f).has1∧h.has2=(wV f).has2∧AObj.adt Arena 3 zF h.a=AObj.adt Arena 3 zF (wV f).a∧List.map zB h.buys=List.map zB (wV f).buys∧List.map zB h.sells=List.map zB (wV f).sells∧atE h.at_=atE (wV f).at_∧iE h.spare=iE (wV f).spare∧h.Rep (xY a.L a.id a.qty).fst
def zRe (a:Int) (b:TkI) (c:FlI) (d:Int) (e:Int):Prop:=∃(f:ArN),f.n=a∧AObj.adt Arena 3 zF f.a=AObj.adt Arena 3 zF (b.a.takeF b.n b.qty).fst∧f.a.slots.length≤1000000∧∀(g:Unit),True→cnd (!(f.a.getF f.n).snd) (zKi c d e a f) (cnd ((f.a.getF f.n).fst.id !=c.id) (zKi c d e a f) (∃(h:Book),(xY c.L c.id c.qty).snd=0∧h.top1=c.b.top1∧h.top2=c.b.top2∧h.has1=c.b.has1∧h.has2=c.b.has2∧AObj.adt Arena 3 zF h.a=AObj.adt Arena 3 zF f.a∧eF h c))
def yKc (i:FlI):Prop:=
 (∀(a:Value×List D),a∈atE i.b.at_→like (Value.int IntKind.i64 i.id) a.fst=true)∧∃(a:Bool),∃(b:Int),∃(c:Int),∃(d:Int),(pL i b c d a)∧cnd (!a) (∃(e:Book),(xY i.L i.id i.qty).snd=26∧e.top1=i.b.top1∧e.top2=i.b.top2∧e.has1=i.b.has1∧e.has2=i.b.has2∧AObj.adt Arena 3 zF e.a=AObj.adt Arena 3 zF i.b.a∧eF e i) (∃(e:TkI),e.n=d∧e.qty=i.qty∧AObj.adt Arena 3 zF e.a=AObj.adt Arena 3 zF i.b.a∧(e.a.slots.length≤1000000∧∀(k:Nat) (s:Slot),e.a.slots[k]?=some s→s.used=true→(0≤s.queue∧s.queue<(↑e.a.queues.length:Int))∧s.qty≤1000000∧(s.ahead=(-1)∨0≤s.ahead∧s.ahead<(↑e.a.slots.length:Int)∧s.ahead≠(↑k:Int))∧(s.back=(-1)∨0≤s.back∧s.back<(↑e.a.slots.length:Int)∧s.back≠(↑k:Int)))∧∀(f:Unit),True→cnd ((e.a.takeF e.n e.qty).snd !=0) (∃(g:Book),(xY i.L i.id i.qty).snd=(e.a.takeF e.n e.qty).snd∧g.top1=i.b.top1∧g.top2=i.b.top2∧g.has1=i.b.has1∧g.has2=i.b.has2∧AObj.adt Arena 3 zF g.a=AObj.adt Arena 3 zF (e.a.takeF e.n e.qty).fst∧eF g i) ((zRe d e i b c)∧d=d∧True∧zRe d e i b c))
def yQr (i:AtI):Prop:=
 ∃(a:Int),a=zC false∧True∧∀(b:Unit),True→cnd (qQ a) (∃(c:Unit),i.b.top1=i.b.top1∧i.b.top2=i.b.top2∧i.b.has1=i.b.has1∧i.b.has2=i.b.has2∧AObj.adt Arena 3 zF i.b.a=AObj.adt Arena 3 zF i.b.a∧List.map zB i.b.buys=List.map zB i.b.buys∧List.map zB i.b.sells=List.map zB i.b.sells∧atE i.b.at_=atE i.b.at_∧iE i.b.spare=iE i.b.spare∧List.map wP (atL i.L (zC false) i.price)=[]∧True) (∃(c:BkP),1=zC false∧c.price=i.price∧c.b.top1=i.b.top1∧c.b.top2=i.b.top2∧c.b.has1=i.b.has1∧c.b.has2=i.b.has2∧AObj.adt Arena 3 zF c.b.a=AObj.adt Arena 3 zF i.b.a∧List.map zB c.b.buys=List.map zB i.b.buys∧List.map zB c.b.sells=List.map zB i.b.sells∧atE c.b.at_=atE i.b.at_∧iE c.b.spare=iE i.b.spare∧(x3 c)∧∀(d:Unit),True→cnd (!kH 1 (c.b.rungs 1) c.price) (∃(e:Unit),i.b.top1=c.b.top1∧i.b.top2=c.b.top2∧i.b.has1=c.b.has1∧i.b.has2=c.b.has2∧AObj.adt Arena 3 zF i.b.a=AObj.adt Arena 3 zF c.b.a∧List.map zB i.b.buys=List.map zB c.b.buys∧List.map zB i.b.sells=List.map zB c.b.sells∧atE i.b.at_=atE c.b.at_∧iE i.b.spare=iE c.b.spare∧List.map wP (atL i.L (zC false) i.price)=[]∧True) ((gB c)∧∃(e:Int),∃(f:Int),zE (List.map zB c.b.buys) (xO c).toNat 0 2=some [dI e,dI f]∧∃(g:BoI),g.s=zC false∧g.r.price=e∧g.r.queue=f∧g.b.top1=c.b.top1∧g.b.top2=c.b.top2∧g.b.has1=c.b.has1∧g.b.has2=c.b.has2∧AObj.adt Arena 3 zF g.b.a=AObj.adt Arena 3 zF c.b.a∧List.map zB g.b.buys=List.map zB c.b.buys∧List.map zB g.b.sells=List.map zB c.b.sells∧atE g.b.at_=atE c.b.at_∧iE g.b.spare=iE c.b.spare∧g.b.a.listOk g.r.queue g.l∧∀(h:Unit),True→∃(j:Unit),z5 i.b=z5 g.b∧List.map wP (atL i.L (zC false) i.price)=List.map wP g.ords∧True))
def yTw (i:AtI):Prop:=
 ∃(a:Int),a=zC true∧True∧∀(b:Unit),True→cnd (qQ a) (∃(c:Unit),i.b.top1=i.b.top1∧i.b.top2=i.b.top2∧i.b.has1=i.b.has1∧i.b.has2=i.b.has2∧AObj.adt Arena 3 zF i.b.a=AObj.adt Arena 3 zF i.b.a∧List.map zB i.b.buys=List.map zB i.b.buys∧List.map zB i.b.sells=List.map zB i.b.sells∧atE i.b.at_=atE i.b.at_∧iE i.b.spare=iE i.b.spare∧List.map wP (atL i.L (zC true) i.price)=[]∧True) (∃(c:BkP),2=zC true∧c.price=i.price∧c.b.top1=i.b.top1∧c.b.top2=i.b.top2∧c.b.has1=i.b.has1∧c.b.has2=i.b.has2∧AObj.adt Arena 3 zF c.b.a=AObj.adt Arena 3 zF i.b.a∧List.map zB c.b.buys=List.map zB i.b.buys∧List.map zB c.b.sells=List.map zB i.b.sells∧atE c.b.at_=atE i.b.at_∧iE c.b.spare=iE i.b.spare∧(x3 c)∧∀(d:Unit),True→cnd (!kH 2 (c.b.rungs 2) c.price) (∃(e:Unit),i.b.top1=c.b.top1∧i.b.top2=c.b.top2∧i.b.has1=c.b.has1∧i.b.has2=c.b.has2∧AObj.adt Arena 3 zF i.b.a=AObj.adt Arena 3 zF c.b.a∧List.map zB i.b.buys=List.map zB c.b.buys∧List.map zB i.b.sells=List.map zB c.b.sells∧atE i.b.at_=atE c.b.at_∧iE i.b.spare=iE c.b.spare∧List.map wP (atL i.L (zC true) i.price)=[]∧True) ((hY c)∧∃(e:Int),∃(f:Int),zE (List.map zB c.b.sells) (xP c).toNat 0 2=some [dI e,dI f]∧∃(g:BoI),g.s=zC true∧g.r.price=e∧g.r.queue=f∧g.b.top1=c.b.top1∧g.b.top2=c.b.top2∧g.b.has1=c.b.has1∧g.b.has2=c.b.has2∧AObj.adt Arena 3 zF g.b.a=AObj.adt Arena 3 zF c.b.a∧List.map zB g.b.buys=List.map zB c.b.buys∧List.map zB g.b.sells=List.map zB c.b.sells∧atE g.b.at_=atE c.b.at_∧iE g.b.spare=iE c.b.spare∧g.b.a.listOk g.r.queue g.l∧∀(h:Unit),True→∃(j:Unit),z5 i.b=z5 g.b∧List.map wP (atL i.L (zC true) i.price)=List.map wP g.ords∧True))
open Go Cv Go.Proofs
theorem mW {L:List zH} (h:(L.map (·.id)).Nodup) {o:zH} (ho:o∈L):fV L o.id=o:=by
 induction L with
 |nil=>cases ho
 |cons x L ih=>
  rw[yWz,yZb]at h
  rw[fV,List.find?_cons]
  rcases yXe.1 ho with rfl|ho
  ·rw[yXc rfl];rfl
  ·have:x.id≠o.id:=fun e=>h.1 (e▸yXq (f:=(·.id)) ho)
   rw[yWx this]
   exact ih h.2 ho
theorem bW {α β:Type} {f g:α→Option β}:∀{l:List α},(∀x∈l,f x=g x)→l.filterMap f=l.filterMap g
 |[],_=>rfl
 |x::l,h=>by rw[List.filterMap_cons,List.filterMap_cons,h x yWp,bW fun y hy=>h y (yWq _ hy)]
theorem yLl {L:List zH} {id:Int} (h:wC L id=false):fV L id=yOm:=by
 rw[fV]
 have:L.find? (fun o=>decide (o.id=id))=none:=by
  rw[List.find?_eq_none]
  intro o ho
  rw[wC,y2r]at h
  exact h o ho
 rw[this];rfl
structure Told (b:Book) (Q:List (List Nat)) (id:Int) (s:Int) (r:xH) (k:Nat):Prop where
 hs:s=1∨s=2
 hr:r∈b.rungs s
 hk:k∈y9 Q r
 e:pget b.at_ id=some ⟨s,r.price,k⟩
 ident:(b.a.slotAt k).id=id
 get:fV (b.flat Q) id=wO b.a s r.price k
 has:wC (b.flat Q) id=true
theorem yIr {b:Book} {Q:List (List Nat)} {s:Int} (hs:s=1∨s=2) {r:xH} (hr:r∈b.rungs s) {k:Nat} (hk:k∈y9 Q r):wO b.a s r.price k∈b.flat Q:=
 flat_mem hs (yYz.2 ⟨r,hr,yXq hk⟩)
theorem Book.Core.told {b:Book} {Q:List (List Nat)} (c:b.Core Q (-1)) (id:Int):(pget b.at_ id=none∧wC (b.flat Q) id=false)∨∃s r k,Told b Q id s r k:=by
 cases hg:pget b.at_ id with
 |none=>
  have:=zDp hg
  rw[c.keysP.mem_iff,← hasId_iff]at this
  exact .inl ⟨rfl,by simpa using this⟩
 |some x=>
  obtain⟨k,r,hs,hr,hk,hx,hid⟩:=c.plcI (rM hg)
  have hm:=yIr hs hr hk
  have hget:=mW c.ids hm
  have e:(wO b.a x.side r.price k).id=id:=hid
  rw[e]at hget
  exact .inr ⟨x.side,r,k,hs,hr,hk,by rw[hg];exact congrArg some hx,hid,hget,hasId_iff.2 (by rw[← e];exact yXq hm)⟩
theorem Told.only {b:Book} {Q:List (List Nat)} (c:b.Core Q (-1)) {id s:Int} {r:xH} {k:Nat} (h:Told b Q id s r k) {s':Int} (hs':s'=1∨s'=2) {r':xH} (hr':r'∈b.rungs s') {j:Nat} (hj:j∈y9 Q r'):(b.a.slotAt j).id=id↔j=k:=by
 constructor
 ·intro e
  have h1:=c.plc hs' hr' hj
  have h2:=c.plc h.hs h.hr h.hk
  rw[e]at h1
  rw[h.ident]at h2
  have:=congrArg Place.slot (zHr c.keys h1 h2)
  dsimp only at this
  omega
 ·rintro rfl;exact h.ident
theorem Book.Core.less {b:Book} {Q:List (List Nat)} (c:b.Core Q (-1)) (ht:b.Tops (b.flat Q)) {id s:Int} {r:xH} {k:Nat} (h:Told b Q id s r k) {q:Int} (hq:1≤q∧q<(b.a.slotAt k).qty):
 (b.a.takeF k q).2=0∧({b with a:=(b.a.takeF k q).1}:Book).Rep (uE (b.flat Q) id q)∧(b.a.takeF k q).1.slots.length=250∧(b.a.takeF k q).1.getF k=((((b.a.takeF k q).1.slotAt k)).ent,true)∧((b.a.takeF k q).1.slotAt k).id=id:=by
 obtain⟨t1,t2,t3⟩:=c.wf.take (c.get h.hs h.hr) h.hk (q:=q) ⟨hq.1,by omega⟩
 rw[yWj (by omega)]at t3
 obtain⟨w,t4,t5⟩:=t3
 have hent:∀j,((b.a.takeF k q).1.slotAt j).ent=if j=k then{(b.a.slotAt k).ent with qty:=(b.a.slotAt k).qty-q}else(b.a.slotAt j).ent:=by
  intro j
  split
  ·rename_i e;rw[e,t4];rfl
  ·rename_i e;exact(t2 j e).1
 have hid:∀j,((b.a.takeF k q).1.slotAt j).id=(b.a.slotAt j).id:=by
  intro j
  have:=congrArg Ent.id (hent j)
  split at this
  ·rename_i e;rw[e]at this ⊢;exact this
  ·exact this
 have hflat:({b with a:=(b.a.takeF k q).1}:Book).flat Q=uE (b.flat Q) id q:=by
  have side:∀s',s'=1∨s'=2→({b with a:=(b.a.takeF k q).1}:Book).sideL Q s'=uE (b.sideL Q s') id q:=by
   intro s' hs'
   rw[uE,Book.sideL,Book.sideL,List.filterMap_flatMap]
   refine xA fun r' hr'=> ?_
   rw[Book.rOrds,Book.rOrds,List.filterMap_map]
   have:(y9 Q r').filterMap (fun j=>some (wO (b.a.takeF k q).1 s' r'.price j))=(y9 Q r').map (wO (b.a.takeF k q).1 s' r'.price):=by rw[← List.filterMap_eq_map];rfl
   refine this.symm.trans (bW fun j hj=> ?_)
   simp only[Function.comp,wO,yEc,hent]
   have hon:=h.only c hs' hr' hj
   by_cases e:j=k
   ·subst e
    rw[yWl rfl]
    refine((yWl (show(b.a.slotAt j).ent.id=id from h.ident)).trans (yWj fun e=> ?_)).symm
    have e:(b.a.slotAt j).qty=q:=e
    omega
   ·rw[yWj e];exact(yWj (fun e2=>e (hon.1 e2))).symm
  rw[Book.flat,side 1 (.inl rfl),side 2 (.inr rfl),Book.flat,uE,uE,uE,List.filterMap_append]
 have hu:(b.a.takeF k q).1.usedAt k=true:=by
  obtain⟨hk2,⟨_,_,h2⟩,h3⟩:=w.toWf0.mem (c.get h.hs h.hr) h.hk
  have hlt:=w.len
  simp only[Arena.usedAt,yWw,yYe,yXa]
  exact⟨by omega,by omega,h2.used⟩
 refine⟨t1,⟨Q,c.flag w hid,⟨fun o ho=> ?_,fun s' hs' hh=> ?_⟩,hflat.symm⟩,w.len,by rw[Arena.getF,yWl hu,yXa],by rw[hid,h.ident]⟩
 ·obtain⟨o',ho',e⟩:=y1v.1 ho
  have:=ht.fl o' ho'
  split at e
  ·split at e
   ·cases e
   ·cases e;exact this
  ·cases e;exact this
 ·obtain⟨o,ho,o1,o2⟩:=ht.th s' hs' hh
  by_cases e:o.id=id
  ·refine⟨{o with qty:=o.qty-q},y1v.2 ⟨o,ho,?_⟩,o1,o2⟩
   have hg:=mW c.ids ho
   rw[e,h.get]at hg
   rw[yWl e,yWj (fun e2=>by
    rw[← hg]at e2
    have:(b.a.slotAt k).qty=q:=e2
    omega)]
  ·exact⟨o,y1v.2 ⟨o,ho,yWj e⟩,o1,o2⟩
theorem z0q:∀{l:List (Int×Place)} {k:Int},(l.map (·.1)).Nodup→aL k l=l.filter fun x=> !decide (x.1=k)
 |[],k,_=>rfl
 |(a,b)::l,k,h=>by
  rw[yWz,yZb]at h
  rw[aL]
  by_cases e:k=a
  ·subst e
   rw[yWl rfl,y1m (by simp)]
   symm
   rw[y2j]
   intro x hx
   have:x.1≠k:=fun e=>h.1 (e▸yXq (f:=(·.1)) hx)
   simp[this]
  ·rw[yWj e,y1l (by simp[Ne.symm e]),z0q h.2]
theorem zCw {l:List Nat} (h:l.Nodup) (k:Nat):l.erase k=l.filter fun j=> !decide (j=k):=by
 rw[h.erase_eq_filter]
 refine List.filter_congr fun j _=> ?_
 simp[bne,BEq.beq]
theorem z8l {s:Int} {l:List xH} (hs:l.Pairwise fun r r'=>btr s r.price r'.price=true) {R1 R2:List xH} {r:xH} (hl:l=R1++r::R2):zW s l r.price=R1.length:=by
 subst hl
 rw[List.pairwise_append]at hs
 refine mP (by simp) (fun k hk x hx=> ?_) (fun x hx=> ?_)
 ·rw[yYv hk]at hx
  exact hs.2.2 x (yWt hx) r yWp
 ·rw[yYg (yXl _),y2f]at hx
  cases hx
  exact eL _ _
theorem yBy (b:Book) (id:Int) {s:Int} (hs:s=1∨s=2):(b.unhas s id).a=b.a∧(b.unhas s id).buys=b.buys∧(b.unhas s id).sells=b.sells∧(b.unhas s id).spare=b.spare∧∀s',s'=1∨s'=2→(b.unhas s id).topI s'=b.topI s'∧(b.unhas s id).hasF s'=if s'=s∧b.topI s=id then false else b.hasF s':=by
 rw[Book.unhas]
 by_cases hc:b.hasF s=true∧b.topI s=id
 ·rw[yWl hc]
  rcases hs with rfl|rfl
  ·exact⟨rfl,rfl,rfl,rfl,fun s' h=>by rcases h with rfl|rfl;exact⟨rfl,(yWl ⟨rfl,hc.2⟩).symm⟩;exact⟨rfl,(yWj (fun e=>absurd e.1 (by decide))).symm⟩⟩
  ·exact⟨rfl,rfl,rfl,rfl,fun s' h=>by rcases h with rfl|rfl;exact⟨rfl,(yWj (fun e=>absurd e.1 (by decide))).symm⟩;exact⟨rfl,(yWl ⟨rfl,hc.2⟩).symm⟩⟩
 ·rw[yWj hc]
  refine⟨rfl,rfl,rfl,rfl,fun s' h=>⟨rfl,?_⟩⟩
  split
  ·rename_i e
   rw[e.1]
   cases hh:b.hasF s with
   |false=>rfl
   |true=>exact absurd ⟨hh,e.2⟩ hc
  ·rfl
theorem Book.Core.close {b:Book} {Q:List (List Nat)} {s:Int} (hs:s=1∨s=2) {r:xH} {R1 R2:List xH} (hr:b.rungs s=R1++r::R2) (c:b.Core Q r.queue) (he:y9 Q r=[]) {b':Book} (hb:b'=({b with spare:=b.spare++[r.queue]}:Book).setR s (R1++R2)):
 b'.Core Q (-1)∧b'.flat Q=b.flat Q:=by
 obtain⟨g1,g2⟩:=zJr ({b with spare:=b.spare++[r.queue]}:Book) hs (R1++R2)
 rw[← hb]at g1 g2
 have ha:b'.a=b.a:=by rw[hb];rcases hs with rfl|rfl<;>rfl
 have hat:b'.at_=b.at_:=by rw[hb];rcases hs with rfl|rfl<;>rfl
 have hsp:b'.spare=b.spare++[r.queue]:=by rw[hb];rcases hs with rfl|rfl<;>rfl
 have hqs:b'.qs.Perm b.qs:=by
  rw[hb]
  rcases hs with rfl|rfl
  ·have hr:b.buys=R1++r::R2:=hr
   show((R1++R2).map (·.queue)++b.sells.map (·.queue)++(b.spare++[r.queue])).Perm (b.buys.map (·.queue)++b.sells.map (·.queue)++b.spare)
   rw[hr,← yWo]
   refine(y0y _ _).trans ?_
   simp only[yWv,yWz,yWo,yYd]
   exact yWy.symm
  ·have hr:b.sells=R1++r::R2:=hr
   show(b.buys.map (·.queue)++(R1++R2).map (·.queue)++(b.spare++[r.queue])).Perm (b.buys.map (·.queue)++b.sells.map (·.queue)++b.spare)
   rw[hr,← yWo]
   refine(y0y _ _).trans ?_
   simp only[yWv,yWz,yWo,yYd]
   refine .trans ?_ (List.Perm.append_left _ yWy.symm)
   exact yWy.symm
 have hside:∀s',s'=1∨s'=2→b'.sideL Q s'=b.sideL Q s':=by
  intro s' hs'
  have ho:∀x,b'.rOrds Q s' x=b.rOrds Q s' x:=fun x=>by rw[Book.rOrds,Book.rOrds,ha]
  rw[Book.sideL,Book.sideL]
  by_cases e:s'=s
  ·subst e
   rw[g1,hr,yYi,yYi,yXv,xA (fun x _=>ho x),xA (l:=R2) (fun x _=>ho x)]
   rw[show b.rOrds Q s' r=[]by rw[Book.rOrds,he];rfl,yZa]
  ·rw[g2 s' e hs'];exact xA fun x _=>ho x
 have hplc:∀s',s'=1∨s'=2→b'.plcs Q s'=b.plcs Q s':=by
  intro s' hs'
  rw[Book.plcs,Book.plcs,ha]
  by_cases e:s'=s
  ·subst e
   rw[g1,hr,yYi,yYi,yXv,he,y0h,yZa]
  ·rw[g2 s' e hs'];rfl
 have hflat:b'.flat Q=b.flat Q:=by rw[Book.flat,Book.flat,hside 1 (.inl rfl),hside 2 (.inr rfl)]
 have hnd:=hqs.nodup_iff.2 c.nd
 have hmid:r.queue∉(R1++R2).map (·.queue):=by
  intro hm
  have h1:r.queue∈(b'.rungs s).map (·.queue):=by rw[g1];exact hm
  rw[Book.qs]at hnd
  have h2:=(yYu.1 hnd).2.2 r.queue (by
   rcases hs with rfl|rfl
   ·exact yXy _ h1
   ·exact yYb _ h1) r.queue (by rw[hsp];simp)
  exact h2 rfl
 refine⟨⟨by rw[ha];exact c.wf,fun s' hs'=> ?_,fun q hq=>c.rng q (hqs.mem_iff.1 hq),hnd,by rw[hqs.length_eq];exact c.ql,fun s' hs' x hx _=> ?_,fun q hq=> ?_,by rw[hat,hplc 1 (.inl rfl),hplc 2 (.inr rfl)];exact c.at_,by rw[hflat];exact c.ids,c.qb⟩,hflat⟩
 ·by_cases e:s'=s
  ·subst e
   have:=c.srt s' hs'
   rw[hr]at this
   rw[g1]
   exact this.sublist (List.Sublist.append_left (List.sublist_cons_self _ _) _)
  ·rw[g2 s' e hs'];exact c.srt s' hs'
 ·by_cases e:s'=s
  ·subst e
   rw[g1]at hx
   refine c.ne s' hs' x (by rw[hr];rcases yXo.1 hx with h|h;exact yXy _ h;exact yYb _ (yWq _ h)) fun e2=>hmid (e2▸yXq (f:=(·.queue)) hx)
  ·rw[g2 s' e hs']at hx
   refine c.ne s' hs' x hx fun e2=> ?_
   have h1:r.queue∈(b'.rungs s').map (·.queue):=by rw[g2 s' e hs',← e2];exact yXq (f:=(·.queue)) hx
   rw[Book.qs]at hnd
   exact(yYu.1 hnd).2.2 r.queue (by
    rcases hs' with rfl|rfl
    ·exact yXy _ h1
    ·exact yYb _ h1) r.queue (by rw[hsp];simp) rfl
 ·rw[hsp]at hq
  rcases yXo.1 hq with hq|hq
  ·exact c.sp q hq
  ·rw[yYc.1 hq];exact he
open Go Cv Go.Proofs
theorem zPq {L:List zH} (h:(L.map (·.id)).Nodup) {id:Int} (hh:wC L id=true):uE L id (fV L id).qty=L.filter fun o=> !decide (o.id=id):=by
 rw[uE,← List.filterMap_eq_filter]
 refine bW fun o ho=> ?_
 by_cases e:o.id=id
 ·have hg:=mW h ho
  rw[e]at hg
  rw[yWl e,yWl (by rw[hg])]
  simp[Option.guard,e]
 ·rw[yWj e]
  simp[Option.guard,e]
theorem Book.Core.gone {b:Book} {Q:List (List Nat)} (c:b.Core Q (-1)) (ht:b.Tops (b.flat Q)) {id s:Int} {r:xH} {k:Nat} (h:Told b Q id s r k) {q:Int} (hq:1≤q∧q=(b.a.slotAt k).qty):
 (b.a.takeF k q).2=0∧(({b with a:=(b.a.takeF k q).1}:Book).dropF s id r.price).Rep (uE (b.flat Q) id q)∧(b.a.takeF k q).1.slots.length=250∧(b.a.takeF k q).1.queues.length=b.a.queues.length∧((b.a.takeF k q).1.getF k).2=false∧zW s (b.rungs s) r.price<(b.rungs s).length:=by
 obtain⟨t1,t2,t3⟩:=c.wf.take (c.get h.hs h.hr) h.hk (q:=q) ⟨hq.1,by omega⟩
 rw[yWl hq.2.symm]at t3
 obtain⟨w,t4,t5⟩:=t3
 generalize hA:(b.a.takeF k q).1=a1 at*
 have hget:=c.get h.hs h.hr
 have hnQ:=(yWn.1 hget).1
 have hrq:=c.rng _ (uG h.hs h.hr)
 generalize hQ':Q.set r.queue.toNat ((y9 Q r).erase k)=Q' at*
 have hQl:Q'.length=Q.length:=by rw[← hQ',yXf]
 have hnd:(y9 Q r).Nodup:=c.wf.nd _ _ hget
 have hqd:∀s' (r':xH),(s'=1∨s'=2)→r'∈b.rungs s'→y9 Q' r'=(y9 Q r').erase k:=by
  intro s' r' hs' hr'
  by_cases e:r'.queue=r.queue
  ·have e1:y9 Q r'=y9 Q r:=by rw[y9,y9,e]
   rw[e1,y9,e,← hQ']
   exact zR (gW hnQ)
  ·have h2:y9 Q' r'=y9 Q r':=by
    have:=c.rng _ (uG hs' hr')
    rw[y9,y9,yWs,yWs,← hQ',vF (by omega)]
   rw[h2]
   symm
   refine List.erase_of_not_mem fun hk=> ?_
   have:=c.wf.toWf0.one (c.get hs' hr') hget hk h.hk
   have:=c.rng _ (uG hs' hr')
   omega
 have hQo:∀q:Int,0≤q→q≠r.queue→Q'.getD q.toNat []=Q.getD q.toNat []:=by
  intro q h0 hne
  rw[← hQ',yWs,vF (by omega),yWs]
 obtain⟨u1,u2,u3,u4,u5⟩:=yBy ({b with a:=a1}:Book) id h.hs
 obtain⟨b1,hb1⟩:∃b1:Book,b1={({b with a:=a1}:Book).unhas s id with at_:=aL id b.at_}:=⟨_,rfl⟩
 have v1:b1.a=a1:=by rw[hb1];exact u1
 have v2:b1.buys=b.buys:=by rw[hb1];exact u2
 have v3:b1.sells=b.sells:=by rw[hb1];exact u3
 have v4:b1.spare=b.spare:=by rw[hb1];exact u4
 have v5:b1.at_=aL id b.at_:=by rw[hb1]
 have v6:∀s',s'=1∨s'=2→b1.topI s'=b.topI s'∧b1.hasF s'=if s'=s∧b.topI s=id then false else b.hasF s':=by
  intro s' hs'
  rw[hb1];exact u5 s' hs'
 have vr:∀s',b1.rungs s'=b.rungs s':=by intro s';rw[Book.rungs,Book.rungs,v2,v3]
 have vq:b1.qs=b.qs:=by rw[Book.qs,Book.qs,v2,v3,v4]
 have hord:∀s',s'=1∨s'=2→b1.sideL Q' s'=(b.sideL Q s').filter (fun o=> !decide (o.id=id))∧b1.plcs Q' s'=(b.plcs Q s').filter fun x=> !decide (x.1=id):=by
  intro s' hs'
  rw[Book.sideL,Book.sideL,Book.plcs,Book.plcs,vr,List.filter_flatMap,List.filter_flatMap]
  have key:∀r'∈b.rungs s',∀j∈y9 Q r',((b.a.slotAt j).id=id↔j=k)∧(j≠k→wO a1 s' r'.price j=wO b.a s' r'.price j∧vA a1 s' r'.price j=vA b.a s' r'.price j):=by
   intro r' hr' j hj
   refine⟨h.only c hs' hr' hj,fun e=> ?_⟩
   have:=(t2 j e).1
   refine⟨by rw[wO,wO,this],?_⟩
   have:=congrArg Ent.id this
   rw[vA,vA]
   exact congrArg (fun i=>(i,(⟨s',r'.price,j⟩:Place))) this
  refine⟨xA fun r' hr'=> ?_,xA fun r' hr'=> ?_⟩
  ·rw[Book.rOrds,Book.rOrds,hqd s' r' hs' hr',zCw (c.wf.nd _ _ (c.get hs' hr')),List.filter_map,v1]
   have e1:(y9 Q r').filter ((fun o:zH=> !decide (o.id=id))∘wO b.a s' r'.price)=(y9 Q r').filter fun j=> !decide (j=k):=by
    refine List.filter_congr fun j hj=> ?_
    show(!decide ((b.a.slotAt j).id=id))=_
    rw[decide_eq_decide.2 (key r' hr' j hj).1]
   rw[e1]
   refine yXs fun j hj=> ?_
   rw[yYn]at hj
   exact((key r' hr' j hj.1).2 (by simpa using hj.2)).1
  ·rw[hqd s' r' hs' hr',zCw (c.wf.nd _ _ (c.get hs' hr')),List.filter_map,v1]
   have e1:(y9 Q r').filter ((fun x:Int×Place=> !decide (x.1=id))∘vA b.a s' r'.price)=(y9 Q r').filter fun j=> !decide (j=k):=by
    refine List.filter_congr fun j hj=> ?_
    show(!decide ((b.a.slotAt j).id=id))=_
    rw[decide_eq_decide.2 (key r' hr' j hj).1]
   rw[e1]
   refine yXs fun j hj=> ?_
   rw[yYn]at hj
   exact((key r' hr' j hj.1).2 (by simpa using hj.2)).2
 have hflat:b1.flat Q'=(b.flat Q).filter fun o=> !decide (o.id=id):=by
  rw[Book.flat,(hord 1 (.inl rfl)).1,(hord 2 (.inr rfl)).1,Book.flat,y0n]
 have hat:b1.at_.Perm (b1.plcs Q' 1++b1.plcs Q' 2):=by
  rw[v5,z0q c.keys,(hord 1 (.inl rfl)).2,(hord 2 (.inr rfl)).2,← y0n]
  exact c.at_.filter _
 have hold:∀s' (r':xH),(s'=1∨s'=2)→r'∈b.rungs s'→y9 Q r'≠[]:=fun s' r' hs' hr'=>c.ne s' hs' r' hr' fun e=>by
  have:=c.rng _ (uG hs' hr');omega
 have c1:b1.Core Q' r.queue:=by
  refine⟨by rw[v1];exact w,fun s' hs'=>by rw[vr];exact c.srt s' hs',by rw[vq,hQl];exact c.rng,by rw[vq];exact c.nd,by rw[vq,hQl];exact c.ql,fun s' hs' r' hr' hne=> ?_,fun q hq=> ?_,hat,?_,by rw[hQl];exact c.qb⟩
  ·rw[vr]at hr'
   have e:=hQo r'.queue (c.rng _ (uG hs' hr')).1 hne
   rw[y9,e];exact hold s' r' hs' hr'
  ·rw[v4]at hq
   have hqq:q∈b.qs:=yYb _ hq
   rw[hQo q (c.rng q hqq).1 fun e=> ?_]
   ·exact c.sp q hq
   ·have hcn:=c.nd
    rw[Book.qs]at hcn
    refine(yYu.1 hcn).2.2 r.queue ?_ q hq e.symm
    rcases h.hs with rfl|rfl
    ·exact yXy _ (yXq (f:=(·.queue)) h.hr)
    ·exact yYb _ (yXq (f:=(·.queue)) h.hr)
  ·rw[hflat]
   exact c.ids.sublist (List.Sublist.map _ y2k)
 have htk:uE (b.flat Q) id q=b1.flat Q':=by
  rw[hflat,← zPq c.ids h.has,h.get,hq.2];rfl
 have hm1:∀o,o∈b1.flat Q'↔o∈b.flat Q∧o.id≠id:=by
  intro o;rw[hflat,yYn];simp
 have ht1:∀b2:Book,(∀x,b2.hasF x=b1.hasF x∧b2.topI x=b1.topI x)→b2.Tops (b1.flat Q'):=by
  intro b2 hb2
  refine⟨fun o ho=> ?_,fun s' hs' hh=> ?_⟩
  ·rw[(hb2 _).1,(hb2 _).2]
   obtain⟨ho,hne⟩:=(hm1 o).1 ho
   have hs':=(mG ho).1
   rw[(v6 _ hs').1,(v6 _ hs').2,ht.fl o ho]
   split
   ·rename_i e
    rw[e.1,e.2,yWx hne,y1s,y1s]
   ·rfl
  ·rw[(hb2 _).1,(v6 s' hs').2]at hh
   rw[(hb2 _).2,(v6 s' hs').1]
   split at hh
   ·cases hh
   ·rename_i e
    obtain⟨o,ho,o1,o2⟩:=ht.th s' hs' hh
    refine⟨o,(hm1 o).2 ⟨ho,fun e2=>e ?_⟩,o1,o2⟩
    have hg:=mW c.ids ho
    rw[e2,h.get]at hg
    have hsd:s'=s:=by rw[← o1,← hg];rfl
    exact⟨hsd,by rw[← hsd,← o2,e2]⟩
 obtain⟨R1,R2,hsplit⟩:=List.append_of_mem h.hr
 have hfn:=z8l (c.srt s h.hs) hsplit
 have hgd:(b.rungs s).getD (zW s (b.rungs s) r.price) ⟨0,0⟩=r:=by
  rw[hfn,hsplit]
  refine zR ?_
  rw[yYg (yXl _),y2f];rfl
 have hfl:zW s (b.rungs s) r.price<(b.rungs s).length:=by rw[hfn,hsplit];simp
 have hQr:Q'[r.queue.toNat]? =some ((y9 Q r).erase k):=by rw[← hQ'];exact gW hnQ
 have hcount:(a1.qAt r.queue).count=((y9 Q r).erase k).length:=by
  have:=w.q _ _ hQr
  have hql:=w.ql
  rw[zSa hrq.1 this]
 have er:y9 Q' r=(y9 Q r).erase k:=zR hQr
 have hru:({b with a:=a1}:Book).rungs s=b.rungs s:=rfl
 have hus:(a1.getF k).2=false:=by
  have:a1.usedAt k=false:=by
   have e:a1.slotAt k=slot0:=t4
   rw[Arena.slotAt]at e
   rw[Arena.usedAt,yXa,e];simp[slot0]
  rw[Arena.getF,yWj (by rw[this];decide)]
 refine⟨t1,?_,w.len,by rw[w.ql,c.wf.ql,hQl],hus,hfl⟩
 rw[Book.dropF,hru,hgd]
 by_cases hz:(a1.qAt r.queue).count=0
 ·rw[yWl hz]
  have he:y9 Q' r=[]:=by
   rw[er]
   refine yXn ?_
   omega
  obtain⟨k1,k2⟩:=Book.Core.close h.hs (by rw[vr];exact hsplit) c1 he rfl
  have ebk:(({({b with a:=a1}:Book).unhas s id with at_:=aL id b.at_,spare:=b.spare++[r.queue]}:Book).setR s ((b.rungs s).take (zW s (b.rungs s) r.price)++(b.rungs s).drop (zW s (b.rungs s) r.price+1)))=(({b1 with spare:=b1.spare++[r.queue]}:Book).setR s (R1++R2)):=by
   have e1:(b.rungs s).take (zW s (b.rungs s) r.price)++(b.rungs s).drop (zW s (b.rungs s) r.price+1)=R1++R2:=by
    rw[hfn,hsplit,y2t]
    congr 1
    rw[y1q,yZz (by omega),Nat.add_sub_cancel_left];rfl
   rw[e1,v4,hb1]
  refine⟨Q',?_,?_,?_⟩
  ·exact ebk▸k1
  ·rw[htk]
   refine ht1 _ fun x=> ?_
   show(Book.hasF (({({b with a:=a1}:Book).unhas s id with at_:=aL id b.at_,spare:=b.spare++[r.queue]}:Book).setR s ((b.rungs s).take (zW s (b.rungs s) r.price)++(b.rungs s).drop (zW s (b.rungs s) r.price+1))) x=_∧Book.topI (({({b with a:=a1}:Book).unhas s id with at_:=aL id b.at_,spare:=b.spare++[r.queue]}:Book).setR s ((b.rungs s).take (zW s (b.rungs s) r.price)++(b.rungs s).drop (zW s (b.rungs s) r.price+1))) x=_)
   rw[ebk]
   rcases h.hs with rfl|rfl<;>exact⟨rfl,rfl⟩
  ·rw[htk]
   show _=Book.flat (({({b with a:=a1}:Book).unhas s id with at_:=aL id b.at_,spare:=b.spare++[r.queue]}:Book).setR s ((b.rungs s).take (zW s (b.rungs s) r.price)++(b.rungs s).drop (zW s (b.rungs s) r.price+1))) Q'
   rw[ebk];exact k2.symm
 ·rw[yWj hz]
  have c2:b1.Core Q' (-1):=⟨c1.wf,c1.srt,c1.rng,c1.nd,c1.ql,fun s' hs' r' hr' _=>by
   by_cases e:r'.queue=r.queue
   ·rw[y9,e]
    intro e2
    rw[y9]at er
    rw[er]at e2
    rw[hcount,e2]at hz
    exact hz rfl
   ·exact c1.ne s' hs' r' hr' e,c1.sp,c1.at_,c1.ids,c1.qb⟩
  have hh:({({b with a:=a1}:Book).unhas s id with at_:=aL id b.at_}:Book)=b1:=hb1.symm
  show Book.Rep {({b with a:=a1}:Book).unhas s id with at_:=aL id b.at_} _
  rw[hh,htk]
  exact⟨Q',c2,ht1 b1 fun _=>⟨rfl,rfl⟩,rfl⟩
open Go Cv Go.Proofs
theorem pS (k:Int):∀l,eZ (Value.int IntKind.i64 k) (atE l)=atE (aL k l)
 |[]=>rfl
 |(a,b)::l=>by
  have ih:=pS k l
  show(bif (keq .i64 .i64 && decide (k=a))then atE l else _::eZ _ (atE l))=_
  rw[ih,aL]
  by_cases h:k=a
  ·subst h;simp[keq]
  ·simp[h,atE]
theorem z3d:delRC.ok Tryz.prog 271:=
 delX_ok mixed Tryz.func271 rfl (by kernel_rfl) (by kernel_rfl) (by kernel_rfl) (by kernel_rfl) zDn rfl (by decide) (fun s sn sk i j w R=>by kernel_rfl)
theorem dup {X:Prop} {n:Int} (h:X):X∧n=n∧True∧X:=⟨h,rfl,trivial,h⟩
theorem Book.Core.small {b:Book} {Q:List (List Nat)} (c:b.Core Q (-1)):b.small:=by
 have hq:=c.qb
 have h1:=c.ql
 have h2:=c.wf.ql
 have h3:=c.wf.len
 rw[Book.qs,yWi,yWi,yWk,yWk]at h1
 exact⟨⟨by omega,by omega⟩,by omega,by omega,by omega⟩
theorem yOx (i:DrI) (h:drop1C.cnd i):yCk i:=by
 obtain⟨hsm,hn⟩:i.ok 1:=h
 obtain⟨⟨ha1,ha2⟩,hb1,hb2,hsp⟩:=id hsm
 have hn:zW 1 i.b.buys i.price<i.b.buys.length:=hn
 obtain⟨r,hr⟩:=yD (l:=i.b.buys) hn
 have hgd:((i.b.rungs 1).getD (zW 1 (i.b.rungs 1) i.price) ⟨0,0⟩)=r:=zR hr
 have hw:∀k:Int,IntKind.i64.wrap ((zW 1 (i.b.rungs 1) i.price:Int)+1)=((zW 1 (i.b.rungs 1) i.price+1:Nat):Int):=fun _=>by
  have:=zCy 1 i.price (i.b.rungs 1)
  have hl:(i.b.rungs 1).length≤1000000:=by show i.b.buys.length≤_;omega
  rw[w64 (by omega)];rfl
 have hn2:((zW 1 (i.b.rungs 1) i.price:Nat):Int)<((List.map zB i.b.buys).length:Int):=by
  rw[yWk]
  show((zW 1 i.b.buys i.price:Nat):Int)<_
  omega
 unfold yCk zDx zEb gB vG x3 xO y7 dI
 refine⟨jS _ _,Cv.cnd.mk (fun c1=>Cv.cnd.mk (fun c2=> ?_) (fun c2=> ?_)) (fun c1=> ?_)⟩
 ·have c2:i.b.top1=i.id:=by simpa using c2
  have hu:i.b.unhas 1 i.id={i.b with has1:=false}:=by rw[Book.unhas,yWl ⟨c1,c2⟩];rfl
  refine⟨⟨{i.b with has1:=false,at_:=aL i.id i.b.at_},i.price⟩,rfl,rfl,rfl,rfl,rfl,rfl,rfl,rfl,rfl,(pS _ _).symm,rfl,hsm,fun _ _=>⟨⟨by omega,hn2⟩,r.queue,elA hr (by simp[zB]) rfl,⟨i.b.a,r.queue⟩,rfl,rfl,trivial,fun _ _=>Cv.cnd.mk (fun e=>⟨by simp only[xF];omega,⟨i.b.buys.map zB,zW 1 (i.b.rungs 1) i.price,zW 1 (i.b.rungs 1) i.price+1⟩,rfl,(hw 0).symm,rfl,⟨y1u _,by rw[yWk];exact hn⟩,fun _ _=>⟨rfl,(),?_⟩⟩) (fun e=>⟨(),?_⟩)⟩⟩
  ·have e:(i.b.a.qAt r.queue).count=0:=by simpa using e
   rw[Book.dropF,hgd,yWl e,hu]
   refine⟨rfl,rfl,rfl,rfl,rfl,rfl,?_,rfl,?_,trivial⟩
   ·show List.map zB (i.b.buys.take _++i.b.buys.drop _)=_
    rw[yWv,y0x,y2a]
   ·show iE (i.b.spare++[r.queue])=_
    simp[iE]
  ·have e:¬(i.b.a.qAt r.queue).count=0:=by simpa using e
   rw[Book.dropF,hgd,yWj e,hu]
   exact⟨rfl,rfl,rfl,rfl,rfl,rfl,rfl,rfl,rfl,trivial⟩
 ·have c2:¬i.b.top1=i.id:=by simpa using c2
  have hu:i.b.unhas 1 i.id={i.b with has1:=i.b.has1}:=by rw[Book.unhas,yWj (fun e=>c2 e.2)]
  refine⟨⟨{i.b with has1:=i.b.has1,at_:=aL i.id i.b.at_},i.price⟩,rfl,rfl,rfl,rfl,rfl,rfl,rfl,rfl,rfl,(pS _ _).symm,rfl,hsm,fun _ _=>⟨⟨by omega,hn2⟩,r.queue,elA hr (by simp[zB]) rfl,⟨i.b.a,r.queue⟩,rfl,rfl,trivial,fun _ _=>Cv.cnd.mk (fun e=>⟨by simp only[xF];omega,⟨i.b.buys.map zB,zW 1 (i.b.rungs 1) i.price,zW 1 (i.b.rungs 1) i.price+1⟩,rfl,(hw 0).symm,rfl,⟨y1u _,by rw[yWk];exact hn⟩,fun _ _=>⟨rfl,(),?_⟩⟩) (fun e=>⟨(),?_⟩)⟩⟩
  ·have e:(i.b.a.qAt r.queue).count=0:=by simpa using e
   rw[Book.dropF,hgd,yWl e,hu]
   refine⟨rfl,rfl,rfl,rfl,rfl,rfl,?_,rfl,?_,trivial⟩
   ·show List.map zB (i.b.buys.take _++i.b.buys.drop _)=_
    rw[yWv,y0x,y2a]
   ·show iE (i.b.spare++[r.queue])=_
    simp[iE]
  ·have e:¬(i.b.a.qAt r.queue).count=0:=by simpa using e
   rw[Book.dropF,hgd,yWj e,hu]
   exact⟨rfl,rfl,rfl,rfl,rfl,rfl,rfl,rfl,rfl,trivial⟩
 ·have hu:i.b.unhas 1 i.id={i.b with has1:=i.b.has1}:=by
   rw[Book.unhas,yWj]
   rintro⟨e,_⟩
   exact absurd (show i.b.has1=true from e) (by rw[c1];decide)
  refine⟨⟨{i.b with has1:=i.b.has1,at_:=aL i.id i.b.at_},i.price⟩,rfl,rfl,rfl,rfl,rfl,rfl,rfl,rfl,rfl,(pS _ _).symm,rfl,hsm,fun _ _=>⟨⟨by omega,hn2⟩,r.queue,elA hr (by simp[zB]) rfl,⟨i.b.a,r.queue⟩,rfl,rfl,trivial,fun _ _=>Cv.cnd.mk (fun e=>⟨by simp only[xF];omega,⟨i.b.buys.map zB,zW 1 (i.b.rungs 1) i.price,zW 1 (i.b.rungs 1) i.price+1⟩,rfl,(hw 0).symm,rfl,⟨y1u _,by rw[yWk];exact hn⟩,fun _ _=>⟨rfl,(),?_⟩⟩) (fun e=>⟨(),?_⟩)⟩⟩
  ·have e:(i.b.a.qAt r.queue).count=0:=by simpa using e
   rw[Book.dropF,hgd,yWl e,hu]
   refine⟨rfl,rfl,rfl,rfl,rfl,rfl,?_,rfl,?_,trivial⟩
   ·show List.map zB (i.b.buys.take _++i.b.buys.drop _)=_
    rw[yWv,y0x,y2a]
   ·show iE (i.b.spare++[r.queue])=_
    simp[iE]
  ·have e:¬(i.b.a.qAt r.queue).count=0:=by simpa using e
   rw[Book.dropF,hgd,yWj e,hu]
   exact⟨rfl,rfl,rfl,rfl,rfl,rfl,rfl,rfl,rfl,trivial⟩
theorem yAi:drop1C.ok Tryz.prog 243:=okw mixed (gokc zKt (gokc mD (gokc z3d gok0))) 0 (fun _=>[]) (fun _=>[]) [] Tryz.func243 yOx
theorem yLg (i:DrI) (h:drop2C.cnd i):z7w i:=by
 obtain⟨hsm,hn⟩:i.ok 2:=h
 obtain⟨⟨ha1,ha2⟩,hb1,hb2,hsp⟩:=id hsm
 have hn:zW 2 i.b.sells i.price<i.b.sells.length:=hn
 obtain⟨r,hr⟩:=yD (l:=i.b.sells) hn
 have hgd:((i.b.rungs 2).getD (zW 2 (i.b.rungs 2) i.price) ⟨0,0⟩)=r:=zR hr
 have hw:∀k:Int,IntKind.i64.wrap ((zW 2 (i.b.rungs 2) i.price:Int)+1)=((zW 2 (i.b.rungs 2) i.price+1:Nat):Int):=fun _=>by
  have:=zCy 2 i.price (i.b.rungs 2)
  have hl:(i.b.rungs 2).length≤1000000:=by show i.b.sells.length≤_;omega
  rw[w64 (by omega)];rfl
 have hn2:((zW 2 (i.b.rungs 2) i.price:Nat):Int)<((List.map zB i.b.sells).length:Int):=by
  rw[yWk]
  show((zW 2 i.b.sells i.price:Nat):Int)<_
  omega
 unfold z7w zFi zEl hY vD x3 xP y5 dI
 refine⟨jS _ _,Cv.cnd.mk (fun c1=>Cv.cnd.mk (fun c2=> ?_) (fun c2=> ?_)) (fun c1=> ?_)⟩
 ·have c2:i.b.top2=i.id:=by simpa using c2
  have hu:i.b.unhas 2 i.id={i.b with has2:=false}:=by rw[Book.unhas,yWl ⟨c1,c2⟩];rfl
  refine⟨⟨{i.b with has2:=false,at_:=aL i.id i.b.at_},i.price⟩,rfl,rfl,rfl,rfl,rfl,rfl,rfl,rfl,rfl,(pS _ _).symm,rfl,hsm,fun _ _=>⟨⟨by omega,hn2⟩,r.queue,elA hr (by simp[zB]) rfl,⟨i.b.a,r.queue⟩,rfl,rfl,trivial,fun _ _=>Cv.cnd.mk (fun e=>⟨by simp only[xF];omega,⟨i.b.sells.map zB,zW 2 (i.b.rungs 2) i.price,zW 2 (i.b.rungs 2) i.price+1⟩,rfl,(hw 0).symm,rfl,⟨y1u _,by rw[yWk];exact hn⟩,fun _ _=>⟨rfl,(),?_⟩⟩) (fun e=>⟨(),?_⟩)⟩⟩
  ·have e:(i.b.a.qAt r.queue).count=0:=by simpa using e
   rw[Book.dropF,hgd,yWl e,hu]
   refine⟨rfl,rfl,rfl,rfl,rfl,rfl,rfl,?_,?_,trivial⟩
   ·show List.map zB (i.b.sells.take _++i.b.sells.drop _)=_
    rw[yWv,y0x,y2a]
   ·show iE (i.b.spare++[r.queue])=_
    simp[iE]
  ·have e:¬(i.b.a.qAt r.queue).count=0:=by simpa using e
   rw[Book.dropF,hgd,yWj e,hu]
   exact⟨rfl,rfl,rfl,rfl,rfl,rfl,rfl,rfl,rfl,trivial⟩
 ·have c2:¬i.b.top2=i.id:=by simpa using c2
  have hu:i.b.unhas 2 i.id={i.b with has2:=i.b.has2}:=by rw[Book.unhas,yWj (fun e=>c2 e.2)]
  refine⟨⟨{i.b with has2:=i.b.has2,at_:=aL i.id i.b.at_},i.price⟩,rfl,rfl,rfl,rfl,rfl,rfl,rfl,rfl,rfl,(pS _ _).symm,rfl,hsm,fun _ _=>⟨⟨by omega,hn2⟩,r.queue,elA hr (by simp[zB]) rfl,⟨i.b.a,r.queue⟩,rfl,rfl,trivial,fun _ _=>Cv.cnd.mk (fun e=>⟨by simp only[xF];omega,⟨i.b.sells.map zB,zW 2 (i.b.rungs 2) i.price,zW 2 (i.b.rungs 2) i.price+1⟩,rfl,(hw 0).symm,rfl,⟨y1u _,by rw[yWk];exact hn⟩,fun _ _=>⟨rfl,(),?_⟩⟩) (fun e=>⟨(),?_⟩)⟩⟩
  ·have e:(i.b.a.qAt r.queue).count=0:=by simpa using e
   rw[Book.dropF,hgd,yWl e,hu]
   refine⟨rfl,rfl,rfl,rfl,rfl,rfl,rfl,?_,?_,trivial⟩
   ·show List.map zB (i.b.sells.take _++i.b.sells.drop _)=_
    rw[yWv,y0x,y2a]
   ·show iE (i.b.spare++[r.queue])=_
    simp[iE]
  ·have e:¬(i.b.a.qAt r.queue).count=0:=by simpa using e
   rw[Book.dropF,hgd,yWj e,hu]
   exact⟨rfl,rfl,rfl,rfl,rfl,rfl,rfl,rfl,rfl,trivial⟩
 ·have hu:i.b.unhas 2 i.id={i.b with has2:=i.b.has2}:=by
   rw[Book.unhas,yWj]
   rintro⟨e,_⟩
   exact absurd (show i.b.has2=true from e) (by rw[c1];decide)
  refine⟨⟨{i.b with has2:=i.b.has2,at_:=aL i.id i.b.at_},i.price⟩,rfl,rfl,rfl,rfl,rfl,rfl,rfl,rfl,rfl,(pS _ _).symm,rfl,hsm,fun _ _=>⟨⟨by omega,hn2⟩,r.queue,elA hr (by simp[zB]) rfl,⟨i.b.a,r.queue⟩,rfl,rfl,trivial,fun _ _=>Cv.cnd.mk (fun e=>⟨by simp only[xF];omega,⟨i.b.sells.map zB,zW 2 (i.b.rungs 2) i.price,zW 2 (i.b.rungs 2) i.price+1⟩,rfl,(hw 0).symm,rfl,⟨y1u _,by rw[yWk];exact hn⟩,fun _ _=>⟨rfl,(),?_⟩⟩) (fun e=>⟨(),?_⟩)⟩⟩
  ·have e:(i.b.a.qAt r.queue).count=0:=by simpa using e
   rw[Book.dropF,hgd,yWl e,hu]
   refine⟨rfl,rfl,rfl,rfl,rfl,rfl,rfl,?_,?_,trivial⟩
   ·show List.map zB (i.b.sells.take _++i.b.sells.drop _)=_
    rw[yWv,y0x,y2a]
   ·show iE (i.b.spare++[r.queue])=_
    simp[iE]
  ·have e:¬(i.b.a.qAt r.queue).count=0:=by simpa using e
   rw[Book.dropF,hgd,yWj e,hu]
   exact⟨rfl,rfl,rfl,rfl,rfl,rfl,rfl,rfl,rfl,trivial⟩
theorem yCu:drop2C.ok Tryz.prog 243:=okw mixed (gokc zMj (gokc mD (gokc z3d gok0))) 0 (fun _=>[]) (fun _=>[]) [] Tryz.func243 yLg
theorem yGv:dropC.ok Tryz.prog 243:=fun j=>match j with
 |⟨i,false⟩=>yAi i
 |⟨i,true⟩=>yCu i
theorem yEs {a:Arena} {k:Nat} {p t:Int} {m:Nat} (h:zRq (a.slotAt k) m k p t) (hl:k<a.slots.length):a.getF k=((a.slotAt k).ent,true):=by
 have:a.usedAt k=true:=by
  simp only[Arena.usedAt,yWw,yYe,yXa]
  exact⟨by omega,by omega,h.used⟩
 rw[Arena.getF,yWl this,yXa]
theorem zTm {b:Book} {Q:List (List Nat)} (c:b.Core Q (-1)) {id s:Int} {r:xH} {k:Nat} (h:Told b Q id s r k):b.a.getF k=((b.a.slotAt k).ent,true)∧(b.a.slotAt k).qty≤1000000∧1≤(b.a.slotAt k).qty:=by
 obtain⟨h1,⟨p,t,h2⟩,h3⟩:=c.wf.toWf0.mem (c.get h.hs h.hr) h.hk
 exact⟨yEs h2 (by rw[c.wf.len];exact h1),h2.q2,c.wf.pos _ _ (c.get h.hs h.hr) _ h.hk⟩
theorem yNl (i:FlI) (h:bfindC.cnd i):z8n i:=by
 obtain⟨Q,c,ht,hL⟩:i.b.Rep i.L:=h
 unfold z8n zEu zAm pL dI
 rcases c.told i.id with⟨hg,hn⟩|⟨s,r,k,hT⟩
 ·refine⟨jS _ _,false,0,0,0,.inr ⟨?_,rfl,rfl⟩,Cv.cnd.mk (fun _=> ?_) (fun e=>absurd e (by decide))⟩
  ·rw[tZ,hg];rfl
  ·rw[← hL]at hn
   rw[yLl hn,hn]
   exact⟨(),k0q⟩
 ·refine⟨jS _ _,true,s,r.price,k,.inl ⟨?_,rfl⟩,Cv.cnd.mk (fun e=>absurd e (by decide)) (fun _=>dup ⟨⟨i.b.a,k⟩,rfl,rfl,by dsimp only;rw[c.wf.len];decide,fun _ _=>⟨(),?_⟩⟩)⟩
  ·rw[tZ,hT.e];rfl
  ·have h1:=hT.get
   have h2:=hT.has
   rw[← hL]at h1 h2
   rw[h1,h2,(zTm c hT).1]
   exact⟨hT.ident,k0q⟩
theorem zVl:bfindC.ok Tryz.prog 170:=okw mixed (gokc z3c gok0) 0 (fun _=>[]) (fun _=>[]) [0] Tryz.func170 yNl
theorem Book.Core.okAt {b:Book} {Q:List (List Nat)} (c:b.Core Q (-1)):b.a.okAt:=c.wf.toWf0.ok
theorem yQz (i:FlI) (h:fillC.cnd i):yKc i:=by
 have hR:i.b.Rep i.L:=h
 obtain⟨Q,c,ht,hL⟩:=id hR
 unfold yKc zRe zKi wV eF pL dI
 rcases c.told i.id with⟨hg,hn⟩|⟨s,r,k,hT⟩
 ·refine⟨jS _ _,false,0,0,0,.inr ⟨?_,rfl,rfl⟩,Cv.cnd.mk (fun _=> ?_) (fun e=>absurd e (by simp))⟩
  ·rw[tZ,hg];rfl
  ·rw[← hL]at hn
   rw[xY,yWl hn]
   exact⟨i.b,rfl,rfl,rfl,rfl,rfl,rfl,rfl,rfl,rfl,rfl,hR⟩
 have hg:=hT.get
 have hh:=hT.has
 rw[← hL]at hg hh
 obtain⟨hsg,hq1,hq2⟩:=zTm c hT
 have hqq:(fV i.L i.id).qty=(i.b.a.slotAt k).qty:=by rw[hg];rfl
 refine⟨jS _ _,true,s,r.price,k,.inl ⟨?_,rfl⟩,Cv.cnd.mk (fun e=>absurd e (by simp)) (fun _=>⟨⟨i.b.a,k,i.qty⟩,rfl,rfl,rfl,c.okAt,fun _ _=> ?_⟩)⟩
 ·rw[tZ,hT.e];rfl
 dsimp only
 have hu:i.b.a.usedAt k=true:=by
  cases hu:i.b.a.usedAt k with
  |true=>rfl
  |false=>rw[Arena.getF,yWj (by rw[hu];decide)]at hsg;exact absurd (congrArg Prod.snd hsg) (by simp)
 by_cases hb:i.qty<1∨(i.b.a.slotAt k).qty<i.qty
 ·have ht:i.b.a.takeF k i.qty=(i.b.a,24):=by rw[Arena.takeF,yWj (by rw[hu];decide),yXa,yWl hb]
  rw[ht]
  refine Cv.cnd.mk (fun _=> ?_) (fun e=>absurd e (by simp))
  rw[xY,yWj (by rw[hh];decide),yWl (by rw[hqq];exact hb)]
  exact⟨i.b,rfl,rfl,rfl,rfl,rfl,rfl,rfl,rfl,rfl,rfl,hR⟩
 have hfl:xY i.L i.id i.qty=(uE i.L i.id i.qty,0):=by rw[xY,yWj (by rw[hh];decide),yWj (by rw[hqq];exact hb)]
 by_cases hf:i.qty=(i.b.a.slotAt k).qty
 ·obtain⟨g1,g2,g3,g4,g5,g6⟩:=c.gone (by rw[← hL];exact ht) hT (q:=i.qty) ⟨by omega,hf⟩
  rw[← hL]at g2
  have hsm:=c.small
  rw[g1]
  refine Cv.cnd.mk (fun e=>absurd e (by simp)) (fun _=>dup ⟨⟨(i.b.a.takeF k i.qty).1,k⟩,rfl,rfl,by dsimp only;rw[g3];decide,fun _ _=> ?_⟩)
  dsimp only
  rw[g5]
  refine Cv.cnd.mk (fun _=> ?_) (fun e=>absurd e (by simp))
  rcases hT.hs with rfl|rfl
  ·refine⟨⟨⟨{i.b with a:=(i.b.a.takeF k i.qty).1},i.id,r.price,k⟩,false⟩,rfl,rfl,rfl,rfl,rfl,rfl,rfl,rfl,rfl,rfl,rfl,rfl,rfl,⟨⟨⟨by dsimp only;rw[g3];decide,by dsimp only;rw[g4];exact hsm.1.2⟩,hsm.2⟩,g6⟩,fun _ _=> ?_⟩
   refine⟨({i.b with a:=(i.b.a.takeF k i.qty).1}:Book).dropF 1 i.id r.price,by rw[hfl],rfl,rfl,rfl,rfl,rfl,rfl,rfl,rfl,rfl,by rw[hfl];exact g2⟩
  ·refine⟨⟨⟨{i.b with a:=(i.b.a.takeF k i.qty).1},i.id,r.price,k⟩,true⟩,rfl,rfl,rfl,rfl,rfl,rfl,rfl,rfl,rfl,rfl,rfl,rfl,rfl,⟨⟨⟨by dsimp only;rw[g3];decide,by dsimp only;rw[g4];exact hsm.1.2⟩,hsm.2⟩,g6⟩,fun _ _=> ?_⟩
   refine⟨({i.b with a:=(i.b.a.takeF k i.qty).1}:Book).dropF 2 i.id r.price,by rw[hfl],rfl,rfl,rfl,rfl,rfl,rfl,rfl,rfl,rfl,by rw[hfl];exact g2⟩
 ·obtain⟨g1,g2,g3,g4,g5⟩:=c.less (by rw[← hL];exact ht) hT (q:=i.qty) (by omega)
  rw[← hL]at g2
  rw[g1]
  refine Cv.cnd.mk (fun e=>absurd e (by simp)) (fun _=>dup ⟨⟨(i.b.a.takeF k i.qty).1,k⟩,rfl,rfl,by dsimp only;rw[g3];decide,fun _ _=> ?_⟩)
  dsimp only
  rw[g4]
  refine Cv.cnd.mk (fun e=>absurd e (by simp)) (fun _=>Cv.cnd.mk (fun e=> ?_) (fun _=> ?_))
  ·have e:¬((i.b.a.takeF k i.qty).1.slotAt k).ent.id=i.id:=by simpa using e
   exact absurd g5 e
  ·exact⟨{i.b with a:=(i.b.a.takeF k i.qty).1},by rw[hfl],rfl,rfl,rfl,rfl,rfl,rfl,rfl,rfl,rfl,by rw[hfl];exact g2⟩
theorem yFt:fillC.ok Tryz.prog 211:=okw mixed (gokc yAe (gokc z3c (gokc yGv gok0))) 0 (fun _=>[]) (fun _=>[]) [0] Tryz.func211 yQz
theorem zRr (A B:List zH) (s p:Int):atL (A++B) s p=atL A s p++atL B s p:=y0n _ _
theorem zSg {A:List zH} {s p:Int} (h:∀o∈A,o.side=s→o.price≠p):atL A s p=[]:=by
 rw[atL,List.filter_eq_nil_iff]
 intro o ho
 by_cases e:o.side=s
 ·simp[h o ho e]
 ·simp[e]
theorem yFg {A:List zH} {s p:Int} (h:∀o∈A,o.side=s∧o.price=p):atL A s p=A:=by
 rw[atL,y2j]
 intro o ho
 simp[h o ho]
theorem zLt {s x y:Int} (h:btr s x y=true):x≠y:=by
 rintro rfl;rw[eL]at h;cases h
theorem Book.Core.at_no {b:Book} {Q:List (List Nat)} (c:b.Core Q (-1)) {s p:Int} (hs:s=1∨s=2) (h:kH s (b.rungs s) p=false):atL (b.flat Q) s p=[]:=by
 have hsp:=zAt (p:=p) (c.srt s hs)
 rw[yWj (by rw[h];decide)]at hsp
 refine zSg fun o ho e=> ?_
 obtain⟨_,r,hr,_,hp⟩:=mG ho
 rw[e]at hr
 rw[hp]
 rw[← yYw (zW s (b.rungs s) p) (b.rungs s)]at hr
 rcases yXo.1 hr with hr|hr
 ·exact zLt (hsp.1 r hr)
 ·exact(zLt (hsp.2 r hr)).symm
theorem Book.Core.at_yes {b:Book} {Q:List (List Nat)} (c:b.Core Q (-1)) {s p:Int} (hs:s=1∨s=2) (h:kH s (b.rungs s) p=true):∃r,(b.rungs s)[zW s (b.rungs s) p]? =some r∧r.price=p∧r∈b.rungs s∧atL (b.flat Q) s p=b.rOrds Q s r:=by
 have hsp:=zAt (p:=p) (c.srt s hs)
 rw[yWl h]at hsp
 obtain⟨h1,r,hr,hp,h2⟩:=hsp
 have hlt:=(yWn.1 hr).1
 refine⟨r,hr,hp,yWt hr,?_⟩
 have hsplit:b.rungs s=(b.rungs s).take (zW s (b.rungs s) p)++r::(b.rungs s).drop (zW s (b.rungs s) p+1):=by
  conv=>lhs;rw[← yYw (zW s (b.rungs s) p) (b.rungs s)]
  rw[yYo hlt,(yWn.1 hr).2]
 have hside:atL (b.sideL Q s) s p=b.rOrds Q s r:=by
  rw[Book.sideL,hsplit,yYi,yXv,zRr,zRr,zSg,yFg,zSg,yXi,yZa]
  ·intro o ho _
   obtain⟨r',hr',ho⟩:=yYz.1 ho
   rw[(qB ho).2];exact(zLt (h2 r' hr')).symm
  ·intro o ho
   rw[← hp];exact qB ho
  ·intro o ho _
   obtain⟨r',hr',ho⟩:=yYz.1 ho
   rw[(qB ho).2];exact zLt (h1 r' hr')
 have hother:∀s',s'≠s→atL (b.sideL Q s') s p=[]:=fun s' hne=>zSg fun o ho e=>absurd ((bF ho).1.symm.trans e) hne
 rw[Book.flat,zRr]
 rcases hs with rfl|rfl
 ·rw[hside,hother 2 (by decide),yXi]
 ·rw[hside,hother 1 (by decide),yZa]
theorem Book.Core.listOk {b:Book} {Q:List (List Nat)} (c:b.Core Q (-1)) {s:Int} (hs:s=1∨s=2) {r:xH} (hr:r∈b.rungs s):b.a.listOk r.queue (y9 Q r):=by
 have hg:=c.get hs hr
 have hrq:=c.rng _ (uG hs hr)
 refine⟨by have:=c.wf.toWf0.short hg;omega,?_⟩
 rw[yWl ⟨hrq.1,by rw[c.wf.ql];exact hrq.2⟩,zR (c.wf.q _ _ hg)]
 exact zOd (c.wf.sg _ _ hg)
theorem yUk (i:AtI) (h:at1C.cnd i):yQr i:=by
 obtain⟨Q,c,ht,hL⟩:i.b.Rep i.L:=h
 unfold yQr gB vG x3 xO qQ dI
 refine⟨1,rfl,trivial,fun _ _=>Cv.cnd.mk (fun e=>absurd e (by decide)) fun _=>⟨⟨i.b,i.price⟩,rfl,rfl,rfl,rfl,rfl,rfl,rfl,rfl,rfl,rfl,rfl,c.small,fun _ _=>Cv.cnd.mk (fun e=> ?_) (fun e=> ?_)⟩⟩
 ·have e:kH 1 (i.b.rungs 1) i.price=false:=by simpa using e
  have:=c.at_no (.inl rfl) e
  rw[← hL]at this
  refine⟨(),rfl,rfl,rfl,rfl,rfl,rfl,rfl,rfl,rfl,?_,trivial⟩
  show List.map wP (atL i.L 1 i.price)=[]
  rw[this];rfl
 ·have e:kH 1 (i.b.rungs 1) i.price=true:=by simpa using e
  obtain⟨r,hr,hp,hm,ha⟩:=c.at_yes (.inl rfl) e
  rw[← hL]at ha
  have hlt:=(yWn.1 hr).1
  refine⟨⟨by omega,by rw[yWk];exact Int.ofNat_lt.2 hlt⟩,r.price,r.queue,elA hr (by simp[zB]) rfl,⟨i.b,1,r,y9 Q r⟩,rfl,rfl,rfl,rfl,rfl,rfl,rfl,rfl,rfl,rfl,rfl,rfl,c.listOk (.inl rfl) hm,fun _ _=>⟨(),rfl,?_,trivial⟩⟩
  show List.map wP (atL i.L 1 i.price)=_
  rw[ha,BoI.ords,Book.rOrds,Arena.ents];simp only[yZc];rfl
theorem yOw:at1C.ok Tryz.prog 262:=okw mixed (gokc rQ (gokc zKt (gokc zOm gok0))) 0 (fun _=>[]) (fun _=>[]) [0] Tryz.func262 yUk
theorem yWd (i:AtI) (h:at2C.cnd i):yTw i:=by
 obtain⟨Q,c,ht,hL⟩:i.b.Rep i.L:=h
 unfold yTw hY vD x3 xP qQ dI
 refine⟨2,rfl,trivial,fun _ _=>Cv.cnd.mk (fun e=>absurd e (by decide)) fun _=>⟨⟨i.b,i.price⟩,rfl,rfl,rfl,rfl,rfl,rfl,rfl,rfl,rfl,rfl,rfl,c.small,fun _ _=>Cv.cnd.mk (fun e=> ?_) (fun e=> ?_)⟩⟩
 ·have e:kH 2 (i.b.rungs 2) i.price=false:=by simpa using e
  have:=c.at_no (.inr rfl) e
  rw[← hL]at this
  refine⟨(),rfl,rfl,rfl,rfl,rfl,rfl,rfl,rfl,rfl,?_,trivial⟩
  show List.map wP (atL i.L 2 i.price)=[]
  rw[this];rfl
 ·have e:kH 2 (i.b.rungs 2) i.price=true:=by simpa using e
  obtain⟨r,hr,hp,hm,ha⟩:=c.at_yes (.inr rfl) e
  rw[← hL]at ha
  have hlt:=(yWn.1 hr).1
  refine⟨⟨by omega,by rw[yWk];exact Int.ofNat_lt.2 hlt⟩,r.price,r.queue,elA hr (by simp[zB]) rfl,⟨i.b,2,r,y9 Q r⟩,rfl,rfl,rfl,rfl,rfl,rfl,rfl,rfl,rfl,rfl,rfl,rfl,c.listOk (.inr rfl) hm,fun _ _=>⟨(),rfl,?_,trivial⟩⟩
  show List.map wP (atL i.L 2 i.price)=_
  rw[ha,BoI.ords,Book.rOrds,Arena.ents];simp only[yZc];rfl
theorem yPd:at2C.ok Tryz.prog 262:=okw mixed (gokc rQ (gokc zMj (gokc zOm gok0))) 0 (fun _=>[]) (fun _=>[]) [0] Tryz.func262 yWd
theorem yRh:atC.ok Tryz.prog 262:=fun j=>match j with
 |⟨b,L,false,p⟩=>yOw ⟨b,L,false,p⟩
 |⟨b,L,true,p⟩=>yPd ⟨b,L,true,p⟩
open Go Cv Go.Proofs
def zUn (p:Int) (l:List zH):Lv:=⟨p,(l.map (·.qty)).sum,l.length⟩
theorem zKe:∀{l:List zH} {v:Lv} {vs:List Lv},grp l=v::vs→∃o r,l=o::r∧o.price=v.price
 |[],v,vs,h=>by cases h
 |o::r,v,vs,h=>by
  refine⟨o,r,rfl,?_⟩
  rw[grp]at h
  split at h
  ·cases h;rfl
  ·split at h
   ·rename_i e;cases h;exact e.symm
   ·cases h;rfl
theorem z2u {p:Int}:∀{l:List zH} {m:List zH},l≠[]→(∀o∈l,o.price=p)→(∀o r,m=o::r→o.price≠p)→grp (l++m)=zUn p l::grp m
 |[],m,h,_,_=>absurd rfl h
 |[o],m,_,h,hm=>by
  have e:=h o yWp
  rw[List.singleton_append,grp]
  split
  ·rename_i g;simp[zUn,e,g]
  ·rename_i v vs g
   obtain⟨o',r,e1,e2⟩:=zKe g
   have:=hm o' r e1
   rw[yWj (by omega)];simp[zUn,e,g]
 |o::o'::l,m,_,h,hm=>by
  have e:=h o yWp
  have ih:=z2u (l:=o'::l) (m:=m) (by simp) (fun x hx=>h x (yWq _ hx)) hm
  rw[yYd,grp,ih]
  dsimp only
  rw[yWl (show(zUn p (o'::l)).price=o.price from e.symm)]
  simp only[zUn,yWz,yXx,yWr]
  rfl
theorem zVu {f:xH→List zH}:∀{R:List xH},(∀r∈R,f r≠[]∧∀o∈f r,o.price=r.price)→R.Pairwise (fun r r'=>r.price≠r'.price)→grp (R.flatMap f)=R.map fun r=>zUn r.price (f r)
 |[],_,_=>rfl
 |r::R,h,hp=>by
  rw[y0d]at hp
  have ih:=zVu (R:=R) (fun x hx=>h x (yWq _ hx)) hp.2
  rw[yXv,z2u (h r yWp).1 (h r yWp).2,ih,yWz]
  intro o l e
  cases R with
  |nil=>cases e
  |cons r' R'=>
   rw[yXv]at e
   obtain⟨h1,h2⟩:=h r' (yWq _ yWp)
   cases hf:f r' with
   |nil=>exact absurd hf h1
   |cons x y=>
    rw[hf,yYd]at e
    cases e
    rw[h2 o (by rw[hf];exact yWp)]
    exact(hp.1 r' yWp).symm
theorem zOy {b:Book} {Q:List (List Nat)} {s:Int} (hs:s=1∨s=2):(b.flat Q).filter (fun o=>decide (o.side=s))=b.sideL Q s:=by
 have h1:∀s',(b.sideL Q s').filter (fun o=>decide (o.side=s))=if s'=s then b.sideL Q s' else[]:=by
  intro s'
  split
  ·rename_i e
   rw[y2j]
   intro o ho
   rw[(bF ho).1,e];simp
  ·rename_i e
   rw[List.filter_eq_nil_iff]
   intro o ho
   rw[(bF ho).1];simp[e]
 rw[Book.flat,y0n,h1,h1]
 rcases hs with rfl|rfl
 ·simp
 ·simp
theorem Book.Core.neL {b:Book} {Q:List (List Nat)} (c:b.Core Q (-1)) {s:Int} (hs:s=1∨s=2) {r:xH} (hr:r∈b.rungs s):y9 Q r≠[]:=c.ne s hs r hr fun e=>by have:=c.rng _ (uG hs hr);omega
theorem Book.Core.toldL {b:Book} {Q:List (List Nat)} (c:b.Core Q (-1)) {s:Int} (hs:s=1∨s=2) {r:xH} (hr:r∈b.rungs s):b.told r=zUn r.price (b.rOrds Q s r):=by
 have hg:=c.get hs hr
 have hrq:=c.rng _ (uG hs hr)
 have hq:=c.wf.q _ _ hg
 have hql:=c.wf.ql
 rw[Book.told,zSa hrq.1 hq,zUn,Book.rOrds,yZc,yWk]
 rfl
theorem Book.Core.lad {b:Book} {Q:List (List Nat)} (c:b.Core Q (-1)) {s:Int} (hs:s=1∨s=2):uM (b.flat Q) s=(b.rungs s).map b.told:=by
 rw[uM,zOy hs,Book.sideL,zVu]
 ·exact yXs fun r hr=>(c.toldL hs hr).symm
 ·intro r hr
  refine⟨fun e=>c.neL hs hr (List.map_eq_nil_iff.1 e),fun o ho=>(qB ho).2⟩
 ·exact(c.srt s hs).imp fun h=>zLt h
theorem Book.Core.bestL {b:Book} {Q:List (List Nat)} (c:b.Core Q (-1)) {s:Int} (hs:s=1∨s=2):b.best (b.rungs s)=Sx.bestL (b.flat Q) s:=by
 rw[Sx.bestL,c.lad hs]
 cases b.rungs s<;>rfl
theorem Book.Core.cnt {b:Book} {Q:List (List Nat)} (c:b.Core Q (-1)):b.cntOk:=by
 intro q hq
 obtain⟨n,hn⟩:=yZd.1 hq
 have hlt:=(yWn.1 hn).1
 rw[c.wf.ql]at hlt
 obtain⟨l,hl⟩:=yD hlt
 have:=c.wf.q n l hl
 rw[hn]at this
 cases this
 have:=c.wf.toWf0.short hl
 constructor<;>dsimp only<;>omega
def qU (L:List zH):Top:=(top0.buy (bestL L 1)).sell (bestL L 2)
theorem Book.Rep.top {b:Book} {L:List zH} (h:b.Rep L):b.top=qU L:=by
 obtain⟨Q,c,ht,rfl⟩:=h
 rw[Book.top,qU,← c.bestL (.inl rfl),← c.bestL (.inr rfl)];rfl
theorem Book.Rep.cnt {b:Book} {L:List zH} (h:b.Rep L):b.cntOk:=by
 obtain⟨Q,c,ht,rfl⟩:=h
 exact c.cnt
structure zId (o:zH):Prop where
 s:o.side=1∨o.side=2
 q:1≤o.qty∧o.qty≤1000000
theorem Book.Rep.ords {b:Book} {L:List zH} (h:b.Rep L):(∀o∈L,zId o)∧(L.map (·.id)).Nodup∧L.length≤250:=by
 obtain⟨Q,c,ht,rfl⟩:=h
 refine⟨fun o ho=> ?_,c.ids,?_⟩
 ·obtain⟨hs,r,hr,ho,hp⟩:=mG ho
  refine⟨hs,?_⟩
  obtain⟨k,hk,e⟩:=yYa.1 ho
  obtain⟨_,⟨_,_,h2⟩,_⟩:=c.wf.toWf0.mem (c.get hs hr) hk
  have eq:o.qty=(b.a.slotAt k).qty:=by rw[← e];rfl
  rw[eq]
  exact⟨c.wf.pos _ _ (c.get hs hr) _ hk,h2.q2⟩
 ·have hnd:(((b.rungs 1).flatMap (y9 Q)++(b.rungs 2).flatMap (y9 Q))).Nodup:=by
   have hm:((b.flat Q).map (·.id))=((b.rungs 1).flatMap (y9 Q)++(b.rungs 2).flatMap (y9 Q)).map fun k=>(b.a.slotAt k).id:=by
    rw[Book.flat,yWv,yWv,Book.sideL,Book.sideL,rZ,rZ,rZ,rZ]
    congr 1
    ·exact xA fun r _=>by rw[Book.rOrds,yZc];rfl
    ·exact xA fun r _=>by rw[Book.rOrds,yZc];rfl
   have:=c.ids
   rw[hm]at this
   exact List.Pairwise.of_map _ (fun a b hab e=>hab (by rw[e])) this
  have hl:(b.flat Q).length=((b.rungs 1).flatMap (y9 Q)++(b.rungs 2).flatMap (y9 Q)).length:=by
   rw[Book.flat,yWi,yWi,Book.sideL,Book.sideL,y1o,y1o,y1o,y1o]
   congr 1
   ·congr 1;exact yXs fun r _=>by rw[Book.rOrds,yWk]
   ·congr 1;exact yXs fun r _=>by rw[Book.rOrds,yWk]
  rw[hl]
  refine zHx 250 hnd fun k hk=> ?_
  rcases yXo.1 hk with hk|hk
  ·obtain⟨r,hr,hk⟩:=yYz.1 hk
   exact(c.wf.toWf0.mem (c.get (.inl rfl) hr) hk).1
  ·obtain⟨r,hr,hk⟩:=yYz.1 hk
   exact(c.wf.toWf0.mem (c.get (.inr rfl) hr) hk).1
theorem Book.Rep.fit {b:Book} {L:List zH} (h:b.Rep L):b.fit:=by
 obtain⟨Q,c,ht,rfl⟩:=h
 have hs:=c.small
 have h1:=c.ql
 have h2:=c.wf.ql
 have hqb:=c.qb
 rw[Book.qs,yWi,yWi,yWk,yWk]at h1
 refine⟨⟨hs.1.1,fun hf=> ?_,fun q hq=> ?_⟩,by omega,by omega,by omega,by omega⟩
 ·obtain⟨k,_,hk,hk1,hku,_⟩:=c.wf.toWf0.unused hf
  exact⟨_,yWt hk1,hku⟩
 ·obtain⟨n,hn⟩:=yZd.1 hq
  have hlt:=(yWn.1 hn).1
  rw[c.wf.ql]at hlt
  obtain⟨l,hl⟩:=yD hlt
  have:=c.wf.q n l hl
  rw[hn]at this
  cases this
  dsimp only
  rcases wA l with e|⟨y,j,e,e2⟩
  ·exact .inl ((aY l).2 e)
  ·rw[e2]
   have:=(c.wf.toWf0.mem hl (k:=j) (by rw[e];simp)).1
   rw[c.wf.len]
   exact .inr ⟨by omega,by omega⟩
def whL:Nat→List (List zH)→List (Int×Int)
 |_,[]=>[]
 |k,L::B=>L.map (fun o=>(o.id,(k:Int)))++whL (k+1) B
theorem whL_mem:∀{B:List (List zH)} {n:Nat} {x:Int×Int},x∈whL n B↔∃(k:Nat) (L:List zH),B[k]? =some L∧x.1∈L.map (·.id)∧x.2=((n+k:Nat):Int)
 |[],n,x=>by simp[whL]
 |L::B,n,x=>by
  rw[whL,yXo,whL_mem (B:=B)]
  constructor
  ·rintro(h|⟨k,L',h1,h2,h3⟩)
   ·obtain⟨o,ho,rfl⟩:=yYa.1 h
    exact⟨0,L,rfl,yXq (f:=(·.id)) ho,rfl⟩
   ·exact⟨k+1,L',h1,h2,by rw[h3];omega⟩
  ·rintro⟨k,L',h1,h2,h3⟩
   cases k with
   |zero=>
    cases h1
    obtain⟨o,ho,e⟩:=yYa.1 h2
    exact .inl (yYa.2 ⟨o,ho,Prod.ext e h3.symm⟩)
   |succ k=>exact .inr ⟨k,L',h1,h2,by rw[h3];omega⟩
theorem zHj:∀{B:List (List zH)} (n k:Nat),k<B.length→∃rest,∀X:List zH,(whL n (B.set k X)).Perm (X.map (fun o=>(o.id,((n+k:Nat):Int)))++rest)
 |[],n,k,h=>absurd h (by simp)
 |L::B,n,0,h=>⟨whL (n+1) B,fun X=> .refl _⟩
 |L::B,n,k+1,h=>by
  obtain⟨rest,hr⟩:=zHj (B:=B) (n+1) k (by simpa using h)
  refine⟨L.map (fun o=>(o.id,(n:Int)))++rest,fun X=> ?_⟩
  rw[y2p,whL]
  refine((hr X).append_left _).trans ?_
  rw[← yWo,← yWo,show n+1+k=n+(k+1)by omega]
  exact yYm.append_right _
structure MSt.Rep (s:MSt) (p:Prd) (B:List (List zH)):Prop where
 ep:s.p=p
 bl:s.books.length=B.length
 bk:∀(k:Nat) (b:Book) (L:List zH),s.books[k]? =some b→B[k]? =some L→b.Rep L
 wh:s.wh.Perm (whL 0 B)
 ids:((whL 0 B).map (·.1)).Nodup
def bS (B:List (List zH)) (id:Int):Option Nat:=B.findIdx? fun L=>wC L id
theorem uW {B:List (List zH)} {id:Int} {k:Nat} (h:bS B id=some k):∃L,B[k]? =some L∧wC L id=true:=by
 rw[bS,yZo]at h
 obtain⟨h1,h2,_⟩:=h
 exact⟨_,yXj h1,h2⟩
theorem zZg {B:List (List zH)} {id:Int} (h:bS B id=none):∀L∈B,wC L id=false:=by
 rw[bS,y1c]at h
 exact h
theorem zRb:∀{l:List (Int×Int)},(l.map (·.1)).Nodup→∀{k x:Int},(k,x)∈l→lL l k=some x
 |[],_,k,x,hx=>by cases hx
 |p::l,h,k,x,hx=>by
  rw[yWz,yZb]at h
  rw[lL,List.find?_cons]
  rcases yXe.1 hx with ex|hx
  ·subst ex;simp
  ·have:p.1≠k:=by rintro e;exact h.1 (e▸yXq (f:=(·.1)) hx)
   rw[yWx this]
   exact zRb h.2 hx
theorem z6b {l:List (Int×Int)} {k:Int} (h:k∉l.map (·.1)):lL l k=none:=by
 rw[lL,Option.map_eq_none_iff,List.find?_eq_none]
 intro x hx e
 have e:x.1=k:=by simpa using e
 exact h (e▸yXq (f:=(·.1)) hx)
theorem MSt.Rep.keys {s:MSt} {p:Prd} {B:List (List zH)} (h:s.Rep p B):(s.wh.map (·.1)).Nodup:=(h.wh.map (·.1)).nodup_iff.2 h.ids
theorem MSt.Rep.at_ {s:MSt} {p:Prd} {B:List (List zH)} (h:s.Rep p B) (id:Int):lL s.wh id=(bS B id).map (fun k:Nat=>(k:Int)):=by
 cases hi:bS B id with
 |none=>
  refine z6b fun hm=> ?_
  rw[(h.wh.map (·.1)).mem_iff]at hm
  obtain⟨x,hx,rfl⟩:=yYa.1 hm
  obtain⟨k,L,h1,h2,_⟩:=whL_mem.1 hx
  have:=zZg hi L (yWt h1)
  rw[hasId_iff.2 h2]at this;cases this
 |some k=>
  obtain⟨L,h1,h2⟩:=uW hi
  refine zRb h.keys (h.wh.mem_iff.2 (whL_mem.2 ⟨k,L,h1,hasId_iff.1 h2,by simp⟩))
open Go Cv Go.Proofs
def kE (B:List (List zH)) (id q:Int):List (List zH)×Int:=match bS B id with
 |none=>(B,26)
 |some k=>(B.set k (xY (B.getD k []) id q).1,(xY (B.getD k []) id q).2)
theorem zMf {L:List zH} (h:(L.map (·.id)).Nodup) (id q:Int):((xY L id q).1.map (·.id)=L.map (·.id)∧wC (xY L id q).1 id=wC L id)∨((xY L id q).1=L.filter (fun o=> !decide (o.id=id))∧wC (xY L id q).1 id=false):=by
 rw[xY]
 by_cases h1:wC L id=false
 ·rw[yWl h1];exact .inl ⟨rfl,rfl⟩
 have h1:wC L id=true:=by simpa using h1
 rw[yWj (by rw[h1];decide)]
 by_cases h2:q<1∨(fV L id).qty<q
 ·rw[yWl h2];exact .inl ⟨rfl,rfl⟩
 rw[yWj h2]
 dsimp only
 by_cases h3:(fV L id).qty=q
 ·refine .inr ?_
  have e:uE L id q=L.filter fun o=> !decide (o.id=id):=by rw[← h3];exact zPq h h1
  refine⟨e,?_⟩
  rw[e,wC,y2r]
  intro o ho
  rw[yYn]at ho
  simpa using ho.2
 ·refine .inl ?_
  have hm:(uE L id q).map (·.id)=L.map (·.id):=by
   have:uE L id q=L.map fun o=>if o.id=id then{o with qty:=o.qty-q}else o:=by
    rw[uE,← List.filterMap_eq_map]
    refine bW fun o ho=> ?_
    simp only[Function.comp]
    by_cases e:o.id=id
    ·have hg:=mW h ho
     rw[e]at hg
     rw[yWl e,yWl e,yWj (fun e2=>h3 (by rw[hg];exact e2))]
    ·rw[yWj e,yWj e]
   rw[this,yZc]
   refine yXs fun o _=> ?_
   simp only[Function.comp]
   split<;>rfl
  refine⟨hm,?_⟩
  rw[y1z,hasId_iff,hasId_iff,hm]
theorem z3q:∀{l:List (Int×Int)} {k:Int},(l.map (·.1)).Nodup→zXx k l=l.filter fun x=> !decide (x.1=k)
 |[],k,_=>rfl
 |(a,b)::l,k,h=>by
  rw[yWz,yZb]at h
  rw[zXx]
  by_cases e:k=a
  ·subst e
   rw[yWl rfl,y1m (by simp)]
   symm
   rw[y2j]
   intro x hx
   have:x.1≠k:=fun e=>h.1 (e▸yXq (f:=(·.1)) hx)
   simp[this]
  ·rw[yWj e,y1l (by simp[Ne.symm e]),z3q h.2]
theorem zWj:∀{l:List (Int×Int)} {k x:Int},k∉l.map (·.1)→zTu k x l=l++[(k,x)]
 |[],k,x,_=>rfl
 |p::l,k,x,h=>by
  rw[yWz,yXe,not_or]at h
  rw[zTu,yWj h.1,zWj h.2];rfl
theorem vU {α:Type} {l:List α} {k:Nat} {x:α} (h:l[k]? =some x):l.set k x=l:=by
 apply y0b
 intro i
 rw[yZt]
 split
 ·rename_i e
  subst e
  rw[yWl (yWn.1 h).1,h]
 ·rfl
theorem MSt.Rep.set {s:MSt} {p:Prd} {B:List (List zH)} (h:s.Rep p B) {k:Nat} {L':List zH} {b':Book} (hb:b'.Rep L') (hk:k<B.length) {wh':List (Int×Int)} (hw:wh'.Perm (whL 0 (B.set k L'))) (hi:((whL 0 (B.set k L')).map (·.1)).Nodup):({s with books:=s.books.set k b',wh:=wh'}:MSt).Rep p (B.set k L'):=by
 refine⟨h.ep,by simpa using h.bl,fun j b L h1 h2=> ?_,hw,hi⟩
 by_cases e:k=j
 ·subst e
  have h1:(s.books.set k b')[k]? =some b:=h1
  rw[gW (by rw[h.bl];exact hk)]at h1
  rw[gW hk]at h2
  cases h1;cases h2;exact hb
 ·have h1:(s.books.set k b')[j]? =some b:=h1
  rw[vF e]at h1 h2
  exact h.bk j b L h1 h2
theorem MSt.Rep.take {s:MSt} {p:Prd} {B:List (List zH)} (h:s.Rep p B) {id q:Int} {k:Nat} (hi:bS B id=some k) {L:List zH} (hL:B[k]? =some L) (hn:(L.map (·.id)).Nodup) {b':Book} (hb:b'.Rep (xY L id q).1):
 ({s with books:=s.books.set k b',wh:=if wC (xY L id q).1 id=true then s.wh else zXx id s.wh}:MSt).Rep p (kE B id q).1:=by
 have hk:=(yWn.1 hL).1
 have ht:(kE B id q).1=B.set k (xY L id q).1:=by simp only[kE,hi,zR hL]
 obtain⟨L2,e1,hh⟩:=uW hi
 rw[hL]at e1;cases e1
 obtain⟨rest,hr⟩:=zHj (B:=B) 0 k hk
 have hL0:=hr L
 rw[vU hL]at hL0
 rw[ht]
 rcases zMf hn id q with⟨e1,e2⟩|⟨e1,e2⟩
 ·have hm:∀X Y:List zH,X.map (·.id)=Y.map (·.id)→X.map (fun o=>(o.id,((0+k:Nat):Int)))=Y.map (fun o=>(o.id,((0+k:Nat):Int))):=by
   intro X Y e
   have:=congrArg (List.map fun i:Int=>(i,((0+k:Nat):Int))) e
   rw[yZc,yZc]at this
   exact this
  have hp:(whL 0 (B.set k (xY L id q).1)).Perm (whL 0 B):=by
   refine(hr _).trans ?_
   rw[hm _ _ e1]
   exact hL0.symm
  rw[e2,hh,yWl rfl]
  exact h.set hb hk (h.wh.trans hp.symm) ((hp.map (·.1)).nodup_iff.2 h.ids)
 ·rw[e2,yWj (by decide)]
  have hrest:∀x∈rest,x.1≠id:=by
   intro x hx e
   have hnd:=(hL0.map (·.1)).nodup_iff.1 h.ids
   rw[yWv,yZc]at hnd
   have h1:id∈L.map ((·.1)∘fun o:zH=>(o.id,((0+k:Nat):Int))):=hasId_iff.1 hh
   exact(yYu.1 hnd).2.2 id h1 x.1 (yXq (f:=(·.1)) hx) e.symm
  have hp:(whL 0 (B.set k (xY L id q).1)).Perm ((whL 0 B).filter fun x=> !decide (x.1=id)):=by
   refine(hr _).trans (.trans ?_ (hL0.filter _).symm)
   rw[e1,y0n,List.filter_map]
   have:rest.filter (fun x=> !decide (x.1=id))=rest:=by
    rw[y2j]
    intro x hx
    simp[hrest x hx]
   rw[this]
   exact .refl _
  refine h.set hb hk ?_ ((hp.map (·.1)).nodup_iff.2 (h.ids.sublist (List.Sublist.map _ y2k)))
  rw[z3q h.keys]
  exact(h.wh.filter _).trans hp.symm
def z0h (p:Prd) (B:List (List zH)) (inst id:Int) (s price q:Int):List (List zH)×Int:=
 if inst<0∨B.length≤inst then(B,20)else if(bS B id).isSome=true then(B,25)else if 250≤(whL 0 B).length then(B,13)else if p.price inst price≠0 then(B,p.price inst price)
 else(B.set inst.toNat (zGs (B.getD inst.toNat []) s id price q).1,(zGs (B.getD inst.toNat []) s id price q).2)
theorem yAc (L:List zH) (s id p q:Int):((zPu L s id p q).map (·.id)).Perm (id::L.map (·.id)):=by
 have:∀X:List zH,((X.takeWhile (before s p)++⟨id,s,p,q,u0 L s p⟩::X.dropWhile (before s p)).map (·.id)).Perm (id::X.map (·.id)):=by
  intro X
  conv=>rhs;rw[← y2l (p:=before s p) (l:=X)]
  rw[yWv,yWz,yWv]
  exact yWy
 rw[zPu]
 split
 ·refine(this _).trans ?_
  rw[z3p]
 ·exact this _
theorem MSt.Rep.add {s:MSt} {p:Prd} {B:List (List zH)} (h:s.Rep p B) (inst id:Int) (sd:Bool) (price q:Int):
 (MSt.addF ⟨s,inst,id,sd,price,q⟩).1.Rep p (z0h p B inst id (zC sd) price q).1∧(MSt.addF ⟨s,inst,id,sd,price,q⟩).2=(z0h p B inst id (zC sd) price q).2:=by
 have hsd:zC sd=1∨zC sd=2:=by cases sd;exact .inl rfl;exact .inr rfl
 rw[MSt.addF,z0h]
 dsimp only
 rw[h.bl,h.at_,h.wh.length_eq,show s.p.price inst price=p.price inst price by rw[h.ep],Option.isSome_map]
 by_cases c1:inst<0∨(B.length:Int)≤inst
 ·rw[yWl c1,yWl c1];exact⟨h,rfl⟩
 rw[yWj c1,yWj c1]
 by_cases c2:(bS B id).isSome=true
 ·rw[yWl c2,yWl c2];exact⟨h,rfl⟩
 rw[yWj c2,yWj c2]
 by_cases c3:250≤(whL 0 B).length
 ·rw[yWl c3,yWl c3];exact⟨h,rfl⟩
 rw[yWj c3,yWj c3]
 by_cases c4:p.price inst price≠0
 ·rw[yWl c4,yWl c4];exact⟨h,rfl⟩
 rw[yWj c4,yWj c4]
 obtain⟨k,hk⟩:∃k:Nat,inst=k:=⟨inst.toNat,by omega⟩
 subst hk
 rw[yXa]
 have hkl:k<B.length:=by omega
 obtain⟨b,hb⟩:=yD (l:=s.books) (i:=k) (by rw[h.bl];exact hkl)
 obtain⟨L,hL⟩:=yD (l:=B) (i:=k) hkl
 have hba:s.bookAt k=b:=by rw[MSt.bookAt,yXa];exact zR hb
 rw[hba,zR hL]
 obtain⟨r1,r2⟩:=(h.bk k b L hb hL).add hsd id price q
 refine⟨?_,r2⟩
 rw[r2]
 obtain⟨rest,hr⟩:=zHj (B:=B) 0 k hkl
 have hL0:=hr L
 rw[vU hL]at hL0
 have hcase:(zGs L (zC sd) id price q).2≠0∧(zGs L (zC sd) id price q).1=L∨(zGs L (zC sd) id price q).2=0∧(zGs L (zC sd) id price q).1=zPu L (zC sd) id price q:=by
  rw[zGs]
  repeat' split
  ·exact .inl ⟨by simp,rfl⟩
  ·exact .inl ⟨by simp,rfl⟩
  ·exact .inl ⟨by simp,rfl⟩
  ·exact .inr ⟨rfl,rfl⟩
 rcases hcase with⟨e1,e2⟩|⟨e1,e2⟩
 ·rw[yWj e1]
  refine h.set r1 hkl ?_ ?_
  ·rw[e2,vU hL];exact h.wh
  ·rw[e2,vU hL];exact h.ids
 ·rw[yWl e1]
  have hnk:id∉s.wh.map (·.1):=by
   intro hm
   obtain⟨x,hx,rfl⟩:=yYa.1 hm
   have:=zRb h.keys hx
   rw[h.at_]at this
   cases hq:bS B x.1 with
   |none=>rw[hq]at this;cases this
   |some j=>rw[hq]at c2;exact c2 rfl
  have hp:(whL 0 (B.set k (zGs L (zC sd) id price q).1)).Perm ((id,(k:Int))::whL 0 B):=by
   refine(hr _).trans (.trans ?_ (hL0.symm.cons _))
   rw[e2,← yYd]
   refine List.Perm.append_right _ ?_
   have:=(yAc L (zC sd) id price q).map fun i:Int=>(i,(k:Int))
   rw[yZc,yWz,yZc]at this
   rw[yXk]
   exact this
  refine h.set r1 hkl ?_ ((hp.map (·.1)).nodup_iff.2 (yZb.2 ⟨?_,h.ids⟩))
  ·rw[zWj hnk]
   exact(y0y _ _).trans ((h.wh.cons _).trans hp.symm)
  ·rw[← (h.wh.map (·.1)).mem_iff];exact hnk
theorem zSe:∀(n k:Nat),whL k (List.replicate n [])=[]
 |0,_=>rfl
 |n+1,k=>by rw[y0s,whL,zSe];rfl
theorem zZa (p:Prd):(sI p).Rep p (List.replicate p.count []):=by
 refine⟨rfl,by simp[sI],fun k b L h1 h2=> ?_,?_,?_⟩
 ·have e1:b=book0:=y2i (yWt (show(List.replicate p.count book0)[k]? =some b from h1))
  have e2:L=[]:=y2i (yWt h2)
  rw[e1,e2];exact z5p
 ·rw[zSe];exact .refl _
 ·rw[zSe];exact List.nodup_nil
open Go Cv Go.Proofs
def yJp (s:Bool):Con:=con1 BkL (fun i=>[.nm 0 0,zA (zC s)]) (fun i=>[z5 i.b]) (fun i=>i.b.Rep i.L) (fun _=> .own 1) (fun i=>[z5 i.b,.own 41 3 ((uM i.L (zC s)).map lvE)])
def lad1C:Con:=yJp false
def lad2C:Con:=yJp true
def yTi (s:Bool) (i:BkL):List SAnn:=[{ι:=Nat,slots:=fun j=>[(5,.own 0),(19,zA j)],rows:=fun j=>[.own 41 3 (((uM i.L (zC s)).take j).map lvE)]}]
structure BkT where
 b:Book
 L:List zH
 s:Bool
def ladC:Con:=con1 BkT (fun i=>[.nm 0 0,zA (zC i.s)]) (fun i=>[z5 i.b]) (fun i=>i.b.Rep i.L) (fun _=> .own 1) (fun i=>[z5 i.b,.own 41 3 ((uM i.L (zC i.s)).map lvE)])
@[reducible] def z9e (s:MSt):List AObj:=[xL s 0,xL s 1,xL s 2,xL s 3,xL s 4]
def topsOC:Con:=con1 MSt (fun _=>[.nm 0 0]) (fun s=>z9e s) MSt.cntOk (fun s=> .own 5) (fun s=>z9e s++[.own 252 6 (s.tops.map zX)])
structure StI where
 s:MSt
 p:Prd
 B:List (List zH)
 id:Int
 q:Int
def stakeC:Con where
 ι:=StI
 pat:=fun i=>[.nm 0 0,zA i.id,zA i.q]
 pre:=fun i=>[zD i.s]
 cnd:=fun i=>i.s.Rep i.p i.B∧i.B.length≤1000
 alts:=fun i=>[{o:=MSt,res:=fun _=>zA (kE i.B i.id i.q).2,post:=fun s=>[zD s],rel:=fun s=>s.Rep i.p (kE i.B i.id i.q).1}]
def yH (B:List (List zH)) (id:Int):Int×zH×Bool:=match bS B id with
 |none=>(0,yOm,false)
 |some k=>(k,fV (B.getD k []) id,true)
def sfindC:Con:=con1 StI (fun i=>[.nm 0 0,zA i.id]) (fun i=>[zD i.s]) (fun i=>i.s.Rep i.p i.B∧i.B.length≤1000) (fun i=> .tup [zA (yH i.B i.id).1,z5l (yH i.B i.id).2.1,yF (yH i.B i.id).2.2]) (fun i=>[zD i.s])
end Sx
