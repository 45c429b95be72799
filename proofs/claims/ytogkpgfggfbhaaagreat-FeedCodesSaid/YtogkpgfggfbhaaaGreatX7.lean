/- Texts of ours, one behind the other: a walk that the kernel reckons, and contracts of functions. No condition. -/
import Derived.Test.YtogkpgfggfbhaaaGreatX6
namespace Sx
set_option linter.unusedVariables false
set_option linter.unusedSimpArgs false
set_option maxRecDepth 100000
open Go Cv Go.Proofs
theorem z3t {l:List Int} {q r:Int} (h:yK l q=true) (h0:0≤r) (h1:r≤q):yK l r=true:=by
 obtain⟨a,b,c,d⟩:=qH h
 have e:(l.all fun n=>decide (1≤n) && decide (n≤1000000))=true:=by
  rw[yRq];intro x hx;simpa using c x hx
 rw[yK,e,yPn a,yPn h0,yPn (show r≤l.sum by omega)];rfl
theorem getD_none {l:List Int} {n:Nat} (h:l[n]? =none):l.getD n 0=0:=by rw[yPa,h];rfl
theorem tN {l:List Int} {q:Int} (h:yK l q=true) (n:Nat):0≤l.getD n 0∧l.getD n 0≤1000000:=by
 cases hn:l[n]? with
 |none=>rw[getD_none hn];decide
 |some x=>rw[zQ hn];have:=(qH h).2.2.1 x (yPe hn);omega
theorem zYu {l:List Int} {q:Int} (h:yK l q=true) (n:Nat):0≤(wZ l q).getD n 0∧(wZ l q).getD n 0≤l.getD n 0:=by
 rw[wZ,yOu h]
 obtain⟨a,b,c,d⟩:=qH h
 cases hn:l[n]? with
 |none=>
  have:(wQ l q)[n]? =none:=by rw[List.getElem?_eq_none_iff,nO];exact List.getElem?_eq_none_iff.1 hn
  rw[getD_none hn,getD_none this];decide
 |some x=>
  rw[zQ hn,zQ (zFj l q n x hn)]
  have:=zBu l q n b (fun y hy=>by have:=c y hy;omega)
  have:=c x (yPe hn)
  omega
theorem yOi (i:SpI) (h:splC.cnd i):yLa i:=by
 obtain⟨hl,hq,hle,hpa⟩:i.l.length≤1000000∧i64r i.q∧i64r i.least∧i64r i.part:=h
 unfold yLa zEj kO
 have no (e:¬(yK i.l i.q=true∧0≤i.part∧i.part≤100∧1≤i.least)):tW i=[]:=by rw[tW,yOr e]
 refine⟨⟨i.l,i.q⟩,rfl,rfl,⟨hl,hq⟩,fun _ _=>Cv.cnd.mk (fun c=> ?_) (fun c=>zI (fun d=> ?_) (fun d=>zI (fun e=> ?_) (fun e=>zI (fun f=> ?_) (fun f=> ?_))))⟩
 ·have c:yK i.l i.q=false:=by simpa using c
  exact⟨(),by rw[no (by rw[c];simp)];rfl,trivial⟩
 ·exact⟨(),by rw[no (by omega)];rfl,trivial⟩
 ·exact⟨(),by rw[no (by omega)];rfl,trivial⟩
 ·exact⟨(),by rw[no (by omega)];rfl,trivial⟩
 have c:yK i.l i.q=true:=by simpa using c
 obtain⟨h1,h2,h3,h4⟩:=qH c
 have hq2:=zDt c
 have m0:0≤i.q*i.part:=Int.mul_nonneg h2 (by omega)
 have m1:i.q*i.part≤i.q*100:=Int.mul_le_mul_of_nonneg_left (by omega) h2
 have hr:=z3t (r:=i.q*i.part / 100) c (by omega) (by omega)
 have es:tW i=bT i.rs:=by rw[tW,yOu ⟨c,by omega,by omega,by omega⟩]
 refine⟨⟨i.q,i.part,100⟩,rfl,rfl,rfl,⟨by dsimp only;omega,by dsimp only;omega,by dsimp only;omega,by dsimp only;omega,by dsimp only;omega,by dsimp only;omega⟩,fun _ _=>⟨⟨i.l,i.q*i.part / 100⟩,rfl,rfl,⟨hl,by dsimp only;omega,by dsimp only;omega⟩,fun _ _=>⟨i.rs,rfl,rfl,?_,rfl,⟨h1,?_,?_,hle,?_⟩,fun _ _=>⟨(),by rw[es],trivial⟩⟩⟩⟩
 ·rw[w64 (by dsimp only;omega)];rfl
 ·show(wZ i.l (i.q*i.part / 100)).length=i.l.length
  rw[wZ,yOu hr,nO]
 ·show i64r (i.q-i.q*i.part / 100)
  exact⟨by omega,by omega⟩
 ·intro n
  have a:=zYu hr n
  have b:=tN c n
  exact⟨a.1,a.2,b.2⟩
theorem yHb:splC.ok Tryz.prog 255:=okw mixed (gokc eC (gokc zJb (gokc zXu (gokc zXn gok0)))) 0 (fun _=>[]) (fun _=>[]) [] Tryz.func255 yOi
theorem yFp (n:Nat):List.replicate n [D.v (.int .i64 0)]=iE (List.replicate n 0):=by simp[iE]
theorem zSm (n k:Nat):(List.replicate n (0:Int)).getD k 0=0:=by
 rw[yPa,List.getElem?_replicate];split<;>rfl
theorem z1z (n t k:Nat) (x:Int):((List.replicate n (0:Int)).set t x).getD k 0=x∧k=t∨((List.replicate n (0:Int)).set t x).getD k 0=0:=by
 rw[yPa,yTv]
 split
 ·rename_i e
  split
  ·exact .inl ⟨rfl,e.symm⟩
  ·exact .inr rfl
 ·right;rw[← yPa];exact zSm n k
theorem yNo (i:PsI) (h:proC.cnd i):yMe i:=by
 obtain⟨hl,hq,hle,hmo⟩:i.l.length≤1000000∧i64r i.q∧i64r i.least∧i64r i.most:=h
 unfold yMe zNm zNp zEj zHp nF kO dI
 have no (e:¬(yK i.l i.q=true∧1≤i.least∧0≤i.most)):lO i=[]:=by rw[lO,yOr e]
 refine⟨⟨i.l,i.q⟩,rfl,rfl,⟨hl,hq⟩,fun _ _=>Cv.cnd.mk (fun c=> ?_) (fun c=>zI (fun d=> ?_) (fun d=>zI (fun e=> ?_) (fun e=> ?_)))⟩
 ·have c:yK i.l i.q=false:=by simpa using c
  exact⟨(),by rw[no (by rw[c];simp)];rfl,trivial⟩
 ·exact⟨(),by rw[no (by omega)];rfl,trivial⟩
 ·exact⟨(),by rw[no (by omega)];rfl,trivial⟩
 have c:yK i.l i.q=true:=by simpa using c
 obtain⟨h1,h2,h3,h4⟩:=qH c
 have hq2:=zDt c
 have es:lO i=bT i.rs:=by rw[lO,yOu ⟨c,by omega,by omega⟩]
 simp only[y6,yPj,yFp]
 have out (hn:¬(0≤i.top∧i.top<(i.l.length:Int))):i.rs=⟨i.l,List.replicate i.l.length 0,i.least,i.q⟩:=by rw[PsI.rs,yOr hn]
 have ok0:RsI.ok ⟨i.l,List.replicate i.l.length 0,i.least,i.q⟩:=⟨h1,by simp,hq,hle,fun n=>by
  have:=tN c n
  dsimp only
  rw[zSm];omega⟩
 refine⟨⟨by omega,by omega,by omega,by omega⟩,zI (fun a=>zI (fun b=> ?_) (fun b=> ?_)) (fun a=> ?_)⟩
 ·obtain⟨n,hn⟩:=z8 (l:=i.l) (i:=i.top.toNat) (by omega)
  have hf:i.first=min (min n i.most) i.q:=by rw[PsI.first,zQ hn]
  have bn:=h3 n (yPe hn)
  have hr0:(List.replicate i.l.length (0:Int))[i.top.toNat]? =some 0:=by rw[List.getElem?_replicate,yOu (by omega)]
  have ers:i.rs=⟨i.l,(List.replicate i.l.length 0).set i.top.toNat i.first,i.least,i.q-i.first⟩:=by rw[PsI.rs,yOu ⟨by omega,by omega⟩]
  refine⟨⟨by omega,by omega⟩,n,elI hn,?_⟩
  rw[zMf hr0,← hf]
  simp only[y6,yPw,yRp]
  refine⟨⟨by omega,by omega⟩,by omega,⟨by omega,by omega⟩,i.first,elI (wI hr0),?_⟩
  rw[w64 (x:=i.q-i.first) (by omega)]
  refine⟨⟨i.l,(List.replicate i.l.length 0).set i.top.toNat i.first,i.least,i.q-i.first⟩,rfl,rfl,rfl,rfl,⟨h1,by simp,⟨by dsimp only;omega,by dsimp only;omega⟩,hle,fun k=> ?_⟩,fun _ _=>⟨(),by rw[es,ers],trivial⟩⟩
  have bk:=tN c k
  dsimp only
  rcases z1z i.l.length i.top.toNat k i.first with⟨g,gk⟩|g
  ·rw[g,gk,zQ hn];omega
  ·rw[g];omega
 ·refine⟨⟨i.l,List.replicate i.l.length 0,i.least,i.q⟩,rfl,rfl,rfl,rfl,ok0,fun _ _=>⟨(),by rw[es,out (by omega)],trivial⟩⟩
 ·refine⟨⟨i.l,List.replicate i.l.length 0,i.least,i.q⟩,rfl,rfl,rfl,rfl,ok0,fun _ _=>⟨(),by rw[es,out (by omega)],trivial⟩⟩
theorem yJm:proC.ok Tryz.prog 254:=okw mixed (gokc eC (gokc zXn gok0)) 0 (fun _=>[]) (fun _=>[]) [] Tryz.func254 yNo
open Go Cv Go.Proofs
structure AlI where
 p:Prd
 l:List zG
 q:Int
def AlI.qs (i:AlI):List Int:=i.l.map (·.qty)
def x4 (i:AlI):List Int:=if i.p.rule=1 then wZ i.qs i.q else if i.p.rule=2 then lO ⟨i.qs,topI i.l,i.p.top,i.p.least,i.q⟩else if i.p.rule=3 then tW ⟨i.qs,i.p.part,i.p.least,i.q⟩else[]
def allocC:Con:=con1 AlI (fun i=>[tA i.p,roV 5 (i.l.map jE),zA i.q]) (fun _=>[]) (fun i=>i.l.length≤1000∧i64r i.q∧i64r i.p.least∧i64r i.p.top∧i64r i.p.part) (fun _=> .own 0) (fun i=>[.own 2 1 (iE (x4 i))])
def yJf (i:AlI):List SAnn:=[{ι:=Nat,slots:=fun j=>[(7,.own 0),(13,zA j)],rows:=fun j=>[.own 2 1 (iE (i.qs.take j))]}]
open Go Cv Go.Proofs
def z7x (i:AlI):Prop:=
 ∃(a:Nat),(↑a:Int)=0∧iE (List.take a i.qs)=[]∧∃(b:Nat→Prop),∃(c:Nat→Nat),b a∧∀(d:Nat),b d→cnd (decide ((↑d:Int)<(↑(List.map jE i.l).length:Int))) ((0≤(↑d:Int)∧(↑d:Int)<(↑(List.map jE i.l).length:Int))∧∃(e:Int),∃(f:Int),∃(g:Int),∃(h:Int),∃(j:Bool),zF (List.map jE i.l) (↑d:Int).toNat 0 5=some [dI e,dI f,dI g,dI h,D.v (.bool j)]∧((iE (List.take d i.qs)).length+1)*(8:Nat)≤(140737488355328:Nat)∧∃(k:Nat),(↑k:Int)=IntKind.i64.wrap ((↑d:Int)+1)∧iE (List.take k i.qs)=iE (List.take d i.qs)++[[dI h]]∧b k∧c k<c d∧Sx.AObj.cells [V.d (D.v (Value.string (sb i.p.code))),V.own 0,V.d (dI i.p.tick),V.d (dI i.p.low),V.d (dI i.p.high),V.d (dI i.p.wide),V.d (dI i.p.rule),V.d (dI i.p.top),V.d (dI i.p.least),V.d (dI i.p.part),V.own ((0:Nat)+(1:Nat))] 26=Sx.AObj.cells [V.d (D.v (Value.string (sb i.p.code))),V.own 0,V.d (dI i.p.tick),V.d (dI i.p.low),V.d (dI i.p.high),V.d (dI i.p.wide),V.d (dI i.p.rule),V.d (dI i.p.top),V.d (dI i.p.least),V.d (dI i.p.part),V.own ((0:Nat)+(1:Nat))] 26∧AObj.fro 1 (iE i.p.settle)=AObj.fro 1 (iE i.p.settle)∧AObj.fro 1 (iE i.p.months)=AObj.fro 1 (iE i.p.months)) (cnd (i.p.rule==1) (∃(e:LqI),iE e.l=iE (List.take d i.qs)∧e.q=i.q∧(kO e)∧∀(f:Unit),True→∃(g:Unit),iE (x4 i)=iE (wZ e.l e.q)∧True) (cnd (i.p.rule==2) (∃(e:List zG),List.map jE e=List.map jE i.l∧e.length≤1000000∧∀(f:Unit),True→∃(g:PsI),iE g.l=iE (List.take d i.qs)∧g.top=topI e∧g.most=i.p.top∧g.least=i.p.least∧g.q=i.q∧(g.l.length≤1000000∧((-9223372036854775808)≤g.q∧g.q≤9223372036854775807)∧((-9223372036854775808)≤g.least∧g.least≤9223372036854775807)∧(-9223372036854775808)≤g.most∧g.most≤9223372036854775807)∧∀(h:Unit),True→∃(j:Unit),iE (x4 i)=iE (lO g)∧True) (cnd (i.p.rule==3) (∃(e:SpI),iE e.l=iE (List.take d i.qs)∧e.part=i.p.part∧e.least=i.p.least∧e.q=i.q∧(e.l.length≤1000000∧((-9223372036854775808)≤e.q∧e.q≤9223372036854775807)∧((-9223372036854775808)≤e.least∧e.least≤9223372036854775807)∧(-9223372036854775808)≤e.part∧e.part≤9223372036854775807)∧∀(f:Unit),True→∃(g:Unit),iE (x4 i)=iE (tW e)∧True) (∃(e:Unit),iE (x4 i)=[]∧True))))
open Go Cv Go.Proofs
theorem yJj (i:AlI) (h:allocC.cnd i):z7x i:=by
 obtain⟨hl,hq,hle,hto,hpa⟩:i.l.length≤1000∧i64r i.q∧i64r i.p.least∧i64r i.p.top∧i64r i.p.part:=h
 have hql:i.qs.length=i.l.length:=by simp[AlI.qs]
 unfold z7x kO dI
 simp only[y6,yOs]
 refine⟨0,by(first|exact rfl|exact trivial),by(first|exact rfl|exact trivial),fun j=>j≤i.l.length,fun j=>i.l.length-j,yQn _,fun j hj=>zI (fun c=> ?_) (fun c=> ?_)⟩
 ·have hj':j<i.l.length:=by omega
  obtain⟨o,ho⟩:=z8 (l:=i.l) (i:=j) hj'
  have hqo:i.qs[j]? =some o.qty:=by rw[AlI.qs,yQg,ho];rfl
  refine⟨⟨by omega,by omega⟩,o.id,o.side,o.price,o.qty,o.top,yFu ho,by rw[yPl];omega,j+1,wjn (by omega),?_,hj',by dsimp only;omega,by(repeat'(first|exact trivial|exact rfl|apply And.intro))⟩
  rw[yQb,hqo];simp[iE]
 have hje:j=i.l.length:=by omega
 subst hje
 rw[yPf (l:=i.qs) (by omega)]
 refine Cv.cnd.mk (fun a=> ?_) (fun a=>Cv.cnd.mk (fun b=> ?_) (fun b=>Cv.cnd.mk (fun d=> ?_) (fun d=> ?_)))
 ·have a:i.p.rule=1:=by simpa using a
  exact⟨⟨i.qs,i.q⟩,rfl,rfl,⟨by dsimp only;omega,hq⟩,fun _ _=>⟨(),by rw[x4,yOu a],trivial⟩⟩
 ·have a:¬i.p.rule=1:=by simpa using a
  have b:i.p.rule=2:=by simpa using b
  exact⟨i.l,rfl,by omega,fun _ _=>⟨⟨i.qs,topI i.l,i.p.top,i.p.least,i.q⟩,rfl,rfl,rfl,rfl,rfl,⟨by dsimp only;omega,hq,hle,hto⟩,fun _ _=>⟨(),by rw[x4,yOr a,yOu b],trivial⟩⟩⟩
 ·have a:¬i.p.rule=1:=by simpa using a
  have b:¬i.p.rule=2:=by simpa using b
  have d:i.p.rule=3:=by simpa using d
  exact⟨⟨i.qs,i.p.part,i.p.least,i.q⟩,rfl,rfl,rfl,rfl,⟨by dsimp only;omega,hq,hle,hpa⟩,fun _ _=>⟨(),by rw[x4,yOr a,yOr b,yOu d],trivial⟩⟩
 ·have a:¬i.p.rule=1:=by simpa using a
  have b:¬i.p.rule=2:=by simpa using b
  have d:¬i.p.rule=3:=by simpa using d
  exact⟨(),by rw[x4,yOr a,yOr b,yOr d];rfl,trivial⟩
theorem z4k:allocC.ok Tryz.prog 219:=okw mixed (gokc zXu (gokc zZp (gokc yJm (gokc yHb gok0)))) 0 (fun _=>[]) (fun i=>yJf i) [] Tryz.func219 yJj
open Go Cv Go.Proofs
def jV (l:List Nat) (t:Int):Int:=match l with
 |[]=>t
 |k::_=>k
def x7:List Nat→Int→Int
 |[],p=>p
 |k::l,_=>x7 l k
structure zNh (s:Slot) (n k:Nat) (p t:Int):Prop where
 used:s.used=true
 no:s.n=k
 queue:s.queue=n
 ahead:s.ahead=p
 back:s.back=t
 q1:0≤s.qty
 q2:s.qty≤1000000
def seg (sl:List Slot) (n:Nat):Int→List Nat→Int→Prop
 |_,[],_=>True
 |p,k::l,t=>(∃s,sl[k]? =some s∧zNh s n k p (jV l t))∧seg sl n k l t
theorem zCe (l1 l2:List Nat) (t:Int):jV (l1++l2) t=jV l1 (jV l2 t):=by cases l1<;>rfl
theorem fN:∀(l1 l2:List Nat) (p:Int),x7 (l1++l2) p=x7 l2 (x7 l1 p)
 |[],l2,p=>rfl
 |k::l1,l2,p=>fN l1 l2 k
theorem rW {sl:List Slot} {n:Nat}:∀{l1 l2:List Nat} {p t:Int},seg sl n p (l1++l2) t↔seg sl n p l1 (jV l2 t)∧seg sl n (x7 l1 p) l2 t
 |[],l2,p,t=>by simp[seg,x7]
 |k::l1,l2,p,t=>by
  rw[yQe,seg,seg,zCe,rW,x7,and_assoc]
theorem zWx {sl:List Slot} {n k:Nat}:∀{l:List Nat} {p t:Int},seg sl n p l t→k∈l→∃s p' t',sl[k]? =some s∧zNh s n k p' t'
 |j::l,p,t,h,hk=>by
  rcases yPk.1 hk with rfl|hk
  ·obtain⟨⟨s,h1,h2⟩,_⟩:=h
   exact⟨s,_,_,h1,h2⟩
  ·exact zWx h.2 hk
theorem jL {sl sl':List Slot} {n:Nat}:∀{l:List Nat} {p t:Int},(∀k∈l,sl'[k]? =sl[k]?)→seg sl n p l t→seg sl' n p l t
 |[],p,t,_,h=>h
 |k::l,p,t,e,⟨⟨s,h1,h2⟩,h3⟩=>⟨⟨s,by rw[e k yOx];exact h1,h2⟩,jL (fun j hj=>e j (yOz _ hj)) h3⟩
theorem gA {α:Type} {l:List α} {f:α→α} {i j:Nat} (h:i≠j):(l.modify i f)[j]? =l[j]? :=by rw[List.getElem?_modify];cases l[j]? <;>simp[h]
theorem nI {α:Type} {l:List α} {f:α→α} {i:Nat} {x:α} (h:l[i]? =some x):(l.modify i f)[i]? =some (f x):=by rw[List.getElem?_modify,h];simp
theorem jY {α:Type} {l:List α} {x:α} {i j:Nat} (h:i≠j):(l.set i x)[j]? =l[j]? :=by rw[yTv,yOr h]
theorem uJ {α:Type} {l:List α} {x:α} {i:Nat} (h:i<l.length):(l.set i x)[i]? =some x:=by rw[yTv,yOu rfl,yOu h]
theorem g8 {α:Type} {Q:List α} {n m:Nat} {x y:α} (h:(Q.set n x)[m]? =some y):(m=n∧y=x)∨(m≠n∧Q[m]? =some y):=by
 by_cases e:n=m
 ·subst e
  have hn:n<Q.length:=by
   have:=(yOt.1 h).1
   simpa using this
  rw[uJ hn]at h
  cases h
  exact .inl ⟨rfl,rfl⟩
 ·rw[jY e]at h
  exact .inr ⟨fun c=>e c.symm,h⟩
theorem zRc {sl:List Slot} {n k:Nat} {l:List Nat} {p t:Int} (t':Int) (hk:k∉l) (h:seg sl n p (l++[k]) t):seg (sl.modify k fun s=>{s with back:=t'}) n p (l++[k]) t':=by
 rw[rW]at h ⊢
 obtain⟨h1,⟨s,h2,h3⟩,_⟩:=h
 refine⟨jL (fun j hj=>gA (fun e=>hk (e▸hj))) h1,⟨_,nI h2,?_⟩,trivial⟩
 exact⟨h3.used,h3.no,h3.queue,h3.ahead,rfl,h3.q1,h3.q2⟩
theorem z0g {sl:List Slot} {n k:Nat} {l:List Nat} {p t:Int} (p':Int) (hk:k∉l) (h:seg sl n p (k::l) t):seg (sl.modify k fun s=>{s with ahead:=p'}) n p' (k::l) t:=by
 obtain⟨⟨s,h1,h2⟩,h3⟩:=h
 refine⟨⟨_,nI h1,?_⟩,jL (fun j hj=>gA (fun e=>hk (e▸hj))) h3⟩
 exact⟨h2.used,h2.no,h2.queue,rfl,h2.back,h2.q1,h2.q2⟩
theorem kU (l:List Nat):l=[]∨∃(x:List Nat) (j:Nat),l=x++[j]∧∀p:Int,x7 l p=(j:Int):=by
 rcases List.eq_nil_or_concat l with rfl|⟨x,j,rfl⟩
 ·exact .inl rfl
 ·exact .inr ⟨x,j,by simp,fun p=>by rw[List.concat_eq_append,fN];rfl⟩
theorem bN (l:List Nat):x7 l (-1)= -1↔l=[]:=by
 rcases kU l with rfl|⟨x,j,rfl,e⟩
 ·simp[x7]
 ·rw[e];simp
theorem zJv (l:List Nat):jV l (-1)= -1↔l=[]:=by
 cases l with
 |nil=>simp[jV]
 |cons k l=>simp only[jV];constructor
            ·intro h;omega
            ·intro h;cases h
theorem rI {α β:Type} {g:α→β} {f:α→α} (h:∀x,g (f x)=g x):∀(l:List α) (i:Nat),(l.modify i f).map g=l.map g
 |[],i=>by simp
 |a::l,0=>by simp[h]
 |a::l,i+1=>by rw[yTr,yPd,yPd,rI h l i]
theorem zGx:∀(m:Nat) {l:List Nat},l.Nodup→(∀k∈l,k<m)→l.length≤m
 |0,[],_,_=>yPy 0
 |0,k::l,_,h=>absurd (h k yOx) (by omega)
 |m+1,l,hn,h=>by
  have:=zGx m (hn.erase m) fun k hk=>by
   have:=(hn.mem_erase_iff).1 hk
   have:=h k this.2
   omega
  by_cases hm:m∈l
  ·rw[List.length_erase_of_mem hm]at this;omega
  ·rw[List.erase_of_not_mem hm]at this;omega
theorem zXc {f g:Nat→Int} {k:Nat}:∀{l:List Nat},l.Nodup→k∈l→(∀j∈l,j≠k→g j=f j)→(l.map g).sum=(l.map f).sum+(g k-f k)
 |j::l,hn,hk,h=>by
  have hn:=yRd.1 hn
  rw[yPd,yPd,yQc,yQc]
  rcases yPk.1 hk with rfl|hk
  ·have:l.map g=l.map f:=yPx fun i hi=>h i (yOz _ hi) (fun e=>hn.1 (e▸hi))
   rw[this];omega
  ·have e:=h j yOx (fun e=>hn.1 (e▸hk))
   rw[zXc hn.2 hk (fun i hi=>h i (yOz _ hi)),e]
   omega
theorem z6m {f:Nat→Int} {m:Int}:∀{l:List Nat},(∀j∈l,0≤f j∧f j≤m)→0≤(l.map f).sum∧(l.map f).sum≤m*l.length
 |[],_=>by simp
 |j::l,h=>by
  have:=h j yOx
  have:=z6m (l:=l) fun i hi=>h i (yOz _ hi)
  rw[yPd,yQc,yOy,Int.natCast_add,Int.mul_add]
  simp only[Int.natCast_one,Int.mul_one]
  omega
def Arena.qsum (a:Arena) (l:List Nat):Int:=(l.map fun k=>(a.slotAt k).qty).sum
structure Arena.Wf0 (a:Arena) (Q:List (List Nat)):Prop where
 len:a.slots.length=250
 ql:a.queues.length=Q.length
 q:∀(n:Nat) (l:List Nat),Q[n]? =some l→a.queues[n]? =some ⟨jV l (-1),x7 l (-1),a.qsum l,l.length⟩
 sg:∀(n:Nat) (l:List Nat),Q[n]? =some l→seg a.slots n (-1) l (-1)
 nd:∀(n:Nat) (l:List Nat),Q[n]? =some l→l.Nodup
 us:∀(k:Nat) (s:Slot),a.slots[k]? =some s→s.used=true→∃(n:Nat) (l:List Nat),Q[n]? =some l∧k∈l
 free:a.free=((a.slots.map (·.used)).countP (!·):Nat)
structure Arena.Wf (a:Arena) (Q:List (List Nat)):Prop extends a.Wf0 Q where
 pos:∀(n:Nat) (l:List Nat),Q[n]? =some l→∀k∈l,1≤(a.slotAt k).qty
theorem Arena.Wf0.mem {a:Arena} {Q:List (List Nat)} (h:a.Wf0 Q) {n k:Nat} {l:List Nat} (hl:Q[n]? =some l) (hk:k∈l):k<250∧(∃p t,zNh (a.slotAt k) n k p t)∧a.slots[k]? =some (a.slotAt k):=by
 obtain⟨s,p,t,h1,h2⟩:=zWx (h.sg n l hl) hk
 have e:a.slotAt k=s:=zQ h1
 have hlt:=(yOt.1 h1).1
 rw[h.len]at hlt
 exact⟨hlt,⟨p,t,by rw[e];exact h2⟩,by rw[e];exact h1⟩
theorem Arena.Wf0.one {a:Arena} {Q:List (List Nat)} (h:a.Wf0 Q) {n m k:Nat} {l l':List Nat} (hl:Q[n]? =some l) (hl':Q[m]? =some l') (hk:k∈l) (hk':k∈l'):n=m:=by
 obtain⟨_,⟨_,_,h1⟩,_⟩:=h.mem hl hk
 obtain⟨_,⟨_,_,h2⟩,_⟩:=h.mem hl' hk'
 have:=h1.queue
 have:=h2.queue
 omega
theorem Arena.Wf0.short {a:Arena} {Q:List (List Nat)} (h:a.Wf0 Q) {n:Nat} {l:List Nat} (hl:Q[n]? =some l):l.length≤250:=zGx 250 (h.nd n l hl) fun k hk=>(h.mem hl hk).1
theorem dA {a a':Arena} {l:List Nat} (h:∀k∈l,(a'.slotAt k).qty=(a.slotAt k).qty):a'.qsum l=a.qsum l:=by rw[Arena.qsum,Arena.qsum,yPx h]
theorem Arena.Wf0.sum {a:Arena} {Q:List (List Nat)} (h:a.Wf0 Q) {n:Nat} {l:List Nat} (hl:Q[n]? =some l):0≤a.qsum l∧a.qsum l≤250000000:=by
 have:=z6m (f:=fun k=>(a.slotAt k).qty) (m:=1000000) (l:=l) fun j hj=>by
  obtain⟨_,⟨_,_,h1⟩,_⟩:=h.mem hl hj
  exact⟨h1.q1,h1.q2⟩
 have:=h.short hl
 rw[Arena.qsum]
 omega
theorem zJz {sl:List Slot} {n:Nat}:∀{l:List Nat} {p:Int},seg sl n p l (-1)→zRw sl (jV l (-1)) l
 |[],p,_=>rfl
 |k::l,p,⟨⟨s,h1,h2⟩,h3⟩=>by
  refine⟨rfl,(yOt.1 h1).1,?_⟩
  rw[zQ h1,h2.back]
  exact zJz h3
theorem Arena.Wf0.ok {a:Arena} {Q:List (List Nat)} (h:a.Wf0 Q):a.okAt:=by
 refine⟨by rw[h.len];decide,fun k s hk hu=> ?_⟩
 obtain⟨n,l,hl,hkl⟩:=h.us k s hk hu
 have hQ:=(yOt.1 hl).1
 have hql:=h.ql
 obtain⟨l1,l2,rfl⟩:=List.append_of_mem hkl
 have hsg:=h.sg n _ hl
 have hnd:=h.nd n _ hl
 rw[rW]at hsg
 obtain⟨_,⟨s',h1,h2⟩,_⟩:=hsg
 rw[hk]at h1;cases h1
 have hq:=h2.queue
 have hd:=yQx.1 hnd
 have hd2:=yRd.1 hd.2.1
 refine⟨⟨by omega,by omega⟩,h2.q2,?_,?_⟩
 ·rw[h2.ahead]
  rcases kU l1 with rfl|⟨x,j,rfl,e⟩
  ·exact .inl rfl
  ·have hj:j∈x++[j]:=by simp
   have hjl:=(h.mem hl (yQd _ hj)).1
   rw[e,h.len]
   refine .inr ⟨by omega,by omega,fun e2=> ?_⟩
   have:j=k:=by omega
   exact hd.2.2 j hj k yOx this
 ·rw[h2.back]
  cases l2 with
  |nil=>exact .inl rfl
  |cons j x=>
   have hjl:=(h.mem hl (yQf _ (yOz _ yOx))).1
   rw[jV,h.len]
   refine .inr ⟨by omega,by omega,fun e2=> ?_⟩
   have:j=k:=by omega
   exact hd2.1 (this▸yOx)
theorem Arena.Wf0.open {a:Arena} {Q:List (List Nat)} (h:a.Wf0 Q):a.openQ.Wf0 (Q++[[]]):=by
 have g:∀{n:Nat} {l:List Nat},(Q++[[]])[n]? =some l→Q[n]? =some l∨(n=Q.length∧l=[]):=by
  intro n l hl
  rw[List.getElem?_append]at hl
  split at hl
  ·exact .inl hl
  ·rename_i hn
   have:=(yOt.1 hl).1
   simp only[yQz]at this
   have e:n-Q.length=0:=by omega
   rw[e]at hl
   cases hl
   exact .inr ⟨by omega,rfl⟩
 refine⟨h.len,by simp[Arena.openQ,h.ql],fun n l hl=> ?_,fun n l hl=> ?_,fun n l hl=> ?_,fun k s hk hu=> ?_,h.free⟩
 ·rcases g hl with hl|⟨rfl,rfl⟩
  ·show(a.queues++[dB])[n]? =_
   rw[yRs (by have:=(yOt.1 hl).1;have:=h.ql;omega)]
   exact h.q n l hl
  ·show(a.queues++[dB])[_]? =_
   rw[← h.ql,yQv (yPy _),yTz]
   rfl
 ·rcases g hl with hl|⟨rfl,rfl⟩
  ·exact h.sg n l hl
  ·trivial
 ·rcases g hl with hl|⟨rfl,rfl⟩
  ·exact h.nd n l hl
  ·exact List.nodup_nil
 ·obtain⟨n,l,hl,hkl⟩:=h.us k s hk hu
  exact⟨n,l,by rw[yRs (yOt.1 hl).1];exact hl,hkl⟩
theorem Arena.Wf.open {a:Arena} {Q:List (List Nat)} (h:a.Wf Q):a.openQ.Wf (Q++[[]]):=by
 refine⟨h.toWf0.open,fun n l hl k hk=> ?_⟩
 rw[List.getElem?_append]at hl
 split at hl
 ·exact h.pos n l hl k hk
 ·have:=(yOt.1 hl).1
  simp only[yQz]at this
  have e:n-Q.length=0:=by omega
  rw[e]at hl
  cases hl
  cases hk
theorem zHy {sl sl':List Slot} {n:Nat}:∀{l:List Nat} {p t:Int},(∀k∈l,∀s,sl[k]? =some s→∃s',sl'[k]? =some s'∧s'.used=s.used∧s'.n=s.n∧s'.queue=s.queue∧s'.ahead=s.ahead∧s'.back=s.back∧0≤s'.qty∧s'.qty≤1000000)→seg sl n p l t→seg sl' n p l t
 |[],p,t,_,h=>h
 |k::l,p,t,e,⟨⟨s,h1,h2⟩,h3⟩=>by
  obtain⟨s',q0,q1,q2,q3,q4,q5,q6,q7⟩:=e k yOx s h1
  exact⟨⟨s',q0,⟨q1.trans h2.used,q2.trans h2.no,q3.trans h2.queue,q4.trans h2.ahead,q5.trans h2.back,q6,q7⟩⟩,zHy (fun j hj=>e j (yOz _ hj)) h3⟩
theorem zMn (a:Arena) (n:Int) (t:Bool) (j:Nat):(a.topF n t).slotAt j=if a.usedAt n=true∧j=n.toNat then{a.slotAt j with top:=t}else a.slotAt j:=by
 rw[Arena.topF]
 by_cases hu:a.usedAt n=true
 ·rw[yOu hu]
  by_cases e:j=n.toNat
  ·subst e
   rw[yOu ⟨hu,rfl⟩]
   have hlt:n.toNat<a.slots.length:=by
    simp only[Arena.usedAt,yPh,yRf]at hu
    omega
   show(a.slots.modify n.toNat _).getD n.toNat slot0=_
   obtain⟨s,hs⟩:=z8 hlt
   rw[zQ (nI hs),y4 hs]
  ·rw[yOr (fun h=>e h.2)]
   show(a.slots.modify n.toNat _).getD j slot0=a.slots.getD j slot0
   rw[yPa,gA (fun h=>e h.symm),yPa]
 ·rw[yOr hu,yOr (fun h=>hu h.1)]
theorem Arena.Wf.top {a:Arena} {Q:List (List Nat)} (h:a.Wf Q) (n:Int) (t:Bool):(a.topF n t).Wf Q:=by
 have hq:∀j,((a.topF n t).slotAt j).qty=(a.slotAt j).qty:=by
  intro j
  rw[zMn]
  split<;>rfl
 by_cases hu:a.usedAt n=true
 ·have e:a.topF n t={a with slots:=a.slots.modify n.toNat fun s=>{s with top:=t}}:=by rw[Arena.topF,yOu hu]
  have hm:∀(k:Nat) (s:Slot),a.slots[k]? =some s→∃s',(a.topF n t).slots[k]? =some s'∧s'.used=s.used∧s'.n=s.n∧s'.queue=s.queue∧s'.ahead=s.ahead∧s'.back=s.back∧s'.qty=s.qty:=by
   intro k s hk
   rw[e]
   by_cases ek:n.toNat=k
   ·subst ek
    exact⟨_,nI hk,rfl,rfl,rfl,rfl,rfl,rfl⟩
   ·exact⟨s,by rw[gA ek];exact hk,rfl,rfl,rfl,rfl,rfl,rfl⟩
  have hl:(a.topF n t).slots.length=250:=by rw[e];simpa using h.len
  have hmu:(a.topF n t).slots.map (·.used)=a.slots.map (·.used):=by rw[e];exact rI (g:=fun s:Slot=>s.used) (f:=fun s:Slot=>{s with top:=t}) (fun _=>rfl) _ _
  refine⟨⟨hl,by rw[e];exact h.ql,fun m l hm'=> ?_,fun m l hm'=> ?_,h.nd,fun k s hk hs=> ?_,by rw[hmu];rw[e];exact h.free⟩,fun m l hm' k hk=>by rw[hq];exact h.pos m l hm' k hk⟩
  ·rw[dA fun k _=>hq k]
   rw[e];exact h.q m l hm'
  ·refine zHy (fun k hk s hs=> ?_) (h.sg m l hm')
   obtain⟨s',q0,q1,q2,q3,q4,q5,q6⟩:=hm k s hs
   obtain⟨_,⟨_,_,h2⟩,h3⟩:=h.mem hm' hk
   rw[hs]at h3;cases h3
   exact⟨s',q0,q1,q2,q3,q4,q5,by rw[q6];exact h2.q1,by rw[q6];exact h2.q2⟩
  ·have hlt:=(yOt.1 hk).1
   rw[hl,← h.len]at hlt
   obtain⟨s0,h0⟩:=z8 hlt
   obtain⟨s',q0,q1,_⟩:=hm k s0 h0
   rw[hk]at q0;cases q0
   exact h.us k s0 h0 (by rw[← q1];exact hs)
 ·have e:a.topF n t=a:=by rw[Arena.topF,yOr hu]
  rw[e];exact h
theorem zFg {sl:List Slot} {k:Nat} {s x:Slot} (hk:sl[k]? =some s):((sl.set k x).map (·.used)).countP (!·)+(if s.used=true then 0 else 1)=(sl.map (·.used)).countP (!·)+(if x.used=true then 0 else 1):=by
 have hlt:=(yOt.1 hk).1
 have e:(sl.map (·.used))[k]'(by simpa using hlt)=s.used:=by
  rw[List.getElem_map,(yOt.1 hk).2]
 rw[List.map_set,List.countP_set (by simpa using hlt),e]
 have hp:s.used=false→1≤(sl.map (·.used)).countP (!·):=by
  intro h
  apply List.countP_pos_iff.2
  exact⟨s.used,yPu (yPe hk),by rw[h];rfl⟩
 generalize (sl.map (·.used)).countP (!·)=c at hp ⊢
 cases h1:s.used<;>cases h2:x.used
 all_goals
  simp only[h1,yTy,Bool.not_true,yPi,↓reduceIte,if_true,if_false]at hp ⊢
  try have hp:=hp trivial
  omega
theorem zVr {sl:List Slot}:(sl.map (·.used)).countP (!·)≤sl.length:=by
 have:=List.countP_le_length (p:=fun b:Bool=> !b) (l:=sl.map (·.used))
 simpa using this
theorem Arena.Wf0.unused {a:Arena} {Q:List (List Nat)} (h:a.Wf0 Q) (hf:a.free≠0):∃k:Nat,qB a.slots=k∧k<250∧a.slots[k]? =some (a.slotAt k)∧(a.slotAt k).used=false∧∀(n:Nat) (l:List Nat),Q[n]? =some l→k∉l:=by
 have hx:∃s∈a.slots,s.used=false:=by
  have hp:0<(a.slots.map (·.used)).countP (!·):=by have:=h.free;omega
  obtain⟨b,hb,hb2⟩:=List.countP_pos_iff.1 hp
  obtain⟨s,hs,rfl⟩:=yQk.1 hb
  exact⟨s,hs,by simpa using hb2⟩
 obtain⟨s,hs,hu⟩:=hx
 cases hi:a.slots.findIdx? fun s=> !s.used with
 |none=>
  rw[ySx]at hi
  have:=hi s hs
  rw[hu]at this;cases this
 |some k=>
  have hi':=hi
  rw[yRu]at hi
  obtain⟨hk,hku,_⟩:=hi
  have hk1:a.slots[k]? =some a.slots[k]:=yPz hk
  have e:=y4 hk1
  rw[← e]at hku
  have hku:(a.slotAt k).used=false:=by simpa using hku
  refine⟨k,by rw[qB,hi'];rfl,by rw[← h.len];exact hk,by rw[e];exact hk1,hku,fun n l hl hkl=> ?_⟩
  obtain⟨_,⟨_,_,h2⟩,_⟩:=h.mem hl hkl
  have:=h2.used
  rw[hku]at this
  cases this
theorem Arena.Wf.put {a:Arena} {Q:List (List Nat)} (h:a.Wf Q) {n:Nat} {l:List Nat} (hl:Q[n]? =some l) (hf:a.free≠0) {id qty:Int} (top:Bool) (hq:1≤qty∧qty≤1000000):
 ∃k:Nat,qB a.slots=k∧k<250∧(a.slotAt k).used=false∧(∀(m:Nat) (l:List Nat),Q[m]? =some l→k∉l)∧(a.put n id qty top).Wf (Q.set n (l++[k]))∧
  (∀j,((a.put n id qty top).slotAt j).ent=if j=k then⟨k,id,qty,top⟩else(a.slotAt j).ent)∧(a.put n id qty top).free=a.free-1:=by
 obtain⟨k,hk,hk2,hk1,hku,hkn⟩:=h.toWf0.unused hf
 have hkl:=hkn n l hl
 have hnQ:=(yOt.1 hl).1
 have hqn:=h.q n l hl
 have hnq:a.queues.getD n dB=⟨jV l (-1),x7 l (-1),a.qsum l,l.length⟩:=zQ hqn
 have hsum:=h.toWf0.sum hl
 have hsh:=h.toWf0.short hl
 have hlen:=h.len
 have hcl:=zVr (sl:=a.slots)
 have hfree:=h.free
 obtain⟨x,hx⟩:∃x:Slot,x=⟨true,k,id,qty,top,n,x7 l (-1),-1⟩:=⟨_,rfl⟩
 have hS:(a.put n id qty top).slots=if x7 l (-1)= -1 then a.slots.set k x else(a.slots.set k x).modify (x7 l (-1)).toNat fun s=>{s with back:=k}:=by
  simp only[Arena.put,yPj,hnq,hk,hx]
 have hQs:(a.put n id qty top).queues=a.queues.set n ⟨jV (l++[k]) (-1),k,a.qsum l+qty,(l.length:Int)+1⟩:=by
  simp only[Arena.put,yPj,hnq,hk]
  rw[w64 (by omega),w64 (by omega)]
  congr 2
  by_cases e:l=[]
  ·subst e;rfl
  ·rw[yOr (fun c=>e ((bN l).1 c)),zCe]
   cases l with
   |nil=>exact absurd rfl e
   |cons y ys=>rfl
 have hF:(a.put n id qty top).free=a.free-1:=by
  simp only[Arena.put]
  rw[w64 (by omega)]
 have hset:(a.slots.set k x)[k]? =some x:=uJ (by omega)
 have hlo:x7 l (-1)= -1∨∃(y:List Nat) (j:Nat),l=y++[j]∧x7 l (-1)=(j:Int):=by
  rcases kU l with e|⟨y,j,e,e2⟩
  ·exact .inl ((bN l).2 e)
  ·exact .inr ⟨y,j,e,e2 _⟩
 have hoth:∀j,j≠k→(x7 l (-1)≠(j:Int))→(a.put n id qty top).slots[j]? =a.slots[j]? :=by
  intro j hj hj2
  rw[hS]
  split
  ·exact jY (fun e=>hj e.symm)
  ·rcases hlo with e|⟨y,i,_,e⟩
   ·contradiction
   ·rw[gA (by omega),jY (fun e=>hj e.symm)]
 have hself:(a.put n id qty top).slots[k]? =some x:=by
  rw[hS]
  split
  ·exact hset
  ·rcases hlo with e|⟨y,i,e1,e⟩
   ·contradiction
   ·have:i≠k:=by rintro rfl;exact hkl (by rw[e1];simp)
    rw[gA (by omega)];exact hset
 have hlike:∀j,j≠k→((a.put n id qty top).slotAt j).ent=(a.slotAt j).ent∧((a.put n id qty top).slotAt j).used=(a.slotAt j).used∧((a.put n id qty top).slotAt j).qty=(a.slotAt j).qty:=by
  intro j hj
  by_cases c:x7 l (-1)=(j:Int)
  ·have e:(a.put n id qty top).slots=(a.slots.set k x).modify j fun s=>{s with back:=k}:=by
    rw[hS,yOr (by omega),c];rfl
   by_cases hjl:j<a.slots.length
   ·obtain⟨s,hs⟩:=z8 hjl
    have h1:(a.put n id qty top).slots[j]? =some {s with back:=k}:=by rw[e];exact nI (by rw[jY (fun e=>hj e.symm)];exact hs)
    rw[y4 h1,y4 hs];exact⟨rfl,rfl,rfl⟩
   ·have h1:(a.put n id qty top).slots[j]? =none:=yPt (by rw[e];simpa using hjl)
    have h2:a.slots[j]? =none:=yPt (by omega)
    rw[Arena.slotAt,Arena.slotAt,yPa,yPa,h1,h2]
    exact⟨rfl,rfl,rfl⟩
  ·have:=hoth j hj c
   rw[Arena.slotAt,Arena.slotAt,yPa,yPa,this]
   exact⟨rfl,rfl,rfl⟩
 have hselfA:(a.put n id qty top).slotAt k=x:=y4 hself
 have hent:∀j,((a.put n id qty top).slotAt j).ent=if j=k then⟨k,id,qty,top⟩else(a.slotAt j).ent:=by
  intro j
  split
  ·rename_i e;rw[e,hselfA,hx];rfl
  ·rename_i e;exact(hlike j e).1
 have gQ:∀{m:Nat} {l':List Nat},(Q.set n (l++[k]))[m]? =some l'→(m=n∧l'=l++[k])∨(m≠n∧Q[m]? =some l'):=by
  intro m l' hm
  exact g8 hm
 have hsgn:seg (a.put n id qty top).slots n (-1) (l++[k]) (-1):=by
  rw[rW]
  refine⟨?_,⟨x,hself,?_⟩,trivial⟩
  ·rcases kU l with e|⟨y,j,e,e2⟩
   ·subst e;trivial
   ·have h0:=h.sg n l hl
    have hnd:=h.nd n l hl
    rw[hS,yOr (by rw[e2];omega),e2,yPj]
    rw[e]at h0 hnd hkl ⊢
    have hd:=yQx.1 hnd
    refine zRc (k:Int) (fun hj=>hd.2.2 j hj j yOx rfl) (t:= -1) ?_
    exact jL (fun i hi=>jY (fun e=>hkl (e▸hi))) h0
  ·rw[hx]
   exact⟨rfl,rfl,rfl,rfl,rfl,by dsimp only;omega,hq.2⟩
 refine⟨k,hk,hk2,hku,hkn,⟨⟨?_,?_,?_,?_,?_,?_,?_⟩,?_⟩,hent,hF⟩
 ·rw[hS];split<;>simp[hlen]
 ·rw[hQs];simp[h.ql]
 ·intro m l' hm
  rcases gQ hm with⟨rfl,rfl⟩|⟨e,hm⟩
  ·rw[hQs,uJ (by rw[h.ql];exact hnQ),fN]
   have:(a.put m id qty top).qsum (l++[k])=a.qsum l+qty:=by
    rw[Arena.qsum,yPc,yUm]
    have e1:l.map (fun k=>((a.put m id qty top).slotAt k).qty)=l.map fun k=>(a.slotAt k).qty:=yPx fun j hj=>(hlike j (fun e=>hkl (e▸hj))).2.2
    rw[e1]
    simp only[yPd,ySc,yQc,List.sum_nil,hselfA]
    rw[hx,Arena.qsum];dsimp only;omega
   rw[this]
   simp[x7]
  ·rw[hQs,jY (fun c=>e c.symm),h.q m l' hm,dA]
   intro j hj
   exact(hlike j (fun e=>hkn m l' hm (e▸hj))).2.2.symm
 ·intro m l' hm
  rcases gQ hm with⟨rfl,rfl⟩|⟨e,hm⟩
  ·exact hsgn
  ·refine jL (fun j hj=>hoth j (fun e=>hkn m l' hm (e▸hj)) fun c=> ?_) (h.sg m l' hm)
   rcases hlo with e2|⟨y,i,e1,e2⟩
   ·omega
   ·have:i=j:=by omega
    exact e (h.toWf0.one hm hl hj (by rw[e1];simp[this]))
 ·intro m l' hm
  rcases gQ hm with⟨rfl,rfl⟩|⟨e,hm⟩
  ·refine yQx.2 ⟨h.nd m l hl,by simp,?_⟩
   rintro i hi j hj rfl
   rw[yQr.1 hj]at hi
   exact hkl hi
  ·exact h.nd m l' hm
 ·intro j s hj hs
  by_cases e:j=k
  ·exact⟨n,l++[k],uJ hnQ,by rw[e];simp⟩
  ·have hu:(a.slotAt j).used=true:=by rw[← (hlike j e).2.1,y4 hj];exact hs
   have hjl:j<a.slots.length:=by
    have:=(yOt.1 hj).1
    rw[hS]at this
    split at this<;>simpa using this
   obtain⟨s',hs'⟩:=z8 hjl
   rw[y4 hs']at hu
   obtain⟨m,l',hm,hjm⟩:=h.us j s' hs' hu
   by_cases em:m=n
   ·subst em
    rw[hl]at hm;cases hm
    exact⟨m,l++[k],uJ hnQ,yQd _ hjm⟩
   ·exact⟨m,l',by rw[jY (fun c=>em c.symm)];exact hm,hjm⟩
 ·have hmu:(a.put n id qty top).slots.map (·.used)=(a.slots.set k x).map (·.used):=by
   rw[hS]
   split
   ·rfl
   ·exact rI (g:=fun s:Slot=>s.used) (f:=fun s:Slot=>{s with back:=k}) (fun _=>rfl) _ _
  have:=zFg (x:=x) hk1
  rw[hku,yOr (by decide),show x.used=true by rw[hx],yOu rfl]at this
  rw[hmu,hF,hfree]
  omega
 ·intro m l' hm j hj
  rcases gQ hm with⟨rfl,rfl⟩|⟨e,hm⟩
  ·rcases yPv.1 hj with hj|hj
   ·rw[(hlike j (fun e=>hkl (e▸hj))).2.2];exact h.pos m l hl j hj
   ·rw[yQr.1 hj,hselfA,hx];exact hq.1
  ·rw[(hlike j (fun e=>hkn m l' hm (e▸hj))).2.2];exact h.pos m l' hm j hj
open Go Cv Go.Proofs
theorem l9 (a:Arena) (k:Nat) (q:Int) (j:Nat) (hk:k<a.slots.length):(a.less k q).slotAt j=if j=k then{a.slotAt j with qty:=(a.slotAt j).qty-q}else a.slotAt j:=by
 split
 ·rename_i e
  subst e
  obtain⟨s,hs⟩:=z8 hk
  rw[y4 hs,y4 (a:=a.less j q) (nI hs)]
 ·rename_i e
  show(a.slots.modify k _).getD j slot0=a.slots.getD j slot0
  rw[yPa,gA (fun c=>e c.symm),yPa]
theorem Arena.Wf0.less {a:Arena} {Q:List (List Nat)} (h:a.Wf0 Q) {n k:Nat} {l:List Nat} (hl:Q[n]? =some l) (hk:k∈l) {q:Int} (hq:0≤q∧q≤(a.slotAt k).qty):(a.less k q).Wf0 Q:=by
 obtain⟨hk2,⟨p,t,hs⟩,hk1⟩:=h.mem hl hk
 have hkl:k<a.slots.length:=by rw[h.len];exact hk2
 have hqt:(a.slotAt k).queue.toNat=n:=by rw[hs.queue];exact yPj n
 have hm:∀(j:Nat) (s:Slot),a.slots[j]? =some s→∃s',(a.less k q).slots[j]? =some s'∧s'.used=s.used∧s'.n=s.n∧s'.queue=s.queue∧s'.ahead=s.ahead∧s'.back=s.back:=by
  intro j s hj
  by_cases e:k=j
  ·subst e
   exact⟨_,nI hj,rfl,rfl,rfl,rfl,rfl⟩
  ·exact⟨s,by rw[show(a.less k q).slots=a.slots.modify k _ from rfl,gA e];exact hj,rfl,rfl,rfl,rfl,rfl⟩
 have hsl:(a.less k q).slots.length=250:=by simpa[Arena.less]using h.len
 have hqs:(a.less k q).queues=a.queues.modify n fun x=>{x with total:=IntKind.i64.wrap (x.total-q)}:=by rw[Arena.less,hqt]
 have hmu:(a.less k q).slots.map (·.used)=a.slots.map (·.used):=rI (g:=fun s:Slot=>s.used) (f:=fun s:Slot=>{s with qty:=s.qty-q}) (fun _=>rfl) _ _
 refine⟨hsl,by rw[hqs];simpa using h.ql,fun m l' hm'=> ?_,fun m l' hm'=> ?_,h.nd,fun j s hj hu=> ?_,by rw[hmu];exact h.free⟩
 ·by_cases e:n=m
  ·subst e
   rw[hl]at hm';cases hm'
   rw[hqs,nI (h.q n l hl)]
   have hsum:=h.sum hl
   have e2:(a.less k q).qsum l=a.qsum l-q:=by
    rw[Arena.qsum,Arena.qsum,zXc (k:=k) (f:=fun k=>(a.slotAt k).qty) (h.nd n l hl) hk]
    ·rw[l9 a k q k hkl,yOu rfl];dsimp only;omega
    ·intro j _ hj
     rw[l9 a k q j hkl,yOr hj]
   have h1:=hs.q2
   rw[e2]
   dsimp only
   rw[w64 (by omega)]
  ·rw[hqs,gA e,h.q m l' hm',dA]
   intro j hj
   have:j≠k:=fun c=>e (h.one hl hm' hk (c▸hj))
   rw[l9 a k q j hkl,yOr this]
 ·refine zHy (fun j hj s hs'=> ?_) (h.sg m l' hm')
  obtain⟨s',q0,q1,q2,q3,q4,q5⟩:=hm j s hs'
  refine⟨s',q0,q1,q2,q3,q4,q5,?_⟩
  have e:=y4 q0
  rw[← e,l9 a k q j hkl]
  obtain⟨_,⟨_,_,h2⟩,h3⟩:=h.mem hm' hj
  have:=h2.q1
  have:=h2.q2
  split
  ·rename_i c
   subst c
   dsimp only
   omega
  ·omega
 ·have hlt:=(yOt.1 hj).1
  rw[hsl,← h.len]at hlt
  obtain⟨s0,h0⟩:=z8 hlt
  obtain⟨s',q0,q1,_⟩:=hm j s0 h0
  rw[hj]at q0;cases q0
  exact h.us j s0 h0 (by rw[← q1];exact hu)
theorem Arena.Wf0.drop {a:Arena} {Q:List (List Nat)} (h:a.Wf0 Q) {n k:Nat} {l1 l2:List Nat} (hl:Q[n]? =some (l1++k::l2)) (h0:(a.slotAt k).qty=0):
 (a.dropF k).Wf0 (Q.set n (l1++l2))∧(∀j,j≠k→((a.dropF k).slotAt j).ent=(a.slotAt j).ent∧((a.dropF k).slotAt j).used=(a.slotAt j).used∧((a.dropF k).slotAt j).qty=(a.slotAt j).qty)∧(a.dropF k).slotAt k=slot0∧(a.dropF k).free=a.free+1:=by
 have hkm:k∈l1++k::l2:=by simp
 have hnQ:=(yOt.1 hl).1
 obtain⟨hk2,_,hk1⟩:=h.mem hl hkm
 have hlen:=h.len
 have hkl:k<a.slots.length:=by omega
 have hsg:=h.sg n _ hl
 have hnd:=h.nd n _ hl
 have hd:=yQx.1 hnd
 have hd2:=yRd.1 hd.2.1
 have k1:k∉l1:=fun hk=>hd.2.2 k hk k yOx rfl
 have k2:k∉l2:=hd2.1
 rw[rW]at hsg
 obtain⟨g1,⟨s,hs1,hs⟩,g2⟩:=hsg
 have es:=y4 hs1
 have eqn:(a.queues.getD s.queue.toNat dB)=⟨jV (l1++k::l2) (-1),x7 (l1++k::l2) (-1),a.qsum (l1++k::l2),(l1++k::l2).length⟩:=by
  rw[hs.queue,yPj];exact zQ (h.q n _ hl)
 have hfree:=h.free
 have hcl:=zVr (sl:=a.slots)
 have hsh:=h.short hl
 obtain⟨sl1,hsl1⟩:∃sl1,sl1=if x7 l1 (-1)= -1 then a.slots else a.slots.modify (x7 l1 (-1)).toNat fun x=>{x with back:=jV l2 (-1)}:=⟨_,rfl⟩
 obtain⟨sl2,hsl2⟩:∃sl2,sl2=if jV l2 (-1)= -1 then sl1 else sl1.modify (jV l2 (-1)).toNat fun x=>{x with ahead:=x7 l1 (-1)}:=⟨_,rfl⟩
 have hS:(a.dropF k).slots=sl2.set k slot0:=by
  simp only[Arena.dropF,es,hs.ahead,hs.back]
  rw[hsl2,hsl1]
 have hQs:(a.dropF k).queues=a.queues.set n ⟨jV (l1++l2) (-1),x7 (l1++l2) (-1),a.qsum (l1++l2),(l1++l2).length⟩:=by
  simp only[Arena.dropF,es,eqn,hs.ahead,hs.back]
  rw[hs.queue,yPj]
  have el:(l1++k::l2).length=(l1++l2).length+1:=by simp;omega
  have eq:a.qsum (l1++k::l2)=a.qsum (l1++l2):=by
   rw[Arena.qsum,Arena.qsum,yPc,yUm,yPc,yUm,yPd,yQc,h0]
   omega
  rw[el]at hsh ⊢
  rw[w64 (by omega),eq]
  congr 2
  ·cases l1 with
   |nil=>simp[x7,zCe,jV]
   |cons y ys=>
    rw[yOr (by rw[bN];simp)]
    rfl
  ·rcases kU l2 with e|⟨x,j,e,e2⟩
   ·subst e;simp[jV,fN,x7]
   ·have:l2≠[]:=by rw[e];simp
    rw[yOr (fun c=>this ((zJv l2).1 c)),fN,fN,x7,e2,e2]
  ·simp
 have hF:(a.dropF k).free=a.free+1:=by
  simp only[Arena.dropF]
  rw[w64 (by omega)]
 have hc1:x7 l1 (-1)= -1∨∃(y:List Nat) (j:Nat),l1=y++[j]∧x7 l1 (-1)=(j:Int):=by
  rcases kU l1 with e|⟨y,j,e,e2⟩
  ·exact .inl ((bN l1).2 e)
  ·exact .inr ⟨y,j,e,e2 _⟩
 have hc2:jV l2 (-1)= -1∨∃(y:List Nat) (j:Nat),l2=j::y∧jV l2 (-1)=(j:Int):=by
  cases l2 with
  |nil=>exact .inl rfl
  |cons j y=>exact .inr ⟨y,j,rfl,rfl⟩
 have hoth:∀j,j∉l1→j∉l2→j≠k→(a.dropF k).slots[j]? =a.slots[j]? :=by
  intro j h1 h2 h3
  rw[hS,jY (fun e=>h3 e.symm),hsl2]
  have e1:sl1[j]? =a.slots[j]? :=by
   rw[hsl1]
   split
   ·rfl
   ·rcases hc1 with e|⟨y,i,e,e2⟩
    ·contradiction
    ·rw[gA]
     rw[e2,yPj]
     rintro rfl
     exact h1 (by rw[e];simp)
  split
  ·exact e1
  ·rcases hc2 with e|⟨y,i,e,e2⟩
   ·contradiction
   ·rw[gA,e1]
    rw[e2,yPj]
    rintro rfl
    exact h2 (by rw[e];simp)
 have hlike:∀j,j≠k→((a.dropF k).slotAt j).ent=(a.slotAt j).ent∧((a.dropF k).slotAt j).used=(a.slotAt j).used∧((a.dropF k).slotAt j).qty=(a.slotAt j).qty:=by
  intro j hj
  have m1:∀(sl:List Slot) (i:Nat) (b:Int),((sl.modify i fun x=>{x with back:=b}).getD j slot0).ent=(sl.getD j slot0).ent∧((sl.modify i fun x=>{x with back:=b}).getD j slot0).used=(sl.getD j slot0).used∧((sl.modify i fun x=>{x with back:=b}).getD j slot0).qty=(sl.getD j slot0).qty:=by
   intro sl i b
   rw[yPa,yPa,List.getElem?_modify]
   cases sl[j]? with
   |none=>exact⟨rfl,rfl,rfl⟩
   |some s=>by_cases e:i=j<;>simp[e,Slot.ent]
  have m2:∀(sl:List Slot) (i:Nat) (b:Int),((sl.modify i fun x=>{x with ahead:=b}).getD j slot0).ent=(sl.getD j slot0).ent∧((sl.modify i fun x=>{x with ahead:=b}).getD j slot0).used=(sl.getD j slot0).used∧((sl.modify i fun x=>{x with ahead:=b}).getD j slot0).qty=(sl.getD j slot0).qty:=by
   intro sl i b
   rw[yPa,yPa,List.getElem?_modify]
   cases sl[j]? with
   |none=>exact⟨rfl,rfl,rfl⟩
   |some s=>by_cases e:i=j<;>simp[e,Slot.ent]
  have e0:(a.dropF k).slotAt j=sl2.getD j slot0:=by
   rw[Arena.slotAt,hS,yPa,jY (fun e=>hj e.symm),yPa]
  have e1:(sl1.getD j slot0).ent=(a.slotAt j).ent∧(sl1.getD j slot0).used=(a.slotAt j).used∧(sl1.getD j slot0).qty=(a.slotAt j).qty:=by
   rw[hsl1]
   split
   ·exact⟨rfl,rfl,rfl⟩
   ·exact m1 _ _ _
  have e2:(sl2.getD j slot0).ent=(sl1.getD j slot0).ent∧(sl2.getD j slot0).used=(sl1.getD j slot0).used∧(sl2.getD j slot0).qty=(sl1.getD j slot0).qty:=by
   rw[hsl2]
   split
   ·exact⟨rfl,rfl,rfl⟩
   ·exact m2 _ _ _
  rw[e0]
  exact⟨e2.1.trans e1.1,e2.2.1.trans e1.2.1,e2.2.2.trans e1.2.2⟩
 have hl1:sl1.length=250:=by rw[hsl1];split<;>simp[hlen]
 have hl2:sl2.length=250:=by rw[hsl2];split<;>simp[hl1]
 have hself:(a.dropF k).slots[k]? =some slot0:=by rw[hS];exact uJ (by omega)
 have hsgn:seg (a.dropF k).slots n (-1) (l1++l2) (-1):=by
  rw[hS,rW]
  constructor
  ·--the part ahead
   refine jL (sl:=sl2) (fun j hj=>jY (fun e=>k1 (e▸hj))) ?_
   have f1:seg sl1 n (-1) l1 (jV l2 (-1)):=by
    rcases kU l1 with e|⟨y,j,e,e2⟩
    ·subst e;trivial
    ·rw[hsl1,yOr (by rw[e2];omega),e2,yPj]
     subst e
     have hd3:=yQx.1 hd.1
     exact zRc _ (fun hj=>hd3.2.2 j hj j yOx rfl) g1
   refine jL (fun j hj=> ?_) f1
   rw[hsl2]
   split
   ·rfl
   ·rcases hc2 with e|⟨y,i,e,e2⟩
    ·contradiction
    ·refine gA ?_
     rw[e2,yPj]
     rintro rfl
     exact hd.2.2 i hj i (yOz _ (by rw[e];simp)) rfl
  ·--the part behind
   refine jL (sl:=sl2) (fun j hj=>jY (fun e=>k2 (e▸hj))) ?_
   have f1:seg sl1 n k l2 (-1):=by
    refine jL (fun j hj=> ?_) g2
    rw[hsl1]
    split
    ·rfl
    ·rcases hc1 with e|⟨y,i,e,e2⟩
     ·contradiction
     ·refine gA ?_
      rw[e2,yPj]
      rintro rfl
      exact hd.2.2 i (by rw[e];simp) i (yOz _ hj) rfl
   rcases hc2 with e|⟨y,j,e,e2⟩
   ·rw[(zJv l2).1 e];trivial
   ·rw[hsl2,yOr (by rw[e2];omega),e2,yPj]
    rw[e]at f1 hd2 ⊢
    exact z0g _ (yRd.1 hd2.2).1 f1
 refine⟨⟨?_,?_,?_,?_,?_,?_,?_⟩,hlike,y4 hself,hF⟩
 ·rw[hS,yPw];exact hl2
 ·rw[hQs];simp[h.ql]
 ·intro m l' hm
  rcases g8 hm with⟨rfl,rfl⟩|⟨e,hm⟩
  ·rw[hQs,uJ (by rw[h.ql];exact hnQ)]
   congr 2
   refine(dA fun j hj=>(hlike j fun e=> ?_).2.2).symm
   subst e
   rcases yPv.1 hj with hj|hj
   ·exact k1 hj
   ·exact k2 hj
  ·rw[hQs,jY (fun c=>e c.symm),h.q m l' hm]
   congr 2
   refine(dA fun j hj=>(hlike j fun e2=> ?_).2.2).symm
   subst e2
   exact e (h.one hm hl hj hkm)
 ·intro m l' hm
  rcases g8 hm with⟨rfl,rfl⟩|⟨e,hm⟩
  ·exact hsgn
  ·refine jL (fun j hj=>hoth j ?_ ?_ ?_) (h.sg m l' hm)
   ·exact fun c=>e (h.one hm hl hj (yQd _ c))
   ·exact fun c=>e (h.one hm hl hj (yQf _ (yOz _ c)))
   ·rintro rfl;exact e (h.one hm hl hj hkm)
 ·intro m l' hm
  rcases g8 hm with⟨rfl,rfl⟩|⟨e,hm⟩
  ·refine yQx.2 ⟨hd.1,hd2.2,fun i hi j hj=>hd.2.2 i hi j (yOz _ hj)⟩
  ·exact h.nd m l' hm
 ·intro j s' hj hu
  have hjk:j≠k:=by
   rintro rfl
   rw[hself]at hj;cases hj;cases hu
  have hu2:(a.slotAt j).used=true:=by rw[← (hlike j hjk).2.1,y4 hj];exact hu
  have hjl:j<a.slots.length:=by
   have:=(yOt.1 hj).1
   rw[hS,yPw]at this
   omega
  obtain⟨s0,hs0⟩:=z8 hjl
  rw[y4 hs0]at hu2
  obtain⟨m,l',hm,hjm⟩:=h.us j s0 hs0 hu2
  by_cases em:m=n
  ·subst em
   rw[hl]at hm;cases hm
   refine⟨m,_,uJ hnQ,?_⟩
   rcases yPv.1 hjm with hj|hj
   ·exact yQd _ hj
   ·rcases yPk.1 hj with e|hj
    ·exact absurd e hjk
    ·exact yQf _ hj
  ·exact⟨m,l',by rw[jY (fun c=>em c.symm)];exact hm,hjm⟩
 ·have hmu:(a.dropF k).slots.map (·.used)=(a.slots.set k slot0).map (·.used):=by
   have e1:sl2.map (·.used)=a.slots.map (·.used):=by
    have f2:sl2.map (·.used)=sl1.map (·.used):=by
     rw[hsl2]
     split
     ·rfl
     ·exact rI (g:=fun s:Slot=>s.used) (f:=fun s:Slot=>{s with ahead:=x7 l1 (-1)}) (fun _=>rfl) _ _
    have f1:sl1.map (·.used)=a.slots.map (·.used):=by
     rw[hsl1]
     split
     ·rfl
     ·exact rI (g:=fun s:Slot=>s.used) (f:=fun s:Slot=>{s with back:=jV l2 (-1)}) (fun _=>rfl) _ _
    rw[f2,f1]
   rw[hS,List.map_set,e1,List.map_set]
  have:=zFg (x:=slot0) hs1
  rw[hs.used,yOu rfl,show slot0.used=false from rfl,yOr (by decide)]at this
  rw[hmu,hF,hfree]
  omega
theorem Arena.Wf.take {a:Arena} {Q:List (List Nat)} (h:a.Wf Q) {n k:Nat} {l:List Nat} (hl:Q[n]? =some l) (hk:k∈l) {q:Int} (hq:1≤q∧q≤(a.slotAt k).qty):
 (a.takeF k q).2=0∧(∀j,j≠k→((a.takeF k q).1.slotAt j).ent=(a.slotAt j).ent∧((a.takeF k q).1.slotAt j).used=(a.slotAt j).used)∧
   (if(a.slotAt k).qty=q then(a.takeF k q).1.Wf (Q.set n (l.erase k))∧(a.takeF k q).1.slotAt k=slot0∧(a.takeF k q).1.free=a.free+1
    else(a.takeF k q).1.Wf Q∧(a.takeF k q).1.slotAt k={a.slotAt k with qty:=(a.slotAt k).qty-q}∧(a.takeF k q).1.free=a.free):=by
 obtain⟨hk2,⟨p,t,hs⟩,hk1⟩:=h.toWf0.mem hl hk
 have hkl:k<a.slots.length:=by rw[h.len];exact hk2
 have hu:a.usedAt k=true:=by
  simp only[Arena.usedAt,yPh,yRf]
  refine⟨by omega,by omega,?_⟩
  rw[yPj]
  exact hs.used
 have hless:=h.toWf0.less hl hk (q:=q) (by omega)
 have hat:=l9 a k q
 rw[Arena.takeF,yOr (by rw[hu];decide),yPj,yOr (by omega)]
 by_cases e:(a.slotAt k).qty=q
 ·rw[yOu e,yOu e]
  obtain⟨l1,l2,rfl⟩:=List.append_of_mem hk
  have hnd:=h.nd n _ hl
  have hd:=yQx.1 hnd
  have k1:k∉l1:=fun hk=>hd.2.2 k hk k yOx rfl
  obtain⟨d1,d2,d3,d4⟩:=hless.drop hl (by rw[hat k hkl,yOu rfl];dsimp only;omega)
  have ee:(l1++k::l2).erase k=l1++l2:=by rw[List.erase_append_right _ k1,List.erase_cons_head]
  refine⟨rfl,fun j hj=> ?_,?_,d3,d4⟩
  ·have:=d2 j hj
   rw[hat j hkl,yOr hj]at this
   exact⟨this.1,this.2.1⟩
  ·rw[ee]
   refine⟨d1,fun m l' hm j hj=> ?_⟩
   have hj2:j≠k∧∃l'',Q[m]? =some l''∧j∈l'':=by
    have hd2:=yRd.1 hd.2.1
    rcases g8 hm with⟨rfl,rfl⟩|⟨e3,hm⟩
    ·refine⟨?_,_,hl,?_⟩
     ·rintro rfl
      rcases yPv.1 hj with hj|hj
      ·exact k1 hj
      ·exact hd2.1 hj
     ·rcases yPv.1 hj with hj|hj
      ·exact yQd _ hj
      ·exact yQf _ (yOz _ hj)
    ·refine⟨?_,_,hm,hj⟩
     rintro rfl
     exact e3 (h.toWf0.one hm hl hj hk)
   obtain⟨hj3,l'',hm2,hj4⟩:=hj2
   have:=(d2 j hj3).2.2
   rw[hat j hkl,yOr hj3]at this
   dsimp only
   rw[this]
   exact h.pos m l'' hm2 j hj4
 ·rw[yOr e,yOr e]
  refine⟨rfl,fun j hj=> ?_,⟨hless,fun m l' hm j hj=> ?_⟩,?_,rfl⟩
  ·dsimp only
   rw[hat j hkl,yOr hj];exact⟨rfl,rfl⟩
  ·dsimp only
   rw[hat j hkl]
   split
   ·rename_i c
    subst c
    dsimp only
    omega
   ·exact h.pos m l' hm j hj
  ·dsimp only
   rw[hat k hkl,yOu rfl]
open Go Cv Go.Proofs
theorem yX {α β:Type} {f g:α→List β}:∀{l:List α},(∀x∈l,f x=g x)→l.flatMap f=l.flatMap g
 |[],_=>rfl
 |x::l,h=>by rw[yQh,yQh,h x yOx,yX fun y hy=>h y (yOz _ hy)]
theorem nH {α β γ:Type} {f:α→List β} {g:β→γ}:∀(l:List α),(l.flatMap f).map g=l.flatMap fun x=>(f x).map g
 |[]=>rfl
 |x::l=>by rw[yQh,yQh,yPc,nH l]
theorem zSo {α β:Type} {f:α→List β}:∀{l:List α},(∀x∈l,f x≠[])→l.length≤(l.flatMap f).length
 |[],_=>yPy 0
 |x::l,h=>by
  have:=zSo (l:=l) fun y hy=>h y (yOz _ hy)
  have:=List.length_pos_iff.2 (h x yOx)
  rw[yQh,yOw,yOy];omega
theorem zBn {α:Type} [DecidableEq α]:∀{l m:List α},l.Nodup→(∀x∈l,x∈m)→l.length≤m.length
 |[],_,_,_=>yQn _
 |x::l,m,h,hs=>by
  have hd:=yRd.1 h
  have hx:=hs x yOx
  have:=zBn (l:=l) (m:=m.erase x) hd.2 fun y hy=>by
   have hne:y≠x:=by rintro rfl;exact hd.1 hy
   exact(List.mem_erase_of_ne hne).2 (hs y (yOz _ hy))
  rw[List.length_erase_of_mem hx]at this
  have:=List.length_pos_of_mem hx
  rw[yOy];omega
theorem zZk {l:List Int} (h:l.Nodup) (hr:∀x∈l,0≤x∧x<l.length) {n:Nat} (hn:n<l.length):(n:Int)∈l:=by
 apply Classical.byContradiction
 intro hx
 have hnd:((n:Int)::l).Nodup:=yRd.2 ⟨hx,h⟩
 have:=zBn (m:=(List.range l.length).map fun k:Nat=>(k:Int)) hnd fun y hy=>by
  rw[yQk]
  rcases yPk.1 hy with rfl|hy
  ·exact⟨n,yRx.2 hn,rfl⟩
  ·have:=hr y hy
   exact⟨y.toNat,yRx.2 (by omega),by omega⟩
 simp at this
 omega
theorem zEf {α β:Type} {l:List (α×β)} (h:(l.map (·.1)).Nodup) {k:α} {x y:β} (hx:(k,x)∈l) (hy:(k,y)∈l):x=y:=by
 induction l with
 |nil=>cases hx
 |cons p l ih=>
  rw[yPd,yRd]at h
  rcases yPk.1 hx with ex|hx<;>rcases yPk.1 hy with ey|hy
  ·rw[← ex]at ey;exact(Prod.mk.inj ey).2.symm
  ·exact absurd (yPu (f:=(·.1)) hy) (by rw[← ex]at h;exact h.1)
  ·exact absurd (yPu (f:=(·.1)) hx) (by rw[← ey]at h;exact h.1)
  ·exact ih h.2 hx hy
theorem nN:∀{l:List (Int×Place)} {k:Int} {x:Place},pget l k=some x→(k,x)∈l
 |[],k,x,h=>by cases h
 |p::l,k,x,h=>by
  rw[pget,List.find?_cons]at h
  by_cases e:p.1=k
  ·rw[yPn e]at h
   simp only[yQp,Option.some.injEq]at h
   subst h;subst e
   exact yOx
  ·rw[yPm e]at h
   exact yOz _ (nN h)
theorem zCj {l:List (Int×Place)} {k:Int} (h:pget l k=none):k∉l.map (·.1):=by
 intro hk
 obtain⟨⟨k',x⟩,hx,rfl⟩:=yQk.1 hk
 rw[pget,Option.map_eq_none_iff,List.find?_eq_none]at h
 have:=h _ hx
 simp at this
theorem zRi:∀{l:List (Int×Place)} {k:Int} {x:Place},k∉l.map (·.1)→aQ k x l=l++[(k,x)]
 |[],k,x,_=>rfl
 |p::l,k,x,h=>by
  rw[yPd,yPk,not_or]at h
  rw[aQ,yOr h.1,zRi h.2];rfl
def yW (Q:List (List Nat)) (r:y3):List Nat:=Q.getD r.queue.toNat []
def z7k (s p:Int) (e:Ent):zG:=⟨e.id,s,p,e.qty,e.top⟩
def jD (a:Arena) (s p:Int) (k:Nat):zG:=z7k s p (a.slotAt k).ent
def Book.rOrds (b:Book) (Q:List (List Nat)) (s:Int) (r:y3):List zG:=(yW Q r).map (jD b.a s r.price)
def Book.sideL (b:Book) (Q:List (List Nat)) (s:Int):List zG:=(b.rungs s).flatMap (b.rOrds Q s)
def Book.flat (b:Book) (Q:List (List Nat)):List zG:=b.sideL Q 1++b.sideL Q 2
def jU (a:Arena) (s p:Int) (k:Nat):Int×Place:=((a.slotAt k).id,⟨s,p,k⟩)
def Book.plcs (b:Book) (Q:List (List Nat)) (s:Int):List (Int×Place):=(b.rungs s).flatMap fun r=>(yW Q r).map (jU b.a s r.price)
def Book.qs (b:Book):List Int:=b.buys.map (·.queue)++b.sells.map (·.queue)++b.spare
structure Book.Core (b:Book) (Q:List (List Nat)) (hole:Int):Prop where
 wf:b.a.Wf Q
 srt:∀s,s=1∨s=2→(b.rungs s).Pairwise fun r r'=>btr s r.price r'.price=true
 rng:∀q∈b.qs,0≤q∧q<Q.length
 nd:b.qs.Nodup
 ql:b.qs.length=Q.length
 ne:∀s,s=1∨s=2→∀r∈b.rungs s,r.queue≠hole→yW Q r≠[]
 sp:∀q∈b.spare,Q.getD q.toNat []=[]
 at_:b.at_.Perm (b.plcs Q 1++b.plcs Q 2)
 ids:((b.flat Q).map (·.id)).Nodup
 qb:Q.length≤250
structure Book.Tops (b:Book) (L:List zG):Prop where
 fl:∀o∈L,o.top=(b.hasF o.side && decide (o.id=b.topI o.side))
 th:∀s,s=1∨s=2→b.hasF s=true→∃o∈L,o.side=s∧o.id=b.topI s
structure Book.Rep (b:Book) (L:List zG):Prop where
 ex:∃Q,b.Core Q (-1)∧b.Tops L∧L=b.flat Q
theorem dD (b:Book) (Q:List (List Nat)) (s:Int):(b.plcs Q s).map (·.1)=(b.sideL Q s).map (·.id):=by
 rw[Book.plcs,Book.sideL,nH,nH]
 refine yX fun r _=> ?_
 rw[Book.rOrds,yRe,yRe]
 rfl
theorem Book.Core.keysP {b:Book} {Q:List (List Nat)} {h:Int} (c:b.Core Q h):(b.at_.map (·.1)).Perm ((b.flat Q).map (·.id)):=by
 have:=c.at_.map (·.1)
 rw[yPc,dD,dD,← yPc]at this
 exact this
theorem Book.Core.keys {b:Book} {Q:List (List Nat)} {h:Int} (c:b.Core Q h):(b.at_.map (·.1)).Nodup:=c.keysP.nodup_iff.2 c.ids
theorem Book.Core.len {b:Book} {Q:List (List Nat)} {h:Int} (c:b.Core Q h):b.at_.length=(b.flat Q).length:=by
 have:=c.keysP.length_eq
 simpa using this
theorem Book.Core.plc {b:Book} {Q:List (List Nat)} {h:Int} (c:b.Core Q h) {s:Int} (hs:s=1∨s=2) {r:y3} (hr:r∈b.rungs s) {k:Nat} (hk:k∈yW Q r):((b.a.slotAt k).id,(⟨s,r.price,k⟩:Place))∈b.at_:=by
 refine c.at_.mem_iff.2 ?_
 have hp:jU b.a s r.price k∈b.plcs Q s:=yRb.2 ⟨r,hr,yPu hk⟩
 rcases hs with rfl|rfl
 ·exact yQd _ hp
 ·exact yQf _ hp
theorem Book.Core.plcI {b:Book} {Q:List (List Nat)} {h:Int} (c:b.Core Q h) {id:Int} {x:Place} (hx:(id,x)∈b.at_):∃(k:Nat) (r:y3),(x.side=1∨x.side=2)∧r∈b.rungs x.side∧k∈yW Q r∧x=⟨x.side,r.price,k⟩∧(b.a.slotAt k).id=id:=by
 have:=c.at_.mem_iff.1 hx
 rcases yPv.1 this with hp|hp
 all_goals
  obtain⟨r,hr,hp⟩:=yRb.1 hp
  obtain⟨k,hk,e⟩:=yQk.1 hp
  simp only[jU,Prod.mk.injEq]at e
  obtain⟨e1,rfl⟩:=e
  exact⟨k,r,by simp,hr,hk,rfl,e1⟩
theorem zQq {Q:List (List Nat)} {r:y3} (h:0≤r.queue∧r.queue<Q.length):Q[r.queue.toNat]? =some (yW Q r):=by
 obtain⟨l,hl⟩:=z8 (l:=Q) (i:=r.queue.toNat) (by omega)
 rw[yW,zQ hl,hl]
theorem wW {b:Book} {s:Int} (hs:s=1∨s=2) {r:y3} (hr:r∈b.rungs s):r.queue∈b.qs:=by
 rcases hs with rfl|rfl
 ·exact yQd _ (yQd _ (yPu (f:=(·.queue)) hr))
 ·exact yQd _ (yQf _ (yPu (f:=(·.queue)) hr))
theorem Book.Core.get {b:Book} {Q:List (List Nat)} {h:Int} (c:b.Core Q h) {s:Int} (hs:s=1∨s=2) {r:y3} (hr:r∈b.rungs s):Q[r.queue.toNat]? =some (yW Q r):=zQq (c.rng _ (wW hs hr))
def clr (L:List zG) (s:Int):List zG:=L.map fun o=>if o.side=s then{o with top:=false}else o
theorem pQ (s x:Int):btr s x x=false:=by
 rw[btr];split<;>exact yPm (by omega)
theorem Book.Core.flag {b:Book} {Q:List (List Nat)} {h:Int} (c:b.Core Q h) {a':Arena} (hw:a'.Wf Q) (hi:∀k,(a'.slotAt k).id=(b.a.slotAt k).id):({b with a:=a'}:Book).Core Q h:=by
 have e1:∀s,({b with a:=a'}:Book).plcs Q s=b.plcs Q s:=by
  intro s
  refine yX fun r _=>yPx fun k _=> ?_
  simp only[jU,hi]
 have e2:((({b with a:=a'}:Book).flat Q).map (·.id))=(b.flat Q).map (·.id):=by
  rw[Book.flat,Book.flat,yPc,yPc,← dD,← dD,← dD,← dD,e1,e1]
 exact⟨hw,c.srt,c.rng,c.nd,c.ql,c.ne,c.sp,by rw[e1,e1];exact c.at_,by rw[e2];exact c.ids,c.qb⟩
theorem z9x (a:Arena) (n:Int) (t:Bool) (k:Nat):((a.topF n t).slotAt k).id=(a.slotAt k).id:=by
 rw[zMn];split<;>rfl
theorem Book.Core.untop {b:Book} {Q:List (List Nat)} {h:Int} (c:b.Core Q h) (s:Int):(b.untop s).Wf Q∧∀k,((b.untop s).slotAt k).id=(b.a.slotAt k).id:=by
 rw[Book.untop]
 repeat' split
 all_goals first|exact⟨c.wf,fun _=>rfl⟩|exact⟨c.wf.top _ _,fun k=>z9x _ _ _ k⟩
theorem Book.Core.untop_flat {b:Book} {Q:List (List Nat)} {h:Int} (c:b.Core Q h) (ht:b.Tops (b.flat Q)) {s:Int} (hs:s=1∨s=2):({b with a:=b.untop s}:Book).flat Q=clr (b.flat Q) s:=by
 have hfl:∀{s':Int} (hs':s'=1∨s'=2) {r:y3} (hr:r∈b.rungs s') {k:Nat} (hk:k∈yW Q r),(b.a.slotAt k).top=(b.hasF s' && decide ((b.a.slotAt k).id=b.topI s')):=by
  intro s' hs' r hr k hk
  have hm:jD b.a s' r.price k∈b.flat Q:=by
   have:jD b.a s' r.price k∈b.sideL Q s':=yRb.2 ⟨r,hr,yPu hk⟩
   rcases hs' with rfl|rfl
   ·exact yQd _ this
   ·exact yQf _ this
  exact ht.fl _ hm
 have key:∀{s':Int} (hs':s'=1∨s'=2) {r:y3} (hr:r∈b.rungs s') {k:Nat} (hk:k∈yW Q r),((b.untop s).slotAt k).ent=if s'=s then{(b.a.slotAt k).ent with top:=false}else(b.a.slotAt k).ent:=by
  intro s' hs' r hr k hk
  have hplc:=c.plc hs' hr hk
  have htop:=hfl hs' hr hk
  have hno:(b.a.slotAt k).top=false→(b.a.slotAt k).ent=if s'=s then{(b.a.slotAt k).ent with top:=false}else(b.a.slotAt k).ent:=by
   intro e
   split
   ·rw[Slot.ent,e]
   ·rfl
  rw[Book.untop]
  by_cases hh:b.hasF s=true
  ·rw[yOu hh]
   cases hg:pget b.at_ (b.topI s)with
   |none=>
    dsimp only
    by_cases e:s'=s
    ·subst e
     refine hno ?_
     rw[htop,hh,yRr]
     refine yPm fun e2=> ?_
     rw[← e2]at hg
     exact zCj hg (yPu (f:=(·.1)) hplc)
    ·rw[yOr e]
   |some o=>
    dsimp only
    obtain⟨k',r',hs2,hr2,hk2,ho,hid⟩:=c.plcI (nN hg)
    by_cases es:o.side=s
    ·rw[yOu es,zMn]
     have hos:o.slot=(k':Int):=by rw[ho]
     by_cases ek:k=k'
     ·subst ek
      have hu:b.a.usedAt o.slot=true:=by
       obtain⟨_,⟨_,_,h2⟩,h3⟩:=c.wf.toWf0.mem (c.get hs' hr) hk
       have hlt:=(yOt.1 h3).1
       simp only[Arena.usedAt,yPh,yRf,hos,yPj]
       exact⟨by omega,by omega,h2.used⟩
      rw[yOu ⟨hu,by rw[hos];rfl⟩]
      have:=c.plc hs2 hr2 hk2
      have e3:=zEf c.keys hplc this
      have e4:s'=s:=by
       have:=congrArg Place.side e3
       dsimp only at this
       rw[this,es]
      rw[yOu e4];rfl
     ·rw[yOr (fun e=>ek (by have:=e.2;rw[hos]at this;simpa using this))]
      by_cases e:s'=s
      ·subst e
       refine hno ?_
       rw[htop,hh,yRr]
       refine yPm fun e2=>ek ?_
       have hp2:=c.plc hs2 hr2 hk2
       rw[hid,← e2]at hp2
       have e3:=zEf c.keys hplc hp2
       have:=congrArg Place.slot e3
       dsimp only at this
       omega
      ·rw[yOr e]
    ·rw[yOr es]
     by_cases e:s'=s
     ·subst e
      refine hno ?_
      rw[htop,hh,yRr]
      refine yPm fun e2=>es ?_
      have hp2:=nN hg
      rw[← e2]at hp2
      have e3:=zEf c.keys hplc hp2
      rw[← e3]
     ·rw[yOr e]
  ·rw[yOr hh]
   by_cases e:s'=s
   ·subst e
    refine hno ?_
    have:b.hasF s'=false:=by simpa using hh
    rw[htop,this,yRv]
   ·rw[yOr e]
 have side:∀s',s'=1∨s'=2→({b with a:=b.untop s}:Book).sideL Q s'=clr (b.sideL Q s') s:=by
  intro s' hs'
  rw[clr,Book.sideL,Book.sideL,nH]
  refine yX fun r hr=> ?_
  rw[Book.rOrds,Book.rOrds,yRe]
  refine yPx fun k hk=> ?_
  simp only[jD,Function.comp,key hs' hr hk,z7k]
  by_cases e:s'=s
  ·rw[yOu e];exact(yOu e).symm
  ·rw[yOr e];exact(yOr e).symm
 rw[Book.flat,side 1 (.inl rfl),side 2 (.inr rfl),Book.flat,clr,clr,clr,yPc]
open Go Cv Go.Proofs
def before (s p:Int) (o:zG):Bool:=decide (o.side<s)||(decide (o.side=s) && !btr s p o.price)
def vI (L:List zG) (s p:Int):Bool:=L.all fun o=> !decide (o.side=s)||btr s p o.price
def zNc (L:List zG) (s id p q:Int):List zG:=
 let L1:=if vI L s p=true then clr L s else L
 L1.takeWhile (before s p)++⟨id,s,p,q,vI L s p⟩::L1.dropWhile (before s p)
theorem z1p {α:Type} {f:α→Bool}:∀{A B:List α},(∀x∈A,f x=true)→(∀x∈B,f x=false)→(A++B).takeWhile f=A∧(A++B).dropWhile f=B
 |[],[],_,_=>⟨rfl,rfl⟩
 |[],b::B,_,h=>by
  have:=h b yOx
  simp[this]
 |a::A,B,h,h2=>by
  obtain⟨i1,i2⟩:=z1p (A:=A) (B:=B) (fun x hx=>h x (yOz _ hx)) h2
  have:=h a yOx
  rw[yQe,List.takeWhile_cons,List.dropWhile_cons,this]
  simp[i1,i2]
theorem xO {b:Book} {Q:List (List Nat)} {s:Int} {r:y3} {o:zG} (h:o∈b.rOrds Q s r):o.side=s∧o.price=r.price:=by
 obtain⟨k,_,rfl⟩:=yQk.1 h
 exact⟨rfl,rfl⟩
theorem dL {b:Book} {Q:List (List Nat)} {s:Int} {o:zG} (h:o∈b.sideL Q s):o.side=s∧∃r∈b.rungs s,o∈b.rOrds Q s r∧o.price=r.price:=by
 obtain⟨r,hr,ho⟩:=yRb.1 h
 exact⟨(xO ho).1,r,hr,ho,(xO ho).2⟩
structure Spl (s p:Int) (R1 R2:List y3):Prop where
 a:∀r∈R1,btr s r.price p=true
 b:∀r∈R2,btr s p r.price=true
theorem zRo {s x y:Int} (h:btr s x y=true):btr s y x=false:=by
 rw[btr]at h ⊢
 split at h
 ·rename_i e;rw[yOu e];have:=yRk h;exact yPm (by omega)
 ·rename_i e;rw[yOr e];have:=yRk h;exact yPm (by omega)
theorem zLr {s x y z:Int} (h:btr s x y=true) (h2:btr s y z=true):btr s x z=true:=by
 rw[btr]at h h2 ⊢
 split at h
 ·rename_i e;rw[yOu e]at h2 ⊢;have:=yRk h;have:=yRk h2;exact yPn (by omega)
 ·rename_i e;rw[yOr e]at h2 ⊢;have:=yRk h;have:=yRk h2;exact yPn (by omega)
theorem z0q {s x y:Int} (h:btr s x y=false) (hne:x≠y):btr s y x=true:=by
 rw[btr]at h ⊢
 split at h
 ·rename_i e;rw[yOu e];have:=yUk h;exact yPn (by omega)
 ·rename_i e;rw[yOr e];have:=yUk h;exact yPn (by omega)
theorem sJ {s p:Int} {l:List y3} (hs:l.Pairwise fun r r'=>btr s r.price r'.price=true):
 (∀r∈l.take (zS s l p),btr s r.price p=true)∧
 (if x6 s l p=true then ∃r,l[zS s l p]? =some r∧r.price=p∧∀r'∈l.drop (zS s l p+1),btr s p r'.price=true
  else ∀r'∈l.drop (zS s l p),btr s p r'.price=true):=by
 have e1:l.take (zS s l p)=l.takeWhile fun r=>btr s r.price p:=by
  rw[zS]
  have h:=List.take_left (l₁:=l.takeWhile fun r=>btr s r.price p) (l₂:=l.dropWhile fun r=>btr s r.price p)
  rwa [yUg]at h
 have e2:l.drop (zS s l p)=l.dropWhile fun r=>btr s r.price p:=by
  have h:=yQu (zS s l p) l
  have h2:=yUg (p:=fun r:y3=>btr s r.price p) (l:=l)
  rw[e1]at h
  exact List.append_cancel_left (h.trans h2.symm)
 refine⟨fun r hr=> ?_,?_⟩
 ·rw[e1]at hr
  exact yRq.1 List.all_takeWhile r hr
 have hd:∀r,l[zS s l p]? =some r→btr s r.price p=false:=by
  intro r hr
  have h0:(l.drop (zS s l p))[0]? =some r:=by rw[yRo];exact hr
  rw[e2]at h0
  cases hdw:l.dropWhile fun r=>btr s r.price p with
  |nil=>rw[hdw]at h0;cases h0
  |cons x y=>
   rw[hdw]at h0
   cases h0
   have:=List.head?_dropWhile_not (fun r:y3=>btr s r.price p) l
   rw[hdw]at this
   simpa using this
 have hpw:∀r r',l[zS s l p]? =some r→r'∈l.drop (zS s l p+1)→btr s r.price r'.price=true:=by
  intro r r' hr hr'
  have hlt:=(yOt.1 hr).1
  have:=List.Pairwise.sublist (List.drop_sublist (zS s l p) l) hs
  rw[yRh hlt,yUn,(yOt.1 hr).2]at this
  exact this.1 r' hr'
 split
 ·rename_i hb
  rw[x6]at hb
  cases hr:l[zS s l p]? with
  |none=>rw[hr]at hb;cases hb
  |some r=>
   rw[hr]at hb
   have hp:r.price=p:=yRk hb
   exact⟨r,rfl,hp,fun r' hr'=>by rw[← hp];exact hpw r r' hr hr'⟩
 ·rename_i hb
  intro r' hr'
  by_cases hlt:zS s l p<l.length
  ·obtain⟨r,hr⟩:=z8 hlt
   rw[x6,hr]at hb
   have hp:¬r.price=p:=fun e=>hb (yPn e)
   have h1:=z0q (hd r hr) hp
   rw[yRh hlt,(yOt.1 hr).2]at hr'
   rcases yPk.1 hr' with rfl|hr'
   ·exact h1
   ·exact zLr h1 (hpw r r' hr hr')
  ·rw[yRz (by omega)]at hr'
   cases hr'
def Book.setR (b:Book) (s:Int) (l:List y3):Book:=if s=1 then{b with buys:=l}else{b with sells:=l}
theorem zXl {b:Book} {s:Int} (hs:s=1∨s=2):∃rest,b.qs.Perm ((b.rungs s).map (·.queue)++rest)∧∀l,(b.setR s l).qs.Perm (l.map (·.queue)++rest):=by
 rcases hs with rfl|rfl
 ·refine⟨b.sells.map (·.queue)++b.spare,?_,fun l=> ?_⟩
  ·rw[Book.qs,yPb];exact .refl _
  ·show(l.map (·.queue)++b.sells.map (·.queue)++b.spare).Perm _
   rw[yPb]
 ·refine⟨b.buys.map (·.queue)++b.spare,?_,fun l=> ?_⟩
  ·rw[Book.qs]
   show(b.buys.map (·.queue)++b.sells.map (·.queue)++b.spare).Perm (b.sells.map (·.queue)++(b.buys.map (·.queue)++b.spare))
   rw[← yPb];exact yQo.append_right _
  ·show(b.buys.map (·.queue)++l.map (·.queue)++b.spare).Perm (l.map (·.queue)++(b.buys.map (·.queue)++b.spare))
   rw[← yPb];exact yQo.append_right _
structure Queued (b:Book) (Q:List (List Nat)) (s p:Int) (b':Book) (n:Int) (Q':List (List Nat)) (R1 R2:List y3):Prop where
 core:b'.Core Q' n
 rungs:b'.rungs s=R1++⟨p,n⟩::R2
 spl:Spl s p R1 R2
 flat:b'.flat Q'=b.flat Q
 at_:b'.at_=b.at_
 free:b'.a.free=b.a.free
 tops:∀L,b.Tops L→b'.Tops L
 qty:∀x,b'.hasF x=b.hasF x∧b'.topI x=b.topI x
theorem z3d {α:Type} {l:List α} {x d:α} {n:Nat}:(l++[x]).getD n d=if n=l.length then x else l.getD n d:=by
 rw[yPa,yPa,List.getElem?_append]
 split
 ·rw[yOr (by omega)]
 ·rename_i h
  by_cases e:n=l.length
  ·rw[yOu e,e,yTz];rfl
  ·rw[yOr e,yPt (show([x]:List α).length≤n-l.length by simp;omega),yPt (by omega)]
theorem Book.Core.add {b:Book} {Q:List (List Nat)} (c:b.Core Q (-1)) {s p n:Int} (hs:s=1∨s=2) {R1 R2:List y3} (hr:b.rungs s=R1++R2) (spl:Spl s p R1 R2) {b':Book} {Q':List (List Nat)}
 (hrs:b'.rungs s=R1++⟨p,n⟩::R2) (hro:∀s',s'≠s→s'=1∨s'=2→b'.rungs s'=b.rungs s') (hat:b'.at_=b.at_) (hw:b'.a.Wf Q') (hsl:b'.a.slots=b.a.slots)
 (hQ:∀k,Q'.getD k []=Q.getD k []) (hn:Q.getD n.toNat []=[]) (hrng:∀q∈b'.qs,0≤q∧q<Q'.length) (hnd:b'.qs.Nodup) (hql:b'.qs.length=Q'.length) (hsp:∀q∈b'.spare,Q.getD q.toNat []=[]) (hqb:Q'.length≤250):
 b'.Core Q' n∧b'.flat Q'=b.flat Q:=by
 have hslQ:∀r,yW Q' r=yW Q r:=fun r=>hQ _
 have hsa:∀k,b'.a.slotAt k=b.a.slotAt k:=fun k=>by rw[Arena.slotAt,Arena.slotAt,hsl]
 have hn':yW Q ⟨p,n⟩=[]:=hn
 have hro':∀s' r,b'.rOrds Q' s' r=b.rOrds Q s' r:=by
  intro s' r
  rw[Book.rOrds,Book.rOrds,hslQ]
  exact yPx fun k _=>by rw[jD,jD,hsa]
 have hpo:∀s' (r:y3),(yW Q' r).map (jU b'.a s' r.price)=(yW Q r).map (jU b.a s' r.price):=by
  intro s' r
  rw[hslQ]
  exact yPx fun k _=>by rw[jU,jU,hsa]
 have hside:∀s',s'=1∨s'=2→b'.sideL Q' s'=b.sideL Q s':=by
  intro s' hs'
  rw[Book.sideL,Book.sideL]
  by_cases e:s'=s
  ·subst e
   rw[hrs,hr,yQl,yQl,yQh,yX (fun r _=>hro' s' r),yX (l:=R2) (fun r _=>hro' s' r),hro',Book.rOrds,hn',ySc,yRc]
  ·rw[hro s' e hs'];exact yX fun r _=>hro' s' r
 have hplc:∀s',s'=1∨s'=2→b'.plcs Q' s'=b.plcs Q s':=by
  intro s' hs'
  rw[Book.plcs,Book.plcs]
  by_cases e:s'=s
  ·subst e
   rw[hrs,hr,yQl,yQl,yQh,yX (fun r _=>hpo s' r),yX (l:=R2) (fun r _=>hpo s' r),hpo,hn',ySc,yRc]
  ·rw[hro s' e hs'];exact yX fun r _=>hpo s' r
 have hflat:b'.flat Q'=b.flat Q:=by rw[Book.flat,Book.flat,hside 1 (.inl rfl),hside 2 (.inr rfl)]
 refine⟨⟨hw,fun s' hs'=> ?_,hrng,hnd,hql,fun s' hs' r hr' hne=> ?_,fun q hq=>by rw[hQ];exact hsp q hq,by rw[hat,hplc 1 (.inl rfl),hplc 2 (.inr rfl)];exact c.at_,by rw[hflat];exact c.ids,hqb⟩,hflat⟩
 ·by_cases e:s'=s
  ·subst e
   have h0:=c.srt s' hs'
   rw[hr,List.pairwise_append]at h0
   rw[hrs,List.pairwise_append,yUn]
   refine⟨h0.1,⟨spl.b,h0.2.1⟩,fun x hx y hy=> ?_⟩
   rcases yPk.1 hy with rfl|hy
   ·exact spl.a x hx
   ·exact h0.2.2 x hx y hy
  ·rw[hro s' e hs'];exact c.srt s' hs'
 ·rw[hslQ]
  have hold:∀r∈b.rungs s',yW Q r≠[]:=fun r hr=>c.ne s' hs' r hr fun e=>by
   have:=c.rng _ (wW hs' hr)
   omega
  by_cases e:s'=s
  ·subst e
   rw[hrs]at hr'
   rcases yPv.1 hr' with h|h
   ·exact hold r (by rw[hr];exact yQd _ h)
   ·rcases yPk.1 h with rfl|h
    ·exact absurd rfl hne
    ·exact hold r (by rw[hr];exact yQf _ h)
  ·rw[hro s' e hs']at hr';exact hold r hr'
theorem zEz (b:Book) {s:Int} (hs:s=1∨s=2) (l:List y3):(b.setR s l).rungs s=l∧∀s',s'≠s→s'=1∨s'=2→(b.setR s l).rungs s'=b.rungs s':=by
 rcases hs with rfl|rfl
 ·exact⟨rfl,fun s' h h2=>by rcases h2 with rfl|rfl;exact absurd rfl h;rfl⟩
 ·exact⟨rfl,fun s' h h2=>by rcases h2 with rfl|rfl;rfl;exact absurd rfl h⟩
theorem z0a (b:Book) {s p:Int} (hs:s=1∨s=2):b.queueF s p=if x6 s (b.rungs s) p=true then(b,((b.rungs s).getD (zS s (b.rungs s) p) ⟨0,0⟩).queue)else(({b with a:=b.newQ.2.2,spare:=b.newQ.2.1}:Book).setR s (b.ins s p),b.newQ.1):=by
 rcases hs with rfl|rfl<;>rfl
theorem Book.Core.queue {b:Book} {Q:List (List Nat)} (c:b.Core Q (-1)) (hl:(b.flat Q).length<250) {s:Int} (hs:s=1∨s=2) (p:Int):∃Q' R1 R2,Queued b Q s p (b.queueF s p).1 (b.queueF s p).2 Q' R1 R2:=by
 have hsp:=sJ (p:=p) (c.srt s hs)
 rw[z0a b hs]
 by_cases hb:x6 s (b.rungs s) p=true
 ·rw[yOu hb]at hsp ⊢
  obtain⟨h1,r,hr,hp,h2⟩:=hsp
  have hlt:=(yOt.1 hr).1
  have er:(⟨p,r.queue⟩:y3)=r:=by rw[← hp]
  have hsplit:b.rungs s=(b.rungs s).take (zS s (b.rungs s) p)++r::(b.rungs s).drop (zS s (b.rungs s) p+1):=by
   conv=>lhs;rw[← yQu (zS s (b.rungs s) p) (b.rungs s)]
   rw[yRh hlt,(yOt.1 hr).2]
  refine⟨Q,_,_,⟨⟨c.wf,c.srt,c.rng,c.nd,c.ql,fun s' hs' r' hr' _=>c.ne s' hs' r' hr' fun e=> ?_,c.sp,c.at_,c.ids,c.qb⟩,?_,⟨h1,h2⟩,rfl,rfl,rfl,fun _ h=>h,fun _=>⟨rfl,rfl⟩⟩⟩
  ·have:=c.rng _ (wW hs' hr');omega
  ·dsimp only
   rw[zQ hr,er];exact hsplit
 ·rw[yOr hb]at hsp ⊢
  obtain⟨h1,h2⟩:=hsp
  have hr:b.rungs s=(b.rungs s).take (zS s (b.rungs s) p)++(b.rungs s).drop (zS s (b.rungs s) p):=(yQu _ _).symm
  obtain⟨g1,g2⟩:=zEz ({b with a:=b.newQ.2.2,spare:=b.newQ.2.1}:Book) hs (b.ins s p)
  have tops:∀x,((({b with a:=b.newQ.2.2,spare:=b.newQ.2.1}:Book).setR s (b.ins s p)).hasF x=b.hasF x∧(({b with a:=b.newQ.2.2,spare:=b.newQ.2.1}:Book).setR s (b.ins s p)).topI x=b.topI x):=by
   intro x;rcases hs with rfl|rfl<;>exact⟨rfl,rfl⟩
  have hat:(({b with a:=b.newQ.2.2,spare:=b.newQ.2.1}:Book).setR s (b.ins s p)).at_=b.at_:=by rcases hs with rfl|rfl<;>rfl
  have ha:(({b with a:=b.newQ.2.2,spare:=b.newQ.2.1}:Book).setR s (b.ins s p)).a=b.newQ.2.2:=by rcases hs with rfl|rfl<;>rfl
  have hspr:(({b with a:=b.newQ.2.2,spare:=b.newQ.2.1}:Book).setR s (b.ins s p)).spare=b.newQ.2.1:=by rcases hs with rfl|rfl<;>rfl
  obtain⟨rest,q1,q2⟩:=zXl (b:=({b with a:=b.newQ.2.2,spare:=b.newQ.2.1}:Book)) hs
  have q2:=q2 (b.ins s p)
  have hqs:(({b with a:=b.newQ.2.2,spare:=b.newQ.2.1}:Book).setR s (b.ins s p)).qs.Perm (b.newQ.1::({b with a:=b.newQ.2.2,spare:=b.newQ.2.1}:Book).qs):=by
   refine q2.trans (.trans ?_ (q1.symm.cons _))
   rw[← yQe]
   refine List.Perm.append_right _ ?_
   show((b.ins s p).map (·.queue)).Perm (b.newQ.1::(b.rungs s).map (·.queue))
   conv=>rhs;rw[hr]
   rw[Book.ins,yPc,yPc,yPd]
   exact yPg
  generalize hB:(({b with a:=b.newQ.2.2,spare:=b.newQ.2.1}:Book).setR s (b.ins s p))=B at*
  have fin:∀Q',B.a.Wf Q'→B.a.slots=b.a.slots→B.a.free=b.a.free→(∀k,Q'.getD k []=Q.getD k [])→Q.getD b.newQ.1.toNat []=[]→(∀q∈B.qs,0≤q∧q<Q'.length)→B.qs.Nodup→B.qs.length=Q'.length→(∀q∈B.spare,Q.getD q.toNat []=[])→Q'.length≤250→∃Q' R1 R2,Queued b Q s p B b.newQ.1 Q' R1 R2:=by
   intro Q' w1 w2 w3 w4 w5 w6 w7 w8 w9 w10
   obtain⟨u1,u2⟩:=c.add hs hr ⟨h1,h2⟩ (b':=B) (Q':=Q') (n:=b.newQ.1) (by rw[g1];rfl) g2 hat w1 w2 w4 w5 w6 w7 w8 w9 w10
   refine⟨Q',_,_,⟨u1,g1.trans rfl,⟨h1,h2⟩,u2,hat,w3,fun L h=>⟨fun o ho=> ?_,fun s' hs' hh=> ?_⟩,tops⟩⟩
   ·rw[(tops o.side).1,(tops o.side).2];exact h.fl o ho
   ·rw[(tops s').1]at hh
    rw[(tops s').2];exact h.th s' hs' hh
  by_cases he:b.spare.length=0
  ·have hnq:b.newQ=((b.a.queues.length:Int),b.spare,b.a.openQ):=by rw[Book.newQ,yOu he]
   have hql:=c.wf.ql
   have hspe:b.spare=[]:=yPo he
   have hqs':B.qs.Perm ((Q.length:Int)::b.qs):=by
    rw[hnq]at hqs
    rw[← hql];exact hqs
   refine fin (Q++[[]]) (by rw[ha,hnq];exact c.wf.open) (by rw[ha,hnq];rfl) (by rw[ha,hnq];rfl) (fun k=> ?_) ?_ (fun q hq=> ?_) ?_ ?_ (fun q hq=> ?_) ?_
   ·rw[z3d]
    split
    ·rename_i e;rw[e,yPa,yPt (yPy _)];rfl
    ·rfl
   ·rw[hnq,yPa,yPt (by dsimp only;omega)];rfl
   ·rw[yOw]
    rcases yPk.1 (hqs'.mem_iff.1 hq)with rfl|hq
    ·simp only[yQz];omega
    ·have:=c.rng q hq;simp only[yQz];omega
   ·refine hqs'.nodup_iff.2 (yRd.2 ⟨fun hm=> ?_,c.nd⟩)
    have:=c.rng _ hm;omega
   ·rw[hqs'.length_eq,yOy,yOw,c.ql];rfl
   ·rw[hspr,hnq]at hq
    rw[hspe]at hq;cases hq
   ·have h1:=zSo (l:=b.rungs 1) (f:=b.rOrds Q 1) fun r hr e=>c.ne 1 (.inl rfl) r hr (fun e2=>by have:=c.rng _ (wW (.inl rfl) hr);omega) (List.map_eq_nil_iff.1 e)
    have h2:=zSo (l:=b.rungs 2) (f:=b.rOrds Q 2) fun r hr e=>c.ne 2 (.inr rfl) r hr (fun e2=>by have:=c.rng _ (wW (.inr rfl) hr);omega) (List.map_eq_nil_iff.1 e)
    have h3:=c.ql
    rw[Book.flat,yOw,Book.sideL,Book.sideL]at hl
    rw[Book.qs,yOw,yOw,yOs,yOs,he]at h3
    rw[aC]at h1 hl
    rw[mS]at h2 hl
    rw[yOw,yQz]
    omega
  ·have hnq:b.newQ=(b.spare.getD (b.spare.length-1) 0,b.spare.take (b.spare.length-1),b.a):=by rw[Book.newQ,yOr he]
   obtain⟨sp,q,hspq⟩:∃sp q,b.spare=sp++[q]:=⟨_,_,(List.dropLast_concat_getLast (l:=b.spare) (by intro e;rw[e]at he;exact he rfl)).symm⟩
   have e1:b.newQ=(q,sp,b.a):=by
    rw[hnq,hspq]
    simp
   have hqs':B.qs.Perm b.qs:=by
    refine hqs.trans ?_
    rw[e1]
    show(q::(b.buys.map (·.queue)++b.sells.map (·.queue)++sp)).Perm (b.buys.map (·.queue)++b.sells.map (·.queue)++b.spare)
    rw[hspq,← yPb]
    exact ySs q _|>.symm
   have hq0:q∈b.spare:=by rw[hspq];simp
   refine fin Q (by rw[ha,e1];exact c.wf) (by rw[ha,e1]) (by rw[ha,e1]) (fun _=>rfl) (by rw[e1];exact c.sp q hq0) (fun q hq=>c.rng q (hqs'.mem_iff.1 hq)) (hqs'.nodup_iff.2 c.nd) (by rw[hqs'.length_eq];exact c.ql) (fun q' hq'=> ?_) c.qb
   rw[hspr,e1]at hq'
   exact c.sp q' (by rw[hspq];exact yQd _ hq')
open Go Cv Go.Proofs
theorem Book.Core.used {b:Book} {Q:List (List Nat)} (c:b.Core Q (-1)) (hl:(b.flat Q).length<250):b.a.free≠0:=by
 intro hf
 have hcn:=c.wf.free
 rw[hf]at hcn
 have hz:(b.a.slots.map (·.used)).countP (!·)=0:=by omega
 rw[List.countP_eq_zero]at hz
 have hin:∀k∈List.range 250,k∈((b.rungs 1).flatMap (yW Q)++(b.rungs 2).flatMap (yW Q)):=by
  intro k hk
  have hk:=yRx.1 hk
  obtain⟨s,hs⟩:=z8 (l:=b.a.slots) (i:=k) (by rw[c.wf.len];exact hk)
  have hu:s.used=true:=by
   have:=hz s.used (yPu (yPe hs))
   simpa using this
  obtain⟨n,l,hn,hkl⟩:=c.wf.us k s hs hu
  have hnQ:=(yOt.1 hn).1
  have hm:(n:Int)∈b.qs:=zZk c.nd (fun x hx=>by rw[c.ql];exact c.rng x hx) (by rw[c.ql];exact hnQ)
  have e:∀r:y3,r.queue=(n:Int)→k∈yW Q r:=by
   intro r hr
   rw[yW,hr,yPj,zQ hn];exact hkl
  rw[Book.qs]at hm
  rcases yPv.1 hm with hm|hm
  ·rcases yPv.1 hm with hm|hm
   ·obtain⟨r,hr,er⟩:=yQk.1 hm
    exact yQd _ (yRb.2 ⟨r,hr,e r er⟩)
   ·obtain⟨r,hr,er⟩:=yQk.1 hm
    exact yQf _ (yRb.2 ⟨r,hr,e r er⟩)
  ·have:=c.sp _ hm
   rw[yPj,zQ hn]at this
   rw[this]at hkl;cases hkl
 have h1:=zBn List.nodup_range hin
 have e:∀s,(b.sideL Q s).length=((b.rungs s).flatMap (yW Q)).length:=by
  intro s
  rw[Book.sideL,yTh,yTh]
  congr 1
  exact yPx fun r _=>by rw[Book.rOrds,yOs]
 rw[yOw,← e,← e,List.length_range]at h1
 rw[Book.flat,yOw]at hl
 omega
theorem zMw {s p:Int} {o:zG} (h:o.side≠s) (hlt:o.side=1∨o.side=2) (hs:s=1∨s=2):before s p o=decide (s=2):=by
 rw[before,yPm h,yRv,Bool.or_false]
 rcases hs with rfl|rfl
 ·rw[yPm (by omega),yPm (by omega)]
 ·rw[yPn (by omega),yPn rfl]
theorem Queued.put {b:Book} {Q:List (List Nat)} {s p:Int} {b':Book} {n:Int} {Q':List (List Nat)} {R1 R2:List y3} (h:Queued b Q s p b' n Q' R1 R2) (hs:s=1∨s=2) {id qty:Int} (top:Bool) (hid:id∉(b.flat Q).map (·.id)) (hf:b.a.free≠0) (hq:1≤qty∧qty≤1000000):
 ∃Q3 A B,({b' with a:=(b'.a.push n id qty top).1,at_:=aQ id ⟨s,p,(b'.a.push n id qty top).2.1⟩ b'.at_}:Book).Core Q3 (-1)∧b'.flat Q'=A++B∧
  ({b' with a:=(b'.a.push n id qty top).1,at_:=aQ id ⟨s,p,(b'.a.push n id qty top).2.1⟩ b'.at_}:Book).flat Q3=A++⟨id,s,p,qty,top⟩::B∧(∀o∈A,before s p o=true)∧∀o∈B,before s p o=false:=by
 have c:=h.core
 have hrm:(⟨p,n⟩:y3)∈b'.rungs s:=by rw[h.rungs];simp
 have hnr:0≤n∧n<Q'.length:=c.rng n (wW hs hrm)
 obtain⟨m,rfl⟩:∃m:Nat,n=m:=⟨n.toNat,by omega⟩
 have hl:Q'[m]? =some (yW Q' ⟨p,m⟩):=zQq (r:=⟨p,m⟩) hnr
 obtain⟨k,k1,k2,k3,k4,kw,kent,kfree⟩:=c.wf.put (id:=id) hl (by rw[h.free];exact hf) top hq
 have hpush:b'.a.push m id qty top=(b'.a.put m id qty top,(k:Int),0):=by
  have:=c.wf.ql
  rw[Arena.push,yOr (by omega),yOr (by omega),yOr (by rw[h.free];exact hf),k1]
 rw[hpush]
 dsimp only
 have hmQ:=(yOt.1 hl).1
 have hqd:∀s' (r:y3),(s'=1∨s'=2)→r∈b'.rungs s'→(r.queue=m→s'=s∧r=⟨p,m⟩):=by
  intro s' r hs' hr e
  obtain⟨rest,q1,_⟩:=zXl (b:=b') hs
  have hnd:=q1.nodup_iff.1 c.nd
  rw[h.rungs,yPc,yPd]at hnd
  by_cases es:s'=s
  ·subst es
   refine⟨rfl,?_⟩
   rw[h.rungs]at hr
   have hnd2:=(yQx.1 hnd).1
   rcases yPv.1 hr with hr|hr
   ·exact absurd e ((yQx.1 hnd2).2.2 r.queue (yPu (f:=(·.queue)) hr) m yOx)
   ·rcases yPk.1 hr with rfl|hr
    ·rfl
    ·have:=(yRd.1 (yQx.1 hnd2).2.1).1
     exact absurd (e▸yPu (f:=(·.queue)) hr) this
  ·exfalso
   have hcn:=c.nd
   rw[Book.qs]at hcn
   have hcn2:=(yQx.1 (yQx.1 hcn).1).2.2
   have ha:(m:Int)∈(b'.rungs s).map (·.queue):=yQk.2 ⟨_,hrm,rfl⟩
   have hb:(m:Int)∈(b'.rungs s').map (·.queue):=yQk.2 ⟨r,hr,e⟩
   rcases hs with rfl|rfl<;>rcases hs' with rfl|rfl
   ·exact es rfl
   ·exact hcn2 _ ha _ hb rfl
   ·exact hcn2 _ hb _ ha rfl
   ·exact es rfl
 have hsl1:yW (Q'.set m (yW Q' ⟨p,m⟩++[k])) ⟨p,m⟩=yW Q' ⟨p,m⟩++[k]:=by
  show(Q'.set m _).getD (Int.toNat (m:Int)) []=_
  rw[yPj];exact zQ (uJ hmQ)
 have hsl2:∀q:Int,0≤q→q≠m→(Q'.set m (yW Q' ⟨p,m⟩++[k])).getD q.toNat []=Q'.getD q.toNat []:=by
  intro q h0 hne
  rw[yPa,jY (by omega),yPa]
 generalize hQ3:Q'.set m (yW Q' ⟨p,m⟩++[k])=Q3 at*
 have hQl:Q3.length=Q'.length:=by rw[← hQ3,yPw]
 have hpid:=dD
 have hord:∀s' (r:y3),(s'=1∨s'=2)→r∈b'.rungs s'→∀j∈yW Q' r,j≠k∧(jD (b'.a.put m id qty top) s' r.price j=jD b'.a s' r.price j∧jU (b'.a.put m id qty top) s' r.price j=jU b'.a s' r.price j):=by
  intro s' r hs' hr j hj
  have hjk:j≠k:=by rintro rfl;exact k4 _ _ (c.get hs' hr) hj
  have:=kent j
  rw[yOr hjk]at this
  refine⟨hjk,by rw[jD,jD,this],?_⟩
  have:=congrArg Ent.id this
  rw[jU,jU]
  exact congrArg (fun i=>(i,(⟨s',r.price,j⟩:Place))) this
 have hr0:∀s' (r:y3),(s'=1∨s'=2)→r∈b'.rungs s'→r.queue≠m→yW Q3 r=yW Q' r:=by
  intro s' r hs' hr hne
  exact hsl2 _ (c.rng _ (wW hs' hr)).1 hne
 generalize hB:({b' with a:=b'.a.put m id qty top,at_:=aQ id ⟨s,p,k⟩ b'.at_}:Book)=B3
 have hBr:∀s',B3.rungs s'=b'.rungs s':=by intro s';rw[← hB];rfl
 have hBa:B3.a=b'.a.put m id qty top:=by rw[← hB]
 have hBat:B3.at_=aQ id ⟨s,p,k⟩ b'.at_:=by rw[← hB]
 have hBqs:B3.qs=b'.qs:=by rw[← hB];rfl
 have hBsp:B3.spare=b'.spare:=by rw[← hB]
 have hro:∀s' (r:y3),(s'=1∨s'=2)→r∈b'.rungs s'→r.queue≠m→B3.rOrds Q3 s' r=b'.rOrds Q' s' r∧(yW Q3 r).map (jU B3.a s' r.price)=(yW Q' r).map (jU b'.a s' r.price):=by
  intro s' r hs' hr hne
  rw[Book.rOrds,Book.rOrds,hr0 s' r hs' hr hne,hBa]
  exact⟨yPx fun j hj=>(hord s' r hs' hr j hj).2.1,yPx fun j hj=>(hord s' r hs' hr j hj).2.2⟩
 have hnew:jD B3.a s p k=⟨id,s,p,qty,top⟩∧jU B3.a s p k=(id,⟨s,p,k⟩):=by
  have:=kent k
  rw[yOu rfl]at this
  rw[jD,hBa,this]
  refine⟨rfl,?_⟩
  have:=congrArg Ent.id this
  rw[jU]
  exact congrArg (fun i=>(i,(⟨s,p,k⟩:Place))) this
 have hroN:B3.rOrds Q3 s ⟨p,m⟩=b'.rOrds Q' s ⟨p,m⟩++[⟨id,s,p,qty,top⟩]∧(yW Q3 ⟨p,m⟩).map (jU B3.a s p)=(yW Q' ⟨p,m⟩).map (jU b'.a s p)++[(id,⟨s,p,k⟩)]:=by
  rw[Book.rOrds,Book.rOrds,hsl1,yPc,yPc,List.map_singleton,List.map_singleton]
  refine⟨?_,?_⟩
  ·rw[hnew.1,yPx (g:=jD b'.a s p) fun j hj=>by rw[hBa];exact(hord s ⟨p,m⟩ hs hrm j hj).2.1]
  ·rw[hnew.2,yPx (g:=jU b'.a s p) fun j hj=>by rw[hBa];exact(hord s ⟨p,m⟩ hs hrm j hj).2.2]
 have hR1:∀r∈R1,r∈b'.rungs s∧r.queue≠m:=by
  intro r hr
  have hm:r∈b'.rungs s:=by rw[h.rungs];exact yQd _ hr
  refine⟨hm,fun e=> ?_⟩
  have e2:=(hqd s r hs hm e).2
  have:=h.spl.a r hr
  rw[e2,pQ]at this;cases this
 have hR2:∀r∈R2,r∈b'.rungs s∧r.queue≠m:=by
  intro r hr
  have hm:r∈b'.rungs s:=by rw[h.rungs];exact yQf _ (yOz _ hr)
  refine⟨hm,fun e=> ?_⟩
  have e2:=(hqd s r hs hm e).2
  have:=h.spl.b r hr
  rw[e2,pQ]at this;cases this
 have zC:B3.sideL Q3 s=(R1.flatMap (b'.rOrds Q' s)++b'.rOrds Q' s ⟨p,m⟩)++⟨id,s,p,qty,top⟩::R2.flatMap (b'.rOrds Q' s):=by
  rw[Book.sideL,hBr,h.rungs,yQl,yQh,hroN.1,yX (l:=R1) (fun r hr=>(hro s r hs (hR1 r hr).1 (hR1 r hr).2).1),yX (l:=R2) (fun r hr=>(hro s r hs (hR2 r hr).1 (hR2 r hr).2).1)]
  simp
 have sideO:b'.sideL Q' s=(R1.flatMap (b'.rOrds Q' s)++b'.rOrds Q' s ⟨p,m⟩)++R2.flatMap (b'.rOrds Q' s):=by
  rw[Book.sideL,h.rungs,yQl,yQh,yPb]
 have plcN:(B3.plcs Q3 s).Perm ((id,⟨s,p,k⟩)::b'.plcs Q' s):=by
  rw[Book.plcs,hBr,h.rungs,yQl,yQh,hroN.2,yX (l:=R1) (fun r hr=>(hro s r hs (hR1 r hr).1 (hR1 r hr).2).2),yX (l:=R2) (fun r hr=>(hro s r hs (hR2 r hr).1 (hR2 r hr).2).2),Book.plcs,h.rungs,yQl,yQh]
  rw[yPb,List.singleton_append,← yPb]
  refine yPg.trans ?_
  rw[yPb]
 have other:∀s',s'≠s→s'=1∨s'=2→B3.sideL Q3 s'=b'.sideL Q' s'∧B3.plcs Q3 s'=b'.plcs Q' s':=by
  intro s' hne hs'
  have hne':∀r∈b'.rungs s',r.queue≠m:=fun r hr e=>hne (hqd s' r hs' hr e).1
  rw[Book.sideL,Book.sideL,Book.plcs,Book.plcs,hBr]
  exact⟨yX fun r hr=>(hro s' r hs' hr (hne' r hr)).1,yX fun r hr=>(hro s' r hs' hr (hne' r hr)).2⟩
 have bA:∀o∈R1.flatMap (b'.rOrds Q' s)++b'.rOrds Q' s ⟨p,m⟩,before s p o=true:=by
  intro o ho
  rcases yPv.1 ho with ho|ho
  ·obtain⟨r,hr,ho⟩:=yRb.1 ho
   obtain⟨e1,e2⟩:=xO ho
   rw[before,e1,e2,zRo (h.spl.a r hr)];simp
  ·obtain⟨e1,e2⟩:=xO ho
   rw[before,e1,e2,pQ];simp
 have bB:∀o∈R2.flatMap (b'.rOrds Q' s),before s p o=false:=by
  intro o ho
  obtain⟨r,hr,ho⟩:=yRb.1 ho
  obtain⟨e1,e2⟩:=xO ho
  rw[before,e1,e2,h.spl.b r hr];simp
 have bO:∀s',s'≠s→s'=1∨s'=2→∀o∈b'.sideL Q' s',before s p o=decide (s=2):=by
  intro s' hne hs' o ho
  have:=(dL ho).1
  exact zMw (by omega) (by omega) hs
 have flatE:∃A B,b'.flat Q'=A++B∧B3.flat Q3=A++⟨id,s,p,qty,top⟩::B∧(∀o∈A,before s p o=true)∧∀o∈B,before s p o=false:=by
  rcases hs with rfl|rfl
  ·refine⟨_,R2.flatMap (b'.rOrds Q' 1)++b'.sideL Q' 2,?_,?_,bA,fun o ho=> ?_⟩
   ·rw[Book.flat,sideO];simp only[yPb]
   ·rw[Book.flat,zC,(other 2 (by decide) (.inr rfl)).1];simp only[yPb,yQe]
   ·rcases yPv.1 ho with ho|ho
    ·exact bB o ho
    ·exact bO 2 (by decide) (.inr rfl) o ho
  ·refine⟨b'.sideL Q' 1++(R1.flatMap (b'.rOrds Q' 2)++b'.rOrds Q' 2 ⟨p,m⟩),R2.flatMap (b'.rOrds Q' 2),?_,?_,fun o ho=> ?_,bB⟩
   ·rw[Book.flat,sideO];simp only[yPb]
   ·rw[Book.flat,zC,(other 1 (by decide) (.inl rfl)).1];simp only[yPb]
   ·rcases yPv.1 ho with ho|ho
    ·exact bO 1 (by decide) (.inl rfl) o ho
    ·exact bA o ho
 obtain⟨A,B,f1,f2,f3,f4⟩:=flatE
 refine⟨Q3,A,B,⟨by rw[hBa];exact kw,fun s' hs'=>by rw[hBr];exact c.srt s' hs',by rw[hBqs,hQl];exact c.rng,by rw[hBqs];exact c.nd,by rw[hBqs,hQl];exact c.ql,fun s' hs' r hr _=> ?_,fun q hq=> ?_,?_,?_,by rw[hQl];exact c.qb⟩,f1,f2,f3,f4⟩
 ·rw[hBr]at hr
  by_cases e:r.queue=m
  ·obtain⟨rfl,rfl⟩:=hqd s' r hs' hr e
   rw[hsl1];simp
  ·rw[hr0 s' r hs' hr e];exact c.ne s' hs' r hr e
 ·rw[hBsp]at hq
  have hqq:q∈b'.qs:=yQf _ hq
  rw[hsl2 q (c.rng q hqq).1 fun e=> ?_]
  ·exact c.sp q hq
  ·have hcn:=c.nd
   rw[Book.qs]at hcn
   refine(yQx.1 hcn).2.2 m ?_ q hq e.symm
   rcases hs with rfl|rfl
   ·exact yQd _ (yQk.2 ⟨_,hrm,rfl⟩)
   ·exact yQf _ (yQk.2 ⟨_,hrm,rfl⟩)
 ·have hnk:id∉b'.at_.map (·.1):=by
   rw[c.keysP.mem_iff,h.flat];exact hid
  rw[hBat,zRi hnk]
  refine(ySs _ _).trans ?_
  rcases hs with rfl|rfl
  ·rw[(other 2 (by decide) (.inr rfl)).2]
   exact(c.at_.cons _).trans (plcN.symm.append_right _)
  ·rw[(other 1 (by decide) (.inl rfl)).2]
   refine(c.at_.cons _).trans ?_
   refine(yPg.symm).trans (plcN.symm.append_left _)
 ·rw[f2,yPc,yPd]
  have h1:=c.ids
  rw[f1,yPc]at h1
  have h2:id∉(A++B).map (·.id):=by rw[← f1,h.flat];exact hid
  refine yPg.nodup_iff.2 (yRd.2 ⟨by rw[yPc]at h2;exact h2,h1⟩)
open Go Cv Go.Proofs
def kR (L:List zG) (id:Int):Bool:=L.any fun o=>decide (o.id=id)
def zDr (L:List zG) (s id p q:Int):List zG×Int:=if q<1∨1000000<q then(L,24)else if kR L id=true then(L,25)else if 250≤L.length then(L,13)else(zNc L s id p q,0)
theorem hasId_iff {L:List zG} {id:Int}:kR L id=true↔id∈L.map (·.id):=by
 rw[kR,List.any_eq_true,yQk]
 constructor
 ·rintro⟨o,ho,e⟩;exact⟨o,ho,yRk e⟩
 ·rintro⟨o,ho,e⟩;exact⟨o,ho,yPn e⟩
theorem bP {b:Book} {Q:List (List Nat)} {o:zG} (h:o∈b.flat Q):(o.side=1∨o.side=2)∧∃r∈b.rungs o.side,o∈b.rOrds Q o.side r∧o.price=r.price:=by
 rcases yPv.1 h with h|h
 all_goals
  obtain⟨e,r,hr,ho,hp⟩:=dL h
  rw[e]
  exact⟨by simp,r,hr,ho,hp⟩
theorem flat_mem {b:Book} {Q:List (List Nat)} {s:Int} (hs:s=1∨s=2) {o:zG} (h:o∈b.sideL Q s):o∈b.flat Q:=by
 rcases hs with rfl|rfl
 ·exact yQd _ h
 ·exact yQf _ h
theorem Book.Core.leads {b:Book} {Q:List (List Nat)} (c:b.Core Q (-1)) {s:Int} (hs:s=1∨s=2) (p:Int):b.leads s p=vI (b.flat Q) s p:=by
 have hsrt:=c.srt s hs
 have hne:=c.ne s hs
 rw[Book.leads]
 cases hr:b.rungs s with
 |nil=>
  symm
  dsimp only
  rw[vI,yRq]
  intro o ho
  obtain⟨_,r,hr2,_⟩:=bP ho
  by_cases e:o.side=s
  ·rw[e,hr]at hr2;cases hr2
  ·rw[yPm e];rfl
 |cons r0 l=>
  dsimp only
  rw[hr,yUn]at hsrt
  have hm:r0∈b.rungs s:=by rw[hr];exact yOx
  cases hb:btr s p r0.price with
  |true=>
   symm
   rw[vI,yRq]
   intro o ho
   obtain⟨_,r,hr2,_,hp⟩:=bP ho
   by_cases e:o.side=s
   ·rw[e,hr]at hr2
    rw[hp]
    rcases yPk.1 hr2 with rfl|hr2
    ·rw[hb];simp
    ·rw[zLr hb (hsrt.1 r hr2)];simp
   ·rw[yPm e];rfl
  |false=>
   symm
   rw[vI,List.all_eq_false]
   have h0:=hne r0 hm fun e=>by have:=c.rng _ (wW hs hm);omega
   cases hk:yW Q r0 with
   |nil=>exact absurd hk h0
   |cons k ks=>
    refine⟨jD b.a s r0.price k,flat_mem hs (yRb.2 ⟨r0,hm,by rw[Book.rOrds,hk];exact yOx⟩),?_⟩
    show ¬((!decide (s=s))||btr s p r0.price)=true
    rw[hb];simp
theorem zVt {L:List zG} {s:Int} {o:zG} (h:o∈clr L s):∃o'∈L,o.id=o'.id∧o.side=o'.side∧o.price=o'.price∧o.qty=o'.qty∧o.top=(if o.side=s then false else o'.top):=by
 obtain⟨o',ho,e⟩:=yQk.1 h
 refine⟨o',ho,?_⟩
 by_cases c:o'.side=s
 ·rw[yOu c]at e
  subst e
  exact⟨rfl,rfl,rfl,rfl,(yOu c).symm⟩
 ·rw[yOr c]at e
  subst e
  exact⟨rfl,rfl,rfl,rfl,(yOr c).symm⟩
theorem z9t {L:List zG} {s:Int} {o:zG} (h:o∈L) (hs:o.side≠s):o∈clr L s:=yQk.2 ⟨o,h,yOr hs⟩
theorem zVy (L:List zG) (s:Int):(clr L s).map (·.id)=L.map (·.id):=by
 rw[clr,yRe]
 refine yPx fun o _=> ?_
 simp only[Function.comp]
 split<;>rfl
theorem zPb (b:Book) (id:Int) {s:Int} (hs:s=1∨s=2):(b.leadF id s).a=b.untop s∧(b.leadF id s).buys=b.buys∧(b.leadF id s).sells=b.sells∧(b.leadF id s).at_=b.at_∧(b.leadF id s).spare=b.spare∧∀s',s'=1∨s'=2→(b.leadF id s).hasF s'=(if s'=s then true else b.hasF s')∧(b.leadF id s).topI s'=(if s'=s then id else b.topI s'):=by
 rcases hs with rfl|rfl
 ·exact⟨rfl,rfl,rfl,rfl,rfl,fun s' h=>by rcases h with rfl|rfl<;>exact⟨rfl,rfl⟩⟩
 ·exact⟨rfl,rfl,rfl,rfl,rfl,fun s' h=>by rcases h with rfl|rfl<;>exact⟨rfl,rfl⟩⟩
theorem Book.Core.like {b b':Book} {Q:List (List Nat)} {h:Int} (c:b.Core Q h) (e1:b'.a=b.a) (e2:b'.buys=b.buys) (e3:b'.sells=b.sells) (e4:b'.at_=b.at_) (e5:b'.spare=b.spare):b'.Core Q h∧b'.flat Q=b.flat Q:=by
 have er:∀s,b'.rungs s=b.rungs s:=fun s=>by rw[Book.rungs,Book.rungs,e2,e3]
 have eo:∀s r,b'.rOrds Q s r=b.rOrds Q s r:=fun s r=>by rw[Book.rOrds,Book.rOrds,e1]
 have es:∀s,b'.sideL Q s=b.sideL Q s:=fun s=>by rw[Book.sideL,Book.sideL,er];exact yX fun r _=>eo s r
 have ep:∀s,b'.plcs Q s=b.plcs Q s:=fun s=>by rw[Book.plcs,Book.plcs,er,e1]
 have ef:b'.flat Q=b.flat Q:=by rw[Book.flat,Book.flat,es,es]
 have eq:b'.qs=b.qs:=by rw[Book.qs,Book.qs,e2,e3,e5]
 exact⟨⟨by rw[e1];exact c.wf,fun s hs=>by rw[er];exact c.srt s hs,by rw[eq];exact c.rng,by rw[eq];exact c.nd,by rw[eq];exact c.ql,fun s hs=>by rw[er];exact c.ne s hs,by rw[e5];exact c.sp,by rw[e4,ep,ep];exact c.at_,by rw[ef];exact c.ids,c.qb⟩,ef⟩
theorem Book.Rep.stand {b:Book} {L:List zG} (h:b.Rep L) {s:Int} (hs:s=1∨s=2) {id p q:Int} (hid:id∉L.map (·.id)) (hl:L.length<250) (hq:1≤q∧q≤1000000):(b.stand s id p q).Rep (zNc L s id p q):=by
 obtain⟨Q,c,ht,rfl⟩:=h
 have hld:=c.leads hs p
 have h1:(b.led id s p).Core Q (-1)∧(b.led id s p).flat Q=(if vI (b.flat Q) s p=true then clr (b.flat Q) s else b.flat Q):=by
  rw[Book.led,hld]
  split
  ·obtain⟨e1,e2,e3,e4,e5,_⟩:=zPb b id hs
   obtain⟨u1,u2⟩:=c.untop s
   obtain⟨v1,v2⟩:=Book.Core.like (b':=b.leadF id s) (c.flag u1 u2) e1 e2 e3 e4 e5
   exact⟨v1,v2.trans (c.untop_flat ht hs)⟩
  ·exact⟨c,rfl⟩
 obtain⟨c1,f1⟩:=h1
 have hlen1:((b.led id s p).flat Q).length<250:=by
  rw[f1];split
  ·rw[clr,yOs];exact hl
  ·exact hl
 have hid1:id∉((b.led id s p).flat Q).map (·.id):=by
  rw[f1];split
  ·rw[zVy];exact hid
  ·exact hid
 obtain⟨Q',R1,R2,hqd⟩:=c1.queue hlen1 hs p
 obtain⟨Q3,A,B,k1,k2,k3,k4,k5⟩:=hqd.put hs (b.leads s p) hid1 (c1.used hlen1) hq
 have hAB:A++B=(if vI (b.flat Q) s p=true then clr (b.flat Q) s else b.flat Q):=by rw[← k2,hqd.flat,f1]
 have hins:zNc (b.flat Q) s id p q=A++⟨id,s,p,q,b.leads s p⟩::B:=by
  rw[zNc]
  obtain⟨t1,t2⟩:=z1p k4 k5
  rw[← hAB,t1,t2,hld]
 refine⟨Q3,k1,?_,?_⟩
 ·rw[hins,hld]
  show Book.Tops {((b.led id s p).queueF s p).1 with a:=_,at_:=_} _
  have hto:∀x,({((b.led id s p).queueF s p).1 with a:=(((b.led id s p).queueF s p).1.a.push ((b.led id s p).queueF s p).2 id q (b.leads s p)).1,at_:=aQ id ⟨s,p,(((b.led id s p).queueF s p).1.a.push ((b.led id s p).queueF s p).2 id q (b.leads s p)).2.1⟩ ((b.led id s p).queueF s p).1.at_}:Book).hasF x=(b.led id s p).hasF x∧({((b.led id s p).queueF s p).1 with a:=(((b.led id s p).queueF s p).1.a.push ((b.led id s p).queueF s p).2 id q (b.leads s p)).1,at_:=aQ id ⟨s,p,(((b.led id s p).queueF s p).1.a.push ((b.led id s p).queueF s p).2 id q (b.leads s p)).2.1⟩ ((b.led id s p).queueF s p).1.at_}:Book).topI x=(b.led id s p).topI x:=hqd.qty
  generalize ({((b.led id s p).queueF s p).1 with a:=(((b.led id s p).queueF s p).1.a.push ((b.led id s p).queueF s p).2 id q (b.leads s p)).1,at_:=aQ id ⟨s,p,(((b.led id s p).queueF s p).1.a.push ((b.led id s p).queueF s p).2 id q (b.leads s p)).2.1⟩ ((b.led id s p).queueF s p).1.at_}:Book)=B3 at*
  have mAB:∀o,o∈A++⟨id,s,p,q,vI (b.flat Q) s p⟩::B↔o=⟨id,s,p,q,vI (b.flat Q) s p⟩∨o∈A++B:=by
   intro o
   rw[yPv,yPk,yPv]
   constructor
   ·rintro(h|h|h)
    ·exact .inr (.inl h)
    ·exact .inl h
    ·exact .inr (.inr h)
   ·rintro(h|h|h)
    ·exact .inr (.inl h)
    ·exact .inl h
    ·exact .inr (.inr h)
  have hsd:∀o∈b.flat Q,o.side=1∨o.side=2:=fun o ho=>(bP ho).1
  by_cases hlead:vI (b.flat Q) s p=true
  ·rw[yOu hlead]at hAB
   have hb1:b.led id s p=b.leadF id s:=by rw[Book.led,yOu (hld.trans hlead)]
   obtain⟨_,_,_,_,_,e6⟩:=zPb b id hs
   rw[hb1]at hto
   refine⟨fun o ho=> ?_,fun s' hs' hh=> ?_⟩
   ·rcases(mAB o).1 ho with rfl|ho
    ·rw[(hto s).1,(hto s).2,(e6 s hs).1,(e6 s hs).2,yOu rfl,yOu rfl,hlead];simp
    ·rw[hAB]at ho
     obtain⟨o',ho',i1,i2,_,_,i5⟩:=zVt ho
     rw[(hto _).1,(hto _).2,i5,(e6 o.side (by rw[i2];exact hsd o' ho')).1,(e6 o.side (by rw[i2];exact hsd o' ho')).2]
     by_cases e:o.side=s
     ·rw[yOu e,yOu e,yOu e,yRr]
      symm
      refine yPm fun e2=>hid ?_
      rw[← e2,i1];exact yPu ho'
     ·rw[yOr e,yOr e,yOr e,ht.fl o' ho',i1,i2]
   ·rw[(hto s').2,(e6 s' hs').2]
    by_cases e:s'=s
    ·rw[yOu e]
     exact⟨_,(mAB _).2 (.inl rfl),e.symm,rfl⟩
    ·rw[(hto s').1,(e6 s' hs').1,yOr e]at hh
     rw[yOr e]
     obtain⟨o,ho,o1,o2⟩:=ht.th s' hs' hh
     exact⟨o,(mAB _).2 (.inr (by rw[hAB];exact z9t ho (by rw[o1];exact e))),o1,o2⟩
  ·rw[yOr hlead]at hAB
   have hlf:vI (b.flat Q) s p=false:=by simpa using hlead
   have hb1:b.led id s p=b:=by rw[Book.led,yOr (by rw[hld];exact hlead)]
   rw[hb1]at hto
   refine⟨fun o ho=> ?_,fun s' hs' hh=> ?_⟩
   ·rw[(hto _).1,(hto _).2]
    rcases(mAB o).1 ho with rfl|ho
    ·show vI (b.flat Q) s p=(b.hasF s && decide (id=b.topI s))
     rw[hlf]
     cases hh:b.hasF s with
     |false=>rfl
     |true=>
      rw[yRr]
      symm
      refine yPm fun e2=>hid ?_
      obtain⟨o,ho,_,o2⟩:=ht.th s hs hh
      rw[e2,← o2];exact yPu ho
    ·rw[hAB]at ho;exact ht.fl o ho
   ·rw[(hto s').1]at hh
    rw[(hto s').2]
    obtain⟨o,ho,o1,o2⟩:=ht.th s' hs' hh
    exact⟨o,(mAB _).2 (.inr (by rw[hAB];exact ho)),o1,o2⟩
 ·rw[hins];exact k3.symm
theorem Book.Rep.pget {b:Book} {L:List zG} (h:b.Rep L) (id:Int):(pget b.at_ id).isSome=kR L id:=by
 obtain⟨Q,c,ht,rfl⟩:=h
 cases hg:Sx.pget b.at_ id with
 |none=>
  have:=zCj hg
  rw[c.keysP.mem_iff,← hasId_iff]at this
  symm;simpa using this
 |some x=>
  have:=yPu (f:=(·.1)) (nN hg)
  rw[c.keysP.mem_iff,← hasId_iff]at this
  symm;exact this
theorem Book.Rep.len {b:Book} {L:List zG} (h:b.Rep L):b.at_.length=L.length:=by
 obtain⟨Q,c,ht,rfl⟩:=h
 exact c.len
theorem Book.Rep.add {b:Book} {L:List zG} (h:b.Rep L) {s:Int} (hs:s=1∨s=2) (id p q:Int):(b.addF s id p q).1.Rep (zDr L s id p q).1∧(b.addF s id p q).2=(zDr L s id p q).2:=by
 rw[Book.addF,zDr,h.pget,h.len]
 repeat' split
 all_goals first|exact⟨h,rfl⟩|skip
 rename_i c1 c2 c3
 exact⟨h.stand hs (fun e=>c2 (hasId_iff.2 e)) (by omega) (by omega),rfl⟩
theorem z1g:book0.Rep []:=by
 refine⟨[],⟨⟨⟨by simp[book0,zHt],rfl,fun n l h=>by simp at h,fun n l h=>by simp at h,fun n l h=>by simp at h,fun k s hk hu=> ?_,?_⟩,fun n l h=>by simp at h⟩,fun s hs=> ?_,fun q hq=>by simp[book0,Book.qs]at hq,by simp[book0,Book.qs],rfl,fun s hs r hr=> ?_,fun q hq=>by simp[book0]at hq,?_,?_,by decide⟩,⟨fun o ho=>(by cases ho),fun s hs hh=> ?_⟩,?_⟩
 ·have:=yPe hk
  rw[yUc this]at hu;cases hu
 ·decide
 ·rcases hs with rfl|rfl<;>exact List.Pairwise.nil
 ·rcases hs with rfl|rfl<;>cases hr
 ·exact List.Perm.refl _
 ·exact List.nodup_nil
 ·rcases hs with rfl|rfl<;>cases hh
 ·rfl
open Go Cv Go.Proofs
structure BoI where
 b:Book
 s:Int
 r:y3
 l:List Nat
def BoI.ords (i:BoI):List zG:=(i.b.a.ents i.l).map fun e=>⟨e.id,i.s,i.r.price,e.qty,e.top⟩
def ordersC:Con:=con1 BoI (fun i=>[.nm 0 0,zA i.s,.agg [zA i.r.price,zA i.r.queue]]) (fun i=>[zW i.b]) (fun i=>i.b.a.listOk i.r.queue i.l) (fun _=> .own 1) (fun i=>[zW i.b,.own 56 5 (i.ords.map jE)])
def z9r (i:BoI):List SAnn:=[{ι:=Nat,slots:=fun j=>[(7,.own 0),(18,zA j)],rows:=fun j=>[.own 56 5 ((i.ords.take j).map jE)]}]
open Go Cv Go.Proofs
def vZ (a:ArL):=(List.map zDm (a.a.ents a.l))
def zYo (i:BoI):Prop:=
 ∃(a:ArL),a.n=i.r.queue∧AObj.adt Arena 3 zE a.a=AObj.adt Arena 3 zE i.b.a∧a.a.listOk a.n a.l∧∀(b:Unit),True→∃(c:Nat),(↑c:Int)=0∧List.map jE (List.take c i.ords)=[]∧∃(d:Nat→Prop),∃(e:Nat→Nat),d c∧∀(f:Nat),d f→cnd (decide ((↑f:Int)<(↑(vZ a).length:Int))) ((0≤(↑f:Int)∧(↑f:Int)<(↑(vZ a).length:Int))∧∃(g:Int),∃(h:Int),∃(j:Int),∃(k:Bool),zF (vZ a) (↑f:Int).toNat 0 4=some [dI g,dI h,dI j,D.v (.bool k)]∧((List.map jE (List.take f i.ords)).length+1)*(40:Nat)≤(140737488355328:Nat)∧∃(l:Nat),(↑l:Int)=IntKind.i64.wrap ((↑f:Int)+1)∧List.map jE (List.take l i.ords)=List.map jE (List.take f i.ords)++[[dI h,dI i.s,dI i.r.price,dI j,D.v (.bool k)]]∧d l∧e l<e f∧AObj.adt Arena 3 zE a.a=AObj.adt Arena 3 zE a.a∧AObj.own 246 4 (vZ a)=AObj.own 246 4 (vZ a)∧Sx.AObj.cells [V.d (dI i.r.price),V.d (dI i.r.queue)] 301=Sx.AObj.cells [V.d (dI i.r.price),V.d (dI i.r.queue)] 301∧Sx.AObj.cells (wT (qQ 0 1 6) [V.nm 1 0,V.own 2,V.own 3,V.mp 4,zA i.b.top1,zA i.b.top2,V.own 5,yB i.b.has1,yB i.b.has2]) (244:TypeId)=Sx.AObj.cells (wT (qQ 0 1 6) [V.nm 1 0,V.own 2,V.own 3,V.mp 4,zA i.b.top1,zA i.b.top2,V.own 5,yB i.b.has1,yB i.b.has2]) (244:TypeId)∧AObj.own 301 2 (List.map zB i.b.buys)=AObj.own 301 2 (List.map zB i.b.buys)∧AObj.own 301 2 (List.map zB i.b.sells)=AObj.own 301 2 (List.map zB i.b.sells)∧Sx.AObj.map (atE i.b.at_)=Sx.AObj.map (atE i.b.at_)∧AObj.own 3 1 (iE i.b.spare)=AObj.own 3 1 (iE i.b.spare)) (∃(g:Unit),i.b.top1=i.b.top1∧i.b.top2=i.b.top2∧i.b.has1=i.b.has1∧i.b.has2=i.b.has2∧AObj.adt Arena 3 zE i.b.a=AObj.adt Arena 3 zE a.a∧List.map zB i.b.buys=List.map zB i.b.buys∧List.map zB i.b.sells=List.map zB i.b.sells∧atE i.b.at_=atE i.b.at_∧iE i.b.spare=iE i.b.spare∧List.map jE i.ords=List.map jE (List.take f i.ords)∧True)
open Go Cv Go.Proofs
theorem yOg {l:List Ent} {k:Nat} {e:Ent} (h:l[k]? =some e):zF (l.map zDm) k 0 4=some [D.v (.int .i64 e.slot),.v (.int .i64 e.id),.v (.int .i64 e.qty),.v (.bool e.top)]:=elA h (by simp[zDm]) rfl
theorem yAg (i:BoI) (h:ordersC.cnd i):zYo i:=by
 have h:i.b.a.listOk i.r.queue i.l:=h
 have hl:=h.len
 have hen:(i.b.a.ents i.l).length=i.l.length:=by simp[Arena.ents]
 have hol:i.ords.length=i.l.length:=by simp[BoI.ords,Arena.ents]
 unfold zYo vZ dI
 refine⟨⟨i.b.a,i.r.queue,i.l⟩,rfl,rfl,h,fun _ _=> ?_⟩
 simp only[yOs]
 refine⟨0,rfl,rfl,fun j=>j≤i.l.length,fun j=>i.l.length-j,yQn _,fun j hj=>zI (fun c=> ?_) (fun c=> ?_)⟩
 ·obtain⟨e,he⟩:=z8 (l:=i.b.a.ents i.l) (i:=j) (by omega)
  have ho:i.ords[j]? =some ⟨e.id,i.s,i.r.price,e.qty,e.top⟩:=by rw[BoI.ords,yQg,he];rfl
  refine⟨⟨by omega,by omega⟩,e.slot,e.id,e.qty,e.top,yOg he,by rw[yPl];omega,j+1,wjn (by omega),?_,by omega,by dsimp only;omega,by(repeat'(first|exact trivial|exact rfl|apply And.intro))⟩
  rw[yQb,ho];simp[jE]
 ·have hje:j=i.l.length:=by omega
  subst hje
  rw[yPf (l:=i.ords) (by omega)]
  (repeat'(first|exact rfl|exact trivial|assumption|apply And.intro|refine fun(_:Unit) (_:True)=>?_|refine Exists.intro () ?_|omega|(dsimp only;omega)))
theorem zLc:ordersC.ok Tryz.prog 250:=okw mixed (gokc z7q gok0) 0 (fun _=>[]) (fun i=>z9r i) [0] Tryz.func250 yAg
open Go Go.RowKit Cv
theorem zQp {P:Program} {tS rt e sz by_:Nat} {z:Array Value} (hi:wV P tS=some (e,sz,by_,z)) {w:World} {g i c n k:Nat} {A:Option Addr} {cur src:List Value} {T:TypeId}
 (hg:w.heap[g]? =some (.cells cur.toArray T (0,0))) (hs:(Builtin.firstCells sz n (.slice A n k)).run P w= .ok src.toArray w) (hl:src.length=n*sz) (hfit:i+n≤c) (hroom:i*sz+n*sz≤cur.length) (hone:∀v∈src,v.oneC=true):
 vQ P (Builtin.append_ #[tS,tS] rt #[.slice (some ⟨g,0,none⟩) i c,.slice A n k]) w (.slice (some ⟨g,0,none⟩) (i+n) c) (World.setB w g (.cells (spl cur (i*sz) src).toArray T (0,0))):=by
 obtain⟨inf,zv,q1,q2,rfl,rfl,q5,rfl⟩:=qN hi
 have hst:=kK (P:=P) src 0 (i*inf.size) cur w hg (by omega) hone
 simp only[ySo]at hst
 have hln:∀w,(Builtin.lenOf (.slice A n k)).run P w= .ok n w:=fun w=>rfl
 unfold vQ Builtin.append_
 simp only[yQm,yQs,yQj,bind,pure,run_bind,Sem.bind,Sem.run,Cv.run_underlying q1,Cv.run_sizeOf q2,yPi,if_false,hs,hln,hfit,if_true,wU,yPr,hst,yTy]
theorem zTx {P:Program} {tS ty e sz by_:Nat} {z:Array Value} (hi:wV P tS=some (e,sz,by_,z)) (hz:z.size=sz) (h1:∀v∈z.toList,v.oneC=true) {w:World} {g o n c:Nat} {cur:List Value} {T:TypeId} (hn:0<n)
 (hg:w.heap[g]? =some (.cells cur.toArray T (0,0))) (hroom:o+n*sz≤cur.length):
 vQ P (Builtin.clear_ #[tS] ty #[.slice (some ⟨g,o,none⟩) n c]) w (.tuple #[]) (World.setB w g (.cells (spl cur o (Builtin.zeroCells z n).toList).toArray T (0,0))):=by
 obtain⟨inf,zv,q1,q2,rfl,rfl,q5,rfl⟩:=qN hi
 have hlz:(Builtin.zeroCells zv.cells n).toList.length=n*inf.size:=by rw[yTg,size_zeroCells,hz]
 have hst:=kK (P:=P) (Builtin.zeroCells zv.cells n).toList 0 o cur w hg (by omega) (by
  intro v hv
  obtain⟨i,hi,rfl⟩:=List.getElem_of_mem hv
  simp only[Builtin.zeroCells,Array.getElem_toList,Array.getElem_map,Array.getElem_range]
  have hpos:0<zv.cells.size:=by
   rcases Nat.eq_zero_or_pos zv.cells.size with h0|h0
   ·rw[hlz,← hz,h0]at hi;omega
   ·exact h0
  have hlt:i % zv.cells.size<zv.cells.size:=Nat.mod_lt _ hpos
  rw[getElem!_pos zv.cells (i % zv.cells.size) hlt]
  exact h1 _ (by simp))
 simp only[ySo]at hst
 have hzr:∀w,(zeroValue e).run P w= .ok zv w:=fun w=>zero_run (by unfold zero?;rw[q2];exact q5) w
 obtain⟨m,rfl⟩:∃m,n=m+1:=⟨n-1,by omega⟩
 unfold vQ Builtin.clear_
 simp only[yQm,yQs,yQj,bind,pure,run_bind,Sem.bind,Sem.run,Cv.run_underlying q1,hzr,hst]
def yHn (P:Program) (tS sz:Nat) (s:Option Addr) (sn sk:Nat) (i j:Int) (w:World) (R:Ending→World→Prop):Prop:=
yHy s sk i j (sn:Int) sz fun a1 na1 ka1=>
cnd ((i:Int)==j) (
R (.returned (.slice s sn sk)) w) (
zYd w fun w2=>
slN s sn sk none (some i) sz fun a3 na3 ka3=>
slN s sn sk (some j) none sz fun a4 na4 ka4=>
∃(a5:Option Addr) (na5 ka5:Nat),∃w6:World,vQ P (Builtin.append_ #[tS,tS] tS #[.slice a3 na3 ka3,.slice a4 na4 ka4]) w2 (.slice a5 na5 ka5) w6∧
slN a5 na5 ka5 (some (na5:Int)) (some (sn:Int)) sz fun a7 na7 ka7=>
∃w8:World,vQ P (Builtin.clear_ #[tS] 0 #[.slice a7 na7 ka7]) w6 (.tuple #[]) w8∧
R (.returned (.slice a5 na5 ka5)) w8)
theorem yOl {P:Program} {tS e sz by_:Nat} {z:Array Value} (hi:wV P tS=some (e,sz,by_,z)) (hz:z.size=sz) (hz1:∀v∈z.toList,v.oneC=true)
 {k:Ko} {w:World} {L:List HP} {s:Option Addr} {sn sk i j:Nat} {xs:List Value} (H:Hp k w (slO e sz s sn sk xs::L)) (h1:∀u∈xs,u.oneC=true) (hij:i<j) (hj:j≤sn):
 yHn P tS sz s sn sk i j w fun en w'=>∃a kk,en= .returned (.slice a (sn-(j-i)) kk)∧Hp k w' (slO e sz a (sn-(j-i)) kk (xs.take (i*sz)++xs.drop (j*sz))::L):=by
 obtain⟨hxl,hnk⟩:=H.len
 rcases H.slcases with⟨_,e0,_⟩|⟨b,r,rfl,g1,g2,g3,H0⟩
 ·omega
 have hle:i*sz≤xs.length:=by rw[hxl];exact yQq _ (by omega)
 have hjle:j*sz≤xs.length:=by rw[hxl];exact yQq _ hj
 have hdl:(xs.drop (j*sz)).length=(sn-j)*sz:=by rw[yPq,hxl,Nat.sub_mul]
 have hsum:i*sz+(sn-j)*sz=(sn-(j-i))*sz:=by rw[← yRm];congr 1;omega
 have hsum2:i*sz+(sn-j)*sz+(j-i)*sz=sn*sz:=by rw[← yRm,← yRm];congr 1;omega
 have hsum3:j*sz+(sn-j)*sz=sn*sz:=by rw[← yRm];congr 1;omega
 have hlen:(xs++r).length=xs.length+r.length:=yOw
 unfold yHn
 simp only[yHy,slN,yPj]
 refine⟨⟨by omega,by omega,by omega,by omega⟩,Cv.cnd.mk (fun c=>absurd c (by simp;omega)) fun _=> ?_⟩
 rintro _ rfl
 have H1:=H0.drew
 have hsrc:(Builtin.firstCells sz (sn-j) (.slice (if sk=j then some ⟨b,0,none⟩else(some ⟨b,0,none⟩:Option Addr).map (·.add (j*sz))) (sn-j) (sk-j))).run P w.drew= .ok (xs.drop (j*sz)).toArray w.drew:=by
  by_cases h0:(sn-j)*sz=0
  ·have:xs.drop (j*sz)=[]:=yPo (by omega)
   rw[this]
   by_cases hk:sk=j
   ·rw[yOu hk];unfold Builtin.firstCells;rw[h0];rfl
   ·rw[yOr hk,yQp,wU];unfold Builtin.firstCells;rw[h0];rfl
  ·have hk:sk≠j:=by rintro rfl;have:sn-sk=0:=by omega
                    rw[this]at h0;simp at h0
   rw[yOr hk,yQp,wU]
   unfold Builtin.firstCells
   rw[vD H1.get (by rw[hlen];omega)]
   rw[yPr,yRj hjle,yPs (by omega),yPf (by omega)]
 refine⟨⟨by omega,by omega⟩,⟨by omega,by omega,hnk⟩,_,_,_,_,zQp (i:=i) (c:=sk) hi H1.get hsrc hdl (by omega) (by rw[hlen];omega) (fun v hv=>h1 v (ySe hv)),⟨by omega,by omega,by omega⟩,?_⟩
 have H2:=H1.upd (.cells (spl (xs++r) (i*sz) (xs.drop (j*sz))).toArray e)
 have e1:i+(sn-j)=sn-(j-i):=by omega
 rw[yOr (show sk≠i+(sn-j)by omega),yQp,wU,yPr,e1]
 have espl:spl (xs++r) (i*sz) (xs.drop (j*sz))=(xs.take (i*sz)++xs.drop (j*sz))++(xs++r).drop ((sn-(j-i))*sz):=by
  simp only[spl]
  rw[yPs hle,hdl,hsum]
 rw[espl]at H2
 have hA:(xs.take (i*sz)++xs.drop (j*sz)).length=(sn-(j-i))*sz:=by
  rw[yOw,yPl,hdl];omega
 have hB:((xs++r).drop ((sn-(j-i))*sz)).length=(j-i)*sz+r.length:=by
  rw[yPq,hlen];omega
 rw[espl]
 have hn:sn-(sn-(j-i))=j-i:=by omega
 rw[hn]
 refine⟨_,zTx hi hz hz1 (by omega) H2.get (by rw[yOw,hA,hB];omega),_,_,rfl,?_⟩
 have H3:=H2.upd (.cells (spl (xs.take (i*sz)++xs.drop (j*sz)++(xs++r).drop ((sn-(j-i))*sz)) ((sn-(j-i))*sz) (Builtin.zeroCells z (j-i)).toList).toArray e)
 have es:=zOe (xs.take (i*sz)++xs.drop (j*sz)) ((xs++r).drop ((sn-(j-i))*sz)) (Builtin.zeroCells z (j-i)).toList
 rw[hA]at es
 rw[es]at H3
 rw[es]
 rw[yPb (xs.take (i*sz)++xs.drop (j*sz))]at H3 ⊢
 have hzl:(Builtin.zeroCells z (j-i)).toList.length=(j-i)*sz:=by rw[yTg,size_zeroCells,hz]
 refine H3.slmk hA ?_ (by omega)
 rw[yOw,hA,yOw,hzl,yPq,hB,← g2,hlen,hxl]
 omega
structure yIq where
 els:List (List D)
 i:Nat
 j:Nat
def yEx (e sz:Nat):Con where
 ι:=yIq
 pat:=fun i=>[.own 0,.d (.v (.int .i64 i.i)),.d (.v (.int .i64 i.j))]
 pre:=fun i=>[.own e sz i.els]
 cnd:=fun i=>i.i<i.j∧i.j≤i.els.length
 alts:=fun i=>[{o:=Unit,res:=fun _=> .own 1,post:=fun _=>[.gone,.own e sz (i.els.take i.i++i.els.drop i.j)],rel:=fun _=>True}]
theorem delX_ok {P:Program} (hm:P.follows .mixedOrders=true) {tS e sz by_ fI:Nat} {z:Array Value} {fn:Func} {c:Code} (hf:P.funcs[fI]? =some fn) (hb:fn.body=some c) (hbd:wB P fI=true) (hok:okC fn.ntmps c=true) (hfx:okF [] c=true) (hsz3:Nat.ble 3 fn.ntmps=true)
 (hi:wV P tS=some (e,sz,by_,z)) (hz:z.size=sz) (hz1:∀v∈z.toList,v.oneC=true)
 (heq:∀(s:Option Addr) (sn sk:Nat) (i j:Int) (w:World) (R:Ending→World→Prop),yHn P tS sz s sn sk i j w R=cwp P [] c (zNq P fn R) (wM [.slice s sn sk,.int .i64 i,.int .i64 j]) w):
 (yEx e sz).ok P fI:=by
 intro i hc k L E w ys R hv
 obtain⟨c1,c2⟩:i.i<i.j∧i.j≤i.els.length:=hc
 simp only[yEx,VRL,VR,DR]at hv
 obtain⟨y0,_,rfl,⟨l0,e0,_⟩,y1,_,rfl,⟨rfl,_⟩,y2,_,rfl,⟨rfl,_⟩,rfl⟩:=hv
 obtain⟨s,sk,xs,sub0,g1,hxs,hu,H⟩:=R.ownOpen (n:=0) (t:=e) (sz:=sz) (els:=i.els) rfl
 rw[e0]at g1;cases g1
 have H2:Hp k w (slO e sz s i.els.length sk xs::fz E.F::L):=H
 have hv:=yOl hi hz hz1 H2 hxs.one c1 c2
 have hcall:=zDg (args:=[.slice s i.els.length sk,.int .i64 i.i,.int .i64 i.j]) hm hf hb [] hok hfx hsz3 (heq s i.els.length sk i.i i.j w _) hv
 refine sY hbd (hcall.mono ?_)
 rintro en w' ⟨a,kk,rfl,H3⟩
 have hl:(i.els.take i.i++i.els.drop i.j).length=i.els.length-(i.j-i.i):=by
  rw[yOw,yPl,yPq];omega
 have H4:Hp k w' (slO e sz a (i.els.take i.i++i.els.drop i.j).length kk (xs.take (i.i*sz)++xs.drop (i.j*sz))::(([]:List (Nat×AObj)).map (rHP E)++fz E.F::L)):=by
  rw[hl]
  exact H3
 obtain⟨E',r1,r2,r3⟩:=fZ (nx:=1) R.nx (by
  rw[List.flatten_append,← cZ i.i hu,← bX i.j hu]
  exact(hxs.take _).append (hxs.drop _)) (fun x hx=>by
   rcases yPv.1 hx with hx|hx
   ·exact hu x (yTw hx)
   ·exact hu x (ySe hx)) H4
 rw[hl]at r3
 refine⟨_,rfl,_,yQr.2 rfl,(),trivial,E',r1,r3,⟨r2.nx,?_⟩⟩
 exact((@wE k w' True _).2 ⟨trivial,r2.hp⟩).imp (B:=rHP E' (0,.gone)) fun x hx=> .inl ⟨rfl,hx.2⟩
open Go Cv Go.Proofs
def cM (k:Int):List (Int×Place)→List (Int×Place)
 |[]=>[]
 |(a,b)::l=>if k=a then l else(a,b)::cM k l
structure DrI where
 b:Book
 id:Int
 price:Int
 slot:Int
def Book.unhas (b:Book) (s id:Int):Book:=if b.hasF s=true∧b.topI s=id then(if s=1 then{b with has1:=false}else{b with has2:=false})else b
def Book.dropF (b:Book) (s id price:Int):Book:=
 if(b.a.qAt ((b.rungs s).getD (zS s (b.rungs s) price) ⟨0,0⟩).queue).count=0 then
  ({b.unhas s id with at_:=cM id b.at_,spare:=b.spare++[((b.rungs s).getD (zS s (b.rungs s) price) ⟨0,0⟩).queue]}:Book).setR s ((b.rungs s).take (zS s (b.rungs s) price)++(b.rungs s).drop (zS s (b.rungs s) price+1))
 else{b.unhas s id with at_:=cM id b.at_}
def yCd (b:Book):AObj:= .cells [.nm 1 0,.own 6,.own 7,.mp 4,zA b.top1,zA b.top2,.own 8,yB b.has1,yB b.has2] 244
@[reducible] def yCu (b:Book):List AObj:=[yCd b,zO b 1,.gone,.gone,zO b 4,.gone,zO b 2,zO b 3,zO b 5]
@[reducible] def DrI.ok (i:DrI) (s:Int):Prop:=i.b.small∧zS s (i.b.rungs s) i.price<(i.b.rungs s).length
def z6l (s:Int):Con:=con1 DrI (fun i=>[.nm 0 0,zA i.id,.agg [zA s,zA i.price,zA i.slot]]) (fun i=>zCt i.b) (fun i=>i.ok s) (fun _=>eQ) (fun i=>yCu (i.b.dropF s i.id i.price))
def drop1C:Con:=z6l 1
def drop2C:Con:=z6l 2
structure DrJ where
 i:DrI
 s:Bool
def dropC:Con:=con1 DrJ (fun j=>[.nm 0 0,zA j.i.id,.agg [zA (zC j.s),zA j.i.price,zA j.i.slot]]) (fun j=>zCt j.i.b) (fun j=>j.i.ok (zC j.s)) (fun _=>eQ) (fun j=>yCu (j.i.b.dropF (zC j.s) j.i.id j.i.price))
def delRC:Con:=yEx 301 2
def yGd:zG:=⟨0,0,0,0,false⟩
def uX (L:List zG) (id:Int):zG:=(L.find? fun o=>decide (o.id=id)).getD yGd
def wS (L:List zG) (id q:Int):List zG:=L.filterMap fun o=>if o.id=id then(if o.qty=q then none else some {o with qty:=o.qty-q})else some o
def xF (L:List zG) (id q:Int):List zG×Int:=if kR L id=false then(L,26)else if q<1∨(uX L id).qty<q then(L,24)else(wS L id q,0)
def atL (L:List zG) (s p:Int):List zG:=L.filter fun o=>decide (o.side=s) && decide (o.price=p)
def grp:List zG→List Lv
 |[]=>[]
 |o::l=>match grp l with
  |[]=>[⟨o.price,o.qty,1⟩]
  |v::vs=>if v.price=o.price then⟨v.price,o.qty+v.qty,v.count+1⟩::vs else⟨o.price,o.qty,1⟩::v::vs
def g7 (L:List zG) (s:Int):List Lv:=grp (L.filter fun o=>decide (o.side=s))
def bestL (L:List zG) (s:Int):Lv×Bool:=match g7 L s with
 |[]=>(⟨0,0,0⟩,false)
 |v::_=>(v,true)
structure BkL where
 b:Book
 L:List zG
structure FlI where
 b:Book
 L:List zG
 id:Int
 qty:Int
structure AtI where
 b:Book
 L:List zG
 s:Bool
 price:Int
def fillC:Con where
 ι:=FlI
 pat:=fun i=>[.nm 0 0,zA i.id,zA i.qty]
 pre:=fun i=>[zW i.b]
 cnd:=fun i=>i.b.Rep i.L
 alts:=fun i=>[{o:=Book,res:=fun _=>zA (xF i.L i.id i.qty).2,post:=fun b=>[zW b],rel:=fun b=>b.Rep (xF i.L i.id i.qty).1}]
def bfindC:Con:=con1 FlI (fun i=>[.nm 0 0,zA i.id]) (fun i=>[zW i.b]) (fun i=>i.b.Rep i.L) (fun i=> .tup [z0m (uX i.L i.id),yB (kR i.L i.id)]) (fun i=>[zW i.b])
def yKa (s:Bool):Con:=con1 AtI (fun i=>[.nm 0 0,zA (zC s),zA i.price]) (fun i=>[zW i.b]) (fun i=>i.b.Rep i.L) (fun _=> .own 1) (fun i=>[zW i.b,.own 56 5 ((atL i.L (zC s) i.price).map jE)])
def at1C:Con:=yKa false
def at2C:Con:=yKa true
def atC:Con:=con1 AtI (fun i=>[.nm 0 0,zA (zC i.s),zA i.price]) (fun i=>[zW i.b]) (fun i=>i.b.Rep i.L) (fun _=> .own 1) (fun i=>[zW i.b,.own 56 5 ((atL i.L (zC i.s) i.price).map jE)])
open Go Cv Go.Proofs
def yU (a:DrI):=(a.b.dropF 1 a.id a.price)
def zAq (a:BkP) (b:DrI):Prop:=a.b.has2=b.b.has2∧AObj.adt Arena 3 zE a.b.a=zO b.b 1∧List.map zB a.b.buys=List.map zB b.b.buys∧List.map zB a.b.sells=List.map zB b.b.sells∧atE a.b.at_=rY (Value.int IntKind.i64 b.id) (atE b.b.at_)∧iE a.b.spare=iE b.b.spare∧(xJ a)∧∀(c:Unit),True→(v8 a)∧∃(d:Int),zF (List.map zB a.b.buys) (xA a).toNat ((0:Nat)+(1:Nat)) 1=some [dI d]∧∃(e:ArN),e.n=d∧AObj.adt Arena 3 zE e.a=AObj.adt Arena 3 zE a.b.a∧True∧∀(f:Unit),True→cnd ((e.a.qAt e.n).count==0) (((iE a.b.spare).length+1)*(8:Nat)≤(140737488355328:Nat)∧∃(g:yIq),(↑g.i:Int)=(xA a)∧(↑g.j:Int)=IntKind.i64.wrap ((xA a)+1)∧g.els=List.map zB a.b.buys∧(g.i<g.j∧g.j≤g.els.length)∧∀(h:Unit),True→(1:Int)=(1:Int)∧∃(j:Unit),(yU b).top1=a.b.top1∧(yU b).top2=a.b.top2∧(yU b).has1=a.b.has1∧(yU b).has2=a.b.has2∧AObj.adt Arena 3 zE (yU b).a=AObj.adt Arena 3 zE e.a∧atE (yU b).at_=atE a.b.at_∧List.map zB (yU b).buys=List.take g.i g.els++List.drop g.j g.els∧List.map zB (yU b).sells=List.map zB a.b.sells∧iE (yU b).spare=iE a.b.spare++[[dI d]]∧True) (∃(g:Unit),(yU b).top1=a.b.top1∧(yU b).top2=a.b.top2∧(yU b).has1=a.b.has1∧(yU b).has2=a.b.has2∧AObj.adt Arena 3 zE (yU b).a=AObj.adt Arena 3 zE e.a∧atE (yU b).at_=atE a.b.at_∧List.map zB (yU b).buys=List.map zB a.b.buys∧List.map zB (yU b).sells=List.map zB a.b.sells∧iE (yU b).spare=iE a.b.spare∧True)
def zBp (a:DrI):Prop:=∃(b:BkP),(1:Int)=(1:Int)∧b.price=a.price∧b.b.top1=a.b.top1∧b.b.top2=a.b.top2∧b.b.has1=a.b.has1∧zAq b a
def z2m (i:DrI):Prop:=
 (∀(a:Value×List D),a∈atE i.b.at_→like (Value.int IntKind.i64 i.id) a.fst=true)∧cnd i.b.has1 (cnd (i.b.top1==i.id) (∃(a:BkP),(1:Int)=(1:Int)∧a.price=i.price∧a.b.top1=i.b.top1∧a.b.top2=i.b.top2∧a.b.has1=false∧zAq a i) (zBp i)) (zBp i)
def yT (a:DrI):=(a.b.dropF 2 a.id a.price)
def zBh (a:BkP) (b:DrI):Prop:=AObj.adt Arena 3 zE a.b.a=zO b.b 1∧List.map zB a.b.buys=List.map zB b.b.buys∧List.map zB a.b.sells=List.map zB b.b.sells∧atE a.b.at_=rY (Value.int IntKind.i64 b.id) (atE b.b.at_)∧iE a.b.spare=iE b.b.spare∧(xJ a)∧∀(c:Unit),True→(v7 a)∧∃(d:Int),zF (List.map zB a.b.sells) (xB a).toNat ((0:Nat)+(1:Nat)) 1=some [dI d]∧∃(e:ArN),e.n=d∧AObj.adt Arena 3 zE e.a=AObj.adt Arena 3 zE a.b.a∧True∧∀(f:Unit),True→cnd ((e.a.qAt e.n).count==0) (((iE a.b.spare).length+1)*(8:Nat)≤(140737488355328:Nat)∧∃(g:yIq),(↑g.i:Int)=(xB a)∧(↑g.j:Int)=IntKind.i64.wrap ((xB a)+1)∧g.els=List.map zB a.b.sells∧(g.i<g.j∧g.j≤g.els.length)∧∀(h:Unit),True→(2:Int)=(2:Int)∧∃(j:Unit),(yT b).top1=a.b.top1∧(yT b).top2=a.b.top2∧(yT b).has1=a.b.has1∧(yT b).has2=a.b.has2∧AObj.adt Arena 3 zE (yT b).a=AObj.adt Arena 3 zE e.a∧atE (yT b).at_=atE a.b.at_∧List.map zB (yT b).buys=List.map zB a.b.buys∧List.map zB (yT b).sells=List.take g.i g.els++List.drop g.j g.els∧iE (yT b).spare=iE a.b.spare++[[dI d]]∧True) (∃(g:Unit),(yT b).top1=a.b.top1∧(yT b).top2=a.b.top2∧(yT b).has1=a.b.has1∧(yT b).has2=a.b.has2∧AObj.adt Arena 3 zE (yT b).a=AObj.adt Arena 3 zE e.a∧atE (yT b).at_=atE a.b.at_∧List.map zB (yT b).buys=List.map zB a.b.buys∧List.map zB (yT b).sells=List.map zB a.b.sells∧iE (yT b).spare=iE a.b.spare∧True)
def zAj (a:DrI):Prop:=∃(b:BkP),(2:Int)=(2:Int)∧b.price=a.price∧b.b.top1=a.b.top1∧b.b.top2=a.b.top2∧b.b.has1=a.b.has1∧b.b.has2=a.b.has2∧zBh b a
def z2w (i:DrI):Prop:=
 (∀(a:Value×List D),a∈atE i.b.at_→like (Value.int IntKind.i64 i.id) a.fst=true)∧cnd i.b.has2 (cnd (i.b.top2==i.id) (∃(a:BkP),(2:Int)=(2:Int)∧a.price=i.price∧a.b.top1=i.b.top1∧a.b.top2=i.b.top2∧a.b.has1=i.b.has1∧a.b.has2=false∧zBh a i) (zAj i)) (zAj i)
def tY (a:FlI):Prop:=List.map zB a.b.buys=List.map zB a.b.buys∧List.map zB a.b.sells=List.map zB a.b.sells∧atE a.b.at_=atE a.b.at_∧iE a.b.spare=iE a.b.spare∧True
def zAo (a:Int) (b:FlI) (c:Int) (d:Int):Prop:=∃(e:ArN),e.n=a∧AObj.adt Arena 3 zE e.a=AObj.adt Arena 3 zE b.b.a∧e.a.slots.length≤1000000∧∀(f:Unit),True→∃(g:Unit),(uX b.L b.id).id=b.id∧(uX b.L b.id).side=c∧(uX b.L b.id).price=d∧(uX b.L b.id).qty=(e.a.getF e.n).fst.qty∧(uX b.L b.id).top=(e.a.getF e.n).fst.top∧kR b.L b.id=true∧b.b.top1=b.b.top1∧b.b.top2=b.b.top2∧b.b.has1=b.b.has1∧b.b.has2=b.b.has2∧AObj.adt Arena 3 zE b.b.a=AObj.adt Arena 3 zE e.a∧tY b
def mO (a:FlI) (b:Int) (c:Int) (d:Int) (e:Bool):Prop:=wF (Value.int IntKind.i64 a.id) (atE a.b.at_)=some [dI b,dI c,dI d]∧e=true∨wF (Value.int IntKind.i64 a.id) (atE a.b.at_)=none∧[dI b,dI c,dI d]=[dI 0,dI 0,dI 0]∧e=false
def z5x (i:FlI):Prop:=
 (∀(a:Value×List D),a∈atE i.b.at_→like (Value.int IntKind.i64 i.id) a.fst=true)∧∃(a:Bool),∃(b:Int),∃(c:Int),∃(d:Int),(mO i b c d a)∧cnd (!a) (∃(e:Unit),(uX i.L i.id).id=0∧(uX i.L i.id).side=0∧(uX i.L i.id).price=0∧(uX i.L i.id).qty=0∧(uX i.L i.id).top=false∧kR i.L i.id=false∧i.b.top1=i.b.top1∧i.b.top2=i.b.top2∧i.b.has1=i.b.has1∧i.b.has2=i.b.has2∧AObj.adt Arena 3 zE i.b.a=AObj.adt Arena 3 zE i.b.a∧tY i) ((zAo d i b c)∧d=d∧True∧zAo d i b c)
def rE (a:Book) (b:FlI):Prop:=List.map zB a.buys=List.map zB b.b.buys∧List.map zB a.sells=List.map zB b.b.sells∧atE a.at_=atE b.b.at_∧iE a.spare=iE b.b.spare∧a.Rep (xF b.L b.id b.qty).fst
def jG (a:DrJ):=(a.i.b.dropF (zC a.s) a.i.id a.i.price)
def zFm (a:FlI) (b:Int) (c:Int) (d:Int) (e:ArN):Prop:=∃(f:DrJ),f.i.id=a.id∧zC f.s=b∧f.i.price=c∧f.i.slot=d∧f.i.b.top1=a.b.top1∧f.i.b.top2=a.b.top2∧f.i.b.has1=a.b.has1∧f.i.b.has2=a.b.has2∧AObj.adt Arena 3 zE f.i.b.a=AObj.adt Arena 3 zE e.a∧List.map zB f.i.b.buys=List.map zB a.b.buys∧List.map zB f.i.b.sells=List.map zB a.b.sells∧atE f.i.b.at_=atE a.b.at_∧iE f.i.b.spare=iE a.b.spare∧(((f.i.b.a.slots.length≤1000000∧f.i.b.a.queues.length≤1000000)∧f.i.b.buys.length≤1000000∧f.i.b.sells.length≤1000000∧f.i.b.spare.length≤1000000)∧zS (zC f.s) (f.i.b.rungs (zC f.s)) f.i.price<(f.i.b.rungs (zC f.s)).length)∧∀(g:Unit),True→∃(h:Book),(xF a.L a.id a.qty).snd=0∧h.top1=(jG f).top1∧h.top2=(jG f).top2∧h.has1=(jG f).has1∧h.has2=(jG f).has2∧AObj.adt Arena 3 zE h.a=AObj.adt Arena 3 zE (jG f).a∧List.map zB h.buys=List.map zB (jG f).buys∧List.map zB h.sells=List.map zB (jG f).sells∧atE h.at_=atE (jG f).at_∧iE h.spare=iE (jG f).spare∧h.Rep (xF a.L a.id a.qty).fst
def zNo (a:Int) (b:TkI) (c:FlI) (d:Int) (e:Int):Prop:=∃(f:ArN),f.n=a∧AObj.adt Arena 3 zE f.a=AObj.adt Arena 3 zE (b.a.takeF b.n b.qty).fst∧f.a.slots.length≤1000000∧∀(g:Unit),True→cnd (!(f.a.getF f.n).snd) (zFm c d e a f) (cnd ((f.a.getF f.n).fst.id !=c.id) (zFm c d e a f) (∃(h:Book),(xF c.L c.id c.qty).snd=0∧h.top1=c.b.top1∧h.top2=c.b.top2∧h.has1=c.b.has1∧h.has2=c.b.has2∧AObj.adt Arena 3 zE h.a=AObj.adt Arena 3 zE f.a∧rE h c))
def yDs (i:FlI):Prop:=
 (∀(a:Value×List D),a∈atE i.b.at_→like (Value.int IntKind.i64 i.id) a.fst=true)∧∃(a:Bool),∃(b:Int),∃(c:Int),∃(d:Int),(mO i b c d a)∧cnd (!a) (∃(e:Book),(xF i.L i.id i.qty).snd=26∧e.top1=i.b.top1∧e.top2=i.b.top2∧e.has1=i.b.has1∧e.has2=i.b.has2∧AObj.adt Arena 3 zE e.a=AObj.adt Arena 3 zE i.b.a∧rE e i) (∃(e:TkI),e.n=d∧e.qty=i.qty∧AObj.adt Arena 3 zE e.a=AObj.adt Arena 3 zE i.b.a∧(e.a.slots.length≤1000000∧∀(k:Nat) (s:Slot),e.a.slots[k]?=some s→s.used=true→(0≤s.queue∧s.queue<(↑e.a.queues.length:Int))∧s.qty≤1000000∧(s.ahead=(-1)∨0≤s.ahead∧s.ahead<(↑e.a.slots.length:Int)∧s.ahead≠(↑k:Int))∧(s.back=(-1)∨0≤s.back∧s.back<(↑e.a.slots.length:Int)∧s.back≠(↑k:Int)))∧∀(f:Unit),True→cnd ((e.a.takeF e.n e.qty).snd !=0) (∃(g:Book),(xF i.L i.id i.qty).snd=(e.a.takeF e.n e.qty).snd∧g.top1=i.b.top1∧g.top2=i.b.top2∧g.has1=i.b.has1∧g.has2=i.b.has2∧AObj.adt Arena 3 zE g.a=AObj.adt Arena 3 zE (e.a.takeF e.n e.qty).fst∧rE g i) ((zNo d e i b c)∧d=d∧True∧zNo d e i b c))
def yLw (i:AtI):Prop:=
 ∃(a:Int),a=zC false∧True∧∀(b:Unit),True→cnd (xX a) (∃(c:Unit),i.b.top1=i.b.top1∧i.b.top2=i.b.top2∧i.b.has1=i.b.has1∧i.b.has2=i.b.has2∧AObj.adt Arena 3 zE i.b.a=AObj.adt Arena 3 zE i.b.a∧List.map zB i.b.buys=List.map zB i.b.buys∧List.map zB i.b.sells=List.map zB i.b.sells∧atE i.b.at_=atE i.b.at_∧iE i.b.spare=iE i.b.spare∧List.map jE (atL i.L (zC false) i.price)=[]∧True) (∃(c:BkP),1=zC false∧c.price=i.price∧c.b.top1=i.b.top1∧c.b.top2=i.b.top2∧c.b.has1=i.b.has1∧c.b.has2=i.b.has2∧AObj.adt Arena 3 zE c.b.a=AObj.adt Arena 3 zE i.b.a∧List.map zB c.b.buys=List.map zB i.b.buys∧List.map zB c.b.sells=List.map zB i.b.sells∧atE c.b.at_=atE i.b.at_∧iE c.b.spare=iE i.b.spare∧(xJ c)∧∀(d:Unit),True→cnd (!x6 1 (c.b.rungs 1) c.price) (∃(e:Unit),i.b.top1=c.b.top1∧i.b.top2=c.b.top2∧i.b.has1=c.b.has1∧i.b.has2=c.b.has2∧AObj.adt Arena 3 zE i.b.a=AObj.adt Arena 3 zE c.b.a∧List.map zB i.b.buys=List.map zB c.b.buys∧List.map zB i.b.sells=List.map zB c.b.sells∧atE i.b.at_=atE c.b.at_∧iE i.b.spare=iE c.b.spare∧List.map jE (atL i.L (zC false) i.price)=[]∧True) ((v8 c)∧∃(e:Int),∃(f:Int),zF (List.map zB c.b.buys) (xA c).toNat 0 2=some [dI e,dI f]∧∃(g:BoI),g.s=zC false∧g.r.price=e∧g.r.queue=f∧g.b.top1=c.b.top1∧g.b.top2=c.b.top2∧g.b.has1=c.b.has1∧g.b.has2=c.b.has2∧AObj.adt Arena 3 zE g.b.a=AObj.adt Arena 3 zE c.b.a∧List.map zB g.b.buys=List.map zB c.b.buys∧List.map zB g.b.sells=List.map zB c.b.sells∧atE g.b.at_=atE c.b.at_∧iE g.b.spare=iE c.b.spare∧g.b.a.listOk g.r.queue g.l∧∀(h:Unit),True→∃(j:Unit),zW i.b=zW g.b∧List.map jE (atL i.L (zC false) i.price)=List.map jE g.ords∧True))
def yMi (i:AtI):Prop:=
 ∃(a:Int),a=zC true∧True∧∀(b:Unit),True→cnd (xX a) (∃(c:Unit),i.b.top1=i.b.top1∧i.b.top2=i.b.top2∧i.b.has1=i.b.has1∧i.b.has2=i.b.has2∧AObj.adt Arena 3 zE i.b.a=AObj.adt Arena 3 zE i.b.a∧List.map zB i.b.buys=List.map zB i.b.buys∧List.map zB i.b.sells=List.map zB i.b.sells∧atE i.b.at_=atE i.b.at_∧iE i.b.spare=iE i.b.spare∧List.map jE (atL i.L (zC true) i.price)=[]∧True) (∃(c:BkP),2=zC true∧c.price=i.price∧c.b.top1=i.b.top1∧c.b.top2=i.b.top2∧c.b.has1=i.b.has1∧c.b.has2=i.b.has2∧AObj.adt Arena 3 zE c.b.a=AObj.adt Arena 3 zE i.b.a∧List.map zB c.b.buys=List.map zB i.b.buys∧List.map zB c.b.sells=List.map zB i.b.sells∧atE c.b.at_=atE i.b.at_∧iE c.b.spare=iE i.b.spare∧(xJ c)∧∀(d:Unit),True→cnd (!x6 2 (c.b.rungs 2) c.price) (∃(e:Unit),i.b.top1=c.b.top1∧i.b.top2=c.b.top2∧i.b.has1=c.b.has1∧i.b.has2=c.b.has2∧AObj.adt Arena 3 zE i.b.a=AObj.adt Arena 3 zE c.b.a∧List.map zB i.b.buys=List.map zB c.b.buys∧List.map zB i.b.sells=List.map zB c.b.sells∧atE i.b.at_=atE c.b.at_∧iE i.b.spare=iE c.b.spare∧List.map jE (atL i.L (zC true) i.price)=[]∧True) ((v7 c)∧∃(e:Int),∃(f:Int),zF (List.map zB c.b.sells) (xB c).toNat 0 2=some [dI e,dI f]∧∃(g:BoI),g.s=zC true∧g.r.price=e∧g.r.queue=f∧g.b.top1=c.b.top1∧g.b.top2=c.b.top2∧g.b.has1=c.b.has1∧g.b.has2=c.b.has2∧AObj.adt Arena 3 zE g.b.a=AObj.adt Arena 3 zE c.b.a∧List.map zB g.b.buys=List.map zB c.b.buys∧List.map zB g.b.sells=List.map zB c.b.sells∧atE g.b.at_=atE c.b.at_∧iE g.b.spare=iE c.b.spare∧g.b.a.listOk g.r.queue g.l∧∀(h:Unit),True→∃(j:Unit),zW i.b=zW g.b∧List.map jE (atL i.L (zC true) i.price)=List.map jE g.ords∧True))
open Go Cv Go.Proofs
theorem mE {L:List zG} (h:(L.map (·.id)).Nodup) {o:zG} (ho:o∈L):uX L o.id=o:=by
 induction L with
 |nil=>cases ho
 |cons x L ih=>
  rw[yPd,yRd]at h
  rw[uX,List.find?_cons]
  rcases yPk.1 ho with rfl|ho
  ·rw[yPn rfl];rfl
  ·have:x.id≠o.id:=fun e=>h.1 (e▸yPu (f:=(·.id)) ho)
   rw[yPm this]
   exact ih h.2 ho
theorem dH {α β:Type} {f g:α→Option β}:∀{l:List α},(∀x∈l,f x=g x)→l.filterMap f=l.filterMap g
 |[],_=>rfl
 |x::l,h=>by rw[List.filterMap_cons,List.filterMap_cons,h x yOx,dH fun y hy=>h y (yOz _ hy)]
theorem yFr {L:List zG} {id:Int} (h:kR L id=false):uX L id=yGd:=by
 rw[uX]
 have:L.find? (fun o=>decide (o.id=id))=none:=by
  rw[List.find?_eq_none]
  intro o ho
  rw[kR,List.any_eq_false]at h
  exact h o ho
 rw[this];rfl
structure Told (b:Book) (Q:List (List Nat)) (id:Int) (s:Int) (r:y3) (k:Nat):Prop where
 hs:s=1∨s=2
 hr:r∈b.rungs s
 hk:k∈yW Q r
 e:pget b.at_ id=some ⟨s,r.price,k⟩
 ident:(b.a.slotAt k).id=id
 get:uX (b.flat Q) id=jD b.a s r.price k
 has:kR (b.flat Q) id=true
theorem yBy {b:Book} {Q:List (List Nat)} {s:Int} (hs:s=1∨s=2) {r:y3} (hr:r∈b.rungs s) {k:Nat} (hk:k∈yW Q r):jD b.a s r.price k∈b.flat Q:=
 flat_mem hs (yRb.2 ⟨r,hr,yPu hk⟩)
theorem Book.Core.told {b:Book} {Q:List (List Nat)} (c:b.Core Q (-1)) (id:Int):(pget b.at_ id=none∧kR (b.flat Q) id=false)∨∃s r k,Told b Q id s r k:=by
 cases hg:pget b.at_ id with
 |none=>
  have:=zCj hg
  rw[c.keysP.mem_iff,← hasId_iff]at this
  exact .inl ⟨rfl,by simpa using this⟩
 |some x=>
  obtain⟨k,r,hs,hr,hk,hx,hid⟩:=c.plcI (nN hg)
  have hm:=yBy hs hr hk
  have hget:=mE c.ids hm
  have e:(jD b.a x.side r.price k).id=id:=hid
  rw[e]at hget
  exact .inr ⟨x.side,r,k,hs,hr,hk,by rw[hg];exact congrArg some hx,hid,hget,hasId_iff.2 (by rw[← e];exact yPu hm)⟩
theorem Told.only {b:Book} {Q:List (List Nat)} (c:b.Core Q (-1)) {id s:Int} {r:y3} {k:Nat} (h:Told b Q id s r k) {s':Int} (hs':s'=1∨s'=2) {r':y3} (hr':r'∈b.rungs s') {j:Nat} (hj:j∈yW Q r'):(b.a.slotAt j).id=id↔j=k:=by
 constructor
 ·intro e
  have h1:=c.plc hs' hr' hj
  have h2:=c.plc h.hs h.hr h.hk
  rw[e]at h1
  rw[h.ident]at h2
  have:=congrArg Place.slot (zEf c.keys h1 h2)
  dsimp only at this
  omega
 ·rintro rfl;exact h.ident
theorem Book.Core.less {b:Book} {Q:List (List Nat)} (c:b.Core Q (-1)) (ht:b.Tops (b.flat Q)) {id s:Int} {r:y3} {k:Nat} (h:Told b Q id s r k) {q:Int} (hq:1≤q∧q<(b.a.slotAt k).qty):
 (b.a.takeF k q).2=0∧({b with a:=(b.a.takeF k q).1}:Book).Rep (wS (b.flat Q) id q)∧(b.a.takeF k q).1.slots.length=250∧(b.a.takeF k q).1.getF k=((((b.a.takeF k q).1.slotAt k)).ent,true)∧((b.a.takeF k q).1.slotAt k).id=id:=by
 obtain⟨t1,t2,t3⟩:=c.wf.take (c.get h.hs h.hr) h.hk (q:=q) ⟨hq.1,by omega⟩
 rw[yOr (by omega)]at t3
 obtain⟨w,t4,t5⟩:=t3
 have hent:∀j,((b.a.takeF k q).1.slotAt j).ent=if j=k then{(b.a.slotAt k).ent with qty:=(b.a.slotAt k).qty-q}else(b.a.slotAt j).ent:=by
  intro j
  split
  ·rename_i e;rw[e,t4];rfl
  ·rename_i e;exact(t2 j e).1
 have hid:∀j,((b.a.takeF k q).1.slotAt j).id=(b.a.slotAt j).id:=by
  intro j
  have:=congrArg Ent.id (hent j)
  split at this
  ·rename_i e;rw[e]at this ⊢;exact this
  ·exact this
 have hflat:({b with a:=(b.a.takeF k q).1}:Book).flat Q=wS (b.flat Q) id q:=by
  have side:∀s',s'=1∨s'=2→({b with a:=(b.a.takeF k q).1}:Book).sideL Q s'=wS (b.sideL Q s') id q:=by
   intro s' hs'
   rw[wS,Book.sideL,Book.sideL,List.filterMap_flatMap]
   refine yX fun r' hr'=> ?_
   rw[Book.rOrds,Book.rOrds,List.filterMap_map]
   have:(yW Q r').filterMap (fun j=>some (jD (b.a.takeF k q).1 s' r'.price j))=(yW Q r').map (jD (b.a.takeF k q).1 s' r'.price):=by rw[← List.filterMap_eq_map];rfl
   refine this.symm.trans (dH fun j hj=> ?_)
   simp only[Function.comp,jD,z7k,hent]
   have hon:=h.only c hs' hr' hj
   by_cases e:j=k
   ·subst e
    rw[yOu rfl]
    refine((yOu (show(b.a.slotAt j).ent.id=id from h.ident)).trans (yOr fun e=> ?_)).symm
    have e:(b.a.slotAt j).qty=q:=e
    omega
   ·rw[yOr e];exact(yOr (fun e2=>e (hon.1 e2))).symm
  rw[Book.flat,side 1 (.inl rfl),side 2 (.inr rfl),Book.flat,wS,wS,wS,List.filterMap_append]
 have hu:(b.a.takeF k q).1.usedAt k=true:=by
  obtain⟨hk2,⟨_,_,h2⟩,h3⟩:=w.toWf0.mem (c.get h.hs h.hr) h.hk
  have hlt:=w.len
  simp only[Arena.usedAt,yPh,yRf,yPj]
  exact⟨by omega,by omega,h2.used⟩
 refine⟨t1,⟨Q,c.flag w hid,⟨fun o ho=> ?_,fun s' hs' hh=> ?_⟩,hflat.symm⟩,w.len,by rw[Arena.getF,yOu hu,yPj],by rw[hid,h.ident]⟩
 ·obtain⟨o',ho',e⟩:=yTm.1 ho
  have:=ht.fl o' ho'
  split at e
  ·split at e
   ·cases e
   ·cases e;exact this
  ·cases e;exact this
 ·obtain⟨o,ho,o1,o2⟩:=ht.th s' hs' hh
  by_cases e:o.id=id
  ·refine⟨{o with qty:=o.qty-q},yTm.2 ⟨o,ho,?_⟩,o1,o2⟩
   have hg:=mE c.ids ho
   rw[e,h.get]at hg
   rw[yOu e,yOr (fun e2=>by
    rw[← hg]at e2
    have:(b.a.slotAt k).qty=q:=e2
    omega)]
  ·exact⟨o,yTm.2 ⟨o,ho,yOr e⟩,o1,o2⟩
theorem zYg:∀{l:List (Int×Place)} {k:Int},(l.map (·.1)).Nodup→cM k l=l.filter fun x=> !decide (x.1=k)
 |[],k,_=>rfl
 |(a,b)::l,k,h=>by
  rw[yPd,yRd]at h
  rw[cM]
  by_cases e:k=a
  ·subst e
   rw[yOu rfl,yTf (by simp)]
   symm
   rw[yUe]
   intro x hx
   have:x.1≠k:=fun e=>h.1 (e▸yPu (f:=(·.1)) hx)
   simp[this]
  ·rw[yOr e,yTe (by simp[Ne.symm e]),zYg h.2]
theorem eR {l:List Nat} (h:l.Nodup) (k:Nat):l.erase k=l.filter fun j=> !decide (j=k):=by
 rw[h.erase_eq_filter]
 refine List.filter_congr fun j _=> ?_
 simp[bne,BEq.beq]
theorem z7t {s:Int} {l:List y3} (hs:l.Pairwise fun r r'=>btr s r.price r'.price=true) {R1 R2:List y3} {r:y3} (hl:l=R1++r::R2):zS s l r.price=R1.length:=by
 subst hl
 rw[List.pairwise_append]at hs
 refine bV (by simp) (fun k hk x hx=> ?_) (fun x hx=> ?_)
 ·rw[yRs hk]at hx
  exact hs.2.2 x (yPe hx) r yOx
 ·rw[yQv (yPy _),yTz]at hx
  cases hx
  exact pQ _ _
theorem z5v (b:Book) (id:Int) {s:Int} (hs:s=1∨s=2):(b.unhas s id).a=b.a∧(b.unhas s id).buys=b.buys∧(b.unhas s id).sells=b.sells∧(b.unhas s id).spare=b.spare∧∀s',s'=1∨s'=2→(b.unhas s id).topI s'=b.topI s'∧(b.unhas s id).hasF s'=if s'=s∧b.topI s=id then false else b.hasF s':=by
 rw[Book.unhas]
 by_cases hc:b.hasF s=true∧b.topI s=id
 ·rw[yOu hc]
  rcases hs with rfl|rfl
  ·exact⟨rfl,rfl,rfl,rfl,fun s' h=>by rcases h with rfl|rfl;exact⟨rfl,(yOu ⟨rfl,hc.2⟩).symm⟩;exact⟨rfl,(yOr (fun e=>absurd e.1 (by decide))).symm⟩⟩
  ·exact⟨rfl,rfl,rfl,rfl,fun s' h=>by rcases h with rfl|rfl;exact⟨rfl,(yOr (fun e=>absurd e.1 (by decide))).symm⟩;exact⟨rfl,(yOu ⟨rfl,hc.2⟩).symm⟩⟩
 ·rw[yOr hc]
  refine⟨rfl,rfl,rfl,rfl,fun s' h=>⟨rfl,?_⟩⟩
  split
  ·rename_i e
   rw[e.1]
   cases hh:b.hasF s with
   |false=>rfl
   |true=>exact absurd ⟨hh,e.2⟩ hc
  ·rfl
theorem Book.Core.close {b:Book} {Q:List (List Nat)} {s:Int} (hs:s=1∨s=2) {r:y3} {R1 R2:List y3} (hr:b.rungs s=R1++r::R2) (c:b.Core Q r.queue) (he:yW Q r=[]) {b':Book} (hb:b'=({b with spare:=b.spare++[r.queue]}:Book).setR s (R1++R2)):
 b'.Core Q (-1)∧b'.flat Q=b.flat Q:=by
 obtain⟨g1,g2⟩:=zEz ({b with spare:=b.spare++[r.queue]}:Book) hs (R1++R2)
 rw[← hb]at g1 g2
 have ha:b'.a=b.a:=by rw[hb];rcases hs with rfl|rfl<;>rfl
 have hat:b'.at_=b.at_:=by rw[hb];rcases hs with rfl|rfl<;>rfl
 have hsp:b'.spare=b.spare++[r.queue]:=by rw[hb];rcases hs with rfl|rfl<;>rfl
 have hqs:b'.qs.Perm b.qs:=by
  rw[hb]
  rcases hs with rfl|rfl
  ·have hr:b.buys=R1++r::R2:=hr
   show((R1++R2).map (·.queue)++b.sells.map (·.queue)++(b.spare++[r.queue])).Perm (b.buys.map (·.queue)++b.sells.map (·.queue)++b.spare)
   rw[hr,← yPb]
   refine(ySs _ _).trans ?_
   simp only[yPc,yPd,yPb,yQe]
   exact yPg.symm
  ·have hr:b.sells=R1++r::R2:=hr
   show(b.buys.map (·.queue)++(R1++R2).map (·.queue)++(b.spare++[r.queue])).Perm (b.buys.map (·.queue)++b.sells.map (·.queue)++b.spare)
   rw[hr,← yPb]
   refine(ySs _ _).trans ?_
   simp only[yPc,yPd,yPb,yQe]
   refine .trans ?_ (List.Perm.append_left _ yPg.symm)
   exact yPg.symm
 have hside:∀s',s'=1∨s'=2→b'.sideL Q s'=b.sideL Q s':=by
  intro s' hs'
  have ho:∀x,b'.rOrds Q s' x=b.rOrds Q s' x:=fun x=>by rw[Book.rOrds,Book.rOrds,ha]
  rw[Book.sideL,Book.sideL]
  by_cases e:s'=s
  ·subst e
   rw[g1,hr,yQl,yQl,yQh,yX (fun x _=>ho x),yX (l:=R2) (fun x _=>ho x)]
   rw[show b.rOrds Q s' r=[]by rw[Book.rOrds,he];rfl,yRc]
  ·rw[g2 s' e hs'];exact yX fun x _=>ho x
 have hplc:∀s',s'=1∨s'=2→b'.plcs Q s'=b.plcs Q s':=by
  intro s' hs'
  rw[Book.plcs,Book.plcs,ha]
  by_cases e:s'=s
  ·subst e
   rw[g1,hr,yQl,yQl,yQh,he,ySc,yRc]
  ·rw[g2 s' e hs'];rfl
 have hflat:b'.flat Q=b.flat Q:=by rw[Book.flat,Book.flat,hside 1 (.inl rfl),hside 2 (.inr rfl)]
 have hnd:=hqs.nodup_iff.2 c.nd
 have hmid:r.queue∉(R1++R2).map (·.queue):=by
  intro hm
  have h1:r.queue∈(b'.rungs s).map (·.queue):=by rw[g1];exact hm
  rw[Book.qs]at hnd
  have h2:=(yQx.1 hnd).2.2 r.queue (by
   rcases hs with rfl|rfl
   ·exact yQd _ h1
   ·exact yQf _ h1) r.queue (by rw[hsp];simp)
  exact h2 rfl
 refine⟨⟨by rw[ha];exact c.wf,fun s' hs'=> ?_,fun q hq=>c.rng q (hqs.mem_iff.1 hq),hnd,by rw[hqs.length_eq];exact c.ql,fun s' hs' x hx _=> ?_,fun q hq=> ?_,by rw[hat,hplc 1 (.inl rfl),hplc 2 (.inr rfl)];exact c.at_,by rw[hflat];exact c.ids,c.qb⟩,hflat⟩
 ·by_cases e:s'=s
  ·subst e
   have:=c.srt s' hs'
   rw[hr]at this
   rw[g1]
   exact this.sublist (List.Sublist.append_left (List.sublist_cons_self _ _) _)
  ·rw[g2 s' e hs'];exact c.srt s' hs'
 ·by_cases e:s'=s
  ·subst e
   rw[g1]at hx
   refine c.ne s' hs' x (by rw[hr];rcases yPv.1 hx with h|h;exact yQd _ h;exact yQf _ (yOz _ h)) fun e2=>hmid (e2▸yPu (f:=(·.queue)) hx)
  ·rw[g2 s' e hs']at hx
   refine c.ne s' hs' x hx fun e2=> ?_
   have h1:r.queue∈(b'.rungs s').map (·.queue):=by rw[g2 s' e hs',← e2];exact yPu (f:=(·.queue)) hx
   rw[Book.qs]at hnd
   exact(yQx.1 hnd).2.2 r.queue (by
    rcases hs' with rfl|rfl
    ·exact yQd _ h1
    ·exact yQf _ h1) r.queue (by rw[hsp];simp) rfl
 ·rw[hsp]at hq
  rcases yPv.1 hq with hq|hq
  ·exact c.sp q hq
  ·rw[yQr.1 hq];exact he
open Go Cv Go.Proofs
theorem zKy {L:List zG} (h:(L.map (·.id)).Nodup) {id:Int} (hh:kR L id=true):wS L id (uX L id).qty=L.filter fun o=> !decide (o.id=id):=by
 rw[wS,← List.filterMap_eq_filter]
 refine dH fun o ho=> ?_
 by_cases e:o.id=id
 ·have hg:=mE h ho
  rw[e]at hg
  rw[yOu e,yOu (by rw[hg])]
  simp[Option.guard,e]
 ·rw[yOr e]
  simp[Option.guard,e]
theorem Book.Core.gone {b:Book} {Q:List (List Nat)} (c:b.Core Q (-1)) (ht:b.Tops (b.flat Q)) {id s:Int} {r:y3} {k:Nat} (h:Told b Q id s r k) {q:Int} (hq:1≤q∧q=(b.a.slotAt k).qty):
 (b.a.takeF k q).2=0∧(({b with a:=(b.a.takeF k q).1}:Book).dropF s id r.price).Rep (wS (b.flat Q) id q)∧(b.a.takeF k q).1.slots.length=250∧(b.a.takeF k q).1.queues.length=b.a.queues.length∧((b.a.takeF k q).1.getF k).2=false∧zS s (b.rungs s) r.price<(b.rungs s).length:=by
 obtain⟨t1,t2,t3⟩:=c.wf.take (c.get h.hs h.hr) h.hk (q:=q) ⟨hq.1,by omega⟩
 rw[yOu hq.2.symm]at t3
 obtain⟨w,t4,t5⟩:=t3
 generalize hA:(b.a.takeF k q).1=a1 at*
 have hget:=c.get h.hs h.hr
 have hnQ:=(yOt.1 hget).1
 have hrq:=c.rng _ (wW h.hs h.hr)
 generalize hQ':Q.set r.queue.toNat ((yW Q r).erase k)=Q' at*
 have hQl:Q'.length=Q.length:=by rw[← hQ',yPw]
 have hnd:(yW Q r).Nodup:=c.wf.nd _ _ hget
 have hqd:∀s' (r':y3),(s'=1∨s'=2)→r'∈b.rungs s'→yW Q' r'=(yW Q r').erase k:=by
  intro s' r' hs' hr'
  by_cases e:r'.queue=r.queue
  ·have e1:yW Q r'=yW Q r:=by rw[yW,yW,e]
   rw[e1,yW,e,← hQ']
   exact zQ (uJ hnQ)
  ·have h2:yW Q' r'=yW Q r':=by
    have:=c.rng _ (wW hs' hr')
    rw[yW,yW,yPa,yPa,← hQ',jY (by omega)]
   rw[h2]
   symm
   refine List.erase_of_not_mem fun hk=> ?_
   have:=c.wf.toWf0.one (c.get hs' hr') hget hk h.hk
   have:=c.rng _ (wW hs' hr')
   omega
 have hQo:∀q:Int,0≤q→q≠r.queue→Q'.getD q.toNat []=Q.getD q.toNat []:=by
  intro q h0 hne
  rw[← hQ',yPa,jY (by omega),yPa]
 obtain⟨u1,u2,u3,u4,u5⟩:=z5v ({b with a:=a1}:Book) id h.hs
 obtain⟨b1,hb1⟩:∃b1:Book,b1={({b with a:=a1}:Book).unhas s id with at_:=cM id b.at_}:=⟨_,rfl⟩
 have v1:b1.a=a1:=by rw[hb1];exact u1
 have v2:b1.buys=b.buys:=by rw[hb1];exact u2
 have v3:b1.sells=b.sells:=by rw[hb1];exact u3
 have v4:b1.spare=b.spare:=by rw[hb1];exact u4
 have v5:b1.at_=cM id b.at_:=by rw[hb1]
 have v6:∀s',s'=1∨s'=2→b1.topI s'=b.topI s'∧b1.hasF s'=if s'=s∧b.topI s=id then false else b.hasF s':=by
  intro s' hs'
  rw[hb1];exact u5 s' hs'
 have vr:∀s',b1.rungs s'=b.rungs s':=by intro s';rw[Book.rungs,Book.rungs,v2,v3]
 have vq:b1.qs=b.qs:=by rw[Book.qs,Book.qs,v2,v3,v4]
 have hord:∀s',s'=1∨s'=2→b1.sideL Q' s'=(b.sideL Q s').filter (fun o=> !decide (o.id=id))∧b1.plcs Q' s'=(b.plcs Q s').filter fun x=> !decide (x.1=id):=by
  intro s' hs'
  rw[Book.sideL,Book.sideL,Book.plcs,Book.plcs,vr,List.filter_flatMap,List.filter_flatMap]
  have key:∀r'∈b.rungs s',∀j∈yW Q r',((b.a.slotAt j).id=id↔j=k)∧(j≠k→jD a1 s' r'.price j=jD b.a s' r'.price j∧jU a1 s' r'.price j=jU b.a s' r'.price j):=by
   intro r' hr' j hj
   refine⟨h.only c hs' hr' hj,fun e=> ?_⟩
   have:=(t2 j e).1
   refine⟨by rw[jD,jD,this],?_⟩
   have:=congrArg Ent.id this
   rw[jU,jU]
   exact congrArg (fun i=>(i,(⟨s',r'.price,j⟩:Place))) this
  refine⟨yX fun r' hr'=> ?_,yX fun r' hr'=> ?_⟩
  ·rw[Book.rOrds,Book.rOrds,hqd s' r' hs' hr',eR (c.wf.nd _ _ (c.get hs' hr')),List.filter_map,v1]
   have e1:(yW Q r').filter ((fun o:zG=> !decide (o.id=id))∘jD b.a s' r'.price)=(yW Q r').filter fun j=> !decide (j=k):=by
    refine List.filter_congr fun j hj=> ?_
    show(!decide ((b.a.slotAt j).id=id))=_
    rw[decide_eq_decide.2 (key r' hr' j hj).1]
   rw[e1]
   refine yPx fun j hj=> ?_
   rw[yRa]at hj
   exact((key r' hr' j hj.1).2 (by simpa using hj.2)).1
  ·rw[hqd s' r' hs' hr',eR (c.wf.nd _ _ (c.get hs' hr')),List.filter_map,v1]
   have e1:(yW Q r').filter ((fun x:Int×Place=> !decide (x.1=id))∘jU b.a s' r'.price)=(yW Q r').filter fun j=> !decide (j=k):=by
    refine List.filter_congr fun j hj=> ?_
    show(!decide ((b.a.slotAt j).id=id))=_
    rw[decide_eq_decide.2 (key r' hr' j hj).1]
   rw[e1]
   refine yPx fun j hj=> ?_
   rw[yRa]at hj
   exact((key r' hr' j hj.1).2 (by simpa using hj.2)).2
 have hflat:b1.flat Q'=(b.flat Q).filter fun o=> !decide (o.id=id):=by
  rw[Book.flat,(hord 1 (.inl rfl)).1,(hord 2 (.inr rfl)).1,Book.flat,ySj]
 have hat:b1.at_.Perm (b1.plcs Q' 1++b1.plcs Q' 2):=by
  rw[v5,zYg c.keys,(hord 1 (.inl rfl)).2,(hord 2 (.inr rfl)).2,← ySj]
  exact c.at_.filter _
 have hold:∀s' (r':y3),(s'=1∨s'=2)→r'∈b.rungs s'→yW Q r'≠[]:=fun s' r' hs' hr'=>c.ne s' hs' r' hr' fun e=>by
  have:=c.rng _ (wW hs' hr');omega
 have c1:b1.Core Q' r.queue:=by
  refine⟨by rw[v1];exact w,fun s' hs'=>by rw[vr];exact c.srt s' hs',by rw[vq,hQl];exact c.rng,by rw[vq];exact c.nd,by rw[vq,hQl];exact c.ql,fun s' hs' r' hr' hne=> ?_,fun q hq=> ?_,hat,?_,by rw[hQl];exact c.qb⟩
  ·rw[vr]at hr'
   have e:=hQo r'.queue (c.rng _ (wW hs' hr')).1 hne
   rw[yW,e];exact hold s' r' hs' hr'
  ·rw[v4]at hq
   have hqq:q∈b.qs:=yQf _ hq
   rw[hQo q (c.rng q hqq).1 fun e=> ?_]
   ·exact c.sp q hq
   ·have hcn:=c.nd
    rw[Book.qs]at hcn
    refine(yQx.1 hcn).2.2 r.queue ?_ q hq e.symm
    rcases h.hs with rfl|rfl
    ·exact yQd _ (yPu (f:=(·.queue)) h.hr)
    ·exact yQf _ (yPu (f:=(·.queue)) h.hr)
  ·rw[hflat]
   exact c.ids.sublist (List.Sublist.map _ yUf)
 have htk:wS (b.flat Q) id q=b1.flat Q':=by
  rw[hflat,← zKy c.ids h.has,h.get,hq.2];rfl
 have hm1:∀o,o∈b1.flat Q'↔o∈b.flat Q∧o.id≠id:=by
  intro o;rw[hflat,yRa];simp
 have ht1:∀b2:Book,(∀x,b2.hasF x=b1.hasF x∧b2.topI x=b1.topI x)→b2.Tops (b1.flat Q'):=by
  intro b2 hb2
  refine⟨fun o ho=> ?_,fun s' hs' hh=> ?_⟩
  ·rw[(hb2 _).1,(hb2 _).2]
   obtain⟨ho,hne⟩:=(hm1 o).1 ho
   have hs':=(bP ho).1
   rw[(v6 _ hs').1,(v6 _ hs').2,ht.fl o ho]
   split
   ·rename_i e
    rw[e.1,e.2,yPm hne,yTj,yTj]
   ·rfl
  ·rw[(hb2 _).1,(v6 s' hs').2]at hh
   rw[(hb2 _).2,(v6 s' hs').1]
   split at hh
   ·cases hh
   ·rename_i e
    obtain⟨o,ho,o1,o2⟩:=ht.th s' hs' hh
    refine⟨o,(hm1 o).2 ⟨ho,fun e2=>e ?_⟩,o1,o2⟩
    have hg:=mE c.ids ho
    rw[e2,h.get]at hg
    have hsd:s'=s:=by rw[← o1,← hg];rfl
    exact⟨hsd,by rw[← hsd,← o2,e2]⟩
 obtain⟨R1,R2,hsplit⟩:=List.append_of_mem h.hr
 have hfn:=z7t (c.srt s h.hs) hsplit
 have hgd:(b.rungs s).getD (zS s (b.rungs s) r.price) ⟨0,0⟩=r:=by
  rw[hfn,hsplit]
  refine zQ ?_
  rw[yQv (yPy _),yTz];rfl
 have hfl:zS s (b.rungs s) r.price<(b.rungs s).length:=by rw[hfn,hsplit];simp
 have hQr:Q'[r.queue.toNat]? =some ((yW Q r).erase k):=by rw[← hQ'];exact uJ hnQ
 have hcount:(a1.qAt r.queue).count=((yW Q r).erase k).length:=by
  have:=w.q _ _ hQr
  have hql:=w.ql
  rw[zNj hrq.1 this]
 have er:yW Q' r=(yW Q r).erase k:=zQ hQr
 have hru:({b with a:=a1}:Book).rungs s=b.rungs s:=rfl
 have hus:(a1.getF k).2=false:=by
  have:a1.usedAt k=false:=by
   have e:a1.slotAt k=slot0:=t4
   rw[Arena.slotAt]at e
   rw[Arena.usedAt,yPj,e];simp[slot0]
  rw[Arena.getF,yOr (by rw[this];decide)]
 refine⟨t1,?_,w.len,by rw[w.ql,c.wf.ql,hQl],hus,hfl⟩
 rw[Book.dropF,hru,hgd]
 by_cases hz:(a1.qAt r.queue).count=0
 ·rw[yOu hz]
  have he:yW Q' r=[]:=by
   rw[er]
   refine yPo ?_
   omega
  obtain⟨k1,k2⟩:=Book.Core.close h.hs (by rw[vr];exact hsplit) c1 he rfl
  have ebk:(({({b with a:=a1}:Book).unhas s id with at_:=cM id b.at_,spare:=b.spare++[r.queue]}:Book).setR s ((b.rungs s).take (zS s (b.rungs s) r.price)++(b.rungs s).drop (zS s (b.rungs s) r.price+1)))=(({b1 with spare:=b1.spare++[r.queue]}:Book).setR s (R1++R2)):=by
   have e1:(b.rungs s).take (zS s (b.rungs s) r.price)++(b.rungs s).drop (zS s (b.rungs s) r.price+1)=R1++R2:=by
    rw[hfn,hsplit,List.take_left]
    congr 1
    rw[yTi,yRz (by omega),Nat.add_sub_cancel_left];rfl
   rw[e1,v4,hb1]
  refine⟨Q',?_,?_,?_⟩
  ·exact ebk▸k1
  ·rw[htk]
   refine ht1 _ fun x=> ?_
   show(Book.hasF (({({b with a:=a1}:Book).unhas s id with at_:=cM id b.at_,spare:=b.spare++[r.queue]}:Book).setR s ((b.rungs s).take (zS s (b.rungs s) r.price)++(b.rungs s).drop (zS s (b.rungs s) r.price+1))) x=_∧Book.topI (({({b with a:=a1}:Book).unhas s id with at_:=cM id b.at_,spare:=b.spare++[r.queue]}:Book).setR s ((b.rungs s).take (zS s (b.rungs s) r.price)++(b.rungs s).drop (zS s (b.rungs s) r.price+1))) x=_)
   rw[ebk]
   rcases h.hs with rfl|rfl<;>exact⟨rfl,rfl⟩
  ·rw[htk]
   show _=Book.flat (({({b with a:=a1}:Book).unhas s id with at_:=cM id b.at_,spare:=b.spare++[r.queue]}:Book).setR s ((b.rungs s).take (zS s (b.rungs s) r.price)++(b.rungs s).drop (zS s (b.rungs s) r.price+1))) Q'
   rw[ebk];exact k2.symm
 ·rw[yOr hz]
  have c2:b1.Core Q' (-1):=⟨c1.wf,c1.srt,c1.rng,c1.nd,c1.ql,fun s' hs' r' hr' _=>by
   by_cases e:r'.queue=r.queue
   ·rw[yW,e]
    intro e2
    rw[yW]at er
    rw[er]at e2
    rw[hcount,e2]at hz
    exact hz rfl
   ·exact c1.ne s' hs' r' hr' e,c1.sp,c1.at_,c1.ids,c1.qb⟩
  have hh:({({b with a:=a1}:Book).unhas s id with at_:=cM id b.at_}:Book)=b1:=hb1.symm
  show Book.Rep {({b with a:=a1}:Book).unhas s id with at_:=cM id b.at_} _
  rw[hh,htk]
  exact⟨Q',c2,ht1 b1 fun _=>⟨rfl,rfl⟩,rfl⟩
open Go Cv Go.Proofs
theorem aK (k:Int):∀l,rY (Value.int IntKind.i64 k) (atE l)=atE (cM k l)
 |[]=>rfl
 |(a,b)::l=>by
  have ih:=aK k l
  show(bif (keq .i64 .i64 && decide (k=a))then atE l else _::rY _ (atE l))=_
  rw[ih,cM]
  by_cases h:k=a
  ·subst h;simp[keq]
  ·simp[h,atE]
theorem zYc:delRC.ok Tryz.prog 230:=
 delX_ok mixed Tryz.func230 rfl (by kernel_rfl) (by kernel_rfl) (by kernel_rfl) (by kernel_rfl) zCi rfl (by decide) (fun s sn sk i j w R=>by kernel_rfl)
theorem dup {X:Prop} {n:Int} (h:X):X∧n=n∧True∧X:=⟨h,rfl,trivial,h⟩
theorem Book.Core.small {b:Book} {Q:List (List Nat)} (c:b.Core Q (-1)):b.small:=by
 have hq:=c.qb
 have h1:=c.ql
 have h2:=c.wf.ql
 have h3:=c.wf.len
 rw[Book.qs,yOw,yOw,yOs,yOs]at h1
 exact⟨⟨by omega,by omega⟩,by omega,by omega,by omega⟩
theorem yJo (i:DrI) (h:drop1C.cnd i):z2m i:=by
 obtain⟨hsm,hn⟩:i.ok 1:=h
 obtain⟨⟨ha1,ha2⟩,hb1,hb2,hsp⟩:=id hsm
 have hn:zS 1 i.b.buys i.price<i.b.buys.length:=hn
 obtain⟨r,hr⟩:=z8 (l:=i.b.buys) hn
 have hgd:((i.b.rungs 1).getD (zS 1 (i.b.rungs 1) i.price) ⟨0,0⟩)=r:=zQ hr
 have hw:∀k:Int,IntKind.i64.wrap ((zS 1 (i.b.rungs 1) i.price:Int)+1)=((zS 1 (i.b.rungs 1) i.price+1:Nat):Int):=fun _=>by
  have:=lS 1 i.price (i.b.rungs 1)
  have hl:(i.b.rungs 1).length≤1000000:=by show i.b.buys.length≤_;omega
  rw[w64 (by omega)];rfl
 have hn2:((zS 1 (i.b.rungs 1) i.price:Nat):Int)<((List.map zB i.b.buys).length:Int):=by
  rw[yOs]
  show((zS 1 i.b.buys i.price:Nat):Int)<_
  omega
 unfold z2m zBp zAq v8 j9 xJ xA yU dI
 refine⟨kD _ _,Cv.cnd.mk (fun c1=>Cv.cnd.mk (fun c2=> ?_) (fun c2=> ?_)) (fun c1=> ?_)⟩
 ·have c2:i.b.top1=i.id:=by simpa using c2
  have hu:i.b.unhas 1 i.id={i.b with has1:=false}:=by rw[Book.unhas,yOu ⟨c1,c2⟩];rfl
  refine⟨⟨{i.b with has1:=false,at_:=cM i.id i.b.at_},i.price⟩,rfl,rfl,rfl,rfl,rfl,rfl,rfl,rfl,rfl,(aK _ _).symm,rfl,hsm,fun _ _=>⟨⟨by omega,hn2⟩,r.queue,elA hr (by simp[zB]) rfl,⟨i.b.a,r.queue⟩,rfl,rfl,trivial,fun _ _=>Cv.cnd.mk (fun e=>⟨by simp only[y6];omega,⟨i.b.buys.map zB,zS 1 (i.b.rungs 1) i.price,zS 1 (i.b.rungs 1) i.price+1⟩,rfl,(hw 0).symm,rfl,⟨yUd _,by rw[yOs];exact hn⟩,fun _ _=>⟨rfl,(),?_⟩⟩) (fun e=>⟨(),?_⟩)⟩⟩
  ·have e:(i.b.a.qAt r.queue).count=0:=by simpa using e
   rw[Book.dropF,hgd,yOu e,hu]
   refine⟨rfl,rfl,rfl,rfl,rfl,rfl,?_,rfl,?_,trivial⟩
   ·show List.map zB (i.b.buys.take _++i.b.buys.drop _)=_
    rw[yPc,ySr,yTu]
   ·show iE (i.b.spare++[r.queue])=_
    simp[iE]
  ·have e:¬(i.b.a.qAt r.queue).count=0:=by simpa using e
   rw[Book.dropF,hgd,yOr e,hu]
   exact⟨rfl,rfl,rfl,rfl,rfl,rfl,rfl,rfl,rfl,trivial⟩
 ·have c2:¬i.b.top1=i.id:=by simpa using c2
  have hu:i.b.unhas 1 i.id={i.b with has1:=i.b.has1}:=by rw[Book.unhas,yOr (fun e=>c2 e.2)]
  refine⟨⟨{i.b with has1:=i.b.has1,at_:=cM i.id i.b.at_},i.price⟩,rfl,rfl,rfl,rfl,rfl,rfl,rfl,rfl,rfl,(aK _ _).symm,rfl,hsm,fun _ _=>⟨⟨by omega,hn2⟩,r.queue,elA hr (by simp[zB]) rfl,⟨i.b.a,r.queue⟩,rfl,rfl,trivial,fun _ _=>Cv.cnd.mk (fun e=>⟨by simp only[y6];omega,⟨i.b.buys.map zB,zS 1 (i.b.rungs 1) i.price,zS 1 (i.b.rungs 1) i.price+1⟩,rfl,(hw 0).symm,rfl,⟨yUd _,by rw[yOs];exact hn⟩,fun _ _=>⟨rfl,(),?_⟩⟩) (fun e=>⟨(),?_⟩)⟩⟩
  ·have e:(i.b.a.qAt r.queue).count=0:=by simpa using e
   rw[Book.dropF,hgd,yOu e,hu]
   refine⟨rfl,rfl,rfl,rfl,rfl,rfl,?_,rfl,?_,trivial⟩
   ·show List.map zB (i.b.buys.take _++i.b.buys.drop _)=_
    rw[yPc,ySr,yTu]
   ·show iE (i.b.spare++[r.queue])=_
    simp[iE]
  ·have e:¬(i.b.a.qAt r.queue).count=0:=by simpa using e
   rw[Book.dropF,hgd,yOr e,hu]
   exact⟨rfl,rfl,rfl,rfl,rfl,rfl,rfl,rfl,rfl,trivial⟩
 ·have hu:i.b.unhas 1 i.id={i.b with has1:=i.b.has1}:=by
   rw[Book.unhas,yOr]
   rintro⟨e,_⟩
   exact absurd (show i.b.has1=true from e) (by rw[c1];decide)
  refine⟨⟨{i.b with has1:=i.b.has1,at_:=cM i.id i.b.at_},i.price⟩,rfl,rfl,rfl,rfl,rfl,rfl,rfl,rfl,rfl,(aK _ _).symm,rfl,hsm,fun _ _=>⟨⟨by omega,hn2⟩,r.queue,elA hr (by simp[zB]) rfl,⟨i.b.a,r.queue⟩,rfl,rfl,trivial,fun _ _=>Cv.cnd.mk (fun e=>⟨by simp only[y6];omega,⟨i.b.buys.map zB,zS 1 (i.b.rungs 1) i.price,zS 1 (i.b.rungs 1) i.price+1⟩,rfl,(hw 0).symm,rfl,⟨yUd _,by rw[yOs];exact hn⟩,fun _ _=>⟨rfl,(),?_⟩⟩) (fun e=>⟨(),?_⟩)⟩⟩
  ·have e:(i.b.a.qAt r.queue).count=0:=by simpa using e
   rw[Book.dropF,hgd,yOu e,hu]
   refine⟨rfl,rfl,rfl,rfl,rfl,rfl,?_,rfl,?_,trivial⟩
   ·show List.map zB (i.b.buys.take _++i.b.buys.drop _)=_
    rw[yPc,ySr,yTu]
   ·show iE (i.b.spare++[r.queue])=_
    simp[iE]
  ·have e:¬(i.b.a.qAt r.queue).count=0:=by simpa using e
   rw[Book.dropF,hgd,yOr e,hu]
   exact⟨rfl,rfl,rfl,rfl,rfl,rfl,rfl,rfl,rfl,trivial⟩
theorem z2b:drop1C.ok Tryz.prog 196:=okw mixed (gokc zHq (gokc cW (gokc zYc gok0))) 0 (fun _=>[]) (fun _=>[]) [] Tryz.func196 yJo
theorem yIh (i:DrI) (h:drop2C.cnd i):z2w i:=by
 obtain⟨hsm,hn⟩:i.ok 2:=h
 obtain⟨⟨ha1,ha2⟩,hb1,hb2,hsp⟩:=id hsm
 have hn:zS 2 i.b.sells i.price<i.b.sells.length:=hn
 obtain⟨r,hr⟩:=z8 (l:=i.b.sells) hn
 have hgd:((i.b.rungs 2).getD (zS 2 (i.b.rungs 2) i.price) ⟨0,0⟩)=r:=zQ hr
 have hw:∀k:Int,IntKind.i64.wrap ((zS 2 (i.b.rungs 2) i.price:Int)+1)=((zS 2 (i.b.rungs 2) i.price+1:Nat):Int):=fun _=>by
  have:=lS 2 i.price (i.b.rungs 2)
  have hl:(i.b.rungs 2).length≤1000000:=by show i.b.sells.length≤_;omega
  rw[w64 (by omega)];rfl
 have hn2:((zS 2 (i.b.rungs 2) i.price:Nat):Int)<((List.map zB i.b.sells).length:Int):=by
  rw[yOs]
  show((zS 2 i.b.sells i.price:Nat):Int)<_
  omega
 unfold z2w zAj zBh v7 j0 xJ xB yT dI
 refine⟨kD _ _,Cv.cnd.mk (fun c1=>Cv.cnd.mk (fun c2=> ?_) (fun c2=> ?_)) (fun c1=> ?_)⟩
 ·have c2:i.b.top2=i.id:=by simpa using c2
  have hu:i.b.unhas 2 i.id={i.b with has2:=false}:=by rw[Book.unhas,yOu ⟨c1,c2⟩];rfl
  refine⟨⟨{i.b with has2:=false,at_:=cM i.id i.b.at_},i.price⟩,rfl,rfl,rfl,rfl,rfl,rfl,rfl,rfl,rfl,(aK _ _).symm,rfl,hsm,fun _ _=>⟨⟨by omega,hn2⟩,r.queue,elA hr (by simp[zB]) rfl,⟨i.b.a,r.queue⟩,rfl,rfl,trivial,fun _ _=>Cv.cnd.mk (fun e=>⟨by simp only[y6];omega,⟨i.b.sells.map zB,zS 2 (i.b.rungs 2) i.price,zS 2 (i.b.rungs 2) i.price+1⟩,rfl,(hw 0).symm,rfl,⟨yUd _,by rw[yOs];exact hn⟩,fun _ _=>⟨rfl,(),?_⟩⟩) (fun e=>⟨(),?_⟩)⟩⟩
  ·have e:(i.b.a.qAt r.queue).count=0:=by simpa using e
   rw[Book.dropF,hgd,yOu e,hu]
   refine⟨rfl,rfl,rfl,rfl,rfl,rfl,rfl,?_,?_,trivial⟩
   ·show List.map zB (i.b.sells.take _++i.b.sells.drop _)=_
    rw[yPc,ySr,yTu]
   ·show iE (i.b.spare++[r.queue])=_
    simp[iE]
  ·have e:¬(i.b.a.qAt r.queue).count=0:=by simpa using e
   rw[Book.dropF,hgd,yOr e,hu]
   exact⟨rfl,rfl,rfl,rfl,rfl,rfl,rfl,rfl,rfl,trivial⟩
 ·have c2:¬i.b.top2=i.id:=by simpa using c2
  have hu:i.b.unhas 2 i.id={i.b with has2:=i.b.has2}:=by rw[Book.unhas,yOr (fun e=>c2 e.2)]
  refine⟨⟨{i.b with has2:=i.b.has2,at_:=cM i.id i.b.at_},i.price⟩,rfl,rfl,rfl,rfl,rfl,rfl,rfl,rfl,rfl,(aK _ _).symm,rfl,hsm,fun _ _=>⟨⟨by omega,hn2⟩,r.queue,elA hr (by simp[zB]) rfl,⟨i.b.a,r.queue⟩,rfl,rfl,trivial,fun _ _=>Cv.cnd.mk (fun e=>⟨by simp only[y6];omega,⟨i.b.sells.map zB,zS 2 (i.b.rungs 2) i.price,zS 2 (i.b.rungs 2) i.price+1⟩,rfl,(hw 0).symm,rfl,⟨yUd _,by rw[yOs];exact hn⟩,fun _ _=>⟨rfl,(),?_⟩⟩) (fun e=>⟨(),?_⟩)⟩⟩
  ·have e:(i.b.a.qAt r.queue).count=0:=by simpa using e
   rw[Book.dropF,hgd,yOu e,hu]
   refine⟨rfl,rfl,rfl,rfl,rfl,rfl,rfl,?_,?_,trivial⟩
   ·show List.map zB (i.b.sells.take _++i.b.sells.drop _)=_
    rw[yPc,ySr,yTu]
   ·show iE (i.b.spare++[r.queue])=_
    simp[iE]
  ·have e:¬(i.b.a.qAt r.queue).count=0:=by simpa using e
   rw[Book.dropF,hgd,yOr e,hu]
   exact⟨rfl,rfl,rfl,rfl,rfl,rfl,rfl,rfl,rfl,trivial⟩
 ·have hu:i.b.unhas 2 i.id={i.b with has2:=i.b.has2}:=by
   rw[Book.unhas,yOr]
   rintro⟨e,_⟩
   exact absurd (show i.b.has2=true from e) (by rw[c1];decide)
  refine⟨⟨{i.b with has2:=i.b.has2,at_:=cM i.id i.b.at_},i.price⟩,rfl,rfl,rfl,rfl,rfl,rfl,rfl,rfl,rfl,(aK _ _).symm,rfl,hsm,fun _ _=>⟨⟨by omega,hn2⟩,r.queue,elA hr (by simp[zB]) rfl,⟨i.b.a,r.queue⟩,rfl,rfl,trivial,fun _ _=>Cv.cnd.mk (fun e=>⟨by simp only[y6];omega,⟨i.b.sells.map zB,zS 2 (i.b.rungs 2) i.price,zS 2 (i.b.rungs 2) i.price+1⟩,rfl,(hw 0).symm,rfl,⟨yUd _,by rw[yOs];exact hn⟩,fun _ _=>⟨rfl,(),?_⟩⟩) (fun e=>⟨(),?_⟩)⟩⟩
  ·have e:(i.b.a.qAt r.queue).count=0:=by simpa using e
   rw[Book.dropF,hgd,yOu e,hu]
   refine⟨rfl,rfl,rfl,rfl,rfl,rfl,rfl,?_,?_,trivial⟩
   ·show List.map zB (i.b.sells.take _++i.b.sells.drop _)=_
    rw[yPc,ySr,yTu]
   ·show iE (i.b.spare++[r.queue])=_
    simp[iE]
  ·have e:¬(i.b.a.qAt r.queue).count=0:=by simpa using e
   rw[Book.dropF,hgd,yOr e,hu]
   exact⟨rfl,rfl,rfl,rfl,rfl,rfl,rfl,rfl,rfl,trivial⟩
theorem z4v:drop2C.ok Tryz.prog 196:=okw mixed (gokc zIh (gokc cW (gokc zYc gok0))) 0 (fun _=>[]) (fun _=>[]) [] Tryz.func196 yIh
theorem yBe:dropC.ok Tryz.prog 196:=fun j=>match j with
 |⟨i,false⟩=>z2b i
 |⟨i,true⟩=>z4v i
theorem yAq {a:Arena} {k:Nat} {p t:Int} {m:Nat} (h:zNh (a.slotAt k) m k p t) (hl:k<a.slots.length):a.getF k=((a.slotAt k).ent,true):=by
 have:a.usedAt k=true:=by
  simp only[Arena.usedAt,yPh,yRf,yPj]
  exact⟨by omega,by omega,h.used⟩
 rw[Arena.getF,yOu this,yPj]
theorem zSa {b:Book} {Q:List (List Nat)} (c:b.Core Q (-1)) {id s:Int} {r:y3} {k:Nat} (h:Told b Q id s r k):b.a.getF k=((b.a.slotAt k).ent,true)∧(b.a.slotAt k).qty≤1000000∧1≤(b.a.slotAt k).qty:=by
 obtain⟨h1,⟨p,t,h2⟩,h3⟩:=c.wf.toWf0.mem (c.get h.hs h.hr) h.hk
 exact⟨yAq h2 (by rw[c.wf.len];exact h1),h2.q2,c.wf.pos _ _ (c.get h.hs h.hr) _ h.hk⟩
theorem yHj (i:FlI) (h:bfindC.cnd i):z5x i:=by
 obtain⟨Q,c,ht,hL⟩:i.b.Rep i.L:=h
 unfold z5x zAo tY mO dI
 rcases c.told i.id with⟨hg,hn⟩|⟨s,r,k,hT⟩
 ·refine⟨kD _ _,false,0,0,0,.inr ⟨?_,rfl,rfl⟩,Cv.cnd.mk (fun _=> ?_) (fun e=>absurd e (by decide))⟩
  ·rw[rB,hg];rfl
  ·rw[← hL]at hn
   rw[yFr hn,hn]
   exact⟨(),by(repeat'(first|exact trivial|exact rfl|apply And.intro))⟩
 ·refine⟨kD _ _,true,s,r.price,k,.inl ⟨?_,rfl⟩,Cv.cnd.mk (fun e=>absurd e (by decide)) (fun _=>dup ⟨⟨i.b.a,k⟩,rfl,rfl,by dsimp only;rw[c.wf.len];decide,fun _ _=>⟨(),?_⟩⟩)⟩
  ·rw[rB,hT.e];rfl
  ·have h1:=hT.get
   have h2:=hT.has
   rw[← hL]at h1 h2
   rw[h1,h2,(zSa c hT).1]
   exact⟨hT.ident,by(repeat'(first|exact trivial|exact rfl|apply And.intro))⟩
theorem zPn:bfindC.ok Tryz.prog 105:=okw mixed (gokc zXv gok0) 0 (fun _=>[]) (fun _=>[]) [0] Tryz.func105 yHj
theorem Book.Core.okAt {b:Book} {Q:List (List Nat)} (c:b.Core Q (-1)):b.a.okAt:=c.wf.toWf0.ok
theorem yJy (i:FlI) (h:fillC.cnd i):yDs i:=by
 have hR:i.b.Rep i.L:=h
 obtain⟨Q,c,ht,hL⟩:=id hR
 unfold yDs zNo zFm jG rE mO dI
 rcases c.told i.id with⟨hg,hn⟩|⟨s,r,k,hT⟩
 ·refine⟨kD _ _,false,0,0,0,.inr ⟨?_,rfl,rfl⟩,Cv.cnd.mk (fun _=> ?_) (fun e=>absurd e (by simp))⟩
  ·rw[rB,hg];rfl
  ·rw[← hL]at hn
   rw[xF,yOu hn]
   exact⟨i.b,rfl,rfl,rfl,rfl,rfl,rfl,rfl,rfl,rfl,rfl,hR⟩
 have hg:=hT.get
 have hh:=hT.has
 rw[← hL]at hg hh
 obtain⟨hsg,hq1,hq2⟩:=zSa c hT
 have hqq:(uX i.L i.id).qty=(i.b.a.slotAt k).qty:=by rw[hg];rfl
 refine⟨kD _ _,true,s,r.price,k,.inl ⟨?_,rfl⟩,Cv.cnd.mk (fun e=>absurd e (by simp)) (fun _=>⟨⟨i.b.a,k,i.qty⟩,rfl,rfl,rfl,c.okAt,fun _ _=> ?_⟩)⟩
 ·rw[rB,hT.e];rfl
 dsimp only
 have hu:i.b.a.usedAt k=true:=by
  cases hu:i.b.a.usedAt k with
  |true=>rfl
  |false=>rw[Arena.getF,yOr (by rw[hu];decide)]at hsg;exact absurd (congrArg Prod.snd hsg) (by simp)
 by_cases hb:i.qty<1∨(i.b.a.slotAt k).qty<i.qty
 ·have ht:i.b.a.takeF k i.qty=(i.b.a,24):=by rw[Arena.takeF,yOr (by rw[hu];decide),yPj,yOu hb]
  rw[ht]
  refine Cv.cnd.mk (fun _=> ?_) (fun e=>absurd e (by simp))
  rw[xF,yOr (by rw[hh];decide),yOu (by rw[hqq];exact hb)]
  exact⟨i.b,rfl,rfl,rfl,rfl,rfl,rfl,rfl,rfl,rfl,rfl,hR⟩
 have hfl:xF i.L i.id i.qty=(wS i.L i.id i.qty,0):=by rw[xF,yOr (by rw[hh];decide),yOr (by rw[hqq];exact hb)]
 by_cases hf:i.qty=(i.b.a.slotAt k).qty
 ·obtain⟨g1,g2,g3,g4,g5,g6⟩:=c.gone (by rw[← hL];exact ht) hT (q:=i.qty) ⟨by omega,hf⟩
  rw[← hL]at g2
  have hsm:=c.small
  rw[g1]
  refine Cv.cnd.mk (fun e=>absurd e (by simp)) (fun _=>dup ⟨⟨(i.b.a.takeF k i.qty).1,k⟩,rfl,rfl,by dsimp only;rw[g3];decide,fun _ _=> ?_⟩)
  dsimp only
  rw[g5]
  refine Cv.cnd.mk (fun _=> ?_) (fun e=>absurd e (by simp))
  rcases hT.hs with rfl|rfl
  ·refine⟨⟨⟨{i.b with a:=(i.b.a.takeF k i.qty).1},i.id,r.price,k⟩,false⟩,rfl,rfl,rfl,rfl,rfl,rfl,rfl,rfl,rfl,rfl,rfl,rfl,rfl,⟨⟨⟨by dsimp only;rw[g3];decide,by dsimp only;rw[g4];exact hsm.1.2⟩,hsm.2⟩,g6⟩,fun _ _=> ?_⟩
   refine⟨({i.b with a:=(i.b.a.takeF k i.qty).1}:Book).dropF 1 i.id r.price,by rw[hfl],rfl,rfl,rfl,rfl,rfl,rfl,rfl,rfl,rfl,by rw[hfl];exact g2⟩
  ·refine⟨⟨⟨{i.b with a:=(i.b.a.takeF k i.qty).1},i.id,r.price,k⟩,true⟩,rfl,rfl,rfl,rfl,rfl,rfl,rfl,rfl,rfl,rfl,rfl,rfl,rfl,⟨⟨⟨by dsimp only;rw[g3];decide,by dsimp only;rw[g4];exact hsm.1.2⟩,hsm.2⟩,g6⟩,fun _ _=> ?_⟩
   refine⟨({i.b with a:=(i.b.a.takeF k i.qty).1}:Book).dropF 2 i.id r.price,by rw[hfl],rfl,rfl,rfl,rfl,rfl,rfl,rfl,rfl,rfl,by rw[hfl];exact g2⟩
 ·obtain⟨g1,g2,g3,g4,g5⟩:=c.less (by rw[← hL];exact ht) hT (q:=i.qty) (by omega)
  rw[← hL]at g2
  rw[g1]
  refine Cv.cnd.mk (fun e=>absurd e (by simp)) (fun _=>dup ⟨⟨(i.b.a.takeF k i.qty).1,k⟩,rfl,rfl,by dsimp only;rw[g3];decide,fun _ _=> ?_⟩)
  dsimp only
  rw[g4]
  refine Cv.cnd.mk (fun e=>absurd e (by simp)) (fun _=>Cv.cnd.mk (fun e=> ?_) (fun _=> ?_))
  ·have e:¬((i.b.a.takeF k i.qty).1.slotAt k).ent.id=i.id:=by simpa using e
   exact absurd g5 e
  ·exact⟨{i.b with a:=(i.b.a.takeF k i.qty).1},by rw[hfl],rfl,rfl,rfl,rfl,rfl,rfl,rfl,rfl,rfl,by rw[hfl];exact g2⟩
theorem yBq:fillC.ok Tryz.prog 157:=okw mixed (gokc z2h (gokc zXv (gokc yBe gok0))) 0 (fun _=>[]) (fun _=>[]) [0] Tryz.func157 yJy
theorem zLv (A B:List zG) (s p:Int):atL (A++B) s p=atL A s p++atL B s p:=ySj _ _
theorem zMy {A:List zG} {s p:Int} (h:∀o∈A,o.side=s→o.price≠p):atL A s p=[]:=by
 rw[atL,List.filter_eq_nil_iff]
 intro o ho
 by_cases e:o.side=s
 ·simp[h o ho e]
 ·simp[e]
theorem z9j {A:List zG} {s p:Int} (h:∀o∈A,o.side=s∧o.price=p):atL A s p=A:=by
 rw[atL,yUe]
 intro o ho
 simp[h o ho]
theorem zFt {s x y:Int} (h:btr s x y=true):x≠y:=by
 rintro rfl;rw[pQ]at h;cases h
theorem Book.Core.at_no {b:Book} {Q:List (List Nat)} (c:b.Core Q (-1)) {s p:Int} (hs:s=1∨s=2) (h:x6 s (b.rungs s) p=false):atL (b.flat Q) s p=[]:=by
 have hsp:=sJ (p:=p) (c.srt s hs)
 rw[yOr (by rw[h];decide)]at hsp
 refine zMy fun o ho e=> ?_
 obtain⟨_,r,hr,_,hp⟩:=bP ho
 rw[e]at hr
 rw[hp]
 rw[← yQu (zS s (b.rungs s) p) (b.rungs s)]at hr
 rcases yPv.1 hr with hr|hr
 ·exact zFt (hsp.1 r hr)
 ·exact(zFt (hsp.2 r hr)).symm
theorem Book.Core.at_yes {b:Book} {Q:List (List Nat)} (c:b.Core Q (-1)) {s p:Int} (hs:s=1∨s=2) (h:x6 s (b.rungs s) p=true):∃r,(b.rungs s)[zS s (b.rungs s) p]? =some r∧r.price=p∧r∈b.rungs s∧atL (b.flat Q) s p=b.rOrds Q s r:=by
 have hsp:=sJ (p:=p) (c.srt s hs)
 rw[yOu h]at hsp
 obtain⟨h1,r,hr,hp,h2⟩:=hsp
 have hlt:=(yOt.1 hr).1
 refine⟨r,hr,hp,yPe hr,?_⟩
 have hsplit:b.rungs s=(b.rungs s).take (zS s (b.rungs s) p)++r::(b.rungs s).drop (zS s (b.rungs s) p+1):=by
  conv=>lhs;rw[← yQu (zS s (b.rungs s) p) (b.rungs s)]
  rw[yRh hlt,(yOt.1 hr).2]
 have hside:atL (b.sideL Q s) s p=b.rOrds Q s r:=by
  rw[Book.sideL,hsplit,yQl,yQh,zLv,zLv,zMy,z9j,zMy,yPp,yRc]
  ·intro o ho _
   obtain⟨r',hr',ho⟩:=yRb.1 ho
   rw[(xO ho).2];exact(zFt (h2 r' hr')).symm
  ·intro o ho
   rw[← hp];exact xO ho
  ·intro o ho _
   obtain⟨r',hr',ho⟩:=yRb.1 ho
   rw[(xO ho).2];exact zFt (h1 r' hr')
 have hother:∀s',s'≠s→atL (b.sideL Q s') s p=[]:=fun s' hne=>zMy fun o ho e=>absurd ((dL ho).1.symm.trans e) hne
 rw[Book.flat,zLv]
 rcases hs with rfl|rfl
 ·rw[hside,hother 2 (by decide),yPp]
 ·rw[hside,hother 1 (by decide),yRc]
theorem Book.Core.listOk {b:Book} {Q:List (List Nat)} (c:b.Core Q (-1)) {s:Int} (hs:s=1∨s=2) {r:y3} (hr:r∈b.rungs s):b.a.listOk r.queue (yW Q r):=by
 have hg:=c.get hs hr
 have hrq:=c.rng _ (wW hs hr)
 refine⟨by have:=c.wf.toWf0.short hg;omega,?_⟩
 rw[yOu ⟨hrq.1,by rw[c.wf.ql];exact hrq.2⟩,zQ (c.wf.q _ _ hg)]
 exact zJz (c.wf.sg _ _ hg)
theorem yNx (i:AtI) (h:at1C.cnd i):yLw i:=by
 obtain⟨Q,c,ht,hL⟩:i.b.Rep i.L:=h
 unfold yLw v8 j9 xJ xA xX dI
 refine⟨1,rfl,trivial,fun _ _=>Cv.cnd.mk (fun e=>absurd e (by decide)) fun _=>⟨⟨i.b,i.price⟩,rfl,rfl,rfl,rfl,rfl,rfl,rfl,rfl,rfl,rfl,rfl,c.small,fun _ _=>Cv.cnd.mk (fun e=> ?_) (fun e=> ?_)⟩⟩
 ·have e:x6 1 (i.b.rungs 1) i.price=false:=by simpa using e
  have:=c.at_no (.inl rfl) e
  rw[← hL]at this
  refine⟨(),rfl,rfl,rfl,rfl,rfl,rfl,rfl,rfl,rfl,?_,trivial⟩
  show List.map jE (atL i.L 1 i.price)=[]
  rw[this];rfl
 ·have e:x6 1 (i.b.rungs 1) i.price=true:=by simpa using e
  obtain⟨r,hr,hp,hm,ha⟩:=c.at_yes (.inl rfl) e
  rw[← hL]at ha
  have hlt:=(yOt.1 hr).1
  refine⟨⟨by omega,by rw[yOs];exact Int.ofNat_lt.2 hlt⟩,r.price,r.queue,elA hr (by simp[zB]) rfl,⟨i.b,1,r,yW Q r⟩,rfl,rfl,rfl,rfl,rfl,rfl,rfl,rfl,rfl,rfl,rfl,rfl,c.listOk (.inl rfl) hm,fun _ _=>⟨(),rfl,?_,trivial⟩⟩
  show List.map jE (atL i.L 1 i.price)=_
  rw[ha,BoI.ords,Book.rOrds,Arena.ents];simp only[yRe];rfl
theorem yHq:at1C.ok Tryz.prog 218:=okw mixed (gokc nX (gokc zHq (gokc zLc gok0))) 0 (fun _=>[]) (fun _=>[]) [0] Tryz.func218 yNx
theorem yOf (i:AtI) (h:at2C.cnd i):yMi i:=by
 obtain⟨Q,c,ht,hL⟩:i.b.Rep i.L:=h
 unfold yMi v7 j0 xJ xB xX dI
 refine⟨2,rfl,trivial,fun _ _=>Cv.cnd.mk (fun e=>absurd e (by decide)) fun _=>⟨⟨i.b,i.price⟩,rfl,rfl,rfl,rfl,rfl,rfl,rfl,rfl,rfl,rfl,rfl,c.small,fun _ _=>Cv.cnd.mk (fun e=> ?_) (fun e=> ?_)⟩⟩
 ·have e:x6 2 (i.b.rungs 2) i.price=false:=by simpa using e
  have:=c.at_no (.inr rfl) e
  rw[← hL]at this
  refine⟨(),rfl,rfl,rfl,rfl,rfl,rfl,rfl,rfl,rfl,?_,trivial⟩
  show List.map jE (atL i.L 2 i.price)=[]
  rw[this];rfl
 ·have e:x6 2 (i.b.rungs 2) i.price=true:=by simpa using e
  obtain⟨r,hr,hp,hm,ha⟩:=c.at_yes (.inr rfl) e
  rw[← hL]at ha
  have hlt:=(yOt.1 hr).1
  refine⟨⟨by omega,by rw[yOs];exact Int.ofNat_lt.2 hlt⟩,r.price,r.queue,elA hr (by simp[zB]) rfl,⟨i.b,2,r,yW Q r⟩,rfl,rfl,rfl,rfl,rfl,rfl,rfl,rfl,rfl,rfl,rfl,rfl,c.listOk (.inr rfl) hm,fun _ _=>⟨(),rfl,?_,trivial⟩⟩
  show List.map jE (atL i.L 2 i.price)=_
  rw[ha,BoI.ords,Book.rOrds,Arena.ents];simp only[yRe];rfl
theorem yHk:at2C.ok Tryz.prog 218:=okw mixed (gokc nX (gokc zIh (gokc zLc gok0))) 0 (fun _=>[]) (fun _=>[]) [0] Tryz.func218 yOf
theorem yKz:atC.ok Tryz.prog 218:=fun j=>match j with
 |⟨b,L,false,p⟩=>yHq ⟨b,L,false,p⟩
 |⟨b,L,true,p⟩=>yHk ⟨b,L,true,p⟩
open Go Cv Go.Proofs
def zPa (p:Int) (l:List zG):Lv:=⟨p,(l.map (·.qty)).sum,l.length⟩
theorem zRn:∀{l:List zG} {v:Lv} {vs:List Lv},grp l=v::vs→∃o r,l=o::r∧o.price=v.price
 |[],v,vs,h=>by cases h
 |o::r,v,vs,h=>by
  refine⟨o,r,rfl,?_⟩
  rw[grp]at h
  split at h
  ·cases h;rfl
  ·split at h
   ·rename_i e;cases h;exact e.symm
   ·cases h;rfl
theorem zXk {p:Int}:∀{l:List zG} {m:List zG},l≠[]→(∀o∈l,o.price=p)→(∀o r,m=o::r→o.price≠p)→grp (l++m)=zPa p l::grp m
 |[],m,h,_,_=>absurd rfl h
 |[o],m,_,h,hm=>by
  have e:=h o yOx
  rw[List.singleton_append,grp]
  split
  ·rename_i g;simp[zPa,e,g]
  ·rename_i v vs g
   obtain⟨o',r,e1,e2⟩:=zRn g
   have:=hm o' r e1
   rw[yOr (by omega)];simp[zPa,e,g]
 |o::o'::l,m,_,h,hm=>by
  have e:=h o yOx
  have ih:=zXk (l:=o'::l) (m:=m) (by simp) (fun x hx=>h x (yOz _ hx)) hm
  rw[yQe,grp,ih]
  dsimp only
  rw[yOu (show(zPa p (o'::l)).price=o.price from e.symm)]
  simp only[zPa,yPd,yQc,yOy]
  rfl
theorem zPs {f:y3→List zG}:∀{R:List y3},(∀r∈R,f r≠[]∧∀o∈f r,o.price=r.price)→R.Pairwise (fun r r'=>r.price≠r'.price)→grp (R.flatMap f)=R.map fun r=>zPa r.price (f r)
 |[],_,_=>rfl
 |r::R,h,hp=>by
  rw[yUn]at hp
  have ih:=zPs (R:=R) (fun x hx=>h x (yOz _ hx)) hp.2
  rw[yQh,zXk (h r yOx).1 (h r yOx).2,ih,yPd]
  intro o l e
  cases R with
  |nil=>cases e
  |cons r' R'=>
   rw[yQh]at e
   obtain⟨h1,h2⟩:=h r' (yOz _ yOx)
   cases hf:f r' with
   |nil=>exact absurd hf h1
   |cons x y=>
    rw[hf,yQe]at e
    cases e
    rw[h2 o (by rw[hf];exact yOx)]
    exact(hp.1 r' yOx).symm
theorem zJf {b:Book} {Q:List (List Nat)} {s:Int} (hs:s=1∨s=2):(b.flat Q).filter (fun o=>decide (o.side=s))=b.sideL Q s:=by
 have h1:∀s',(b.sideL Q s').filter (fun o=>decide (o.side=s))=if s'=s then b.sideL Q s' else[]:=by
  intro s'
  split
  ·rename_i e
   rw[yUe]
   intro o ho
   rw[(dL ho).1,e];simp
  ·rename_i e
   rw[List.filter_eq_nil_iff]
   intro o ho
   rw[(dL ho).1];simp[e]
 rw[Book.flat,ySj,h1,h1]
 rcases hs with rfl|rfl
 ·simp
 ·simp
theorem Book.Core.neL {b:Book} {Q:List (List Nat)} (c:b.Core Q (-1)) {s:Int} (hs:s=1∨s=2) {r:y3} (hr:r∈b.rungs s):yW Q r≠[]:=c.ne s hs r hr fun e=>by have:=c.rng _ (wW hs hr);omega
theorem Book.Core.toldL {b:Book} {Q:List (List Nat)} (c:b.Core Q (-1)) {s:Int} (hs:s=1∨s=2) {r:y3} (hr:r∈b.rungs s):b.told r=zPa r.price (b.rOrds Q s r):=by
 have hg:=c.get hs hr
 have hrq:=c.rng _ (wW hs hr)
 have hq:=c.wf.q _ _ hg
 have hql:=c.wf.ql
 rw[Book.told,zNj hrq.1 hq,zPa,Book.rOrds,yRe,yOs]
 rfl
theorem Book.Core.lad {b:Book} {Q:List (List Nat)} (c:b.Core Q (-1)) {s:Int} (hs:s=1∨s=2):g7 (b.flat Q) s=(b.rungs s).map b.told:=by
 rw[g7,zJf hs,Book.sideL,zPs]
 ·exact yPx fun r hr=>(c.toldL hs hr).symm
 ·intro r hr
  refine⟨fun e=>c.neL hs hr (List.map_eq_nil_iff.1 e),fun o ho=>(xO ho).2⟩
 ·exact(c.srt s hs).imp fun h=>zFt h
theorem Book.Core.bestL {b:Book} {Q:List (List Nat)} (c:b.Core Q (-1)) {s:Int} (hs:s=1∨s=2):b.best (b.rungs s)=Sx.bestL (b.flat Q) s:=by
 rw[Sx.bestL,c.lad hs]
 cases b.rungs s<;>rfl
theorem Book.Core.cnt {b:Book} {Q:List (List Nat)} (c:b.Core Q (-1)):b.cntOk:=by
 intro q hq
 obtain⟨n,hn⟩:=yRg.1 hq
 have hlt:=(yOt.1 hn).1
 rw[c.wf.ql]at hlt
 obtain⟨l,hl⟩:=z8 hlt
 have:=c.wf.q n l hl
 rw[hn]at this
 cases this
 have:=c.wf.toWf0.short hl
 constructor<;>dsimp only<;>omega
def kB (L:List zG):Top:=(top0.buy (bestL L 1)).sell (bestL L 2)
theorem Book.Rep.top {b:Book} {L:List zG} (h:b.Rep L):b.top=kB L:=by
 obtain⟨Q,c,ht,rfl⟩:=h
 rw[Book.top,kB,← c.bestL (.inl rfl),← c.bestL (.inr rfl)];rfl
theorem Book.Rep.cnt {b:Book} {L:List zG} (h:b.Rep L):b.cntOk:=by
 obtain⟨Q,c,ht,rfl⟩:=h
 exact c.cnt
structure zEl (o:zG):Prop where
 s:o.side=1∨o.side=2
 q:1≤o.qty∧o.qty≤1000000
theorem Book.Rep.ords {b:Book} {L:List zG} (h:b.Rep L):(∀o∈L,zEl o)∧(L.map (·.id)).Nodup∧L.length≤250:=by
 obtain⟨Q,c,ht,rfl⟩:=h
 refine⟨fun o ho=> ?_,c.ids,?_⟩
 ·obtain⟨hs,r,hr,ho,hp⟩:=bP ho
  refine⟨hs,?_⟩
  obtain⟨k,hk,e⟩:=yQk.1 ho
  obtain⟨_,⟨_,_,h2⟩,_⟩:=c.wf.toWf0.mem (c.get hs hr) hk
  have eq:o.qty=(b.a.slotAt k).qty:=by rw[← e];rfl
  rw[eq]
  exact⟨c.wf.pos _ _ (c.get hs hr) _ hk,h2.q2⟩
 ·have hnd:(((b.rungs 1).flatMap (yW Q)++(b.rungs 2).flatMap (yW Q))).Nodup:=by
   have hm:((b.flat Q).map (·.id))=((b.rungs 1).flatMap (yW Q)++(b.rungs 2).flatMap (yW Q)).map fun k=>(b.a.slotAt k).id:=by
    rw[Book.flat,yPc,yPc,Book.sideL,Book.sideL,nH,nH,nH,nH]
    congr 1
    ·exact yX fun r _=>by rw[Book.rOrds,yRe];rfl
    ·exact yX fun r _=>by rw[Book.rOrds,yRe];rfl
   have:=c.ids
   rw[hm]at this
   exact List.Pairwise.of_map _ (fun a b hab e=>hab (by rw[e])) this
  have hl:(b.flat Q).length=((b.rungs 1).flatMap (yW Q)++(b.rungs 2).flatMap (yW Q)).length:=by
   rw[Book.flat,yOw,yOw,Book.sideL,Book.sideL,yTh,yTh,yTh,yTh]
   congr 1
   ·congr 1;exact yPx fun r _=>by rw[Book.rOrds,yOs]
   ·congr 1;exact yPx fun r _=>by rw[Book.rOrds,yOs]
  rw[hl]
  refine zGx 250 hnd fun k hk=> ?_
  rcases yPv.1 hk with hk|hk
  ·obtain⟨r,hr,hk⟩:=yRb.1 hk
   exact(c.wf.toWf0.mem (c.get (.inl rfl) hr) hk).1
  ·obtain⟨r,hr,hk⟩:=yRb.1 hk
   exact(c.wf.toWf0.mem (c.get (.inr rfl) hr) hk).1
theorem Book.Rep.fit {b:Book} {L:List zG} (h:b.Rep L):b.fit:=by
 obtain⟨Q,c,ht,rfl⟩:=h
 have hs:=c.small
 have h1:=c.ql
 have h2:=c.wf.ql
 have hqb:=c.qb
 rw[Book.qs,yOw,yOw,yOs,yOs]at h1
 refine⟨⟨hs.1.1,fun hf=> ?_,fun q hq=> ?_⟩,by omega,by omega,by omega,by omega⟩
 ·obtain⟨k,_,hk,hk1,hku,_⟩:=c.wf.toWf0.unused hf
  exact⟨_,yPe hk1,hku⟩
 ·obtain⟨n,hn⟩:=yRg.1 hq
  have hlt:=(yOt.1 hn).1
  rw[c.wf.ql]at hlt
  obtain⟨l,hl⟩:=z8 hlt
  have:=c.wf.q n l hl
  rw[hn]at this
  cases this
  dsimp only
  rcases kU l with e|⟨y,j,e,e2⟩
  ·exact .inl ((bN l).2 e)
  ·rw[e2]
   have:=(c.wf.toWf0.mem hl (k:=j) (by rw[e];simp)).1
   rw[c.wf.len]
   exact .inr ⟨by omega,by omega⟩
def whL:Nat→List (List zG)→List (Int×Int)
 |_,[]=>[]
 |k,L::B=>L.map (fun o=>(o.id,(k:Int)))++whL (k+1) B
theorem whL_mem:∀{B:List (List zG)} {n:Nat} {x:Int×Int},x∈whL n B↔∃(k:Nat) (L:List zG),B[k]? =some L∧x.1∈L.map (·.id)∧x.2=((n+k:Nat):Int)
 |[],n,x=>by simp[whL]
 |L::B,n,x=>by
  rw[whL,yPv,whL_mem (B:=B)]
  constructor
  ·rintro(h|⟨k,L',h1,h2,h3⟩)
   ·obtain⟨o,ho,rfl⟩:=yQk.1 h
    exact⟨0,L,rfl,yPu (f:=(·.id)) ho,rfl⟩
   ·exact⟨k+1,L',h1,h2,by rw[h3];omega⟩
  ·rintro⟨k,L',h1,h2,h3⟩
   cases k with
   |zero=>
    cases h1
    obtain⟨o,ho,e⟩:=yQk.1 h2
    exact .inl (yQk.2 ⟨o,ho,Prod.ext e h3.symm⟩)
   |succ k=>exact .inr ⟨k,L',h1,h2,by rw[h3];omega⟩
theorem zDv:∀{B:List (List zG)} (n k:Nat),k<B.length→∃rest,∀X:List zG,(whL n (B.set k X)).Perm (X.map (fun o=>(o.id,((n+k:Nat):Int)))++rest)
 |[],n,k,h=>absurd h (by simp)
 |L::B,n,0,h=>⟨whL (n+1) B,fun X=> .refl _⟩
 |L::B,n,k+1,h=>by
  obtain⟨rest,hr⟩:=zDv (B:=B) (n+1) k (by simpa using h)
  refine⟨L.map (fun o=>(o.id,(n:Int)))++rest,fun X=> ?_⟩
  rw[yUj,whL]
  refine((hr X).append_left _).trans ?_
  rw[← yPb,← yPb,show n+1+k=n+(k+1)by omega]
  exact yQo.append_right _
structure MSt.Rep (s:MSt) (p:Prd) (B:List (List zG)):Prop where
 ep:s.p=p
 bl:s.books.length=B.length
 bk:∀(k:Nat) (b:Book) (L:List zG),s.books[k]? =some b→B[k]? =some L→b.Rep L
 wh:s.wh.Perm (whL 0 B)
 ids:((whL 0 B).map (·.1)).Nodup
def dE (B:List (List zG)) (id:Int):Option Nat:=B.findIdx? fun L=>kR L id
theorem vL {B:List (List zG)} {id:Int} {k:Nat} (h:dE B id=some k):∃L,B[k]? =some L∧kR L id=true:=by
 rw[dE,yRu]at h
 obtain⟨h1,h2,_⟩:=h
 exact⟨_,yPz h1,h2⟩
theorem zUl {B:List (List zG)} {id:Int} (h:dE B id=none):∀L∈B,kR L id=false:=by
 rw[dE,ySx]at h
 exact h
theorem zMo:∀{l:List (Int×Int)},(l.map (·.1)).Nodup→∀{k x:Int},(k,x)∈l→tT l k=some x
 |[],_,k,x,hx=>by cases hx
 |p::l,h,k,x,hx=>by
  rw[yPd,yRd]at h
  rw[tT,List.find?_cons]
  rcases yPk.1 hx with ex|hx
  ·subst ex;simp
  ·have:p.1≠k:=by rintro e;exact h.1 (e▸yPu (f:=(·.1)) hx)
   rw[yPm this]
   exact zMo h.2 hx
theorem z0e {l:List (Int×Int)} {k:Int} (h:k∉l.map (·.1)):tT l k=none:=by
 rw[tT,Option.map_eq_none_iff,List.find?_eq_none]
 intro x hx e
 have e:x.1=k:=by simpa using e
 exact h (e▸yPu (f:=(·.1)) hx)
theorem MSt.Rep.keys {s:MSt} {p:Prd} {B:List (List zG)} (h:s.Rep p B):(s.wh.map (·.1)).Nodup:=(h.wh.map (·.1)).nodup_iff.2 h.ids
theorem MSt.Rep.at_ {s:MSt} {p:Prd} {B:List (List zG)} (h:s.Rep p B) (id:Int):tT s.wh id=(dE B id).map (fun k:Nat=>(k:Int)):=by
 cases hi:dE B id with
 |none=>
  refine z0e fun hm=> ?_
  rw[(h.wh.map (·.1)).mem_iff]at hm
  obtain⟨x,hx,rfl⟩:=yQk.1 hm
  obtain⟨k,L,h1,h2,_⟩:=whL_mem.1 hx
  have:=zUl hi L (yPe h1)
  rw[hasId_iff.2 h2]at this;cases this
 |some k=>
  obtain⟨L,h1,h2⟩:=vL hi
  refine zMo h.keys (h.wh.mem_iff.2 (whL_mem.2 ⟨k,L,h1,hasId_iff.1 h2,by simp⟩))
open Go Cv Go.Proofs
def qC (B:List (List zG)) (id q:Int):List (List zG)×Int:=match dE B id with
 |none=>(B,26)
 |some k=>(B.set k (xF (B.getD k []) id q).1,(xF (B.getD k []) id q).2)
theorem zIl {L:List zG} (h:(L.map (·.id)).Nodup) (id q:Int):((xF L id q).1.map (·.id)=L.map (·.id)∧kR (xF L id q).1 id=kR L id)∨((xF L id q).1=L.filter (fun o=> !decide (o.id=id))∧kR (xF L id q).1 id=false):=by
 rw[xF]
 by_cases h1:kR L id=false
 ·rw[yOu h1];exact .inl ⟨rfl,rfl⟩
 have h1:kR L id=true:=by simpa using h1
 rw[yOr (by rw[h1];decide)]
 by_cases h2:q<1∨(uX L id).qty<q
 ·rw[yOu h2];exact .inl ⟨rfl,rfl⟩
 rw[yOr h2]
 dsimp only
 by_cases h3:(uX L id).qty=q
 ·refine .inr ?_
  have e:wS L id q=L.filter fun o=> !decide (o.id=id):=by rw[← h3];exact zKy h h1
  refine⟨e,?_⟩
  rw[e,kR,List.any_eq_false]
  intro o ho
  rw[yRa]at ho
  simpa using ho.2
 ·refine .inl ?_
  have hm:(wS L id q).map (·.id)=L.map (·.id):=by
   have:wS L id q=L.map fun o=>if o.id=id then{o with qty:=o.qty-q}else o:=by
    rw[wS,← List.filterMap_eq_map]
    refine dH fun o ho=> ?_
    simp only[Function.comp]
    by_cases e:o.id=id
    ·have hg:=mE h ho
     rw[e]at hg
     rw[yOu e,yOu e,yOr (fun e2=>h3 (by rw[hg];exact e2))]
    ·rw[yOr e,yOr e]
   rw[this,yRe]
   refine yPx fun o _=> ?_
   simp only[Function.comp]
   split<;>rfl
  refine⟨hm,?_⟩
  rw[yTs,hasId_iff,hasId_iff,hm]
theorem zWq:∀{l:List (Int×Int)} {k:Int},(l.map (·.1)).Nodup→zUf k l=l.filter fun x=> !decide (x.1=k)
 |[],k,_=>rfl
 |(a,b)::l,k,h=>by
  rw[yPd,yRd]at h
  rw[zUf]
  by_cases e:k=a
  ·subst e
   rw[yOu rfl,yTf (by simp)]
   symm
   rw[yUe]
   intro x hx
   have:x.1≠k:=fun e=>h.1 (e▸yPu (f:=(·.1)) hx)
   simp[this]
  ·rw[yOr e,yTe (by simp[Ne.symm e]),zWq h.2]
theorem zOy:∀{l:List (Int×Int)} {k x:Int},k∉l.map (·.1)→zSl k x l=l++[(k,x)]
 |[],k,x,_=>rfl
 |p::l,k,x,h=>by
  rw[yPd,yPk,not_or]at h
  rw[zSl,yOr h.1,zOy h.2];rfl
theorem wO {α:Type} {l:List α} {k:Nat} {x:α} (h:l[k]? =some x):l.set k x=l:=by
 apply yTd
 intro i
 rw[yTv]
 split
 ·rename_i e
  subst e
  rw[yOu (yOt.1 h).1,h]
 ·rfl
theorem MSt.Rep.set {s:MSt} {p:Prd} {B:List (List zG)} (h:s.Rep p B) {k:Nat} {L':List zG} {b':Book} (hb:b'.Rep L') (hk:k<B.length) {wh':List (Int×Int)} (hw:wh'.Perm (whL 0 (B.set k L'))) (hi:((whL 0 (B.set k L')).map (·.1)).Nodup):({s with books:=s.books.set k b',wh:=wh'}:MSt).Rep p (B.set k L'):=by
 refine⟨h.ep,by simpa using h.bl,fun j b L h1 h2=> ?_,hw,hi⟩
 by_cases e:k=j
 ·subst e
  have h1:(s.books.set k b')[k]? =some b:=h1
  rw[uJ (by rw[h.bl];exact hk)]at h1
  rw[uJ hk]at h2
  cases h1;cases h2;exact hb
 ·have h1:(s.books.set k b')[j]? =some b:=h1
  rw[jY e]at h1 h2
  exact h.bk j b L h1 h2
theorem MSt.Rep.take {s:MSt} {p:Prd} {B:List (List zG)} (h:s.Rep p B) {id q:Int} {k:Nat} (hi:dE B id=some k) {L:List zG} (hL:B[k]? =some L) (hn:(L.map (·.id)).Nodup) {b':Book} (hb:b'.Rep (xF L id q).1):
 ({s with books:=s.books.set k b',wh:=if kR (xF L id q).1 id=true then s.wh else zUf id s.wh}:MSt).Rep p (qC B id q).1:=by
 have hk:=(yOt.1 hL).1
 have ht:(qC B id q).1=B.set k (xF L id q).1:=by simp only[qC,hi,zQ hL]
 obtain⟨L2,e1,hh⟩:=vL hi
 rw[hL]at e1;cases e1
 obtain⟨rest,hr⟩:=zDv (B:=B) 0 k hk
 have hL0:=hr L
 rw[wO hL]at hL0
 rw[ht]
 rcases zIl hn id q with⟨e1,e2⟩|⟨e1,e2⟩
 ·have hm:∀X Y:List zG,X.map (·.id)=Y.map (·.id)→X.map (fun o=>(o.id,((0+k:Nat):Int)))=Y.map (fun o=>(o.id,((0+k:Nat):Int))):=by
   intro X Y e
   have:=congrArg (List.map fun i:Int=>(i,((0+k:Nat):Int))) e
   rw[yRe,yRe]at this
   exact this
  have hp:(whL 0 (B.set k (xF L id q).1)).Perm (whL 0 B):=by
   refine(hr _).trans ?_
   rw[hm _ _ e1]
   exact hL0.symm
  rw[e2,hh,yOu rfl]
  exact h.set hb hk (h.wh.trans hp.symm) ((hp.map (·.1)).nodup_iff.2 h.ids)
 ·rw[e2,yOr (by decide)]
  have hrest:∀x∈rest,x.1≠id:=by
   intro x hx e
   have hnd:=(hL0.map (·.1)).nodup_iff.1 h.ids
   rw[yPc,yRe]at hnd
   have h1:id∈L.map ((·.1)∘fun o:zG=>(o.id,((0+k:Nat):Int))):=hasId_iff.1 hh
   exact(yQx.1 hnd).2.2 id h1 x.1 (yPu (f:=(·.1)) hx) e.symm
  have hp:(whL 0 (B.set k (xF L id q).1)).Perm ((whL 0 B).filter fun x=> !decide (x.1=id)):=by
   refine(hr _).trans (.trans ?_ (hL0.filter _).symm)
   rw[e1,ySj,List.filter_map]
   have:rest.filter (fun x=> !decide (x.1=id))=rest:=by
    rw[yUe]
    intro x hx
    simp[hrest x hx]
   rw[this]
   exact .refl _
  refine h.set hb hk ?_ ((hp.map (·.1)).nodup_iff.2 (h.ids.sublist (List.Sublist.map _ yUf)))
  rw[zWq h.keys]
  exact(h.wh.filter _).trans hp.symm
def zVd (p:Prd) (B:List (List zG)) (inst id:Int) (s price q:Int):List (List zG)×Int:=
 if inst<0∨B.length≤inst then(B,20)else if(dE B id).isSome=true then(B,25)else if 250≤(whL 0 B).length then(B,13)else if p.price inst price≠0 then(B,p.price inst price)
 else(B.set inst.toNat (zDr (B.getD inst.toNat []) s id price q).1,(zDr (B.getD inst.toNat []) s id price q).2)
theorem z3s (L:List zG) (s id p q:Int):((zNc L s id p q).map (·.id)).Perm (id::L.map (·.id)):=by
 have:∀X:List zG,((X.takeWhile (before s p)++⟨id,s,p,q,vI L s p⟩::X.dropWhile (before s p)).map (·.id)).Perm (id::X.map (·.id)):=by
  intro X
  conv=>rhs;rw[← yUg (p:=before s p) (l:=X)]
  rw[yPc,yPd,yPc]
  exact yPg
 rw[zNc]
 split
 ·refine(this _).trans ?_
  rw[zVy]
 ·exact this _
theorem MSt.Rep.add {s:MSt} {p:Prd} {B:List (List zG)} (h:s.Rep p B) (inst id:Int) (sd:Bool) (price q:Int):
 (MSt.addF ⟨s,inst,id,sd,price,q⟩).1.Rep p (zVd p B inst id (zC sd) price q).1∧(MSt.addF ⟨s,inst,id,sd,price,q⟩).2=(zVd p B inst id (zC sd) price q).2:=by
 have hsd:zC sd=1∨zC sd=2:=by cases sd;exact .inl rfl;exact .inr rfl
 rw[MSt.addF,zVd]
 dsimp only
 rw[h.bl,h.at_,h.wh.length_eq,show s.p.price inst price=p.price inst price by rw[h.ep],Option.isSome_map]
 by_cases c1:inst<0∨(B.length:Int)≤inst
 ·rw[yOu c1,yOu c1];exact⟨h,rfl⟩
 rw[yOr c1,yOr c1]
 by_cases c2:(dE B id).isSome=true
 ·rw[yOu c2,yOu c2];exact⟨h,rfl⟩
 rw[yOr c2,yOr c2]
 by_cases c3:250≤(whL 0 B).length
 ·rw[yOu c3,yOu c3];exact⟨h,rfl⟩
 rw[yOr c3,yOr c3]
 by_cases c4:p.price inst price≠0
 ·rw[yOu c4,yOu c4];exact⟨h,rfl⟩
 rw[yOr c4,yOr c4]
 obtain⟨k,hk⟩:∃k:Nat,inst=k:=⟨inst.toNat,by omega⟩
 subst hk
 rw[yPj]
 have hkl:k<B.length:=by omega
 obtain⟨b,hb⟩:=z8 (l:=s.books) (i:=k) (by rw[h.bl];exact hkl)
 obtain⟨L,hL⟩:=z8 (l:=B) (i:=k) hkl
 have hba:s.bookAt k=b:=by rw[MSt.bookAt,yPj];exact zQ hb
 rw[hba,zQ hL]
 obtain⟨r1,r2⟩:=(h.bk k b L hb hL).add hsd id price q
 refine⟨?_,r2⟩
 rw[r2]
 obtain⟨rest,hr⟩:=zDv (B:=B) 0 k hkl
 have hL0:=hr L
 rw[wO hL]at hL0
 have hcase:(zDr L (zC sd) id price q).2≠0∧(zDr L (zC sd) id price q).1=L∨(zDr L (zC sd) id price q).2=0∧(zDr L (zC sd) id price q).1=zNc L (zC sd) id price q:=by
  rw[zDr]
  repeat' split
  ·exact .inl ⟨by simp,rfl⟩
  ·exact .inl ⟨by simp,rfl⟩
  ·exact .inl ⟨by simp,rfl⟩
  ·exact .inr ⟨rfl,rfl⟩
 rcases hcase with⟨e1,e2⟩|⟨e1,e2⟩
 ·rw[yOr e1]
  refine h.set r1 hkl ?_ ?_
  ·rw[e2,wO hL];exact h.wh
  ·rw[e2,wO hL];exact h.ids
 ·rw[yOu e1]
  have hnk:id∉s.wh.map (·.1):=by
   intro hm
   obtain⟨x,hx,rfl⟩:=yQk.1 hm
   have:=zMo h.keys hx
   rw[h.at_]at this
   cases hq:dE B x.1 with
   |none=>rw[hq]at this;cases this
   |some j=>rw[hq]at c2;exact c2 rfl
  have hp:(whL 0 (B.set k (zDr L (zC sd) id price q).1)).Perm ((id,(k:Int))::whL 0 B):=by
   refine(hr _).trans (.trans ?_ (hL0.symm.cons _))
   rw[e2,← yQe]
   refine List.Perm.append_right _ ?_
   have:=(z3s L (zC sd) id price q).map fun i:Int=>(i,(k:Int))
   rw[yRe,yPd,yRe]at this
   rw[yPr]
   exact this
  refine h.set r1 hkl ?_ ((hp.map (·.1)).nodup_iff.2 (yRd.2 ⟨?_,h.ids⟩))
  ·rw[zOy hnk]
   exact(ySs _ _).trans ((h.wh.cons _).trans hp.symm)
  ·rw[← (h.wh.map (·.1)).mem_iff];exact hnk
theorem zNl:∀(n k:Nat),whL k (List.replicate n [])=[]
 |0,_=>rfl
 |n+1,k=>by rw[ySm,whL,zNl];rfl
theorem zSu (p:Prd):(mH p).Rep p (List.replicate p.count []):=by
 refine⟨rfl,by simp[mH],fun k b L h1 h2=> ?_,?_,?_⟩
 ·have e1:b=book0:=yUc (yPe (show(List.replicate p.count book0)[k]? =some b from h1))
  have e2:L=[]:=yUc (yPe h2)
  rw[e1,e2];exact z1g
 ·rw[zNl];exact .refl _
 ·rw[zNl];exact List.nodup_nil
open Go Cv Go.Proofs
def yDq (s:Bool):Con:=con1 BkL (fun i=>[.nm 0 0,zA (zC s)]) (fun i=>[zW i.b]) (fun i=>i.b.Rep i.L) (fun _=> .own 1) (fun i=>[zW i.b,.own 76 3 ((g7 i.L (zC s)).map lvE)])
def lad1C:Con:=yDq false
def lad2C:Con:=yDq true
def yKd (s:Bool) (i:BkL):List SAnn:=[{ι:=Nat,slots:=fun j=>[(5,.own 0),(19,zA j)],rows:=fun j=>[.own 76 3 (((g7 i.L (zC s)).take j).map lvE)]}]
structure BkT where
 b:Book
 L:List zG
 s:Bool
def ladC:Con:=con1 BkT (fun i=>[.nm 0 0,zA (zC i.s)]) (fun i=>[zW i.b]) (fun i=>i.b.Rep i.L) (fun _=> .own 1) (fun i=>[zW i.b,.own 76 3 ((g7 i.L (zC i.s)).map lvE)])
@[reducible] def z5q (s:MSt):List AObj:=[y7 s 0,y7 s 1,y7 s 2,y7 s 3,y7 s 4]
def topsOC:Con:=con1 MSt (fun _=>[.nm 0 0]) (fun s=>z5q s) MSt.cntOk (fun s=> .own 5) (fun s=>z5q s++[.own 269 6 (s.tops.map zU)])
structure StI where
 s:MSt
 p:Prd
 B:List (List zG)
 id:Int
 q:Int
def stakeC:Con where
 ι:=StI
 pat:=fun i=>[.nm 0 0,zA i.id,zA i.q]
 pre:=fun i=>[zD i.s]
 cnd:=fun i=>i.s.Rep i.p i.B∧i.B.length≤1000
 alts:=fun i=>[{o:=MSt,res:=fun _=>zA (qC i.B i.id i.q).2,post:=fun s=>[zD s],rel:=fun s=>s.Rep i.p (qC i.B i.id i.q).1}]
def z9 (B:List (List zG)) (id:Int):Int×zG×Bool:=match dE B id with
 |none=>(0,yGd,false)
 |some k=>(k,uX (B.getD k []) id,true)
def sfindC:Con:=con1 StI (fun i=>[.nm 0 0,zA i.id]) (fun i=>[zD i.s]) (fun i=>i.s.Rep i.p i.B∧i.B.length≤1000) (fun i=> .tup [zA (z9 i.B i.id).1,z0m (z9 i.B i.id).2.1,yB (z9 i.B i.id).2.2]) (fun i=>[zD i.s])
end Sx
