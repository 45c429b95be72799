/- Texts of ours, one behind the other: a walk that the kernel reckons, and contracts of functions. No condition. -/
import Derived.Test.YthkofaanekmpmaaGreatY6
open List renaming map→aa,replicate→ab,take→ac,pairwise_append→ae,find?_eq_none→af,filter_map→ag,nodup_nil→aj,getElem?_replicate→ak,singleton_append→am,range→ao,drop→ap
open Sx.AObj renaming adt→aq,cells→ar,own→au,fro→av,map→aw
open Bool renaming true→ax,false→ay
open Option renaming some→az,none→bc
open Go.Builtin renaming zeroCells→be,firstCells→bg,append_→bo
open Go.IntKind renaming i64→bu
open Go renaming Value→bv,World→bz,Program→cd,size_zeroCells→ce,TypeId→cf,Addr→cg
open Go.Value renaming int→ci,string→cm
open Function renaming comp→cn
open List.Perm renaming append_right→co,append_left→cp
namespace Sx
set_option linter.unusedVariables false
set_option linter.unusedSimpArgs false
set_option maxRecDepth 100000
open Go Cv Go.Proofs
theorem yGx {l:List Int} {q r:Int} (h:yS l q=ax) (h0:0≤r) (h1:r≤q):yS l r=ax:=by
 obtain⟨a,b,c,d⟩:=kW h
 have e:(l.all fun n=>decide (1≤n) && decide (n≤1000000))=ax:=by
  rw[y3i];intro x hx;simpa using c x hx
 rw[yS,e,y0n a,y0n h0,y0n (show r≤l.sum by omega)];rfl
theorem getD_none {l:List Int} {n:Nat} (h:l[n]? =bc):l.getD n 0=0:=by rw[y0h,h];rfl
theorem zBf {l:List Int} {q:Int} (h:yS l q=ax) (n:Nat):0≤l.getD n 0∧l.getD n 0≤1000000:=by
 cases hn:l[n]? with
 |none=>rw[getD_none hn];decide
 |some x=>rw[zT hn];have:=(kW h).2.2.1 x (y0g hn);omega
theorem z8h {l:List Int} {q:Int} (h:yS l q=ax) (n:Nat):0≤(uX l q).getD n 0∧(uX l q).getD n 0≤l.getD n 0:=by
 rw[uX,yZy h]
 obtain⟨a,b,c,d⟩:=kW h
 cases hn:l[n]? with
 |none=>
  have:(uP l q)[n]? =bc:=by rw[y5p,sS];exact y5p.1 hn
  rw[getD_none hn,getD_none this];decide
 |some x=>
  rw[zT hn,zT (zOd l q n x hn)]
  have:=zGu l q n b (fun y hy=>by have:=c y hy;omega)
  have:=c x (y0g hn)
  omega
theorem yZc (i:SpI) (h:splC.cnd i):yWb i:=by
 obtain⟨hl,hq,hle,hpa⟩:i.l.length≤1000000∧yO i.q∧yO i.least∧yO i.part:=h
 unfold yWb zEh wA
 have no (e:¬(yS i.l i.q=ax∧0≤i.part∧i.part≤100∧1≤i.least)):zAz i=[]:=by rw[zAz,yZx e]
 refine⟨⟨i.l,i.q⟩,rfl,rfl,⟨hl,hq⟩,fun _ _=>Cv.cnd.mk (fun c=> ?_) (fun c=>zJ (fun d=> ?_) (fun d=>zJ (fun e=> ?_) (fun e=>zJ (fun f=> ?_) (fun f=> ?_))))⟩
 ·have c:yS i.l i.q=ay:=by simpa using c
  exact⟨(),by rw[no (by rw[c];simp)];rfl,trivial⟩
 ·exact⟨(),by rw[no (by omega)];rfl,trivial⟩
 ·exact⟨(),by rw[no (by omega)];rfl,trivial⟩
 ·exact⟨(),by rw[no (by omega)];rfl,trivial⟩
 have c:yS i.l i.q=ax:=by simpa using c
 obtain⟨h1,h2,h3,h4⟩:=kW c
 have hq2:=zJh c
 have m0:0≤i.q*i.part:=y6i h2 (by omega)
 have m1:i.q*i.part≤i.q*100:=y4z (by omega) h2
 have hr:=yGx (r:=i.q*i.part / 100) c (by omega) (by omega)
 have es:zAz i=mV i.rs:=by rw[zAz,yZy ⟨c,by omega,by omega,by omega⟩]
 refine⟨⟨i.q,i.part,100⟩,rfl,rfl,rfl,⟨by dsimp only;omega,by dsimp only;omega,by dsimp only;omega,by dsimp only;omega,by dsimp only;omega,by dsimp only;omega⟩,fun _ _=>⟨⟨i.l,i.q*i.part / 100⟩,rfl,rfl,⟨hl,by dsimp only;omega,by dsimp only;omega⟩,fun _ _=>⟨i.rs,rfl,rfl,?_,rfl,⟨h1,?_,?_,hle,?_⟩,fun _ _=>⟨(),by rw[es],trivial⟩⟩⟩⟩
 ·rw[w64 (by dsimp only;omega)];rfl
 ·show(uX i.l (i.q*i.part / 100)).length=i.l.length
  rw[uX,yZy hr,sS]
 ·show yO (i.q-i.q*i.part / 100)
  exact⟨by omega,by omega⟩
 ·intro n
  have a:=z8h hr n
  have b:=zBf c n
  exact⟨a.1,a.2,b.2⟩
theorem yQc:splC.ok Tryz.prog 290:=okw mixed (gokc zCu (gokc zQz (gokc z3u (gokc z2y gok0)))) 0 (fun _=>[]) (fun _=>[]) [] Tryz.func290 yZc
theorem yTc (n:Nat):ab n [D.v (.int .i64 0)]=iE (ab n 0):=by simp[iE]
theorem zXh (n k:Nat):(ab n (0:Int)).getD k 0=0:=by
 rw[y0h,ak];split<;>rfl
theorem yGu (n t k:Nat) (x:Int):((ab n (0:Int)).set t x).getD k 0=x∧k=t∨((ab n (0:Int)).set t x).getD k 0=0:=by
 rw[y0h,y2r]
 split
 ·rename_i e
  split
  ·exact .inl ⟨rfl,e.symm⟩
  ·exact .inr rfl
 ·right;rw[← y0h];exact zXh n k
theorem yYu (i:PsI) (h:proC.cnd i):yXc i:=by
 obtain⟨hl,hq,hle,hmo⟩:i.l.length≤1000000∧yO i.q∧yO i.least∧yO i.most:=h
 unfold yXc zTk zNr sP zMd zEh wA dI
 have no (e:¬(yS i.l i.q=ax∧1≤i.least∧0≤i.most)):zCx i=[]:=by rw[zCx,yZx e]
 refine⟨⟨i.l,i.q⟩,rfl,rfl,⟨hl,hq⟩,fun _ _=>Cv.cnd.mk (fun c=> ?_) (fun c=>zJ (fun d=> ?_) (fun d=>zJ (fun e=> ?_) (fun e=> ?_)))⟩
 ·have c:yS i.l i.q=ay:=by simpa using c
  exact⟨(),by rw[no (by rw[c];simp)];rfl,trivial⟩
 ·exact⟨(),by rw[no (by omega)];rfl,trivial⟩
 ·exact⟨(),by rw[no (by omega)];rfl,trivial⟩
 have c:yS i.l i.q=ax:=by simpa using c
 obtain⟨h1,h2,h3,h4⟩:=kW c
 have hq2:=zJh c
 have es:zCx i=mV i.rs:=by rw[zCx,yZy ⟨c,by omega,by omega⟩]
 simp only[xD,y0s,yTc]
 have out (hn:¬(0≤i.top∧i.top<(i.l.length:Int))):i.rs=⟨i.l,ab i.l.length 0,i.least,i.q⟩:=by rw[PsI.rs,yZx hn]
 have ok0:RsI.ok ⟨i.l,ab i.l.length 0,i.least,i.q⟩:=⟨h1,by simp,hq,hle,fun n=>by
  have:=zBf c n
  dsimp only
  rw[zXh];omega⟩
 refine⟨⟨by omega,by omega,by omega,by omega⟩,zJ (fun a=>zJ (fun b=> ?_) (fun b=> ?_)) (fun a=> ?_)⟩
 ·obtain⟨n,hn⟩:=z8 (l:=i.l) (i:=i.top.toNat) (by omega)
  have hf:i.first=min (min n i.most) i.q:=by rw[PsI.first,zT hn]
  have bn:=h3 n (y0g hn)
  have hr0:(ab i.l.length (0:Int))[i.top.toNat]? =az 0:=by rw[ak,yZy (by omega)]
  have ers:i.rs=⟨i.l,(ab i.l.length 0).set i.top.toNat i.first,i.least,i.q-i.first⟩:=by rw[PsI.rs,yZy ⟨by omega,by omega⟩]
  refine⟨⟨by omega,by omega⟩,n,elI hn,?_⟩
  rw[zRo hr0,← hf]
  simp only[xD,y1c,y3h]
  refine⟨⟨by omega,by omega⟩,by omega,⟨by omega,by omega⟩,i.first,elI (v8 hr0),?_⟩
  rw[w64 (x:=i.q-i.first) (by omega)]
  refine⟨⟨i.l,(ab i.l.length 0).set i.top.toNat i.first,i.least,i.q-i.first⟩,rfl,rfl,rfl,rfl,⟨h1,by simp,⟨by dsimp only;omega,by dsimp only;omega⟩,hle,fun k=> ?_⟩,fun _ _=>⟨(),by rw[es,ers],trivial⟩⟩
  have bk:=zBf c k
  dsimp only
  rcases yGu i.l.length i.top.toNat k i.first with⟨g,gk⟩|g
  ·rw[g,gk,zT hn];omega
  ·rw[g];omega
 ·refine⟨⟨i.l,ab i.l.length 0,i.least,i.q⟩,rfl,rfl,rfl,rfl,ok0,fun _ _=>⟨(),by rw[es,out (by omega)],trivial⟩⟩
 ·refine⟨⟨i.l,ab i.l.length 0,i.least,i.q⟩,rfl,rfl,rfl,rfl,ok0,fun _ _=>⟨(),by rw[es,out (by omega)],trivial⟩⟩
theorem yTm:proC.ok Tryz.prog 289:=okw mixed (gokc zCu (gokc z2y gok0)) 0 (fun _=>[]) (fun _=>[]) [] Tryz.func289 yYu
open Go Cv Go.Proofs
structure AlI where
 p:Prd
 l:List zK
 q:Int
def AlI.qs (i:AlI):List Int:=i.l.map (·.qty)
def kA (i:AlI):List Int:=if i.p.rule=1 then uX i.qs i.q else if i.p.rule=2 then zCx ⟨i.qs,topI i.l,i.p.top,i.p.least,i.q⟩else if i.p.rule=3 then zAz ⟨i.qs,i.p.part,i.p.least,i.q⟩else[]
def allocC:Con:=con1 AlI (fun i=>[prdV i.p,roV 5 (i.l.map wU),zA i.q]) (fun _=>[]) (fun i=>i.l.length≤1000∧yO i.q∧yO i.p.least∧yO i.p.top∧yO i.p.part) (fun _=> .own 0) (fun i=>[.own 2 1 (iE (kA i))])
def yRg (i:AlI):List SAnn:=[{ι:=Nat,slots:=fun j=>[(7,.own 0),(13,zA j)],rows:=fun j=>[.own 2 1 (iE (i.qs.take j))]}]
open Go Cv Go.Proofs
def yAt (i:AlI):Prop:=
 ∃(a:Nat),(↑a:Int)=0∧iE (ac a i.qs)=[]∧∃(b:Nat→Prop),∃(c:Nat→Nat),b a∧∀(d:Nat),b d→cnd (decide ((↑d:Int)<(↑(aa wU i.l).length:Int))) ((0≤(↑d:Int)∧(↑d:Int)<(↑(aa wU i.l).length:Int))∧∃(e:Int),∃(f:Int),∃(g:Int),∃(h:Int),∃(j:Bool),zE (aa wU i.l) (↑d:Int).toNat 0 5=az [dI e,dI f,dI g,dI h,D.v (.bool j)]∧((iE (ac d i.qs)).length+1)*(8:Nat)≤(140737488355328:Nat)∧∃(k:Nat),(↑k:Int)=bu.wrap ((↑d:Int)+1)∧iE (ac k i.qs)=iE (ac d i.qs)++[[dI h]]∧b k∧c k<c d∧ar [V.d (D.v (cm (sb i.p.code))),V.own 0,V.d (dI i.p.tick),V.d (dI i.p.low),V.d (dI i.p.high),V.d (dI i.p.wide),V.d (dI i.p.rule),V.d (dI i.p.top),V.d (dI i.p.least),V.d (dI i.p.part),V.own ((0:Nat)+(1:Nat))] 25=ar [V.d (D.v (cm (sb i.p.code))),V.own 0,V.d (dI i.p.tick),V.d (dI i.p.low),V.d (dI i.p.high),V.d (dI i.p.wide),V.d (dI i.p.rule),V.d (dI i.p.top),V.d (dI i.p.least),V.d (dI i.p.part),V.own ((0:Nat)+(1:Nat))] 25∧av 1 (iE i.p.settle)=av 1 (iE i.p.settle)∧av 1 (iE i.p.months)=av 1 (iE i.p.months)) (cnd (i.p.rule==1) (∃(e:LqI),iE e.l=iE (ac d i.qs)∧e.q=i.q∧(wA e)∧∀(f:Unit),True→∃(g:Unit),iE (kA i)=iE (uX e.l e.q)∧True) (cnd (i.p.rule==2) (∃(e:List zK),aa wU e=aa wU i.l∧e.length≤1000000∧∀(f:Unit),True→∃(g:PsI),iE g.l=iE (ac d i.qs)∧g.top=topI e∧g.most=i.p.top∧g.least=i.p.least∧g.q=i.q∧(g.l.length≤1000000∧((-9223372036854775808)≤g.q∧g.q≤9223372036854775807)∧((-9223372036854775808)≤g.least∧g.least≤9223372036854775807)∧(-9223372036854775808)≤g.most∧g.most≤9223372036854775807)∧∀(h:Unit),True→∃(j:Unit),iE (kA i)=iE (zCx g)∧True) (cnd (i.p.rule==3) (∃(e:SpI),iE e.l=iE (ac d i.qs)∧e.part=i.p.part∧e.least=i.p.least∧e.q=i.q∧(e.l.length≤1000000∧((-9223372036854775808)≤e.q∧e.q≤9223372036854775807)∧((-9223372036854775808)≤e.least∧e.least≤9223372036854775807)∧(-9223372036854775808)≤e.part∧e.part≤9223372036854775807)∧∀(f:Unit),True→∃(g:Unit),iE (kA i)=iE (zAz e)∧True) (∃(e:Unit),iE (kA i)=[]∧True))))
open Go Cv Go.Proofs
theorem yTg (i:AlI) (h:allocC.cnd i):yAt i:=by
 obtain⟨hl,hq,hle,hto,hpa⟩:i.l.length≤1000∧yO i.q∧yO i.p.least∧yO i.p.top∧yO i.p.part:=h
 have hql:i.qs.length=i.l.length:=by simp[AlI.qs]
 unfold yAt wA dI
 simp only[xD,y0a]
 refine⟨0,by(first|exact rfl|exact trivial),by(first|exact rfl|exact trivial),fun j=>j≤i.l.length,fun j=>i.l.length-j,y1n _,fun j hj=>zJ (fun c=> ?_) (fun c=> ?_)⟩
 ·have hj':j<i.l.length:=by omega
  obtain⟨o,ho⟩:=z8 (l:=i.l) (i:=j) hj'
  have hqo:i.qs[j]? =az o.qty:=by rw[AlI.qs,y0z,ho];rfl
  refine⟨⟨by omega,by omega⟩,o.id,o.side,o.price,o.qty,o.top,yPj ho,by rw[y0t];omega,j+1,wjn (by omega),?_,hj',by dsimp only;omega,k0q⟩
  rw[y1i,hqo];simp[iE]
 have hje:j=i.l.length:=by omega
 subst hje
 rw[y0p (l:=i.qs) (by omega)]
 refine Cv.cnd.mk (fun a=> ?_) (fun a=>Cv.cnd.mk (fun b=> ?_) (fun b=>Cv.cnd.mk (fun d=> ?_) (fun d=> ?_)))
 ·have a:i.p.rule=1:=by simpa using a
  exact⟨⟨i.qs,i.q⟩,rfl,rfl,⟨by dsimp only;omega,hq⟩,fun _ _=>⟨(),by rw[kA,yZy a],trivial⟩⟩
 ·have a:¬i.p.rule=1:=by simpa using a
  have b:i.p.rule=2:=by simpa using b
  exact⟨i.l,rfl,by omega,fun _ _=>⟨⟨i.qs,topI i.l,i.p.top,i.p.least,i.q⟩,rfl,rfl,rfl,rfl,rfl,⟨by dsimp only;omega,hq,hle,hto⟩,fun _ _=>⟨(),by rw[kA,yZx a,yZy b],trivial⟩⟩⟩
 ·have a:¬i.p.rule=1:=by simpa using a
  have b:¬i.p.rule=2:=by simpa using b
  have d:i.p.rule=3:=by simpa using d
  exact⟨⟨i.qs,i.p.part,i.p.least,i.q⟩,rfl,rfl,rfl,rfl,⟨by dsimp only;omega,hq,hle,hpa⟩,fun _ _=>⟨(),by rw[kA,yZx a,yZx b,yZy d],trivial⟩⟩
 ·have a:¬i.p.rule=1:=by simpa using a
  have b:¬i.p.rule=2:=by simpa using b
  have d:¬i.p.rule=3:=by simpa using d
  exact⟨(),by rw[kA,yZx a,yZx b,yZx d];rfl,trivial⟩
theorem yAx:allocC.ok Tryz.prog 263:=okw mixed (gokc z3u (gokc z8c (gokc yTm (gokc yQc gok0)))) 0 (fun _=>[]) (fun i=>yRg i) [] Tryz.func263 yTg
open Go Cv Go.Proofs
def vH (l:List Nat) (t:Int):Int:=match l with
 |[]=>t
 |k::_=>k
def kI:List Nat→Int→Int
 |[],p=>p
 |k::l,_=>kI l k
structure zTw (s:Slot) (n k:Nat) (p t:Int):Prop where
 used:s.used=ax
 no:s.n=k
 queue:s.queue=n
 ahead:s.ahead=p
 back:s.back=t
 q1:0≤s.qty
 q2:s.qty≤1000000
def seg (sl:List Slot) (n:Nat):Int→List Nat→Int→Prop
 |_,[],_=>True
 |p,k::l,t=>(∃s,sl[k]? =az s∧zTw s n k p (vH l t))∧seg sl n k l t
theorem zFv (l1 l2:List Nat) (t:Int):vH (l1++l2) t=vH l1 (vH l2 t):=by cases l1<;>rfl
theorem bH:∀(l1 l2:List Nat) (p:Int),kI (l1++l2) p=kI l2 (kI l1 p)
 |[],l2,p=>rfl
 |k::l1,l2,p=>bH l1 l2 k
theorem lH {sl:List Slot} {n:Nat}:∀{l1 l2:List Nat} {p t:Int},seg sl n p (l1++l2) t↔seg sl n p l1 (vH l2 t)∧seg sl n (kI l1 p) l2 t
 |[],l2,p,t=>by simp[seg,kI]
 |k::l1,l2,p,t=>by
  rw[y1p,seg,seg,zFv,lH,kI,and_assoc]
theorem z3f {sl:List Slot} {n k:Nat}:∀{l:List Nat} {p t:Int},seg sl n p l t→k∈l→∃s p' t',sl[k]? =az s∧zTw s n k p' t'
 |j::l,p,t,h,hk=>by
  rcases y0m.1 hk with rfl|hk
  ·obtain⟨⟨s,h1,h2⟩,_⟩:=h
   exact⟨s,_,_,h1,h2⟩
  ·exact z3f h.2 hk
theorem wZ {sl sl':List Slot} {n:Nat}:∀{l:List Nat} {p t:Int},(∀k∈l,sl'[k]? =sl[k]?)→seg sl n p l t→seg sl' n p l t
 |[],p,t,_,h=>h
 |k::l,p,t,e,⟨⟨s,h1,h2⟩,h3⟩=>⟨⟨s,by rw[e k y0d];exact h1,h2⟩,wZ (fun j hj=>e j (y0c _ hj)) h3⟩
theorem f7 {α:Type} {l:List α} {f:α→α} {i j:Nat} (h:i≠j):(l.modify i f)[j]? =l[j]? :=by rw[y3j];cases l[j]? <;>simp[h]
theorem sE {α:Type} {l:List α} {f:α→α} {i:Nat} {x:α} (h:l[i]? =az x):(l.modify i f)[i]? =az (f x):=by rw[y3j,h];simp
theorem vX {α:Type} {l:List α} {x:α} {i j:Nat} (h:i≠j):(l.set i x)[j]? =l[j]? :=by rw[y2r,yZx h]
theorem fP {α:Type} {l:List α} {x:α} {i:Nat} (h:i<l.length):(l.set i x)[i]? =az x:=by rw[y2r,yZy rfl,yZy h]
theorem cU {α:Type} {Q:List α} {n m:Nat} {x y:α} (h:(Q.set n x)[m]? =az y):(m=n∧y=x)∨(m≠n∧Q[m]? =az y):=by
 by_cases e:n=m
 ·subst e
  have hn:n<Q.length:=by
   have:=(yZz.1 h).1
   simpa using this
  rw[fP hn]at h
  cases h
  exact .inl ⟨rfl,rfl⟩
 ·rw[vX e]at h
  exact .inr ⟨fun c=>e c.symm,h⟩
theorem zWr {sl:List Slot} {n k:Nat} {l:List Nat} {p t:Int} (t':Int) (hk:k∉l) (h:seg sl n p (l++[k]) t):seg (sl.modify k fun s=>{s with back:=t'}) n p (l++[k]) t':=by
 rw[lH]at h ⊢
 obtain⟨h1,⟨s,h2,h3⟩,_⟩:=h
 refine⟨wZ (fun j hj=>f7 (fun e=>hk (e▸hj))) h1,⟨_,sE h2,?_⟩,trivial⟩
 exact⟨h3.used,h3.no,h3.queue,h3.ahead,rfl,h3.q1,h3.q2⟩
theorem z7r {sl:List Slot} {n k:Nat} {l:List Nat} {p t:Int} (p':Int) (hk:k∉l) (h:seg sl n p (k::l) t):seg (sl.modify k fun s=>{s with ahead:=p'}) n p' (k::l) t:=by
 obtain⟨⟨s,h1,h2⟩,h3⟩:=h
 refine⟨⟨_,sE h1,?_⟩,wZ (fun j hj=>f7 (fun e=>hk (e▸hj))) h3⟩
 exact⟨h2.used,h2.no,h2.queue,rfl,h2.back,h2.q1,h2.q2⟩
theorem wE (l:List Nat):l=[]∨∃(x:List Nat) (j:Nat),l=x++[j]∧∀p:Int,kI l p=(j:Int):=by
 rcases List.eq_nil_or_concat l with rfl|⟨x,j,rfl⟩
 ·exact .inl rfl
 ·exact .inr ⟨x,j,by simp,fun p=>by rw[List.concat_eq_append,bH];rfl⟩
theorem m3 (l:List Nat):kI l (-1)= -1↔l=[]:=by
 rcases wE l with rfl|⟨x,j,rfl,e⟩
 ·simp[kI]
 ·rw[e];simp
theorem zQd (l:List Nat):vH l (-1)= -1↔l=[]:=by
 cases l with
 |nil=>simp[vH]
 |cons k l=>simp only[vH];constructor
            ·intro h;omega
            ·intro h;cases h
theorem eO {α β:Type} {g:α→β} {f:α→α} (h:∀x,g (f x)=g x):∀(l:List α) (i:Nat),(l.modify i f).map g=l.map g
 |[],i=>by simp
 |a::l,0=>by simp[h]
 |a::l,i+1=>by rw[y5n,y0l,y0l,eO h l i]
theorem zNf:∀(m:Nat) {l:List Nat},l.Nodup→(∀k∈l,k<m)→l.length≤m
 |0,[],_,_=>y1f 0
 |0,k::l,_,h=>absurd (h k y0d) (by omega)
 |m+1,l,hn,h=>by
  have:=zNf m (hn.erase m) fun k hk=>by
   have:=(hn.mem_erase_iff).1 hk
   have:=h k this.2
   omega
  by_cases hm:m∈l
  ·rw[List.length_erase_of_mem hm]at this;omega
  ·rw[List.erase_of_not_mem hm]at this;omega
theorem z5p {f g:Nat→Int} {k:Nat}:∀{l:List Nat},l.Nodup→k∈l→(∀j∈l,j≠k→g j=f j)→(l.map g).sum=(l.map f).sum+(g k-f k)
 |j::l,hn,hk,h=>by
  have hn:=y2l.1 hn
  rw[y0l,y0l,y1l,y1l]
  rcases y0m.1 hk with rfl|hk
  ·have:l.map g=l.map f:=y1h fun i hi=>h i (y0c _ hi) (fun e=>hn.1 (e▸hi))
   rw[this];omega
  ·have e:=h j y0d (fun e=>hn.1 (e▸hk))
   rw[z5p hn.2 hk (fun i hi=>h i (y0c _ hi)),e]
   omega
theorem yEr {f:Nat→Int} {m:Int}:∀{l:List Nat},(∀j∈l,0≤f j∧f j≤m)→0≤(l.map f).sum∧(l.map f).sum≤m*l.length
 |[],_=>by simp
 |j::l,h=>by
  have:=h j y0d
  have:=yEr (l:=l) fun i hi=>h i (y0c _ hi)
  rw[y0l,y1l,y0f,Int.natCast_add,Int.mul_add]
  simp only[Int.natCast_one,Int.mul_one]
  omega
def Arena.qsum (a:Arena) (l:List Nat):Int:=(l.map fun k=>(a.slotAt k).qty).sum
structure Arena.Wf0 (a:Arena) (Q:List (List Nat)):Prop where
 len:a.slots.length=250
 ql:a.queues.length=Q.length
 q:∀(n:Nat) (l:List Nat),Q[n]? =az l→a.queues[n]? =az ⟨vH l (-1),kI l (-1),a.qsum l,l.length⟩
 sg:∀(n:Nat) (l:List Nat),Q[n]? =az l→seg a.slots n (-1) l (-1)
 nd:∀(n:Nat) (l:List Nat),Q[n]? =az l→l.Nodup
 us:∀(k:Nat) (s:Slot),a.slots[k]? =az s→s.used=ax→∃(n:Nat) (l:List Nat),Q[n]? =az l∧k∈l
 free:a.free=((a.slots.map (·.used)).countP (!·):Nat)
structure Arena.Wf (a:Arena) (Q:List (List Nat)):Prop extends a.Wf0 Q where
 pos:∀(n:Nat) (l:List Nat),Q[n]? =az l→∀k∈l,1≤(a.slotAt k).qty
theorem Arena.Wf0.mem {a:Arena} {Q:List (List Nat)} (h:a.Wf0 Q) {n k:Nat} {l:List Nat} (hl:Q[n]? =az l) (hk:k∈l):k<250∧(∃p t,zTw (a.slotAt k) n k p t)∧a.slots[k]? =az (a.slotAt k):=by
 obtain⟨s,p,t,h1,h2⟩:=z3f (h.sg n l hl) hk
 have e:a.slotAt k=s:=zT h1
 have hlt:=(yZz.1 h1).1
 rw[h.len]at hlt
 exact⟨hlt,⟨p,t,by rw[e];exact h2⟩,by rw[e];exact h1⟩
theorem Arena.Wf0.one {a:Arena} {Q:List (List Nat)} (h:a.Wf0 Q) {n m k:Nat} {l l':List Nat} (hl:Q[n]? =az l) (hl':Q[m]? =az l') (hk:k∈l) (hk':k∈l'):n=m:=by
 obtain⟨_,⟨_,_,h1⟩,_⟩:=h.mem hl hk
 obtain⟨_,⟨_,_,h2⟩,_⟩:=h.mem hl' hk'
 have:=h1.queue
 have:=h2.queue
 omega
theorem Arena.Wf0.short {a:Arena} {Q:List (List Nat)} (h:a.Wf0 Q) {n:Nat} {l:List Nat} (hl:Q[n]? =az l):l.length≤250:=zNf 250 (h.nd n l hl) fun k hk=>(h.mem hl hk).1
theorem bP {a a':Arena} {l:List Nat} (h:∀k∈l,(a'.slotAt k).qty=(a.slotAt k).qty):a'.qsum l=a.qsum l:=by rw[Arena.qsum,Arena.qsum,y1h h]
theorem Arena.Wf0.sum {a:Arena} {Q:List (List Nat)} (h:a.Wf0 Q) {n:Nat} {l:List Nat} (hl:Q[n]? =az l):0≤a.qsum l∧a.qsum l≤250000000:=by
 have:=yEr (f:=fun k=>(a.slotAt k).qty) (m:=1000000) (l:=l) fun j hj=>by
  obtain⟨_,⟨_,_,h1⟩,_⟩:=h.mem hl hj
  exact⟨h1.q1,h1.q2⟩
 have:=h.short hl
 rw[Arena.qsum]
 omega
theorem zQb {sl:List Slot} {n:Nat}:∀{l:List Nat} {p:Int},seg sl n p l (-1)→zYa sl (vH l (-1)) l
 |[],p,_=>rfl
 |k::l,p,⟨⟨s,h1,h2⟩,h3⟩=>by
  refine⟨rfl,(yZz.1 h1).1,?_⟩
  rw[zT h1,h2.back]
  exact zQb h3
theorem Arena.Wf0.ok {a:Arena} {Q:List (List Nat)} (h:a.Wf0 Q):a.okAt:=by
 refine⟨by rw[h.len];decide,fun k s hk hu=> ?_⟩
 obtain⟨n,l,hl,hkl⟩:=h.us k s hk hu
 have hQ:=(yZz.1 hl).1
 have hql:=h.ql
 obtain⟨l1,l2,rfl⟩:=List.append_of_mem hkl
 have hsg:=h.sg n _ hl
 have hnd:=h.nd n _ hl
 rw[lH]at hsg
 obtain⟨_,⟨s',h1,h2⟩,_⟩:=hsg
 rw[hk]at h1;cases h1
 have hq:=h2.queue
 have hd:=y2k.1 hnd
 have hd2:=y2l.1 hd.2.1
 refine⟨⟨by omega,by omega⟩,h2.q2,?_,?_⟩
 ·rw[h2.ahead]
  rcases wE l1 with rfl|⟨x,j,rfl,e⟩
  ·exact .inl rfl
  ·have hj:j∈x++[j]:=by simp
   have hjl:=(h.mem hl (y1o _ hj)).1
   rw[e,h.len]
   refine .inr ⟨by omega,by omega,fun e2=> ?_⟩
   have:j=k:=by omega
   exact hd.2.2 j hj k y0d this
 ·rw[h2.back]
  cases l2 with
  |nil=>exact .inl rfl
  |cons j x=>
   have hjl:=(h.mem hl (y1q _ (y0c _ y0d))).1
   rw[vH,h.len]
   refine .inr ⟨by omega,by omega,fun e2=> ?_⟩
   have:j=k:=by omega
   exact hd2.1 (this▸y0d)
theorem Arena.Wf0.open {a:Arena} {Q:List (List Nat)} (h:a.Wf0 Q):a.openQ.Wf0 (Q++[[]]):=by
 have g:∀{n:Nat} {l:List Nat},(Q++[[]])[n]? =az l→Q[n]? =az l∨(n=Q.length∧l=[]):=by
  intro n l hl
  rw[List.getElem?_append]at hl
  split at hl
  ·exact .inl hl
  ·rename_i hn
   have:=(yZz.1 hl).1
   simp only[y2m]at this
   have e:n-Q.length=0:=by omega
   rw[e]at hl
   cases hl
   exact .inr ⟨by omega,rfl⟩
 refine⟨h.len,by simp[Arena.openQ,h.ql],fun n l hl=> ?_,fun n l hl=> ?_,fun n l hl=> ?_,fun k s hk hu=> ?_,h.free⟩
 ·rcases g hl with hl|⟨rfl,rfl⟩
  ·show(a.queues++[bT])[n]? =_
   rw[y2p (by have:=(yZz.1 hl).1;have:=h.ql;omega)]
   exact h.q n l hl
  ·show(a.queues++[bT])[_]? =_
   rw[← h.ql,y1x (y1f _),y5s]
   rfl
 ·rcases g hl with hl|⟨rfl,rfl⟩
  ·exact h.sg n l hl
  ·trivial
 ·rcases g hl with hl|⟨rfl,rfl⟩
  ·exact h.nd n l hl
  ·exact aj
 ·obtain⟨n,l,hl,hkl⟩:=h.us k s hk hu
  exact⟨n,l,by rw[y2p (yZz.1 hl).1];exact hl,hkl⟩
theorem Arena.Wf.open {a:Arena} {Q:List (List Nat)} (h:a.Wf Q):a.openQ.Wf (Q++[[]]):=by
 refine⟨h.toWf0.open,fun n l hl k hk=> ?_⟩
 rw[List.getElem?_append]at hl
 split at hl
 ·exact h.pos n l hl k hk
 ·have:=(yZz.1 hl).1
  simp only[y2m]at this
  have e:n-Q.length=0:=by omega
  rw[e]at hl
  cases hl
  cases hk
theorem zOc {sl sl':List Slot} {n:Nat}:∀{l:List Nat} {p t:Int},(∀k∈l,∀s,sl[k]? =az s→∃s',sl'[k]? =az s'∧s'.used=s.used∧s'.n=s.n∧s'.queue=s.queue∧s'.ahead=s.ahead∧s'.back=s.back∧0≤s'.qty∧s'.qty≤1000000)→seg sl n p l t→seg sl' n p l t
 |[],p,t,_,h=>h
 |k::l,p,t,e,⟨⟨s,h1,h2⟩,h3⟩=>by
  obtain⟨s',q0,q1,q2,q3,q4,q5,q6,q7⟩:=e k y0d s h1
  exact⟨⟨s',q0,⟨q1.trans h2.used,q2.trans h2.no,q3.trans h2.queue,q4.trans h2.ahead,q5.trans h2.back,q6,q7⟩⟩,zOc (fun j hj=>e j (y0c _ hj)) h3⟩
theorem zSv (a:Arena) (n:Int) (t:Bool) (j:Nat):(a.topF n t).slotAt j=if a.usedAt n=ax∧j=n.toNat then{a.slotAt j with top:=t}else a.slotAt j:=by
 rw[Arena.topF]
 by_cases hu:a.usedAt n=ax
 ·rw[yZy hu]
  by_cases e:j=n.toNat
  ·subst e
   rw[yZy ⟨hu,rfl⟩]
   have hlt:n.toNat<a.slots.length:=by
    simp only[Arena.usedAt,y0o,y1z]at hu
    omega
   show(a.slots.modify n.toNat _).getD n.toNat slot0=_
   obtain⟨s,hs⟩:=z8 hlt
   rw[zT (sE hs),xI hs]
  ·rw[yZx (fun h=>e h.2)]
   show(a.slots.modify n.toNat _).getD j slot0=a.slots.getD j slot0
   rw[y0h,f7 (fun h=>e h.symm),y0h]
 ·rw[yZx hu,yZx (fun h=>hu h.1)]
theorem Arena.Wf.top {a:Arena} {Q:List (List Nat)} (h:a.Wf Q) (n:Int) (t:Bool):(a.topF n t).Wf Q:=by
 have hq:∀j,((a.topF n t).slotAt j).qty=(a.slotAt j).qty:=by
  intro j
  rw[zSv]
  split<;>rfl
 by_cases hu:a.usedAt n=ax
 ·have e:a.topF n t={a with slots:=a.slots.modify n.toNat fun s=>{s with top:=t}}:=by rw[Arena.topF,yZy hu]
  have hm:∀(k:Nat) (s:Slot),a.slots[k]? =az s→∃s',(a.topF n t).slots[k]? =az s'∧s'.used=s.used∧s'.n=s.n∧s'.queue=s.queue∧s'.ahead=s.ahead∧s'.back=s.back∧s'.qty=s.qty:=by
   intro k s hk
   rw[e]
   by_cases ek:n.toNat=k
   ·subst ek
    exact⟨_,sE hk,rfl,rfl,rfl,rfl,rfl,rfl⟩
   ·exact⟨s,by rw[f7 ek];exact hk,rfl,rfl,rfl,rfl,rfl,rfl⟩
  have hl:(a.topF n t).slots.length=250:=by rw[e];simpa using h.len
  have hmu:(a.topF n t).slots.map (·.used)=a.slots.map (·.used):=by rw[e];exact eO (g:=fun s:Slot=>s.used) (f:=fun s:Slot=>{s with top:=t}) (fun _=>rfl) _ _
  refine⟨⟨hl,by rw[e];exact h.ql,fun m l hm'=> ?_,fun m l hm'=> ?_,h.nd,fun k s hk hs=> ?_,by rw[hmu];rw[e];exact h.free⟩,fun m l hm' k hk=>by rw[hq];exact h.pos m l hm' k hk⟩
  ·rw[bP fun k _=>hq k]
   rw[e];exact h.q m l hm'
  ·refine zOc (fun k hk s hs=> ?_) (h.sg m l hm')
   obtain⟨s',q0,q1,q2,q3,q4,q5,q6⟩:=hm k s hs
   obtain⟨_,⟨_,_,h2⟩,h3⟩:=h.mem hm' hk
   rw[hs]at h3;cases h3
   exact⟨s',q0,q1,q2,q3,q4,q5,by rw[q6];exact h2.q1,by rw[q6];exact h2.q2⟩
  ·have hlt:=(yZz.1 hk).1
   rw[hl,← h.len]at hlt
   obtain⟨s0,h0⟩:=z8 hlt
   obtain⟨s',q0,q1,_⟩:=hm k s0 h0
   rw[hk]at q0;cases q0
   exact h.us k s0 h0 (by rw[← q1];exact hs)
 ·have e:a.topF n t=a:=by rw[Arena.topF,yZx hu]
  rw[e];exact h
theorem zNq {sl:List Slot} {k:Nat} {s x:Slot} (hk:sl[k]? =az s):((sl.set k x).map (·.used)).countP (!·)+(if s.used=ax then 0 else 1)=(sl.map (·.used)).countP (!·)+(if x.used=ax then 0 else 1):=by
 have hlt:=(yZz.1 hk).1
 have e:(sl.map (·.used))[k]'(by simpa using hlt)=s.used:=by
  rw[List.getElem_map,(yZz.1 hk).2]
 rw[List.map_set,List.countP_set (by simpa using hlt),e]
 have hp:s.used=ay→1≤(sl.map (·.used)).countP (!·):=by
  intro h
  apply List.countP_pos_iff.2
  exact⟨s.used,y1d (y0g hk),by rw[h];rfl⟩
 generalize (sl.map (·.used)).countP (!·)=c at hp ⊢
 cases h1:s.used<;>cases h2:x.used
 all_goals
  simp only[h1,y5e,Bool.not_true,y0r,↓reduceIte,if_true,if_false]at hp ⊢
  try have hp:=hp trivial
  omega
theorem z6d {sl:List Slot}:(sl.map (·.used)).countP (!·)≤sl.length:=by
 have:=List.countP_le_length (p:=fun b:Bool=> !b) (l:=sl.map (·.used))
 simpa using this
theorem Arena.Wf0.unused {a:Arena} {Q:List (List Nat)} (h:a.Wf0 Q) (hf:a.free≠0):∃k:Nat,kM a.slots=k∧k<250∧a.slots[k]? =az (a.slotAt k)∧(a.slotAt k).used=ay∧∀(n:Nat) (l:List Nat),Q[n]? =az l→k∉l:=by
 have hx:∃s∈a.slots,s.used=ay:=by
  have hp:0<(a.slots.map (·.used)).countP (!·):=by have:=h.free;omega
  obtain⟨b,hb,hb2⟩:=List.countP_pos_iff.1 hp
  obtain⟨s,hs,rfl⟩:=y1a.1 hb
  exact⟨s,hs,by simpa using hb2⟩
 obtain⟨s,hs,hu⟩:=hx
 cases hi:a.slots.findIdx? fun s=> !s.used with
 |none=>
  rw[y4g]at hi
  have:=hi s hs
  rw[hu]at this;cases this
 |some k=>
  have hi':=hi
  rw[y3b]at hi
  obtain⟨hk,hku,_⟩:=hi
  have hk1:a.slots[k]? =az a.slots[k]:=y1g hk
  have e:=xI hk1
  rw[← e]at hku
  have hku:(a.slotAt k).used=ay:=by simpa using hku
  refine⟨k,by rw[kM,hi'];rfl,by rw[← h.len];exact hk,by rw[e];exact hk1,hku,fun n l hl hkl=> ?_⟩
  obtain⟨_,⟨_,_,h2⟩,_⟩:=h.mem hl hkl
  have:=h2.used
  rw[hku]at this
  cases this
theorem Arena.Wf.put {a:Arena} {Q:List (List Nat)} (h:a.Wf Q) {n:Nat} {l:List Nat} (hl:Q[n]? =az l) (hf:a.free≠0) {id qty:Int} (top:Bool) (hq:1≤qty∧qty≤1000000):
 ∃k:Nat,kM a.slots=k∧k<250∧(a.slotAt k).used=ay∧(∀(m:Nat) (l:List Nat),Q[m]? =az l→k∉l)∧(a.put n id qty top).Wf (Q.set n (l++[k]))∧
  (∀j,((a.put n id qty top).slotAt j).ent=if j=k then⟨k,id,qty,top⟩else(a.slotAt j).ent)∧(a.put n id qty top).free=a.free-1:=by
 obtain⟨k,hk,hk2,hk1,hku,hkn⟩:=h.toWf0.unused hf
 have hkl:=hkn n l hl
 have hnQ:=(yZz.1 hl).1
 have hqn:=h.q n l hl
 have hnq:a.queues.getD n bT=⟨vH l (-1),kI l (-1),a.qsum l,l.length⟩:=zT hqn
 have hsum:=h.toWf0.sum hl
 have hsh:=h.toWf0.short hl
 have hlen:=h.len
 have hcl:=z6d (sl:=a.slots)
 have hfree:=h.free
 obtain⟨x,hx⟩:∃x:Slot,x=⟨ax,k,id,qty,top,n,kI l (-1),-1⟩:=⟨_,rfl⟩
 have hS:(a.put n id qty top).slots=if kI l (-1)= -1 then a.slots.set k x else(a.slots.set k x).modify (kI l (-1)).toNat fun s=>{s with back:=k}:=by
  simp only[Arena.put,y0s,hnq,hk,hx]
 have hQs:(a.put n id qty top).queues=a.queues.set n ⟨vH (l++[k]) (-1),k,a.qsum l+qty,(l.length:Int)+1⟩:=by
  simp only[Arena.put,y0s,hnq,hk]
  rw[w64 (by omega),w64 (by omega)]
  congr 2
  by_cases e:l=[]
  ·subst e;rfl
  ·rw[yZx (fun c=>e ((m3 l).1 c)),zFv]
   cases l with
   |nil=>exact absurd rfl e
   |cons y ys=>rfl
 have hF:(a.put n id qty top).free=a.free-1:=by
  simp only[Arena.put]
  rw[w64 (by omega)]
 have hset:(a.slots.set k x)[k]? =az x:=fP (by omega)
 have hlo:kI l (-1)= -1∨∃(y:List Nat) (j:Nat),l=y++[j]∧kI l (-1)=(j:Int):=by
  rcases wE l with e|⟨y,j,e,e2⟩
  ·exact .inl ((m3 l).2 e)
  ·exact .inr ⟨y,j,e,e2 _⟩
 have hoth:∀j,j≠k→(kI l (-1)≠(j:Int))→(a.put n id qty top).slots[j]? =a.slots[j]? :=by
  intro j hj hj2
  rw[hS]
  split
  ·exact vX (fun e=>hj e.symm)
  ·rcases hlo with e|⟨y,i,_,e⟩
   ·contradiction
   ·rw[f7 (by omega),vX (fun e=>hj e.symm)]
 have hself:(a.put n id qty top).slots[k]? =az x:=by
  rw[hS]
  split
  ·exact hset
  ·rcases hlo with e|⟨y,i,e1,e⟩
   ·contradiction
   ·have:i≠k:=by rintro rfl;exact hkl (by rw[e1];simp)
    rw[f7 (by omega)];exact hset
 have hlike:∀j,j≠k→((a.put n id qty top).slotAt j).ent=(a.slotAt j).ent∧((a.put n id qty top).slotAt j).used=(a.slotAt j).used∧((a.put n id qty top).slotAt j).qty=(a.slotAt j).qty:=by
  intro j hj
  by_cases c:kI l (-1)=(j:Int)
  ·have e:(a.put n id qty top).slots=(a.slots.set k x).modify j fun s=>{s with back:=k}:=by
    rw[hS,yZx (by omega),c];rfl
   by_cases hjl:j<a.slots.length
   ·obtain⟨s,hs⟩:=z8 hjl
    have h1:(a.put n id qty top).slots[j]? =az {s with back:=k}:=by rw[e];exact sE (by rw[vX (fun e=>hj e.symm)];exact hs)
    rw[xI h1,xI hs];exact⟨rfl,rfl,rfl⟩
   ·have h1:(a.put n id qty top).slots[j]? =bc:=y1e (by rw[e];simpa using hjl)
    have h2:a.slots[j]? =bc:=y1e (by omega)
    rw[Arena.slotAt,Arena.slotAt,y0h,y0h,h1,h2]
    exact⟨rfl,rfl,rfl⟩
  ·have:=hoth j hj c
   rw[Arena.slotAt,Arena.slotAt,y0h,y0h,this]
   exact⟨rfl,rfl,rfl⟩
 have hselfA:(a.put n id qty top).slotAt k=x:=xI hself
 have hent:∀j,((a.put n id qty top).slotAt j).ent=if j=k then⟨k,id,qty,top⟩else(a.slotAt j).ent:=by
  intro j
  split
  ·rename_i e;rw[e,hselfA,hx];rfl
  ·rename_i e;exact(hlike j e).1
 have gQ:∀{m:Nat} {l':List Nat},(Q.set n (l++[k]))[m]? =az l'→(m=n∧l'=l++[k])∨(m≠n∧Q[m]? =az l'):=by
  intro m l' hm
  exact cU hm
 have hsgn:seg (a.put n id qty top).slots n (-1) (l++[k]) (-1):=by
  rw[lH]
  refine⟨?_,⟨x,hself,?_⟩,trivial⟩
  ·rcases wE l with e|⟨y,j,e,e2⟩
   ·subst e;trivial
   ·have h0:=h.sg n l hl
    have hnd:=h.nd n l hl
    rw[hS,yZx (by rw[e2];omega),e2,y0s]
    rw[e]at h0 hnd hkl ⊢
    have hd:=y2k.1 hnd
    refine zWr (k:Int) (fun hj=>hd.2.2 j hj j y0d rfl) (t:= -1) ?_
    exact wZ (fun i hi=>vX (fun e=>hkl (e▸hi))) h0
  ·rw[hx]
   exact⟨rfl,rfl,rfl,rfl,rfl,by dsimp only;omega,hq.2⟩
 refine⟨k,hk,hk2,hku,hkn,⟨⟨?_,?_,?_,?_,?_,?_,?_⟩,?_⟩,hent,hF⟩
 ·rw[hS];split<;>simp[hlen]
 ·rw[hQs];simp[h.ql]
 ·intro m l' hm
  rcases gQ hm with⟨rfl,rfl⟩|⟨e,hm⟩
  ·rw[hQs,fP (by rw[h.ql];exact hnQ),bH]
   have:(a.put m id qty top).qsum (l++[k])=a.qsum l+qty:=by
    rw[Arena.qsum,y0j,y6g]
    have e1:l.map (fun k=>((a.put m id qty top).slotAt k).qty)=l.map fun k=>(a.slotAt k).qty:=y1h fun j hj=>(hlike j (fun e=>hkl (e▸hj))).2.2
    rw[e1]
    simp only[y0l,y3r,y1l,List.sum_nil,hselfA]
    rw[hx,Arena.qsum];dsimp only;omega
   rw[this]
   simp[kI]
  ·rw[hQs,vX (fun c=>e c.symm),h.q m l' hm,bP]
   intro j hj
   exact(hlike j (fun e=>hkn m l' hm (e▸hj))).2.2.symm
 ·intro m l' hm
  rcases gQ hm with⟨rfl,rfl⟩|⟨e,hm⟩
  ·exact hsgn
  ·refine wZ (fun j hj=>hoth j (fun e=>hkn m l' hm (e▸hj)) fun c=> ?_) (h.sg m l' hm)
   rcases hlo with e2|⟨y,i,e1,e2⟩
   ·omega
   ·have:i=j:=by omega
    exact e (h.toWf0.one hm hl hj (by rw[e1];simp[this]))
 ·intro m l' hm
  rcases gQ hm with⟨rfl,rfl⟩|⟨e,hm⟩
  ·refine y2k.2 ⟨h.nd m l hl,by simp,?_⟩
   rintro i hi j hj rfl
   rw[y1k.1 hj]at hi
   exact hkl hi
  ·exact h.nd m l' hm
 ·intro j s hj hs
  by_cases e:j=k
  ·exact⟨n,l++[k],fP hnQ,by rw[e];simp⟩
  ·have hu:(a.slotAt j).used=ax:=by rw[← (hlike j e).2.1,xI hj];exact hs
   have hjl:j<a.slots.length:=by
    have:=(yZz.1 hj).1
    rw[hS]at this
    split at this<;>simpa using this
   obtain⟨s',hs'⟩:=z8 hjl
   rw[xI hs']at hu
   obtain⟨m,l',hm,hjm⟩:=h.us j s' hs' hu
   by_cases em:m=n
   ·subst em
    rw[hl]at hm;cases hm
    exact⟨m,l++[k],fP hnQ,y1o _ hjm⟩
   ·exact⟨m,l',by rw[vX (fun c=>em c.symm)];exact hm,hjm⟩
 ·have hmu:(a.put n id qty top).slots.map (·.used)=(a.slots.set k x).map (·.used):=by
   rw[hS]
   split
   ·rfl
   ·exact eO (g:=fun s:Slot=>s.used) (f:=fun s:Slot=>{s with back:=k}) (fun _=>rfl) _ _
  have:=zNq (x:=x) hk1
  rw[hku,yZx (by decide),show x.used=ax by rw[hx],yZy rfl]at this
  rw[hmu,hF,hfree]
  omega
 ·intro m l' hm j hj
  rcases gQ hm with⟨rfl,rfl⟩|⟨e,hm⟩
  ·rcases y0u.1 hj with hj|hj
   ·rw[(hlike j (fun e=>hkl (e▸hj))).2.2];exact h.pos m l hl j hj
   ·rw[y1k.1 hj,hselfA,hx];exact hq.1
  ·rw[(hlike j (fun e=>hkn m l' hm (e▸hj))).2.2];exact h.pos m l' hm j hj
open Go Cv Go.Proofs
theorem zEk (a:Arena) (k:Nat) (q:Int) (j:Nat) (hk:k<a.slots.length):(a.less k q).slotAt j=if j=k then{a.slotAt j with qty:=(a.slotAt j).qty-q}else a.slotAt j:=by
 split
 ·rename_i e
  subst e
  obtain⟨s,hs⟩:=z8 hk
  rw[xI hs,xI (a:=a.less j q) (sE hs)]
 ·rename_i e
  show(a.slots.modify k _).getD j slot0=a.slots.getD j slot0
  rw[y0h,f7 (fun c=>e c.symm),y0h]
theorem Arena.Wf0.less {a:Arena} {Q:List (List Nat)} (h:a.Wf0 Q) {n k:Nat} {l:List Nat} (hl:Q[n]? =az l) (hk:k∈l) {q:Int} (hq:0≤q∧q≤(a.slotAt k).qty):(a.less k q).Wf0 Q:=by
 obtain⟨hk2,⟨p,t,hs⟩,hk1⟩:=h.mem hl hk
 have hkl:k<a.slots.length:=by rw[h.len];exact hk2
 have hqt:(a.slotAt k).queue.toNat=n:=by rw[hs.queue];exact y0s n
 have hm:∀(j:Nat) (s:Slot),a.slots[j]? =az s→∃s',(a.less k q).slots[j]? =az s'∧s'.used=s.used∧s'.n=s.n∧s'.queue=s.queue∧s'.ahead=s.ahead∧s'.back=s.back:=by
  intro j s hj
  by_cases e:k=j
  ·subst e
   exact⟨_,sE hj,rfl,rfl,rfl,rfl,rfl⟩
  ·exact⟨s,by rw[show(a.less k q).slots=a.slots.modify k _ from rfl,f7 e];exact hj,rfl,rfl,rfl,rfl,rfl⟩
 have hsl:(a.less k q).slots.length=250:=by simpa[Arena.less]using h.len
 have hqs:(a.less k q).queues=a.queues.modify n fun x=>{x with total:=bu.wrap (x.total-q)}:=by rw[Arena.less,hqt]
 have hmu:(a.less k q).slots.map (·.used)=a.slots.map (·.used):=eO (g:=fun s:Slot=>s.used) (f:=fun s:Slot=>{s with qty:=s.qty-q}) (fun _=>rfl) _ _
 refine⟨hsl,by rw[hqs];simpa using h.ql,fun m l' hm'=> ?_,fun m l' hm'=> ?_,h.nd,fun j s hj hu=> ?_,by rw[hmu];exact h.free⟩
 ·by_cases e:n=m
  ·subst e
   rw[hl]at hm';cases hm'
   rw[hqs,sE (h.q n l hl)]
   have hsum:=h.sum hl
   have e2:(a.less k q).qsum l=a.qsum l-q:=by
    rw[Arena.qsum,Arena.qsum,z5p (k:=k) (f:=fun k=>(a.slotAt k).qty) (h.nd n l hl) hk]
    ·rw[zEk a k q k hkl,yZy rfl];dsimp only;omega
    ·intro j _ hj
     rw[zEk a k q j hkl,yZx hj]
   have h1:=hs.q2
   rw[e2]
   dsimp only
   rw[w64 (by omega)]
  ·rw[hqs,f7 e,h.q m l' hm',bP]
   intro j hj
   have:j≠k:=fun c=>e (h.one hl hm' hk (c▸hj))
   rw[zEk a k q j hkl,yZx this]
 ·refine zOc (fun j hj s hs'=> ?_) (h.sg m l' hm')
  obtain⟨s',q0,q1,q2,q3,q4,q5⟩:=hm j s hs'
  refine⟨s',q0,q1,q2,q3,q4,q5,?_⟩
  have e:=xI q0
  rw[← e,zEk a k q j hkl]
  obtain⟨_,⟨_,_,h2⟩,h3⟩:=h.mem hm' hj
  have:=h2.q1
  have:=h2.q2
  split
  ·rename_i c
   subst c
   dsimp only
   omega
  ·omega
 ·have hlt:=(yZz.1 hj).1
  rw[hsl,← h.len]at hlt
  obtain⟨s0,h0⟩:=z8 hlt
  obtain⟨s',q0,q1,_⟩:=hm j s0 h0
  rw[hj]at q0;cases q0
  exact h.us j s0 h0 (by rw[← q1];exact hu)
theorem Arena.Wf0.drop {a:Arena} {Q:List (List Nat)} (h:a.Wf0 Q) {n k:Nat} {l1 l2:List Nat} (hl:Q[n]? =az (l1++k::l2)) (h0:(a.slotAt k).qty=0):
 (a.dropF k).Wf0 (Q.set n (l1++l2))∧(∀j,j≠k→((a.dropF k).slotAt j).ent=(a.slotAt j).ent∧((a.dropF k).slotAt j).used=(a.slotAt j).used∧((a.dropF k).slotAt j).qty=(a.slotAt j).qty)∧(a.dropF k).slotAt k=slot0∧(a.dropF k).free=a.free+1:=by
 have hkm:k∈l1++k::l2:=by simp
 have hnQ:=(yZz.1 hl).1
 obtain⟨hk2,_,hk1⟩:=h.mem hl hkm
 have hlen:=h.len
 have hkl:k<a.slots.length:=by omega
 have hsg:=h.sg n _ hl
 have hnd:=h.nd n _ hl
 have hd:=y2k.1 hnd
 have hd2:=y2l.1 hd.2.1
 have k1:k∉l1:=fun hk=>hd.2.2 k hk k y0d rfl
 have k2:k∉l2:=hd2.1
 rw[lH]at hsg
 obtain⟨g1,⟨s,hs1,hs⟩,g2⟩:=hsg
 have es:=xI hs1
 have eqn:(a.queues.getD s.queue.toNat bT)=⟨vH (l1++k::l2) (-1),kI (l1++k::l2) (-1),a.qsum (l1++k::l2),(l1++k::l2).length⟩:=by
  rw[hs.queue,y0s];exact zT (h.q n _ hl)
 have hfree:=h.free
 have hcl:=z6d (sl:=a.slots)
 have hsh:=h.short hl
 obtain⟨sl1,hsl1⟩:∃sl1,sl1=if kI l1 (-1)= -1 then a.slots else a.slots.modify (kI l1 (-1)).toNat fun x=>{x with back:=vH l2 (-1)}:=⟨_,rfl⟩
 obtain⟨sl2,hsl2⟩:∃sl2,sl2=if vH l2 (-1)= -1 then sl1 else sl1.modify (vH l2 (-1)).toNat fun x=>{x with ahead:=kI l1 (-1)}:=⟨_,rfl⟩
 have hS:(a.dropF k).slots=sl2.set k slot0:=by
  simp only[Arena.dropF,es,hs.ahead,hs.back]
  rw[hsl2,hsl1]
 have hQs:(a.dropF k).queues=a.queues.set n ⟨vH (l1++l2) (-1),kI (l1++l2) (-1),a.qsum (l1++l2),(l1++l2).length⟩:=by
  simp only[Arena.dropF,es,eqn,hs.ahead,hs.back]
  rw[hs.queue,y0s]
  have el:(l1++k::l2).length=(l1++l2).length+1:=by simp;omega
  have eq:a.qsum (l1++k::l2)=a.qsum (l1++l2):=by
   rw[Arena.qsum,Arena.qsum,y0j,y6g,y0j,y6g,y0l,y1l,h0]
   omega
  rw[el]at hsh ⊢
  rw[w64 (by omega),eq]
  congr 2
  ·cases l1 with
   |nil=>simp[kI,zFv,vH]
   |cons y ys=>
    rw[yZx (by rw[m3];simp)]
    rfl
  ·rcases wE l2 with e|⟨x,j,e,e2⟩
   ·subst e;simp[vH,bH,kI]
   ·have:l2≠[]:=by rw[e];simp
    rw[yZx (fun c=>this ((zQd l2).1 c)),bH,bH,kI,e2,e2]
  ·simp
 have hF:(a.dropF k).free=a.free+1:=by
  simp only[Arena.dropF]
  rw[w64 (by omega)]
 have hc1:kI l1 (-1)= -1∨∃(y:List Nat) (j:Nat),l1=y++[j]∧kI l1 (-1)=(j:Int):=by
  rcases wE l1 with e|⟨y,j,e,e2⟩
  ·exact .inl ((m3 l1).2 e)
  ·exact .inr ⟨y,j,e,e2 _⟩
 have hc2:vH l2 (-1)= -1∨∃(y:List Nat) (j:Nat),l2=j::y∧vH l2 (-1)=(j:Int):=by
  cases l2 with
  |nil=>exact .inl rfl
  |cons j y=>exact .inr ⟨y,j,rfl,rfl⟩
 have hoth:∀j,j∉l1→j∉l2→j≠k→(a.dropF k).slots[j]? =a.slots[j]? :=by
  intro j h1 h2 h3
  rw[hS,vX (fun e=>h3 e.symm),hsl2]
  have e1:sl1[j]? =a.slots[j]? :=by
   rw[hsl1]
   split
   ·rfl
   ·rcases hc1 with e|⟨y,i,e,e2⟩
    ·contradiction
    ·rw[f7]
     rw[e2,y0s]
     rintro rfl
     exact h1 (by rw[e];simp)
  split
  ·exact e1
  ·rcases hc2 with e|⟨y,i,e,e2⟩
   ·contradiction
   ·rw[f7,e1]
    rw[e2,y0s]
    rintro rfl
    exact h2 (by rw[e];simp)
 have hlike:∀j,j≠k→((a.dropF k).slotAt j).ent=(a.slotAt j).ent∧((a.dropF k).slotAt j).used=(a.slotAt j).used∧((a.dropF k).slotAt j).qty=(a.slotAt j).qty:=by
  intro j hj
  have m1:∀(sl:List Slot) (i:Nat) (b:Int),((sl.modify i fun x=>{x with back:=b}).getD j slot0).ent=(sl.getD j slot0).ent∧((sl.modify i fun x=>{x with back:=b}).getD j slot0).used=(sl.getD j slot0).used∧((sl.modify i fun x=>{x with back:=b}).getD j slot0).qty=(sl.getD j slot0).qty:=by
   intro sl i b
   rw[y0h,y0h,y3j]
   cases sl[j]? with
   |none=>exact⟨rfl,rfl,rfl⟩
   |some s=>by_cases e:i=j<;>simp[e,Slot.ent]
  have m2:∀(sl:List Slot) (i:Nat) (b:Int),((sl.modify i fun x=>{x with ahead:=b}).getD j slot0).ent=(sl.getD j slot0).ent∧((sl.modify i fun x=>{x with ahead:=b}).getD j slot0).used=(sl.getD j slot0).used∧((sl.modify i fun x=>{x with ahead:=b}).getD j slot0).qty=(sl.getD j slot0).qty:=by
   intro sl i b
   rw[y0h,y0h,y3j]
   cases sl[j]? with
   |none=>exact⟨rfl,rfl,rfl⟩
   |some s=>by_cases e:i=j<;>simp[e,Slot.ent]
  have e0:(a.dropF k).slotAt j=sl2.getD j slot0:=by
   rw[Arena.slotAt,hS,y0h,vX (fun e=>hj e.symm),y0h]
  have e1:(sl1.getD j slot0).ent=(a.slotAt j).ent∧(sl1.getD j slot0).used=(a.slotAt j).used∧(sl1.getD j slot0).qty=(a.slotAt j).qty:=by
   rw[hsl1]
   split
   ·exact⟨rfl,rfl,rfl⟩
   ·exact m1 _ _ _
  have e2:(sl2.getD j slot0).ent=(sl1.getD j slot0).ent∧(sl2.getD j slot0).used=(sl1.getD j slot0).used∧(sl2.getD j slot0).qty=(sl1.getD j slot0).qty:=by
   rw[hsl2]
   split
   ·exact⟨rfl,rfl,rfl⟩
   ·exact m2 _ _ _
  rw[e0]
  exact⟨e2.1.trans e1.1,e2.2.1.trans e1.2.1,e2.2.2.trans e1.2.2⟩
 have hl1:sl1.length=250:=by rw[hsl1];split<;>simp[hlen]
 have hl2:sl2.length=250:=by rw[hsl2];split<;>simp[hl1]
 have hself:(a.dropF k).slots[k]? =az slot0:=by rw[hS];exact fP (by omega)
 have hsgn:seg (a.dropF k).slots n (-1) (l1++l2) (-1):=by
  rw[hS,lH]
  constructor
  ·--the part ahead
   refine wZ (sl:=sl2) (fun j hj=>vX (fun e=>k1 (e▸hj))) ?_
   have f1:seg sl1 n (-1) l1 (vH l2 (-1)):=by
    rcases wE l1 with e|⟨y,j,e,e2⟩
    ·subst e;trivial
    ·rw[hsl1,yZx (by rw[e2];omega),e2,y0s]
     subst e
     have hd3:=y2k.1 hd.1
     exact zWr _ (fun hj=>hd3.2.2 j hj j y0d rfl) g1
   refine wZ (fun j hj=> ?_) f1
   rw[hsl2]
   split
   ·rfl
   ·rcases hc2 with e|⟨y,i,e,e2⟩
    ·contradiction
    ·refine f7 ?_
     rw[e2,y0s]
     rintro rfl
     exact hd.2.2 i hj i (y0c _ (by rw[e];simp)) rfl
  ·--the part behind
   refine wZ (sl:=sl2) (fun j hj=>vX (fun e=>k2 (e▸hj))) ?_
   have f1:seg sl1 n k l2 (-1):=by
    refine wZ (fun j hj=> ?_) g2
    rw[hsl1]
    split
    ·rfl
    ·rcases hc1 with e|⟨y,i,e,e2⟩
     ·contradiction
     ·refine f7 ?_
      rw[e2,y0s]
      rintro rfl
      exact hd.2.2 i (by rw[e];simp) i (y0c _ hj) rfl
   rcases hc2 with e|⟨y,j,e,e2⟩
   ·rw[(zQd l2).1 e];trivial
   ·rw[hsl2,yZx (by rw[e2];omega),e2,y0s]
    rw[e]at f1 hd2 ⊢
    exact z7r _ (y2l.1 hd2.2).1 f1
 refine⟨⟨?_,?_,?_,?_,?_,?_,?_⟩,hlike,xI hself,hF⟩
 ·rw[hS,y1c];exact hl2
 ·rw[hQs];simp[h.ql]
 ·intro m l' hm
  rcases cU hm with⟨rfl,rfl⟩|⟨e,hm⟩
  ·rw[hQs,fP (by rw[h.ql];exact hnQ)]
   congr 2
   refine(bP fun j hj=>(hlike j fun e=> ?_).2.2).symm
   subst e
   rcases y0u.1 hj with hj|hj
   ·exact k1 hj
   ·exact k2 hj
  ·rw[hQs,vX (fun c=>e c.symm),h.q m l' hm]
   congr 2
   refine(bP fun j hj=>(hlike j fun e2=> ?_).2.2).symm
   subst e2
   exact e (h.one hm hl hj hkm)
 ·intro m l' hm
  rcases cU hm with⟨rfl,rfl⟩|⟨e,hm⟩
  ·exact hsgn
  ·refine wZ (fun j hj=>hoth j ?_ ?_ ?_) (h.sg m l' hm)
   ·exact fun c=>e (h.one hm hl hj (y1o _ c))
   ·exact fun c=>e (h.one hm hl hj (y1q _ (y0c _ c)))
   ·rintro rfl;exact e (h.one hm hl hj hkm)
 ·intro m l' hm
  rcases cU hm with⟨rfl,rfl⟩|⟨e,hm⟩
  ·refine y2k.2 ⟨hd.1,hd2.2,fun i hi j hj=>hd.2.2 i hi j (y0c _ hj)⟩
  ·exact h.nd m l' hm
 ·intro j s' hj hu
  have hjk:j≠k:=by
   rintro rfl
   rw[hself]at hj;cases hj;cases hu
  have hu2:(a.slotAt j).used=ax:=by rw[← (hlike j hjk).2.1,xI hj];exact hu
  have hjl:j<a.slots.length:=by
   have:=(yZz.1 hj).1
   rw[hS,y1c]at this
   omega
  obtain⟨s0,hs0⟩:=z8 hjl
  rw[xI hs0]at hu2
  obtain⟨m,l',hm,hjm⟩:=h.us j s0 hs0 hu2
  by_cases em:m=n
  ·subst em
   rw[hl]at hm;cases hm
   refine⟨m,_,fP hnQ,?_⟩
   rcases y0u.1 hjm with hj|hj
   ·exact y1o _ hj
   ·rcases y0m.1 hj with e|hj
    ·exact absurd e hjk
    ·exact y1q _ hj
  ·exact⟨m,l',by rw[vX (fun c=>em c.symm)];exact hm,hjm⟩
 ·have hmu:(a.dropF k).slots.map (·.used)=(a.slots.set k slot0).map (·.used):=by
   have e1:sl2.map (·.used)=a.slots.map (·.used):=by
    have f2:sl2.map (·.used)=sl1.map (·.used):=by
     rw[hsl2]
     split
     ·rfl
     ·exact eO (g:=fun s:Slot=>s.used) (f:=fun s:Slot=>{s with ahead:=kI l1 (-1)}) (fun _=>rfl) _ _
    have f1:sl1.map (·.used)=a.slots.map (·.used):=by
     rw[hsl1]
     split
     ·rfl
     ·exact eO (g:=fun s:Slot=>s.used) (f:=fun s:Slot=>{s with back:=vH l2 (-1)}) (fun _=>rfl) _ _
    rw[f2,f1]
   rw[hS,List.map_set,e1,List.map_set]
  have:=zNq (x:=slot0) hs1
  rw[hs.used,yZy rfl,show slot0.used=ay from rfl,yZx (by decide)]at this
  rw[hmu,hF,hfree]
  omega
theorem Arena.Wf.take {a:Arena} {Q:List (List Nat)} (h:a.Wf Q) {n k:Nat} {l:List Nat} (hl:Q[n]? =az l) (hk:k∈l) {q:Int} (hq:1≤q∧q≤(a.slotAt k).qty):
 (a.takeF k q).2=0∧(∀j,j≠k→((a.takeF k q).1.slotAt j).ent=(a.slotAt j).ent∧((a.takeF k q).1.slotAt j).used=(a.slotAt j).used)∧
   (if(a.slotAt k).qty=q then(a.takeF k q).1.Wf (Q.set n (l.erase k))∧(a.takeF k q).1.slotAt k=slot0∧(a.takeF k q).1.free=a.free+1
    else(a.takeF k q).1.Wf Q∧(a.takeF k q).1.slotAt k={a.slotAt k with qty:=(a.slotAt k).qty-q}∧(a.takeF k q).1.free=a.free):=by
 obtain⟨hk2,⟨p,t,hs⟩,hk1⟩:=h.toWf0.mem hl hk
 have hkl:k<a.slots.length:=by rw[h.len];exact hk2
 have hu:a.usedAt k=ax:=by
  simp only[Arena.usedAt,y0o,y1z]
  refine⟨by omega,by omega,?_⟩
  rw[y0s]
  exact hs.used
 have hless:=h.toWf0.less hl hk (q:=q) (by omega)
 have hat:=zEk a k q
 rw[Arena.takeF,yZx (by rw[hu];decide),y0s,yZx (by omega)]
 by_cases e:(a.slotAt k).qty=q
 ·rw[yZy e,yZy e]
  obtain⟨l1,l2,rfl⟩:=List.append_of_mem hk
  have hnd:=h.nd n _ hl
  have hd:=y2k.1 hnd
  have k1:k∉l1:=fun hk=>hd.2.2 k hk k y0d rfl
  obtain⟨d1,d2,d3,d4⟩:=hless.drop hl (by rw[hat k hkl,yZy rfl];dsimp only;omega)
  have ee:(l1++k::l2).erase k=l1++l2:=by rw[List.erase_append_right _ k1,List.erase_cons_head]
  refine⟨rfl,fun j hj=> ?_,?_,d3,d4⟩
  ·have:=d2 j hj
   rw[hat j hkl,yZx hj]at this
   exact⟨this.1,this.2.1⟩
  ·rw[ee]
   refine⟨d1,fun m l' hm j hj=> ?_⟩
   have hj2:j≠k∧∃l'',Q[m]? =az l''∧j∈l'':=by
    have hd2:=y2l.1 hd.2.1
    rcases cU hm with⟨rfl,rfl⟩|⟨e3,hm⟩
    ·refine⟨?_,_,hl,?_⟩
     ·rintro rfl
      rcases y0u.1 hj with hj|hj
      ·exact k1 hj
      ·exact hd2.1 hj
     ·rcases y0u.1 hj with hj|hj
      ·exact y1o _ hj
      ·exact y1q _ (y0c _ hj)
    ·refine⟨?_,_,hm,hj⟩
     rintro rfl
     exact e3 (h.toWf0.one hm hl hj hk)
   obtain⟨hj3,l'',hm2,hj4⟩:=hj2
   have:=(d2 j hj3).2.2
   rw[hat j hkl,yZx hj3]at this
   dsimp only
   rw[this]
   exact h.pos m l'' hm2 j hj4
 ·rw[yZx e,yZx e]
  refine⟨rfl,fun j hj=> ?_,⟨hless,fun m l' hm j hj=> ?_⟩,?_,rfl⟩
  ·dsimp only
   rw[hat j hkl,yZx hj];exact⟨rfl,rfl⟩
  ·dsimp only
   rw[hat j hkl]
   split
   ·rename_i c
    subst c
    dsimp only
    omega
   ·exact h.pos m l' hm j hj
  ·dsimp only
   rw[hat k hkl,yZy rfl]
open Go Cv Go.Proofs
theorem y8 {α β:Type} {f g:α→List β}:∀{l:List α},(∀x∈l,f x=g x)→l.flatMap f=l.flatMap g
 |[],_=>rfl
 |x::l,h=>by rw[y1s,y1s,h x y0d,y8 fun y hy=>h y (y0c _ hy)]
theorem sW {α β γ:Type} {f:α→List β} {g:β→γ}:∀(l:List α),(l.flatMap f).map g=l.flatMap fun x=>(f x).map g
 |[]=>rfl
 |x::l=>by rw[y1s,y1s,y0j,sW l]
theorem z0f {α β:Type} {f:α→List β}:∀{l:List α},(∀x∈l,f x≠[])→l.length≤(l.flatMap f).length
 |[],_=>y1f 0
 |x::l,h=>by
  have:=z0f (l:=l) fun y hy=>h y (y0c _ hy)
  have:=List.length_pos_iff.2 (h x y0d)
  rw[y1s,y0e,y0f];omega
theorem zEz {α:Type} [DecidableEq α]:∀{l m:List α},l.Nodup→(∀x∈l,x∈m)→l.length≤m.length
 |[],_,_,_=>y1n _
 |x::l,m,h,hs=>by
  have hd:=y2l.1 h
  have hx:=hs x y0d
  have:=zEz (l:=l) (m:=m.erase x) hd.2 fun y hy=>by
   have hne:y≠x:=by rintro rfl;exact hd.1 hy
   exact(List.mem_erase_of_ne hne).2 (hs y (y0c _ hy))
  rw[List.length_erase_of_mem hx]at this
  have:=List.length_pos_of_mem hx
  rw[y0f];omega
theorem z6t {l:List Int} (h:l.Nodup) (hr:∀x∈l,0≤x∧x<l.length) {n:Nat} (hn:n<l.length):(n:Int)∈l:=by
 apply Classical.byContradiction
 intro hx
 have hnd:((n:Int)::l).Nodup:=y2l.2 ⟨hx,h⟩
 have:=zEz (m:=(ao l.length).map fun k:Nat=>(k:Int)) hnd fun y hy=>by
  rw[y1a]
  rcases y0m.1 hy with rfl|hy
  ·exact⟨n,y3g.2 hn,rfl⟩
  ·have:=hr y hy
   exact⟨y.toNat,y3g.2 (by omega),by omega⟩
 simp at this
 omega
theorem zJk {α β:Type} {l:List (α×β)} (h:(l.map (·.1)).Nodup) {k:α} {x y:β} (hx:(k,x)∈l) (hy:(k,y)∈l):x=y:=by
 induction l with
 |nil=>cases hx
 |cons p l ih=>
  rw[y0l,y2l]at h
  rcases y0m.1 hx with ex|hx<;>rcases y0m.1 hy with ey|hy
  ·rw[← ex]at ey;exact(Prod.mk.inj ey).2.symm
  ·exact absurd (y1d (f:=(·.1)) hy) (by rw[← ex]at h;exact h.1)
  ·exact absurd (y1d (f:=(·.1)) hx) (by rw[← ey]at h;exact h.1)
  ·exact ih h.2 hx hy
theorem sU:∀{l:List (Int×Place)} {k:Int} {x:Place},pget l k=az x→(k,x)∈l
 |[],k,x,h=>by cases h
 |p::l,k,x,h=>by
  rw[pget,y6f]at h
  by_cases e:p.1=k
  ·rw[y0n e]at h
   simp only[y1y,Option.some.injEq]at h
   subst h;subst e
   exact y0d
  ·rw[y0k e]at h
   exact y0c _ (sU h)
theorem zHf {l:List (Int×Place)} {k:Int} (h:pget l k=bc):k∉l.map (·.1):=by
 intro hk
 obtain⟨⟨k',x⟩,hx,rfl⟩:=y1a.1 hk
 rw[pget,Option.map_eq_none_iff,af]at h
 have:=h _ hx
 simp at this
theorem zWk:∀{l:List (Int×Place)} {k:Int} {x:Place},k∉l.map (·.1)→pE k x l=l++[(k,x)]
 |[],k,x,_=>rfl
 |p::l,k,x,h=>by
  rw[y0l,y0m,not_or]at h
  rw[pE,yZx h.1,zWk h.2];rfl
def y7 (Q:List (List Nat)) (r:xG):List Nat:=Q.getD r.queue.toNat []
def yAo (s p:Int) (e:Ent):zK:=⟨e.id,s,p,e.qty,e.top⟩
def wV (a:Arena) (s p:Int) (k:Nat):zK:=yAo s p (a.slotAt k).ent
def Book.rOrds (b:Book) (Q:List (List Nat)) (s:Int) (r:xG):List zK:=(y7 Q r).map (wV b.a s r.price)
def Book.sideL (b:Book) (Q:List (List Nat)) (s:Int):List zK:=(b.rungs s).flatMap (b.rOrds Q s)
def Book.flat (b:Book) (Q:List (List Nat)):List zK:=b.sideL Q 1++b.sideL Q 2
def vG (a:Arena) (s p:Int) (k:Nat):Int×Place:=((a.slotAt k).id,⟨s,p,k⟩)
def Book.plcs (b:Book) (Q:List (List Nat)) (s:Int):List (Int×Place):=(b.rungs s).flatMap fun r=>(y7 Q r).map (vG b.a s r.price)
def Book.qs (b:Book):List Int:=b.buys.map (·.queue)++b.sells.map (·.queue)++b.spare
structure Book.Core (b:Book) (Q:List (List Nat)) (hole:Int):Prop where
 wf:b.a.Wf Q
 srt:∀s,s=1∨s=2→(b.rungs s).Pairwise fun r r'=>btr s r.price r'.price=ax
 rng:∀q∈b.qs,0≤q∧q<Q.length
 nd:b.qs.Nodup
 ql:b.qs.length=Q.length
 ne:∀s,s=1∨s=2→∀r∈b.rungs s,r.queue≠hole→y7 Q r≠[]
 sp:∀q∈b.spare,Q.getD q.toNat []=[]
 at_:b.at_.Perm (b.plcs Q 1++b.plcs Q 2)
 ids:((b.flat Q).map (·.id)).Nodup
 qb:Q.length≤250
structure Book.Tops (b:Book) (L:List zK):Prop where
 fl:∀o∈L,o.top=(b.hasF o.side && decide (o.id=b.topI o.side))
 th:∀s,s=1∨s=2→b.hasF s=ax→∃o∈L,o.side=s∧o.id=b.topI s
structure Book.Rep (b:Book) (L:List zK):Prop where
 ex:∃Q,b.Core Q (-1)∧b.Tops L∧L=b.flat Q
theorem aG (b:Book) (Q:List (List Nat)) (s:Int):(b.plcs Q s).map (·.1)=(b.sideL Q s).map (·.id):=by
 rw[Book.plcs,Book.sideL,sW,sW]
 refine y8 fun r _=> ?_
 rw[Book.rOrds,y2o,y2o]
 rfl
theorem Book.Core.keysP {b:Book} {Q:List (List Nat)} {h:Int} (c:b.Core Q h):(b.at_.map (·.1)).Perm ((b.flat Q).map (·.id)):=by
 have:=c.at_.map (·.1)
 rw[y0j,aG,aG,← y0j]at this
 exact this
theorem Book.Core.keys {b:Book} {Q:List (List Nat)} {h:Int} (c:b.Core Q h):(b.at_.map (·.1)).Nodup:=c.keysP.nodup_iff.2 c.ids
theorem Book.Core.len {b:Book} {Q:List (List Nat)} {h:Int} (c:b.Core Q h):b.at_.length=(b.flat Q).length:=by
 have:=c.keysP.length_eq
 simpa using this
theorem Book.Core.plc {b:Book} {Q:List (List Nat)} {h:Int} (c:b.Core Q h) {s:Int} (hs:s=1∨s=2) {r:xG} (hr:r∈b.rungs s) {k:Nat} (hk:k∈y7 Q r):((b.a.slotAt k).id,(⟨s,r.price,k⟩:Place))∈b.at_:=by
 refine c.at_.mem_iff.2 ?_
 have hp:vG b.a s r.price k∈b.plcs Q s:=y2s.2 ⟨r,hr,y1d hk⟩
 rcases hs with rfl|rfl
 ·exact y1o _ hp
 ·exact y1q _ hp
theorem Book.Core.plcI {b:Book} {Q:List (List Nat)} {h:Int} (c:b.Core Q h) {id:Int} {x:Place} (hx:(id,x)∈b.at_):∃(k:Nat) (r:xG),(x.side=1∨x.side=2)∧r∈b.rungs x.side∧k∈y7 Q r∧x=⟨x.side,r.price,k⟩∧(b.a.slotAt k).id=id:=by
 have:=c.at_.mem_iff.1 hx
 rcases y0u.1 this with hp|hp
 all_goals
  obtain⟨r,hr,hp⟩:=y2s.1 hp
  obtain⟨k,hk,e⟩:=y1a.1 hp
  simp only[vG,Prod.mk.injEq]at e
  obtain⟨e1,rfl⟩:=e
  exact⟨k,r,by simp,hr,hk,rfl,e1⟩
theorem zYj {Q:List (List Nat)} {r:xG} (h:0≤r.queue∧r.queue<Q.length):Q[r.queue.toNat]? =az (y7 Q r):=by
 obtain⟨l,hl⟩:=z8 (l:=Q) (i:=r.queue.toNat) (by omega)
 rw[y7,zT hl,hl]
theorem uQ {b:Book} {s:Int} (hs:s=1∨s=2) {r:xG} (hr:r∈b.rungs s):r.queue∈b.qs:=by
 rcases hs with rfl|rfl
 ·exact y1o _ (y1o _ (y1d (f:=(·.queue)) hr))
 ·exact y1o _ (y1q _ (y1d (f:=(·.queue)) hr))
theorem Book.Core.get {b:Book} {Q:List (List Nat)} {h:Int} (c:b.Core Q h) {s:Int} (hs:s=1∨s=2) {r:xG} (hr:r∈b.rungs s):Q[r.queue.toNat]? =az (y7 Q r):=zYj (c.rng _ (uQ hs hr))
def clr (L:List zK) (s:Int):List zK:=L.map fun o=>if o.side=s then{o with top:=ay}else o
theorem lF (s x:Int):btr s x x=ay:=by
 rw[btr];split<;>exact y0k (by omega)
theorem Book.Core.flag {b:Book} {Q:List (List Nat)} {h:Int} (c:b.Core Q h) {a':Arena} (hw:a'.Wf Q) (hi:∀k,(a'.slotAt k).id=(b.a.slotAt k).id):({b with a:=a'}:Book).Core Q h:=by
 have e1:∀s,({b with a:=a'}:Book).plcs Q s=b.plcs Q s:=by
  intro s
  refine y8 fun r _=>y1h fun k _=> ?_
  simp only[vG,hi]
 have e2:((({b with a:=a'}:Book).flat Q).map (·.id))=(b.flat Q).map (·.id):=by
  rw[Book.flat,Book.flat,y0j,y0j,← aG,← aG,← aG,← aG,e1,e1]
 exact⟨hw,c.srt,c.rng,c.nd,c.ql,c.ne,c.sp,by rw[e1,e1];exact c.at_,by rw[e2];exact c.ids,c.qb⟩
theorem yIr (a:Arena) (n:Int) (t:Bool) (k:Nat):((a.topF n t).slotAt k).id=(a.slotAt k).id:=by
 rw[zSv];split<;>rfl
theorem Book.Core.untop {b:Book} {Q:List (List Nat)} {h:Int} (c:b.Core Q h) (s:Int):(b.untop s).Wf Q∧∀k,((b.untop s).slotAt k).id=(b.a.slotAt k).id:=by
 rw[Book.untop]
 repeat' split
 all_goals first|exact⟨c.wf,fun _=>rfl⟩|exact⟨c.wf.top _ _,fun k=>yIr _ _ _ k⟩
theorem Book.Core.untop_flat {b:Book} {Q:List (List Nat)} {h:Int} (c:b.Core Q h) (ht:b.Tops (b.flat Q)) {s:Int} (hs:s=1∨s=2):({b with a:=b.untop s}:Book).flat Q=clr (b.flat Q) s:=by
 have hfl:∀{s':Int} (hs':s'=1∨s'=2) {r:xG} (hr:r∈b.rungs s') {k:Nat} (hk:k∈y7 Q r),(b.a.slotAt k).top=(b.hasF s' && decide ((b.a.slotAt k).id=b.topI s')):=by
  intro s' hs' r hr k hk
  have hm:wV b.a s' r.price k∈b.flat Q:=by
   have:wV b.a s' r.price k∈b.sideL Q s':=y2s.2 ⟨r,hr,y1d hk⟩
   rcases hs' with rfl|rfl
   ·exact y1o _ this
   ·exact y1q _ this
  exact ht.fl _ hm
 have key:∀{s':Int} (hs':s'=1∨s'=2) {r:xG} (hr:r∈b.rungs s') {k:Nat} (hk:k∈y7 Q r),((b.untop s).slotAt k).ent=if s'=s then{(b.a.slotAt k).ent with top:=ay}else(b.a.slotAt k).ent:=by
  intro s' hs' r hr k hk
  have hplc:=c.plc hs' hr hk
  have htop:=hfl hs' hr hk
  have hno:(b.a.slotAt k).top=ay→(b.a.slotAt k).ent=if s'=s then{(b.a.slotAt k).ent with top:=ay}else(b.a.slotAt k).ent:=by
   intro e
   split
   ·rw[Slot.ent,e]
   ·rfl
  rw[Book.untop]
  by_cases hh:b.hasF s=ax
  ·rw[yZy hh]
   cases hg:pget b.at_ (b.topI s)with
   |none=>
    dsimp only
    by_cases e:s'=s
    ·subst e
     refine hno ?_
     rw[htop,hh,y2y]
     refine y0k fun e2=> ?_
     rw[← e2]at hg
     exact zHf hg (y1d (f:=(·.1)) hplc)
    ·rw[yZx e]
   |some o=>
    dsimp only
    obtain⟨k',r',hs2,hr2,hk2,ho,hid⟩:=c.plcI (sU hg)
    by_cases es:o.side=s
    ·rw[yZy es,zSv]
     have hos:o.slot=(k':Int):=by rw[ho]
     by_cases ek:k=k'
     ·subst ek
      have hu:b.a.usedAt o.slot=ax:=by
       obtain⟨_,⟨_,_,h2⟩,h3⟩:=c.wf.toWf0.mem (c.get hs' hr) hk
       have hlt:=(yZz.1 h3).1
       simp only[Arena.usedAt,y0o,y1z,hos,y0s]
       exact⟨by omega,by omega,h2.used⟩
      rw[yZy ⟨hu,by rw[hos];rfl⟩]
      have:=c.plc hs2 hr2 hk2
      have e3:=zJk c.keys hplc this
      have e4:s'=s:=by
       have:=congrArg Place.side e3
       dsimp only at this
       rw[this,es]
      rw[yZy e4];rfl
     ·rw[yZx (fun e=>ek (by have:=e.2;rw[hos]at this;simpa using this))]
      by_cases e:s'=s
      ·subst e
       refine hno ?_
       rw[htop,hh,y2y]
       refine y0k fun e2=>ek ?_
       have hp2:=c.plc hs2 hr2 hk2
       rw[hid,← e2]at hp2
       have e3:=zJk c.keys hplc hp2
       have:=congrArg Place.slot e3
       dsimp only at this
       omega
      ·rw[yZx e]
    ·rw[yZx es]
     by_cases e:s'=s
     ·subst e
      refine hno ?_
      rw[htop,hh,y2y]
      refine y0k fun e2=>es ?_
      have hp2:=sU hg
      rw[← e2]at hp2
      have e3:=zJk c.keys hplc hp2
      rw[← e3]
     ·rw[yZx e]
  ·rw[yZx hh]
   by_cases e:s'=s
   ·subst e
    refine hno ?_
    have:b.hasF s'=ay:=by simpa using hh
    rw[htop,this,y3l]
   ·rw[yZx e]
 have side:∀s',s'=1∨s'=2→({b with a:=b.untop s}:Book).sideL Q s'=clr (b.sideL Q s') s:=by
  intro s' hs'
  rw[clr,Book.sideL,Book.sideL,sW]
  refine y8 fun r hr=> ?_
  rw[Book.rOrds,Book.rOrds,y2o]
  refine y1h fun k hk=> ?_
  simp only[wV,cn,key hs' hr hk,yAo]
  by_cases e:s'=s
  ·rw[yZy e];exact(yZy e).symm
  ·rw[yZx e];exact(yZx e).symm
 rw[Book.flat,side 1 (.inl rfl),side 2 (.inr rfl),Book.flat,clr,clr,clr,y0j]
open Go Cv Go.Proofs
def before (s p:Int) (o:zK):Bool:=decide (o.side<s)||(decide (o.side=s) && !btr s p o.price)
def gG (L:List zK) (s p:Int):Bool:=L.all fun o=> !decide (o.side=s)||btr s p o.price
def zSa (L:List zK) (s id p q:Int):List zK:=
 let L1:=if gG L s p=ax then clr L s else L
 L1.takeWhile (before s p)++⟨id,s,p,q,gG L s p⟩::L1.dropWhile (before s p)
theorem yEg {α:Type} {f:α→Bool}:∀{A B:List α},(∀x∈A,f x=ax)→(∀x∈B,f x=ay)→(A++B).takeWhile f=A∧(A++B).dropWhile f=B
 |[],[],_,_=>⟨rfl,rfl⟩
 |[],b::B,_,h=>by
  have:=h b y0d
  simp[this]
 |a::A,B,h,h2=>by
  obtain⟨i1,i2⟩:=yEg (A:=A) (B:=B) (fun x hx=>h x (y0c _ hx)) h2
  have:=h a y0d
  rw[y1p,List.takeWhile_cons,List.dropWhile_cons,this]
  simp[i1,i2]
theorem x9 {b:Book} {Q:List (List Nat)} {s:Int} {r:xG} {o:zK} (h:o∈b.rOrds Q s r):o.side=s∧o.price=r.price:=by
 obtain⟨k,_,rfl⟩:=y1a.1 h
 exact⟨rfl,rfl⟩
theorem aC {b:Book} {Q:List (List Nat)} {s:Int} {o:zK} (h:o∈b.sideL Q s):o.side=s∧∃r∈b.rungs s,o∈b.rOrds Q s r∧o.price=r.price:=by
 obtain⟨r,hr,ho⟩:=y2s.1 h
 exact⟨(x9 ho).1,r,hr,ho,(x9 ho).2⟩
structure Spl (s p:Int) (R1 R2:List xG):Prop where
 a:∀r∈R1,btr s r.price p=ax
 b:∀r∈R2,btr s p r.price=ax
theorem zWa {s x y:Int} (h:btr s x y=ax):btr s y x=ay:=by
 rw[btr]at h ⊢
 split at h
 ·rename_i e;rw[yZy e];have:=y2j h;exact y0k (by omega)
 ·rename_i e;rw[yZx e];have:=y2j h;exact y0k (by omega)
theorem zPn {s x y z:Int} (h:btr s x y=ax) (h2:btr s y z=ax):btr s x z=ax:=by
 rw[btr]at h h2 ⊢
 split at h
 ·rename_i e;rw[yZy e]at h2 ⊢;have:=y2j h;have:=y2j h2;exact y0n (by omega)
 ·rename_i e;rw[yZx e]at h2 ⊢;have:=y2j h;have:=y2j h2;exact y0n (by omega)
theorem z9d {s x y:Int} (h:btr s x y=ay) (hne:x≠y):btr s y x=ax:=by
 rw[btr]at h ⊢
 split at h
 ·rename_i e;rw[yZy e];have:=y4u h;exact y0n (by omega)
 ·rename_i e;rw[yZx e];have:=y4u h;exact y0n (by omega)
theorem zAx {s p:Int} {l:List xG} (hs:l.Pairwise fun r r'=>btr s r.price r'.price=ax):
 (∀r∈l.take (zW s l p),btr s r.price p=ax)∧
 (if kL s l p=ax then ∃r,l[zW s l p]? =az r∧r.price=p∧∀r'∈l.drop (zW s l p+1),btr s p r'.price=ax
  else ∀r'∈l.drop (zW s l p),btr s p r'.price=ax):=by
 have e1:l.take (zW s l p)=l.takeWhile fun r=>btr s r.price p:=by
  rw[zW]
  have h:=List.take_left (l₁:=l.takeWhile fun r=>btr s r.price p) (l₂:=l.dropWhile fun r=>btr s r.price p)
  rwa [y5x]at h
 have e2:l.drop (zW s l p)=l.dropWhile fun r=>btr s r.price p:=by
  have h:=y2g (zW s l p) l
  have h2:=y5x (p:=fun r:xG=>btr s r.price p) (l:=l)
  rw[e1]at h
  exact List.append_cancel_left (h.trans h2.symm)
 refine⟨fun r hr=> ?_,?_⟩
 ·rw[e1]at hr
  exact y3i.1 List.all_takeWhile r hr
 have hd:∀r,l[zW s l p]? =az r→btr s r.price p=ay:=by
  intro r hr
  have h0:(l.drop (zW s l p))[0]? =az r:=by rw[y2i];exact hr
  rw[e2]at h0
  cases hdw:l.dropWhile fun r=>btr s r.price p with
  |nil=>rw[hdw]at h0;cases h0
  |cons x y=>
   rw[hdw]at h0
   cases h0
   have:=List.head?_dropWhile_not (fun r:xG=>btr s r.price p) l
   rw[hdw]at this
   simpa using this
 have hpw:∀r r',l[zW s l p]? =az r→r'∈l.drop (zW s l p+1)→btr s r.price r'.price=ax:=by
  intro r r' hr hr'
  have hlt:=(yZz.1 hr).1
  have:=List.Pairwise.sublist (List.drop_sublist (zW s l p) l) hs
  rw[y2x hlt,y1w,(yZz.1 hr).2]at this
  exact this.1 r' hr'
 split
 ·rename_i hb
  rw[kL]at hb
  cases hr:l[zW s l p]? with
  |none=>rw[hr]at hb;cases hb
  |some r=>
   rw[hr]at hb
   have hp:r.price=p:=y2j hb
   exact⟨r,rfl,hp,fun r' hr'=>by rw[← hp];exact hpw r r' hr hr'⟩
 ·rename_i hb
  intro r' hr'
  by_cases hlt:zW s l p<l.length
  ·obtain⟨r,hr⟩:=z8 hlt
   rw[kL,hr]at hb
   have hp:¬r.price=p:=fun e=>hb (y0n e)
   have h1:=z9d (hd r hr) hp
   rw[y2x hlt,(yZz.1 hr).2]at hr'
   rcases y0m.1 hr' with rfl|hr'
   ·exact h1
   ·exact zPn h1 (hpw r r' hr hr')
  ·rw[y3s (by omega)]at hr'
   cases hr'
def Book.setR (b:Book) (s:Int) (l:List xG):Book:=if s=1 then{b with buys:=l}else{b with sells:=l}
theorem z5w {b:Book} {s:Int} (hs:s=1∨s=2):∃rest,b.qs.Perm ((b.rungs s).map (·.queue)++rest)∧∀l,(b.setR s l).qs.Perm (l.map (·.queue)++rest):=by
 rcases hs with rfl|rfl
 ·refine⟨b.sells.map (·.queue)++b.spare,?_,fun l=> ?_⟩
  ·rw[Book.qs,y0i];exact .refl _
  ·show(l.map (·.queue)++b.sells.map (·.queue)++b.spare).Perm _
   rw[y0i]
 ·refine⟨b.buys.map (·.queue)++b.spare,?_,fun l=> ?_⟩
  ·rw[Book.qs]
   show(b.buys.map (·.queue)++b.sells.map (·.queue)++b.spare).Perm (b.sells.map (·.queue)++(b.buys.map (·.queue)++b.spare))
   rw[← y0i];exact y2a.append_right _
  ·show(b.buys.map (·.queue)++l.map (·.queue)++b.spare).Perm (l.map (·.queue)++(b.buys.map (·.queue)++b.spare))
   rw[← y0i];exact y2a.append_right _
structure Queued (b:Book) (Q:List (List Nat)) (s p:Int) (b':Book) (n:Int) (Q':List (List Nat)) (R1 R2:List xG):Prop where
 core:b'.Core Q' n
 rungs:b'.rungs s=R1++⟨p,n⟩::R2
 spl:Spl s p R1 R2
 flat:b'.flat Q'=b.flat Q
 at_:b'.at_=b.at_
 free:b'.a.free=b.a.free
 tops:∀L,b.Tops L→b'.Tops L
 qty:∀x,b'.hasF x=b.hasF x∧b'.topI x=b.topI x
theorem z9l {α:Type} {l:List α} {x d:α} {n:Nat}:(l++[x]).getD n d=if n=l.length then x else l.getD n d:=by
 rw[y0h,y0h,List.getElem?_append]
 split
 ·rw[yZx (by omega)]
 ·rename_i h
  by_cases e:n=l.length
  ·rw[yZy e,e,y5s];rfl
  ·rw[yZx e,y1e (show([x]:List α).length≤n-l.length by simp;omega),y1e (by omega)]
theorem Book.Core.add {b:Book} {Q:List (List Nat)} (c:b.Core Q (-1)) {s p n:Int} (hs:s=1∨s=2) {R1 R2:List xG} (hr:b.rungs s=R1++R2) (spl:Spl s p R1 R2) {b':Book} {Q':List (List Nat)}
 (hrs:b'.rungs s=R1++⟨p,n⟩::R2) (hro:∀s',s'≠s→s'=1∨s'=2→b'.rungs s'=b.rungs s') (hat:b'.at_=b.at_) (hw:b'.a.Wf Q') (hsl:b'.a.slots=b.a.slots)
 (hQ:∀k,Q'.getD k []=Q.getD k []) (hn:Q.getD n.toNat []=[]) (hrng:∀q∈b'.qs,0≤q∧q<Q'.length) (hnd:b'.qs.Nodup) (hql:b'.qs.length=Q'.length) (hsp:∀q∈b'.spare,Q.getD q.toNat []=[]) (hqb:Q'.length≤250):
 b'.Core Q' n∧b'.flat Q'=b.flat Q:=by
 have hslQ:∀r,y7 Q' r=y7 Q r:=fun r=>hQ _
 have hsa:∀k,b'.a.slotAt k=b.a.slotAt k:=fun k=>by rw[Arena.slotAt,Arena.slotAt,hsl]
 have hn':y7 Q ⟨p,n⟩=[]:=hn
 have hro':∀s' r,b'.rOrds Q' s' r=b.rOrds Q s' r:=by
  intro s' r
  rw[Book.rOrds,Book.rOrds,hslQ]
  exact y1h fun k _=>by rw[wV,wV,hsa]
 have hpo:∀s' (r:xG),(y7 Q' r).map (vG b'.a s' r.price)=(y7 Q r).map (vG b.a s' r.price):=by
  intro s' r
  rw[hslQ]
  exact y1h fun k _=>by rw[vG,vG,hsa]
 have hside:∀s',s'=1∨s'=2→b'.sideL Q' s'=b.sideL Q s':=by
  intro s' hs'
  rw[Book.sideL,Book.sideL]
  by_cases e:s'=s
  ·subst e
   rw[hrs,hr,y1u,y1u,y1s,y8 (fun r _=>hro' s' r),y8 (l:=R2) (fun r _=>hro' s' r),hro',Book.rOrds,hn',y3r,y2e]
  ·rw[hro s' e hs'];exact y8 fun r _=>hro' s' r
 have hplc:∀s',s'=1∨s'=2→b'.plcs Q' s'=b.plcs Q s':=by
  intro s' hs'
  rw[Book.plcs,Book.plcs]
  by_cases e:s'=s
  ·subst e
   rw[hrs,hr,y1u,y1u,y1s,y8 (fun r _=>hpo s' r),y8 (l:=R2) (fun r _=>hpo s' r),hpo,hn',y3r,y2e]
  ·rw[hro s' e hs'];exact y8 fun r _=>hpo s' r
 have hflat:b'.flat Q'=b.flat Q:=by rw[Book.flat,Book.flat,hside 1 (.inl rfl),hside 2 (.inr rfl)]
 refine⟨⟨hw,fun s' hs'=> ?_,hrng,hnd,hql,fun s' hs' r hr' hne=> ?_,fun q hq=>by rw[hQ];exact hsp q hq,by rw[hat,hplc 1 (.inl rfl),hplc 2 (.inr rfl)];exact c.at_,by rw[hflat];exact c.ids,hqb⟩,hflat⟩
 ·by_cases e:s'=s
  ·subst e
   have h0:=c.srt s' hs'
   rw[hr,ae]at h0
   rw[hrs,ae,y1w]
   refine⟨h0.1,⟨spl.b,h0.2.1⟩,fun x hx y hy=> ?_⟩
   rcases y0m.1 hy with rfl|hy
   ·exact spl.a x hx
   ·exact h0.2.2 x hx y hy
  ·rw[hro s' e hs'];exact c.srt s' hs'
 ·rw[hslQ]
  have hold:∀r∈b.rungs s',y7 Q r≠[]:=fun r hr=>c.ne s' hs' r hr fun e=>by
   have:=c.rng _ (uQ hs' hr)
   omega
  by_cases e:s'=s
  ·subst e
   rw[hrs]at hr'
   rcases y0u.1 hr' with h|h
   ·exact hold r (by rw[hr];exact y1o _ h)
   ·rcases y0m.1 h with rfl|h
    ·exact absurd rfl hne
    ·exact hold r (by rw[hr];exact y1q _ h)
  ·rw[hro s' e hs']at hr';exact hold r hr'
theorem zNc (b:Book) {s:Int} (hs:s=1∨s=2) (l:List xG):(b.setR s l).rungs s=l∧∀s',s'≠s→s'=1∨s'=2→(b.setR s l).rungs s'=b.rungs s':=by
 rcases hs with rfl|rfl
 ·exact⟨rfl,fun s' h h2=>by rcases h2 with rfl|rfl;exact absurd rfl h;rfl⟩
 ·exact⟨rfl,fun s' h h2=>by rcases h2 with rfl|rfl;rfl;exact absurd rfl h⟩
theorem z6p (b:Book) {s p:Int} (hs:s=1∨s=2):b.queueF s p=if kL s (b.rungs s) p=ax then(b,((b.rungs s).getD (zW s (b.rungs s) p) ⟨0,0⟩).queue)else(({b with a:=b.newQ.2.2,spare:=b.newQ.2.1}:Book).setR s (b.ins s p),b.newQ.1):=by
 rcases hs with rfl|rfl<;>rfl
theorem Book.Core.queue {b:Book} {Q:List (List Nat)} (c:b.Core Q (-1)) (hl:(b.flat Q).length<250) {s:Int} (hs:s=1∨s=2) (p:Int):∃Q' R1 R2,Queued b Q s p (b.queueF s p).1 (b.queueF s p).2 Q' R1 R2:=by
 have hsp:=zAx (p:=p) (c.srt s hs)
 rw[z6p b hs]
 by_cases hb:kL s (b.rungs s) p=ax
 ·rw[yZy hb]at hsp ⊢
  obtain⟨h1,r,hr,hp,h2⟩:=hsp
  have hlt:=(yZz.1 hr).1
  have er:(⟨p,r.queue⟩:xG)=r:=by rw[← hp]
  have hsplit:b.rungs s=(b.rungs s).take (zW s (b.rungs s) p)++r::(b.rungs s).drop (zW s (b.rungs s) p+1):=by
   conv=>lhs;rw[← y2g (zW s (b.rungs s) p) (b.rungs s)]
   rw[y2x hlt,(yZz.1 hr).2]
  refine⟨Q,_,_,⟨⟨c.wf,c.srt,c.rng,c.nd,c.ql,fun s' hs' r' hr' _=>c.ne s' hs' r' hr' fun e=> ?_,c.sp,c.at_,c.ids,c.qb⟩,?_,⟨h1,h2⟩,rfl,rfl,rfl,fun _ h=>h,fun _=>⟨rfl,rfl⟩⟩⟩
  ·have:=c.rng _ (uQ hs' hr');omega
  ·dsimp only
   rw[zT hr,er];exact hsplit
 ·rw[yZx hb]at hsp ⊢
  obtain⟨h1,h2⟩:=hsp
  have hr:b.rungs s=(b.rungs s).take (zW s (b.rungs s) p)++(b.rungs s).drop (zW s (b.rungs s) p):=(y2g _ _).symm
  obtain⟨g1,g2⟩:=zNc ({b with a:=b.newQ.2.2,spare:=b.newQ.2.1}:Book) hs (b.ins s p)
  have tops:∀x,((({b with a:=b.newQ.2.2,spare:=b.newQ.2.1}:Book).setR s (b.ins s p)).hasF x=b.hasF x∧(({b with a:=b.newQ.2.2,spare:=b.newQ.2.1}:Book).setR s (b.ins s p)).topI x=b.topI x):=by
   intro x;rcases hs with rfl|rfl<;>exact⟨rfl,rfl⟩
  have hat:(({b with a:=b.newQ.2.2,spare:=b.newQ.2.1}:Book).setR s (b.ins s p)).at_=b.at_:=by rcases hs with rfl|rfl<;>rfl
  have ha:(({b with a:=b.newQ.2.2,spare:=b.newQ.2.1}:Book).setR s (b.ins s p)).a=b.newQ.2.2:=by rcases hs with rfl|rfl<;>rfl
  have hspr:(({b with a:=b.newQ.2.2,spare:=b.newQ.2.1}:Book).setR s (b.ins s p)).spare=b.newQ.2.1:=by rcases hs with rfl|rfl<;>rfl
  obtain⟨rest,q1,q2⟩:=z5w (b:=({b with a:=b.newQ.2.2,spare:=b.newQ.2.1}:Book)) hs
  have q2:=q2 (b.ins s p)
  have hqs:(({b with a:=b.newQ.2.2,spare:=b.newQ.2.1}:Book).setR s (b.ins s p)).qs.Perm (b.newQ.1::({b with a:=b.newQ.2.2,spare:=b.newQ.2.1}:Book).qs):=by
   refine q2.trans (.trans ?_ (q1.symm.cons _))
   rw[← y1p]
   refine co _ ?_
   show((b.ins s p).map (·.queue)).Perm (b.newQ.1::(b.rungs s).map (·.queue))
   conv=>rhs;rw[hr]
   rw[Book.ins,y0j,y0j,y0l]
   exact y0q
  generalize hB:(({b with a:=b.newQ.2.2,spare:=b.newQ.2.1}:Book).setR s (b.ins s p))=B at*
  have fin:∀Q',B.a.Wf Q'→B.a.slots=b.a.slots→B.a.free=b.a.free→(∀k,Q'.getD k []=Q.getD k [])→Q.getD b.newQ.1.toNat []=[]→(∀q∈B.qs,0≤q∧q<Q'.length)→B.qs.Nodup→B.qs.length=Q'.length→(∀q∈B.spare,Q.getD q.toNat []=[])→Q'.length≤250→∃Q' R1 R2,Queued b Q s p B b.newQ.1 Q' R1 R2:=by
   intro Q' w1 w2 w3 w4 w5 w6 w7 w8 w9 w10
   obtain⟨u1,u2⟩:=c.add hs hr ⟨h1,h2⟩ (b':=B) (Q':=Q') (n:=b.newQ.1) (by rw[g1];rfl) g2 hat w1 w2 w4 w5 w6 w7 w8 w9 w10
   refine⟨Q',_,_,⟨u1,g1.trans rfl,⟨h1,h2⟩,u2,hat,w3,fun L h=>⟨fun o ho=> ?_,fun s' hs' hh=> ?_⟩,tops⟩⟩
   ·rw[(tops o.side).1,(tops o.side).2];exact h.fl o ho
   ·rw[(tops s').1]at hh
    rw[(tops s').2];exact h.th s' hs' hh
  by_cases he:b.spare.length=0
  ·have hnq:b.newQ=((b.a.queues.length:Int),b.spare,b.a.openQ):=by rw[Book.newQ,yZy he]
   have hql:=c.wf.ql
   have hspe:b.spare=[]:=y0y he
   have hqs':B.qs.Perm ((Q.length:Int)::b.qs):=by
    rw[hnq]at hqs
    rw[← hql];exact hqs
   refine fin (Q++[[]]) (by rw[ha,hnq];exact c.wf.open) (by rw[ha,hnq];rfl) (by rw[ha,hnq];rfl) (fun k=> ?_) ?_ (fun q hq=> ?_) ?_ ?_ (fun q hq=> ?_) ?_
   ·rw[z9l]
    split
    ·rename_i e;rw[e,y0h,y1e (y1f _)];rfl
    ·rfl
   ·rw[hnq,y0h,y1e (by dsimp only;omega)];rfl
   ·rw[y0e]
    rcases y0m.1 (hqs'.mem_iff.1 hq)with rfl|hq
    ·simp only[y2m];omega
    ·have:=c.rng q hq;simp only[y2m];omega
   ·refine hqs'.nodup_iff.2 (y2l.2 ⟨fun hm=> ?_,c.nd⟩)
    have:=c.rng _ hm;omega
   ·rw[hqs'.length_eq,y0f,y0e,c.ql];rfl
   ·rw[hspr,hnq]at hq
    rw[hspe]at hq;cases hq
   ·have h1:=z0f (l:=b.rungs 1) (f:=b.rOrds Q 1) fun r hr e=>c.ne 1 (.inl rfl) r hr (fun e2=>by have:=c.rng _ (uQ (.inl rfl) hr);omega) (List.map_eq_nil_iff.1 e)
    have h2:=z0f (l:=b.rungs 2) (f:=b.rOrds Q 2) fun r hr e=>c.ne 2 (.inr rfl) r hr (fun e2=>by have:=c.rng _ (uQ (.inr rfl) hr);omega) (List.map_eq_nil_iff.1 e)
    have h3:=c.ql
    rw[Book.flat,y0e,Book.sideL,Book.sideL]at hl
    rw[Book.qs,y0e,y0e,y0a,y0a,he]at h3
    rw[rL]at h1 hl
    rw[pY]at h2 hl
    rw[y0e,y2m]
    omega
  ·have hnq:b.newQ=(b.spare.getD (b.spare.length-1) 0,b.spare.take (b.spare.length-1),b.a):=by rw[Book.newQ,yZx he]
   obtain⟨sp,q,hspq⟩:∃sp q,b.spare=sp++[q]:=⟨_,_,(List.dropLast_concat_getLast (l:=b.spare) (by intro e;rw[e]at he;exact he rfl)).symm⟩
   have e1:b.newQ=(q,sp,b.a):=by
    rw[hnq,hspq]
    simp
   have hqs':B.qs.Perm b.qs:=by
    refine hqs.trans ?_
    rw[e1]
    show(q::(b.buys.map (·.queue)++b.sells.map (·.queue)++sp)).Perm (b.buys.map (·.queue)++b.sells.map (·.queue)++b.spare)
    rw[hspq,← y0i]
    exact y4s q _|>.symm
   have hq0:q∈b.spare:=by rw[hspq];simp
   refine fin Q (by rw[ha,e1];exact c.wf) (by rw[ha,e1]) (by rw[ha,e1]) (fun _=>rfl) (by rw[e1];exact c.sp q hq0) (fun q hq=>c.rng q (hqs'.mem_iff.1 hq)) (hqs'.nodup_iff.2 c.nd) (by rw[hqs'.length_eq];exact c.ql) (fun q' hq'=> ?_) c.qb
   rw[hspr,e1]at hq'
   exact c.sp q' (by rw[hspq];exact y1o _ hq')
open Go Cv Go.Proofs
theorem Book.Core.used {b:Book} {Q:List (List Nat)} (c:b.Core Q (-1)) (hl:(b.flat Q).length<250):b.a.free≠0:=by
 intro hf
 have hcn:=c.wf.free
 rw[hf]at hcn
 have hz:(b.a.slots.map (·.used)).countP (!·)=0:=by omega
 rw[List.countP_eq_zero]at hz
 have hin:∀k∈ao 250,k∈((b.rungs 1).flatMap (y7 Q)++(b.rungs 2).flatMap (y7 Q)):=by
  intro k hk
  have hk:=y3g.1 hk
  obtain⟨s,hs⟩:=z8 (l:=b.a.slots) (i:=k) (by rw[c.wf.len];exact hk)
  have hu:s.used=ax:=by
   have:=hz s.used (y1d (y0g hs))
   simpa using this
  obtain⟨n,l,hn,hkl⟩:=c.wf.us k s hs hu
  have hnQ:=(yZz.1 hn).1
  have hm:(n:Int)∈b.qs:=z6t c.nd (fun x hx=>by rw[c.ql];exact c.rng x hx) (by rw[c.ql];exact hnQ)
  have e:∀r:xG,r.queue=(n:Int)→k∈y7 Q r:=by
   intro r hr
   rw[y7,hr,y0s,zT hn];exact hkl
  rw[Book.qs]at hm
  rcases y0u.1 hm with hm|hm
  ·rcases y0u.1 hm with hm|hm
   ·obtain⟨r,hr,er⟩:=y1a.1 hm
    exact y1o _ (y2s.2 ⟨r,hr,e r er⟩)
   ·obtain⟨r,hr,er⟩:=y1a.1 hm
    exact y1q _ (y2s.2 ⟨r,hr,e r er⟩)
  ·have:=c.sp _ hm
   rw[y0s,zT hn]at this
   rw[this]at hkl;cases hkl
 have h1:=zEz List.nodup_range hin
 have e:∀s,(b.sideL Q s).length=((b.rungs s).flatMap (y7 Q)).length:=by
  intro s
  rw[Book.sideL,y5d,y5d]
  congr 1
  exact y1h fun r _=>by rw[Book.rOrds,y0a]
 rw[y0e,← e,← e,List.length_range]at h1
 rw[Book.flat,y0e]at hl
 omega
theorem zSr {s p:Int} {o:zK} (h:o.side≠s) (hlt:o.side=1∨o.side=2) (hs:s=1∨s=2):before s p o=decide (s=2):=by
 rw[before,y0k h,y3l,Bool.or_false]
 rcases hs with rfl|rfl
 ·rw[y0k (by omega),y0k (by omega)]
 ·rw[y0n (by omega),y0n rfl]
theorem Queued.put {b:Book} {Q:List (List Nat)} {s p:Int} {b':Book} {n:Int} {Q':List (List Nat)} {R1 R2:List xG} (h:Queued b Q s p b' n Q' R1 R2) (hs:s=1∨s=2) {id qty:Int} (top:Bool) (hid:id∉(b.flat Q).map (·.id)) (hf:b.a.free≠0) (hq:1≤qty∧qty≤1000000):
 ∃Q3 A B,({b' with a:=(b'.a.push n id qty top).1,at_:=pE id ⟨s,p,(b'.a.push n id qty top).2.1⟩ b'.at_}:Book).Core Q3 (-1)∧b'.flat Q'=A++B∧
  ({b' with a:=(b'.a.push n id qty top).1,at_:=pE id ⟨s,p,(b'.a.push n id qty top).2.1⟩ b'.at_}:Book).flat Q3=A++⟨id,s,p,qty,top⟩::B∧(∀o∈A,before s p o=ax)∧∀o∈B,before s p o=ay:=by
 have c:=h.core
 have hrm:(⟨p,n⟩:xG)∈b'.rungs s:=by rw[h.rungs];simp
 have hnr:0≤n∧n<Q'.length:=c.rng n (uQ hs hrm)
 obtain⟨m,rfl⟩:∃m:Nat,n=m:=⟨n.toNat,by omega⟩
 have hl:Q'[m]? =az (y7 Q' ⟨p,m⟩):=zYj (r:=⟨p,m⟩) hnr
 obtain⟨k,k1,k2,k3,k4,kw,kent,kfree⟩:=c.wf.put (id:=id) hl (by rw[h.free];exact hf) top hq
 have hpush:b'.a.push m id qty top=(b'.a.put m id qty top,(k:Int),0):=by
  have:=c.wf.ql
  rw[Arena.push,yZx (by omega),yZx (by omega),yZx (by rw[h.free];exact hf),k1]
 rw[hpush]
 dsimp only
 have hmQ:=(yZz.1 hl).1
 have hqd:∀s' (r:xG),(s'=1∨s'=2)→r∈b'.rungs s'→(r.queue=m→s'=s∧r=⟨p,m⟩):=by
  intro s' r hs' hr e
  obtain⟨rest,q1,_⟩:=z5w (b:=b') hs
  have hnd:=q1.nodup_iff.1 c.nd
  rw[h.rungs,y0j,y0l]at hnd
  by_cases es:s'=s
  ·subst es
   refine⟨rfl,?_⟩
   rw[h.rungs]at hr
   have hnd2:=(y2k.1 hnd).1
   rcases y0u.1 hr with hr|hr
   ·exact absurd e ((y2k.1 hnd2).2.2 r.queue (y1d (f:=(·.queue)) hr) m y0d)
   ·rcases y0m.1 hr with rfl|hr
    ·rfl
    ·have:=(y2l.1 (y2k.1 hnd2).2.1).1
     exact absurd (e▸y1d (f:=(·.queue)) hr) this
  ·exfalso
   have hcn:=c.nd
   rw[Book.qs]at hcn
   have hcn2:=(y2k.1 (y2k.1 hcn).1).2.2
   have ha:(m:Int)∈(b'.rungs s).map (·.queue):=y1a.2 ⟨_,hrm,rfl⟩
   have hb:(m:Int)∈(b'.rungs s').map (·.queue):=y1a.2 ⟨r,hr,e⟩
   rcases hs with rfl|rfl<;>rcases hs' with rfl|rfl
   ·exact es rfl
   ·exact hcn2 _ ha _ hb rfl
   ·exact hcn2 _ hb _ ha rfl
   ·exact es rfl
 have hsl1:y7 (Q'.set m (y7 Q' ⟨p,m⟩++[k])) ⟨p,m⟩=y7 Q' ⟨p,m⟩++[k]:=by
  show(Q'.set m _).getD (Int.toNat (m:Int)) []=_
  rw[y0s];exact zT (fP hmQ)
 have hsl2:∀q:Int,0≤q→q≠m→(Q'.set m (y7 Q' ⟨p,m⟩++[k])).getD q.toNat []=Q'.getD q.toNat []:=by
  intro q h0 hne
  rw[y0h,vX (by omega),y0h]
 generalize hQ3:Q'.set m (y7 Q' ⟨p,m⟩++[k])=Q3 at*
 have hQl:Q3.length=Q'.length:=by rw[← hQ3,y1c]
 have hpid:=aG
 have hord:∀s' (r:xG),(s'=1∨s'=2)→r∈b'.rungs s'→∀j∈y7 Q' r,j≠k∧(wV (b'.a.put m id qty top) s' r.price j=wV b'.a s' r.price j∧vG (b'.a.put m id qty top) s' r.price j=vG b'.a s' r.price j):=by
  intro s' r hs' hr j hj
  have hjk:j≠k:=by rintro rfl;exact k4 _ _ (c.get hs' hr) hj
  have:=kent j
  rw[yZx hjk]at this
  refine⟨hjk,by rw[wV,wV,this],?_⟩
  have:=congrArg Ent.id this
  rw[vG,vG]
  exact congrArg (fun i=>(i,(⟨s',r.price,j⟩:Place))) this
 have hr0:∀s' (r:xG),(s'=1∨s'=2)→r∈b'.rungs s'→r.queue≠m→y7 Q3 r=y7 Q' r:=by
  intro s' r hs' hr hne
  exact hsl2 _ (c.rng _ (uQ hs' hr)).1 hne
 generalize hB:({b' with a:=b'.a.put m id qty top,at_:=pE id ⟨s,p,k⟩ b'.at_}:Book)=B3
 have hBr:∀s',B3.rungs s'=b'.rungs s':=by intro s';rw[← hB];rfl
 have hBa:B3.a=b'.a.put m id qty top:=by rw[← hB]
 have hBat:B3.at_=pE id ⟨s,p,k⟩ b'.at_:=by rw[← hB]
 have hBqs:B3.qs=b'.qs:=by rw[← hB];rfl
 have hBsp:B3.spare=b'.spare:=by rw[← hB]
 have hro:∀s' (r:xG),(s'=1∨s'=2)→r∈b'.rungs s'→r.queue≠m→B3.rOrds Q3 s' r=b'.rOrds Q' s' r∧(y7 Q3 r).map (vG B3.a s' r.price)=(y7 Q' r).map (vG b'.a s' r.price):=by
  intro s' r hs' hr hne
  rw[Book.rOrds,Book.rOrds,hr0 s' r hs' hr hne,hBa]
  exact⟨y1h fun j hj=>(hord s' r hs' hr j hj).2.1,y1h fun j hj=>(hord s' r hs' hr j hj).2.2⟩
 have hnew:wV B3.a s p k=⟨id,s,p,qty,top⟩∧vG B3.a s p k=(id,⟨s,p,k⟩):=by
  have:=kent k
  rw[yZy rfl]at this
  rw[wV,hBa,this]
  refine⟨rfl,?_⟩
  have:=congrArg Ent.id this
  rw[vG]
  exact congrArg (fun i=>(i,(⟨s,p,k⟩:Place))) this
 have hroN:B3.rOrds Q3 s ⟨p,m⟩=b'.rOrds Q' s ⟨p,m⟩++[⟨id,s,p,qty,top⟩]∧(y7 Q3 ⟨p,m⟩).map (vG B3.a s p)=(y7 Q' ⟨p,m⟩).map (vG b'.a s p)++[(id,⟨s,p,k⟩)]:=by
  rw[Book.rOrds,Book.rOrds,hsl1,y0j,y0j,List.map_singleton,List.map_singleton]
  refine⟨?_,?_⟩
  ·rw[hnew.1,y1h (g:=wV b'.a s p) fun j hj=>by rw[hBa];exact(hord s ⟨p,m⟩ hs hrm j hj).2.1]
  ·rw[hnew.2,y1h (g:=vG b'.a s p) fun j hj=>by rw[hBa];exact(hord s ⟨p,m⟩ hs hrm j hj).2.2]
 have hR1:∀r∈R1,r∈b'.rungs s∧r.queue≠m:=by
  intro r hr
  have hm:r∈b'.rungs s:=by rw[h.rungs];exact y1o _ hr
  refine⟨hm,fun e=> ?_⟩
  have e2:=(hqd s r hs hm e).2
  have:=h.spl.a r hr
  rw[e2,lF]at this;cases this
 have hR2:∀r∈R2,r∈b'.rungs s∧r.queue≠m:=by
  intro r hr
  have hm:r∈b'.rungs s:=by rw[h.rungs];exact y1q _ (y0c _ hr)
  refine⟨hm,fun e=> ?_⟩
  have e2:=(hqd s r hs hm e).2
  have:=h.spl.b r hr
  rw[e2,lF]at this;cases this
 have zD:B3.sideL Q3 s=(R1.flatMap (b'.rOrds Q' s)++b'.rOrds Q' s ⟨p,m⟩)++⟨id,s,p,qty,top⟩::R2.flatMap (b'.rOrds Q' s):=by
  rw[Book.sideL,hBr,h.rungs,y1u,y1s,hroN.1,y8 (l:=R1) (fun r hr=>(hro s r hs (hR1 r hr).1 (hR1 r hr).2).1),y8 (l:=R2) (fun r hr=>(hro s r hs (hR2 r hr).1 (hR2 r hr).2).1)]
  simp
 have sideO:b'.sideL Q' s=(R1.flatMap (b'.rOrds Q' s)++b'.rOrds Q' s ⟨p,m⟩)++R2.flatMap (b'.rOrds Q' s):=by
  rw[Book.sideL,h.rungs,y1u,y1s,y0i]
 have plcN:(B3.plcs Q3 s).Perm ((id,⟨s,p,k⟩)::b'.plcs Q' s):=by
  rw[Book.plcs,hBr,h.rungs,y1u,y1s,hroN.2,y8 (l:=R1) (fun r hr=>(hro s r hs (hR1 r hr).1 (hR1 r hr).2).2),y8 (l:=R2) (fun r hr=>(hro s r hs (hR2 r hr).1 (hR2 r hr).2).2),Book.plcs,h.rungs,y1u,y1s]
  rw[y0i,am,← y0i]
  refine y0q.trans ?_
  rw[y0i]
 have other:∀s',s'≠s→s'=1∨s'=2→B3.sideL Q3 s'=b'.sideL Q' s'∧B3.plcs Q3 s'=b'.plcs Q' s':=by
  intro s' hne hs'
  have hne':∀r∈b'.rungs s',r.queue≠m:=fun r hr e=>hne (hqd s' r hs' hr e).1
  rw[Book.sideL,Book.sideL,Book.plcs,Book.plcs,hBr]
  exact⟨y8 fun r hr=>(hro s' r hs' hr (hne' r hr)).1,y8 fun r hr=>(hro s' r hs' hr (hne' r hr)).2⟩
 have bA:∀o∈R1.flatMap (b'.rOrds Q' s)++b'.rOrds Q' s ⟨p,m⟩,before s p o=ax:=by
  intro o ho
  rcases y0u.1 ho with ho|ho
  ·obtain⟨r,hr,ho⟩:=y2s.1 ho
   obtain⟨e1,e2⟩:=x9 ho
   rw[before,e1,e2,zWa (h.spl.a r hr)];simp
  ·obtain⟨e1,e2⟩:=x9 ho
   rw[before,e1,e2,lF];simp
 have bB:∀o∈R2.flatMap (b'.rOrds Q' s),before s p o=ay:=by
  intro o ho
  obtain⟨r,hr,ho⟩:=y2s.1 ho
  obtain⟨e1,e2⟩:=x9 ho
  rw[before,e1,e2,h.spl.b r hr];simp
 have bO:∀s',s'≠s→s'=1∨s'=2→∀o∈b'.sideL Q' s',before s p o=decide (s=2):=by
  intro s' hne hs' o ho
  have:=(aC ho).1
  exact zSr (by omega) (by omega) hs
 have flatE:∃A B,b'.flat Q'=A++B∧B3.flat Q3=A++⟨id,s,p,qty,top⟩::B∧(∀o∈A,before s p o=ax)∧∀o∈B,before s p o=ay:=by
  rcases hs with rfl|rfl
  ·refine⟨_,R2.flatMap (b'.rOrds Q' 1)++b'.sideL Q' 2,?_,?_,bA,fun o ho=> ?_⟩
   ·rw[Book.flat,sideO];simp only[y0i]
   ·rw[Book.flat,zD,(other 2 (by decide) (.inr rfl)).1];simp only[y0i,y1p]
   ·rcases y0u.1 ho with ho|ho
    ·exact bB o ho
    ·exact bO 2 (by decide) (.inr rfl) o ho
  ·refine⟨b'.sideL Q' 1++(R1.flatMap (b'.rOrds Q' 2)++b'.rOrds Q' 2 ⟨p,m⟩),R2.flatMap (b'.rOrds Q' 2),?_,?_,fun o ho=> ?_,bB⟩
   ·rw[Book.flat,sideO];simp only[y0i]
   ·rw[Book.flat,zD,(other 1 (by decide) (.inl rfl)).1];simp only[y0i]
   ·rcases y0u.1 ho with ho|ho
    ·exact bO 1 (by decide) (.inl rfl) o ho
    ·exact bA o ho
 obtain⟨A,B,f1,f2,f3,f4⟩:=flatE
 refine⟨Q3,A,B,⟨by rw[hBa];exact kw,fun s' hs'=>by rw[hBr];exact c.srt s' hs',by rw[hBqs,hQl];exact c.rng,by rw[hBqs];exact c.nd,by rw[hBqs,hQl];exact c.ql,fun s' hs' r hr _=> ?_,fun q hq=> ?_,?_,?_,by rw[hQl];exact c.qb⟩,f1,f2,f3,f4⟩
 ·rw[hBr]at hr
  by_cases e:r.queue=m
  ·obtain⟨rfl,rfl⟩:=hqd s' r hs' hr e
   rw[hsl1];simp
  ·rw[hr0 s' r hs' hr e];exact c.ne s' hs' r hr e
 ·rw[hBsp]at hq
  have hqq:q∈b'.qs:=y1q _ hq
  rw[hsl2 q (c.rng q hqq).1 fun e=> ?_]
  ·exact c.sp q hq
  ·have hcn:=c.nd
   rw[Book.qs]at hcn
   refine(y2k.1 hcn).2.2 m ?_ q hq e.symm
   rcases hs with rfl|rfl
   ·exact y1o _ (y1a.2 ⟨_,hrm,rfl⟩)
   ·exact y1q _ (y1a.2 ⟨_,hrm,rfl⟩)
 ·have hnk:id∉b'.at_.map (·.1):=by
   rw[c.keysP.mem_iff,h.flat];exact hid
  rw[hBat,zWk hnk]
  refine(y4s _ _).trans ?_
  rcases hs with rfl|rfl
  ·rw[(other 2 (by decide) (.inr rfl)).2]
   exact(c.at_.cons _).trans (plcN.symm.append_right _)
  ·rw[(other 1 (by decide) (.inl rfl)).2]
   refine(c.at_.cons _).trans ?_
   refine(y0q.symm).trans (plcN.symm.append_left _)
 ·rw[f2,y0j,y0l]
  have h1:=c.ids
  rw[f1,y0j]at h1
  have h2:id∉(A++B).map (·.id):=by rw[← f1,h.flat];exact hid
  refine y0q.nodup_iff.2 (y2l.2 ⟨by rw[y0j]at h2;exact h2,h1⟩)
open Go Cv Go.Proofs
def wI (L:List zK) (id:Int):Bool:=L.any fun o=>decide (o.id=id)
def zIj (L:List zK) (s id p q:Int):List zK×Int:=if q<1∨1000000<q then(L,24)else if wI L id=ax then(L,25)else if 250≤L.length then(L,13)else(zSa L s id p q,0)
theorem hasId_iff {L:List zK} {id:Int}:wI L id=ax↔id∈L.map (·.id):=by
 rw[wI,List.any_eq_true,y1a]
 constructor
 ·rintro⟨o,ho,e⟩;exact⟨o,ho,y2j e⟩
 ·rintro⟨o,ho,e⟩;exact⟨o,ho,y0n e⟩
theorem mX {b:Book} {Q:List (List Nat)} {o:zK} (h:o∈b.flat Q):(o.side=1∨o.side=2)∧∃r∈b.rungs o.side,o∈b.rOrds Q o.side r∧o.price=r.price:=by
 rcases y0u.1 h with h|h
 all_goals
  obtain⟨e,r,hr,ho,hp⟩:=aC h
  rw[e]
  exact⟨by simp,r,hr,ho,hp⟩
theorem flat_mem {b:Book} {Q:List (List Nat)} {s:Int} (hs:s=1∨s=2) {o:zK} (h:o∈b.sideL Q s):o∈b.flat Q:=by
 rcases hs with rfl|rfl
 ·exact y1o _ h
 ·exact y1q _ h
theorem Book.Core.leads {b:Book} {Q:List (List Nat)} (c:b.Core Q (-1)) {s:Int} (hs:s=1∨s=2) (p:Int):b.leads s p=gG (b.flat Q) s p:=by
 have hsrt:=c.srt s hs
 have hne:=c.ne s hs
 rw[Book.leads]
 cases hr:b.rungs s with
 |nil=>
  symm
  dsimp only
  rw[gG,y3i]
  intro o ho
  obtain⟨_,r,hr2,_⟩:=mX ho
  by_cases e:o.side=s
  ·rw[e,hr]at hr2;cases hr2
  ·rw[y0k e];rfl
 |cons r0 l=>
  dsimp only
  rw[hr,y1w]at hsrt
  have hm:r0∈b.rungs s:=by rw[hr];exact y0d
  cases hb:btr s p r0.price with
  |true=>
   symm
   rw[gG,y3i]
   intro o ho
   obtain⟨_,r,hr2,_,hp⟩:=mX ho
   by_cases e:o.side=s
   ·rw[e,hr]at hr2
    rw[hp]
    rcases y0m.1 hr2 with rfl|hr2
    ·rw[hb];simp
    ·rw[zPn hb (hsrt.1 r hr2)];simp
   ·rw[y0k e];rfl
  |false=>
   symm
   rw[gG,List.all_eq_false]
   have h0:=hne r0 hm fun e=>by have:=c.rng _ (uQ hs hm);omega
   cases hk:y7 Q r0 with
   |nil=>exact absurd hk h0
   |cons k ks=>
    refine⟨wV b.a s r0.price k,flat_mem hs (y2s.2 ⟨r0,hm,by rw[Book.rOrds,hk];exact y0d⟩),?_⟩
    show ¬((!decide (s=s))||btr s p r0.price)=ax
    rw[hb];simp
theorem z2z {L:List zK} {s:Int} {o:zK} (h:o∈clr L s):∃o'∈L,o.id=o'.id∧o.side=o'.side∧o.price=o'.price∧o.qty=o'.qty∧o.top=(if o.side=s then ay else o'.top):=by
 obtain⟨o',ho,e⟩:=y1a.1 h
 refine⟨o',ho,?_⟩
 by_cases c:o'.side=s
 ·rw[yZy c]at e
  subst e
  exact⟨rfl,rfl,rfl,rfl,(yZy c).symm⟩
 ·rw[yZx c]at e
  subst e
  exact⟨rfl,rfl,rfl,rfl,(yZx c).symm⟩
theorem yJy {L:List zK} {s:Int} {o:zK} (h:o∈L) (hs:o.side≠s):o∈clr L s:=y1a.2 ⟨o,h,yZx hs⟩
theorem z2a (L:List zK) (s:Int):(clr L s).map (·.id)=L.map (·.id):=by
 rw[clr,y2o]
 refine y1h fun o _=> ?_
 simp only[cn]
 split<;>rfl
theorem zVl (b:Book) (id:Int) {s:Int} (hs:s=1∨s=2):(b.leadF id s).a=b.untop s∧(b.leadF id s).buys=b.buys∧(b.leadF id s).sells=b.sells∧(b.leadF id s).at_=b.at_∧(b.leadF id s).spare=b.spare∧∀s',s'=1∨s'=2→(b.leadF id s).hasF s'=(if s'=s then ax else b.hasF s')∧(b.leadF id s).topI s'=(if s'=s then id else b.topI s'):=by
 rcases hs with rfl|rfl
 ·exact⟨rfl,rfl,rfl,rfl,rfl,fun s' h=>by rcases h with rfl|rfl<;>exact⟨rfl,rfl⟩⟩
 ·exact⟨rfl,rfl,rfl,rfl,rfl,fun s' h=>by rcases h with rfl|rfl<;>exact⟨rfl,rfl⟩⟩
theorem Book.Core.like {b b':Book} {Q:List (List Nat)} {h:Int} (c:b.Core Q h) (e1:b'.a=b.a) (e2:b'.buys=b.buys) (e3:b'.sells=b.sells) (e4:b'.at_=b.at_) (e5:b'.spare=b.spare):b'.Core Q h∧b'.flat Q=b.flat Q:=by
 have er:∀s,b'.rungs s=b.rungs s:=fun s=>by rw[Book.rungs,Book.rungs,e2,e3]
 have eo:∀s r,b'.rOrds Q s r=b.rOrds Q s r:=fun s r=>by rw[Book.rOrds,Book.rOrds,e1]
 have es:∀s,b'.sideL Q s=b.sideL Q s:=fun s=>by rw[Book.sideL,Book.sideL,er];exact y8 fun r _=>eo s r
 have ep:∀s,b'.plcs Q s=b.plcs Q s:=fun s=>by rw[Book.plcs,Book.plcs,er,e1]
 have ef:b'.flat Q=b.flat Q:=by rw[Book.flat,Book.flat,es,es]
 have eq:b'.qs=b.qs:=by rw[Book.qs,Book.qs,e2,e3,e5]
 exact⟨⟨by rw[e1];exact c.wf,fun s hs=>by rw[er];exact c.srt s hs,by rw[eq];exact c.rng,by rw[eq];exact c.nd,by rw[eq];exact c.ql,fun s hs=>by rw[er];exact c.ne s hs,by rw[e5];exact c.sp,by rw[e4,ep,ep];exact c.at_,by rw[ef];exact c.ids,c.qb⟩,ef⟩
theorem Book.Rep.stand {b:Book} {L:List zK} (h:b.Rep L) {s:Int} (hs:s=1∨s=2) {id p q:Int} (hid:id∉L.map (·.id)) (hl:L.length<250) (hq:1≤q∧q≤1000000):(b.stand s id p q).Rep (zSa L s id p q):=by
 obtain⟨Q,c,ht,rfl⟩:=h
 have hld:=c.leads hs p
 have h1:(b.led id s p).Core Q (-1)∧(b.led id s p).flat Q=(if gG (b.flat Q) s p=ax then clr (b.flat Q) s else b.flat Q):=by
  rw[Book.led,hld]
  split
  ·obtain⟨e1,e2,e3,e4,e5,_⟩:=zVl b id hs
   obtain⟨u1,u2⟩:=c.untop s
   obtain⟨v1,v2⟩:=Book.Core.like (b':=b.leadF id s) (c.flag u1 u2) e1 e2 e3 e4 e5
   exact⟨v1,v2.trans (c.untop_flat ht hs)⟩
  ·exact⟨c,rfl⟩
 obtain⟨c1,f1⟩:=h1
 have hlen1:((b.led id s p).flat Q).length<250:=by
  rw[f1];split
  ·rw[clr,y0a];exact hl
  ·exact hl
 have hid1:id∉((b.led id s p).flat Q).map (·.id):=by
  rw[f1];split
  ·rw[z2a];exact hid
  ·exact hid
 obtain⟨Q',R1,R2,hqd⟩:=c1.queue hlen1 hs p
 obtain⟨Q3,A,B,k1,k2,k3,k4,k5⟩:=hqd.put hs (b.leads s p) hid1 (c1.used hlen1) hq
 have hAB:A++B=(if gG (b.flat Q) s p=ax then clr (b.flat Q) s else b.flat Q):=by rw[← k2,hqd.flat,f1]
 have hins:zSa (b.flat Q) s id p q=A++⟨id,s,p,q,b.leads s p⟩::B:=by
  rw[zSa]
  obtain⟨t1,t2⟩:=yEg k4 k5
  rw[← hAB,t1,t2,hld]
 refine⟨Q3,k1,?_,?_⟩
 ·rw[hins,hld]
  show Book.Tops {((b.led id s p).queueF s p).1 with a:=_,at_:=_} _
  have hto:∀x,({((b.led id s p).queueF s p).1 with a:=(((b.led id s p).queueF s p).1.a.push ((b.led id s p).queueF s p).2 id q (b.leads s p)).1,at_:=pE id ⟨s,p,(((b.led id s p).queueF s p).1.a.push ((b.led id s p).queueF s p).2 id q (b.leads s p)).2.1⟩ ((b.led id s p).queueF s p).1.at_}:Book).hasF x=(b.led id s p).hasF x∧({((b.led id s p).queueF s p).1 with a:=(((b.led id s p).queueF s p).1.a.push ((b.led id s p).queueF s p).2 id q (b.leads s p)).1,at_:=pE id ⟨s,p,(((b.led id s p).queueF s p).1.a.push ((b.led id s p).queueF s p).2 id q (b.leads s p)).2.1⟩ ((b.led id s p).queueF s p).1.at_}:Book).topI x=(b.led id s p).topI x:=hqd.qty
  generalize ({((b.led id s p).queueF s p).1 with a:=(((b.led id s p).queueF s p).1.a.push ((b.led id s p).queueF s p).2 id q (b.leads s p)).1,at_:=pE id ⟨s,p,(((b.led id s p).queueF s p).1.a.push ((b.led id s p).queueF s p).2 id q (b.leads s p)).2.1⟩ ((b.led id s p).queueF s p).1.at_}:Book)=B3 at*
  have mAB:∀o,o∈A++⟨id,s,p,q,gG (b.flat Q) s p⟩::B↔o=⟨id,s,p,q,gG (b.flat Q) s p⟩∨o∈A++B:=by
   intro o
   rw[y0u,y0m,y0u]
   constructor
   ·rintro(h|h|h)
    ·exact .inr (.inl h)
    ·exact .inl h
    ·exact .inr (.inr h)
   ·rintro(h|h|h)
    ·exact .inr (.inl h)
    ·exact .inl h
    ·exact .inr (.inr h)
  have hsd:∀o∈b.flat Q,o.side=1∨o.side=2:=fun o ho=>(mX ho).1
  by_cases hlead:gG (b.flat Q) s p=ax
  ·rw[yZy hlead]at hAB
   have hb1:b.led id s p=b.leadF id s:=by rw[Book.led,yZy (hld.trans hlead)]
   obtain⟨_,_,_,_,_,e6⟩:=zVl b id hs
   rw[hb1]at hto
   refine⟨fun o ho=> ?_,fun s' hs' hh=> ?_⟩
   ·rcases(mAB o).1 ho with rfl|ho
    ·rw[(hto s).1,(hto s).2,(e6 s hs).1,(e6 s hs).2,yZy rfl,yZy rfl,hlead];simp
    ·rw[hAB]at ho
     obtain⟨o',ho',i1,i2,_,_,i5⟩:=z2z ho
     rw[(hto _).1,(hto _).2,i5,(e6 o.side (by rw[i2];exact hsd o' ho')).1,(e6 o.side (by rw[i2];exact hsd o' ho')).2]
     by_cases e:o.side=s
     ·rw[yZy e,yZy e,yZy e,y2y]
      symm
      refine y0k fun e2=>hid ?_
      rw[← e2,i1];exact y1d ho'
     ·rw[yZx e,yZx e,yZx e,ht.fl o' ho',i1,i2]
   ·rw[(hto s').2,(e6 s' hs').2]
    by_cases e:s'=s
    ·rw[yZy e]
     exact⟨_,(mAB _).2 (.inl rfl),e.symm,rfl⟩
    ·rw[(hto s').1,(e6 s' hs').1,yZx e]at hh
     rw[yZx e]
     obtain⟨o,ho,o1,o2⟩:=ht.th s' hs' hh
     exact⟨o,(mAB _).2 (.inr (by rw[hAB];exact yJy ho (by rw[o1];exact e))),o1,o2⟩
  ·rw[yZx hlead]at hAB
   have hlf:gG (b.flat Q) s p=ay:=by simpa using hlead
   have hb1:b.led id s p=b:=by rw[Book.led,yZx (by rw[hld];exact hlead)]
   rw[hb1]at hto
   refine⟨fun o ho=> ?_,fun s' hs' hh=> ?_⟩
   ·rw[(hto _).1,(hto _).2]
    rcases(mAB o).1 ho with rfl|ho
    ·show gG (b.flat Q) s p=(b.hasF s && decide (id=b.topI s))
     rw[hlf]
     cases hh:b.hasF s with
     |false=>rfl
     |true=>
      rw[y2y]
      symm
      refine y0k fun e2=>hid ?_
      obtain⟨o,ho,_,o2⟩:=ht.th s hs hh
      rw[e2,← o2];exact y1d ho
    ·rw[hAB]at ho;exact ht.fl o ho
   ·rw[(hto s').1]at hh
    rw[(hto s').2]
    obtain⟨o,ho,o1,o2⟩:=ht.th s' hs' hh
    exact⟨o,(mAB _).2 (.inr (by rw[hAB];exact ho)),o1,o2⟩
 ·rw[hins];exact k3.symm
theorem Book.Rep.pget {b:Book} {L:List zK} (h:b.Rep L) (id:Int):(pget b.at_ id).isSome=wI L id:=by
 obtain⟨Q,c,ht,rfl⟩:=h
 cases hg:Sx.pget b.at_ id with
 |none=>
  have:=zHf hg
  rw[c.keysP.mem_iff,← hasId_iff]at this
  symm;simpa using this
 |some x=>
  have:=y1d (f:=(·.1)) (sU hg)
  rw[c.keysP.mem_iff,← hasId_iff]at this
  symm;exact this
theorem Book.Rep.len {b:Book} {L:List zK} (h:b.Rep L):b.at_.length=L.length:=by
 obtain⟨Q,c,ht,rfl⟩:=h
 exact c.len
theorem Book.Rep.add {b:Book} {L:List zK} (h:b.Rep L) {s:Int} (hs:s=1∨s=2) (id p q:Int):(b.addF s id p q).1.Rep (zIj L s id p q).1∧(b.addF s id p q).2=(zIj L s id p q).2:=by
 rw[Book.addF,zIj,h.pget,h.len]
 repeat' split
 all_goals first|exact⟨h,rfl⟩|skip
 rename_i c1 c2 c3
 exact⟨h.stand hs (fun e=>c2 (hasId_iff.2 e)) (by omega) (by omega),rfl⟩
theorem z7m:book0.Rep []:=by
 refine⟨[],⟨⟨⟨by simp[book0,zJr],rfl,fun n l h=>by simp at h,fun n l h=>by simp at h,fun n l h=>by simp at h,fun k s hk hu=> ?_,?_⟩,fun n l h=>by simp at h⟩,fun s hs=> ?_,fun q hq=>by simp[book0,Book.qs]at hq,by simp[book0,Book.qs],rfl,fun s hs r hr=> ?_,fun q hq=>by simp[book0]at hq,?_,?_,by decide⟩,⟨fun o ho=>(by cases ho),fun s hs hh=> ?_⟩,?_⟩
 ·have:=y0g hk
  rw[y5v this]at hu;cases hu
 ·decide
 ·rcases hs with rfl|rfl<;>exact List.Pairwise.nil
 ·rcases hs with rfl|rfl<;>cases hr
 ·exact List.Perm.refl _
 ·exact aj
 ·rcases hs with rfl|rfl<;>cases hh
 ·rfl
open Go Cv Go.Proofs
structure BoI where
 b:Book
 s:Int
 r:xG
 l:List Nat
def BoI.ords (i:BoI):List zK:=(i.b.a.ents i.l).map fun e=>⟨e.id,i.s,i.r.price,e.qty,e.top⟩
def ordersC:Con:=con1 BoI (fun i=>[.nm 0 0,zA i.s,.agg [zA i.r.price,zA i.r.queue]]) (fun i=>[z6 i.b]) (fun i=>i.b.a.listOk i.r.queue i.l) (fun _=> .own 1) (fun i=>[z6 i.b,.own 192 5 (i.ords.map wU)])
def yIu (i:BoI):List SAnn:=[{ι:=Nat,slots:=fun j=>[(7,.own 0),(18,zA j)],rows:=fun j=>[.own 192 5 ((i.ords.take j).map wU)]}]
open Go Cv Go.Proofs
def gV (a:ArL):=(aa zIh (a.a.ents a.l))
def z3k (i:BoI):Prop:=
 ∃(a:ArL),a.n=i.r.queue∧aq Arena 3 zG a.a=aq Arena 3 zG i.b.a∧a.a.listOk a.n a.l∧∀(b:Unit),True→∃(c:Nat),(↑c:Int)=0∧aa wU (ac c i.ords)=[]∧∃(d:Nat→Prop),∃(e:Nat→Nat),d c∧∀(f:Nat),d f→cnd (decide ((↑f:Int)<(↑(gV a).length:Int))) ((0≤(↑f:Int)∧(↑f:Int)<(↑(gV a).length:Int))∧∃(g:Int),∃(h:Int),∃(j:Int),∃(k:Bool),zE (gV a) (↑f:Int).toNat 0 4=az [dI g,dI h,dI j,D.v (.bool k)]∧((aa wU (ac f i.ords)).length+1)*(40:Nat)≤(140737488355328:Nat)∧∃(l:Nat),(↑l:Int)=bu.wrap ((↑f:Int)+1)∧aa wU (ac l i.ords)=aa wU (ac f i.ords)++[[dI h,dI i.s,dI i.r.price,dI j,D.v (.bool k)]]∧d l∧e l<e f∧aq Arena 3 zG a.a=aq Arena 3 zG a.a∧au 326 4 (gV a)=au 326 4 (gV a)∧ar [V.d (dI i.r.price),V.d (dI i.r.queue)] 304=ar [V.d (dI i.r.price),V.d (dI i.r.queue)] 304∧ar (vI (jE 0 1 6) [V.nm 1 0,V.own 2,V.own 3,V.mp 4,zA i.b.top1,zA i.b.top2,V.own 5,yF i.b.has1,yF i.b.has2]) (299:cf)=ar (vI (jE 0 1 6) [V.nm 1 0,V.own 2,V.own 3,V.mp 4,zA i.b.top1,zA i.b.top2,V.own 5,yF i.b.has1,yF i.b.has2]) (299:cf)∧au 304 2 (aa zC i.b.buys)=au 304 2 (aa zC i.b.buys)∧au 304 2 (aa zC i.b.sells)=au 304 2 (aa zC i.b.sells)∧aw (atE i.b.at_)=aw (atE i.b.at_)∧au 3 1 (iE i.b.spare)=au 3 1 (iE i.b.spare)) (∃(g:Unit),i.b.top1=i.b.top1∧i.b.top2=i.b.top2∧i.b.has1=i.b.has1∧i.b.has2=i.b.has2∧aq Arena 3 zG i.b.a=aq Arena 3 zG a.a∧aa zC i.b.buys=aa zC i.b.buys∧aa zC i.b.sells=aa zC i.b.sells∧atE i.b.at_=atE i.b.at_∧iE i.b.spare=iE i.b.spare∧aa wU i.ords=aa wU (ac f i.ords)∧True)
open Go Cv Go.Proofs
theorem yYv {l:List Ent} {k:Nat} {e:Ent} (h:l[k]? =az e):zE (l.map zIh) k 0 4=az [D.v (.int .i64 e.slot),.v (.int .i64 e.id),.v (.int .i64 e.qty),.v (.bool e.top)]:=elA h (by simp[zIh]) rfl
theorem yJl (i:BoI) (h:ordersC.cnd i):z3k i:=by
 have h:i.b.a.listOk i.r.queue i.l:=h
 have hl:=h.len
 have hen:(i.b.a.ents i.l).length=i.l.length:=by simp[Arena.ents]
 have hol:i.ords.length=i.l.length:=by simp[BoI.ords,Arena.ents]
 unfold z3k gV dI
 refine⟨⟨i.b.a,i.r.queue,i.l⟩,rfl,rfl,h,fun _ _=> ?_⟩
 simp only[y0a]
 refine⟨0,rfl,rfl,fun j=>j≤i.l.length,fun j=>i.l.length-j,y1n _,fun j hj=>zJ (fun c=> ?_) (fun c=> ?_)⟩
 ·obtain⟨e,he⟩:=z8 (l:=i.b.a.ents i.l) (i:=j) (by omega)
  have ho:i.ords[j]? =az ⟨e.id,i.s,i.r.price,e.qty,e.top⟩:=by rw[BoI.ords,y0z,he];rfl
  refine⟨⟨by omega,by omega⟩,e.slot,e.id,e.qty,e.top,yYv he,by rw[y0t];omega,j+1,wjn (by omega),?_,by omega,by dsimp only;omega,k0q⟩
  rw[y1i,ho];simp[wU]
 ·have hje:j=i.l.length:=by omega
  subst hje
  rw[y0p (l:=i.ords) (by omega)]
  (repeat'(first|exact rfl|exact trivial|assumption|apply And.intro|refine fun(_:Unit) (_:True)=>?_|refine Exists.intro () ?_|omega|(dsimp only;omega)))
theorem zQq:ordersC.ok Tryz.prog 285:=okw mixed (gokc yFy gok0) 0 (fun _=>[]) (fun i=>yIu i) [0] Tryz.func285 yJl
open Go Go.RowKit Cv
theorem zXi {P:cd} {tS rt e sz by_:Nat} {z:Array bv} (hi:vO P tS=az (e,sz,by_,z)) {w:bz} {g i c n k:Nat} {A:Option cg} {cur src:List bv} {T:cf}
 (hg:w.heap[g]? =az (.cells cur.toArray T (0,0))) (hs:(bg sz n (.slice A n k)).run P w= .ok src.toArray w) (hl:src.length=n*sz) (hfit:i+n≤c) (hroom:i*sz+n*sz≤cur.length) (hone:∀v∈src,v.oneC=ax):
 gL P (bo #[tS,tS] rt #[.slice (az ⟨g,0,bc⟩) i c,.slice A n k]) w (.slice (az ⟨g,0,bc⟩) (i+n) c) (World.setB w g (.cells (spl cur (i*sz) src).toArray T (0,0))):=by
 obtain⟨inf,zv,q1,q2,rfl,rfl,q5,rfl⟩:=jF hi
 have hst:=j8 (P:=P) src 0 (i*inf.size) cur w hg (by omega) hone
 simp only[y4q]at hst
 have hln:∀w,(Builtin.lenOf (.slice A n k)).run P w= .ok n w:=fun w=>rfl
 unfold gL bo
 simp only[y1v,y2b,y1r,bind,pure,run_bind,Sem.bind,Sem.run,Cv.run_underlying q1,Cv.run_sizeOf q2,y0r,if_false,hs,hln,hfit,if_true,vS,y0w,hst,y5e]
theorem z0h {P:cd} {tS ty e sz by_:Nat} {z:Array bv} (hi:vO P tS=az (e,sz,by_,z)) (hz:z.size=sz) (h1:∀v∈z.toList,v.oneC=ax) {w:bz} {g o n c:Nat} {cur:List bv} {T:cf} (hn:0<n)
 (hg:w.heap[g]? =az (.cells cur.toArray T (0,0))) (hroom:o+n*sz≤cur.length):
 gL P (Builtin.clear_ #[tS] ty #[.slice (az ⟨g,o,bc⟩) n c]) w (.tuple #[]) (World.setB w g (.cells (spl cur o (be z n).toList).toArray T (0,0))):=by
 obtain⟨inf,zv,q1,q2,rfl,rfl,q5,rfl⟩:=jF hi
 have hlz:(be zv.cells n).toList.length=n*inf.size:=by rw[y5c,ce,hz]
 have hst:=j8 (P:=P) (be zv.cells n).toList 0 o cur w hg (by omega) (by
  intro v hv
  obtain⟨i,hi,rfl⟩:=List.getElem_of_mem hv
  simp only[be,Array.getElem_toList,Array.getElem_map,Array.getElem_range]
  have hpos:0<zv.cells.size:=by
   rcases Nat.eq_zero_or_pos zv.cells.size with h0|h0
   ·rw[hlz,← hz,h0]at hi;omega
   ·exact h0
  have hlt:i % zv.cells.size<zv.cells.size:=Nat.mod_lt _ hpos
  rw[getElem!_pos zv.cells (i % zv.cells.size) hlt]
  exact h1 _ (by simp))
 simp only[y4q]at hst
 have hzr:∀w,(zeroValue e).run P w= .ok zv w:=fun w=>zero_run (by unfold zero?;rw[q2];exact q5) w
 obtain⟨m,rfl⟩:∃m,n=m+1:=⟨n-1,by omega⟩
 unfold gL Builtin.clear_
 simp only[y1v,y2b,y1r,bind,pure,run_bind,Sem.bind,Sem.run,Cv.run_underlying q1,hzr,hst]
def yTv (P:cd) (tS sz:Nat) (s:Option cg) (sn sk:Nat) (i j:Int) (w:bz) (R:Ending→bz→Prop):Prop:=
yOr s sk i j (sn:Int) sz fun a1 na1 ka1=>
cnd ((i:Int)==j) (
R (.returned (.slice s sn sk)) w) (
z2p w fun w2=>
slN s sn sk bc (az i) sz fun a3 na3 ka3=>
slN s sn sk (az j) bc sz fun a4 na4 ka4=>
∃(a5:Option cg) (na5 ka5:Nat),∃w6:bz,gL P (bo #[tS,tS] tS #[.slice a3 na3 ka3,.slice a4 na4 ka4]) w2 (.slice a5 na5 ka5) w6∧
slN a5 na5 ka5 (az (na5:Int)) (az (sn:Int)) sz fun a7 na7 ka7=>
∃w8:bz,gL P (Builtin.clear_ #[tS] 0 #[.slice a7 na7 ka7]) w6 (.tuple #[]) w8∧
R (.returned (.slice a5 na5 ka5)) w8)
theorem yXw {P:cd} {tS e sz by_:Nat} {z:Array bv} (hi:vO P tS=az (e,sz,by_,z)) (hz:z.size=sz) (hz1:∀v∈z.toList,v.oneC=ax)
 {k:Ko} {w:bz} {L:List HP} {s:Option cg} {sn sk i j:Nat} {xs:List bv} (H:Hp k w (slO e sz s sn sk xs::L)) (h1:∀u∈xs,u.oneC=ax) (hij:i<j) (hj:j≤sn):
 yTv P tS sz s sn sk i j w fun en w'=>∃a kk,en= .returned (.slice a (sn-(j-i)) kk)∧Hp k w' (slO e sz a (sn-(j-i)) kk (xs.take (i*sz)++xs.drop (j*sz))::L):=by
 obtain⟨hxl,hnk⟩:=H.len
 rcases H.slcases with⟨_,e0,_⟩|⟨b,r,rfl,g1,g2,g3,H0⟩
 ·omega
 have hle:i*sz≤xs.length:=by rw[hxl];exact y1m _ (by omega)
 have hjle:j*sz≤xs.length:=by rw[hxl];exact y1m _ hj
 have hdl:(xs.drop (j*sz)).length=(sn-j)*sz:=by rw[y0x,hxl,Nat.sub_mul]
 have hsum:i*sz+(sn-j)*sz=(sn-(j-i))*sz:=by rw[← y3e];congr 1;omega
 have hsum2:i*sz+(sn-j)*sz+(j-i)*sz=sn*sz:=by rw[← y3e,← y3e];congr 1;omega
 have hsum3:j*sz+(sn-j)*sz=sn*sz:=by rw[← y3e];congr 1;omega
 have hlen:(xs++r).length=xs.length+r.length:=y0e
 unfold yTv
 simp only[yOr,slN,y0s]
 refine⟨⟨by omega,by omega,by omega,by omega⟩,Cv.cnd.mk (fun c=>absurd c (by simp;omega)) fun _=> ?_⟩
 rintro _ rfl
 have H1:=H0.drew
 have hsrc:(bg sz (sn-j) (.slice (if sk=j then az ⟨b,0,bc⟩else(az ⟨b,0,bc⟩:Option cg).map (·.add (j*sz))) (sn-j) (sk-j))).run P w.drew= .ok (xs.drop (j*sz)).toArray w.drew:=by
  by_cases h0:(sn-j)*sz=0
  ·have:xs.drop (j*sz)=[]:=y0y (by omega)
   rw[this]
   by_cases hk:sk=j
   ·rw[yZy hk];unfold bg;rw[h0];rfl
   ·rw[yZx hk,y1y,vS];unfold bg;rw[h0];rfl
  ·have hk:sk≠j:=by rintro rfl;have:sn-sk=0:=by omega
                    rw[this]at h0;simp at h0
   rw[yZx hk,y1y,vS]
   unfold bg
   rw[uT H1.get (by rw[hlen];omega)]
   rw[y0w,y2n hjle,y1b (by omega),y0p (by omega)]
 refine⟨⟨by omega,by omega⟩,⟨by omega,by omega,hnk⟩,_,_,_,_,zXi (i:=i) (c:=sk) hi H1.get hsrc hdl (by omega) (by rw[hlen];omega) (fun v hv=>h1 v (y4a hv)),⟨by omega,by omega,by omega⟩,?_⟩
 have H2:=H1.upd (.cells (spl (xs++r) (i*sz) (xs.drop (j*sz))).toArray e)
 have e1:i+(sn-j)=sn-(j-i):=by omega
 rw[yZx (show sk≠i+(sn-j)by omega),y1y,vS,y0w,e1]
 have espl:spl (xs++r) (i*sz) (xs.drop (j*sz))=(xs.take (i*sz)++xs.drop (j*sz))++(xs++r).drop ((sn-(j-i))*sz):=by
  simp only[spl]
  rw[y1b hle,hdl,hsum]
 rw[espl]at H2
 have hA:(xs.take (i*sz)++xs.drop (j*sz)).length=(sn-(j-i))*sz:=by
  rw[y0e,y0t,hdl];omega
 have hB:((xs++r).drop ((sn-(j-i))*sz)).length=(j-i)*sz+r.length:=by
  rw[y0x,hlen];omega
 rw[espl]
 have hn:sn-(sn-(j-i))=j-i:=by omega
 rw[hn]
 refine⟨_,z0h hi hz hz1 (by omega) H2.get (by rw[y0e,hA,hB];omega),_,_,rfl,?_⟩
 have H3:=H2.upd (.cells (spl (xs.take (i*sz)++xs.drop (j*sz)++(xs++r).drop ((sn-(j-i))*sz)) ((sn-(j-i))*sz) (be z (j-i)).toList).toArray e)
 have es:=zTx (xs.take (i*sz)++xs.drop (j*sz)) ((xs++r).drop ((sn-(j-i))*sz)) (be z (j-i)).toList
 rw[hA]at es
 rw[es]at H3
 rw[es]
 rw[y0i (xs.take (i*sz)++xs.drop (j*sz))]at H3 ⊢
 have hzl:(be z (j-i)).toList.length=(j-i)*sz:=by rw[y5c,ce,hz]
 refine H3.slmk hA ?_ (by omega)
 rw[y0e,hA,y0e,hzl,y0x,hB,← g2,hlen,hxl]
 omega
structure yHh where
 els:List (List D)
 i:Nat
 j:Nat
def yJr (e sz:Nat):Con where
 ι:=yHh
 pat:=fun i=>[.own 0,.d (.v (.int .i64 i.i)),.d (.v (.int .i64 i.j))]
 pre:=fun i=>[.own e sz i.els]
 cnd:=fun i=>i.i<i.j∧i.j≤i.els.length
 alts:=fun i=>[{o:=Unit,res:=fun _=> .own 1,post:=fun _=>[.gone,.own e sz (i.els.take i.i++i.els.drop i.j)],rel:=fun _=>True}]
theorem delX_ok {P:cd} (hm:P.follows .mixedOrders=ax) {tS e sz by_ fI:Nat} {z:Array bv} {fn:Func} {c:Code} (hf:P.funcs[fI]? =az fn) (hb:fn.body=az c) (hbd:uH P fI=ax) (hok:okC fn.ntmps c=ax) (hfx:okF [] c=ax) (hsz3:Nat.ble 3 fn.ntmps=ax)
 (hi:vO P tS=az (e,sz,by_,z)) (hz:z.size=sz) (hz1:∀v∈z.toList,v.oneC=ax)
 (heq:∀(s:Option cg) (sn sk:Nat) (i j:Int) (w:bz) (R:Ending→bz→Prop),yTv P tS sz s sn sk i j w R=cwp P [] c (zSc P fn R) (uG [.slice s sn sk,.int .i64 i,.int .i64 j]) w):
 (yJr e sz).ok P fI:=by
 intro i hc k L E w ys R hv
 obtain⟨c1,c2⟩:i.i<i.j∧i.j≤i.els.length:=hc
 simp only[yJr,VRL,VR,DR]at hv
 obtain⟨y0,_,rfl,⟨l0,e0,_⟩,y1,_,rfl,⟨rfl,_⟩,y2,_,rfl,⟨rfl,_⟩,rfl⟩:=hv
 obtain⟨s,sk,xs,sub0,g1,hxs,hu,H⟩:=R.ownOpen (n:=0) (t:=e) (sz:=sz) (els:=i.els) rfl
 rw[e0]at g1;cases g1
 have H2:Hp k w (slO e sz s i.els.length sk xs::fz E.F::L):=H
 have hv:=yXw hi hz hz1 H2 hxs.one c1 c2
 have hcall:=zIg (args:=[.slice s i.els.length sk,.int .i64 i.i,.int .i64 i.j]) hm hf hb [] hok hfx hsz3 (heq s i.els.length sk i.i i.j w _) hv
 refine zAb hbd (hcall.mono ?_)
 rintro en w' ⟨a,kk,rfl,H3⟩
 have hl:(i.els.take i.i++i.els.drop i.j).length=i.els.length-(i.j-i.i):=by
  rw[y0e,y0t,y0x];omega
 have H4:Hp k w' (slO e sz a (i.els.take i.i++i.els.drop i.j).length kk (xs.take (i.i*sz)++xs.drop (i.j*sz))::(([]:List (Nat×AObj)).map (rHP E)++fz E.F::L)):=by
  rw[hl]
  exact H3
 obtain⟨E',r1,r2,r3⟩:=bW (nx:=1) R.nx (by
  rw[List.flatten_append,← m7 i.i hu,← mT i.j hu]
  exact(hxs.take _).append (hxs.drop _)) (fun x hx=>by
   rcases y0u.1 hx with hx|hx
   ·exact hu x (y5q hx)
   ·exact hu x (y4a hx)) H4
 rw[hl]at r3
 refine⟨_,rfl,_,y1k.2 rfl,(),trivial,E',r1,r3,⟨r2.nx,?_⟩⟩
 exact((@v9 k w' True _).2 ⟨trivial,r2.hp⟩).imp (B:=rHP E' (0,.gone)) fun x hx=> .inl ⟨rfl,hx.2⟩
open Go Cv Go.Proofs
def mC (k:Int):List (Int×Place)→List (Int×Place)
 |[]=>[]
 |(a,b)::l=>if k=a then l else(a,b)::mC k l
structure DrI where
 b:Book
 id:Int
 price:Int
 slot:Int
def Book.unhas (b:Book) (s id:Int):Book:=if b.hasF s=ax∧b.topI s=id then(if s=1 then{b with has1:=ay}else{b with has2:=ay})else b
def Book.dropF (b:Book) (s id price:Int):Book:=
 if(b.a.qAt ((b.rungs s).getD (zW s (b.rungs s) price) ⟨0,0⟩).queue).count=0 then
  ({b.unhas s id with at_:=mC id b.at_,spare:=b.spare++[((b.rungs s).getD (zW s (b.rungs s) price) ⟨0,0⟩).queue]}:Book).setR s ((b.rungs s).take (zW s (b.rungs s) price)++(b.rungs s).drop (zW s (b.rungs s) price+1))
 else{b.unhas s id with at_:=mC id b.at_}
def yJb (b:Book):AObj:= .cells [.nm 1 0,.own 6,.own 7,.mp 4,zA b.top1,zA b.top2,.own 8,yF b.has1,yF b.has2] 299
@[reducible] def yMx (b:Book):List AObj:=[yJb b,zS b 1,.gone,.gone,zS b 4,.gone,zS b 2,zS b 3,zS b 5]
@[reducible] def DrI.ok (i:DrI) (s:Int):Prop:=i.b.small∧zW s (i.b.rungs s) i.price<(i.b.rungs s).length
def yEn (s:Int):Con:=con1 DrI (fun i=>[.nm 0 0,zA i.id,.agg [zA s,zA i.price,zA i.slot]]) (fun i=>zHq i.b) (fun i=>i.ok s) (fun _=>zDh) (fun i=>yMx (i.b.dropF s i.id i.price))
def drop1C:Con:=yEn 1
def drop2C:Con:=yEn 2
structure DrJ where
 i:DrI
 s:Bool
def dropC:Con:=con1 DrJ (fun j=>[.nm 0 0,zA j.i.id,.agg [zA (zD j.s),zA j.i.price,zA j.i.slot]]) (fun j=>zHq j.i.b) (fun j=>j.i.ok (zD j.s)) (fun _=>zDh) (fun j=>yMx (j.i.b.dropF (zD j.s) j.i.id j.i.price))
def delRC:Con:=yJr 304 2
def yQm:zK:=⟨0,0,0,0,ay⟩
def dC (L:List zK) (id:Int):zK:=(L.find? fun o=>decide (o.id=id)).getD yQm
def uO (L:List zK) (id q:Int):List zK:=L.filterMap fun o=>if o.id=id then(if o.qty=q then bc else az {o with qty:=o.qty-q})else az o
def xU (L:List zK) (id q:Int):List zK×Int:=if wI L id=ay then(L,26)else if q<1∨(dC L id).qty<q then(L,24)else(uO L id q,0)
def atL (L:List zK) (s p:Int):List zK:=L.filter fun o=>decide (o.side=s) && decide (o.price=p)
def grp:List zK→List Lv
 |[]=>[]
 |o::l=>match grp l with
  |[]=>[⟨o.price,o.qty,1⟩]
  |v::vs=>if v.price=o.price then⟨v.price,o.qty+v.qty,v.count+1⟩::vs else⟨o.price,o.qty,1⟩::v::vs
def uU (L:List zK) (s:Int):List Lv:=grp (L.filter fun o=>decide (o.side=s))
def bestL (L:List zK) (s:Int):Lv×Bool:=match uU L s with
 |[]=>(⟨0,0,0⟩,ay)
 |v::_=>(v,ax)
structure BkL where
 b:Book
 L:List zK
structure FlI where
 b:Book
 L:List zK
 id:Int
 qty:Int
structure AtI where
 b:Book
 L:List zK
 s:Bool
 price:Int
def fillC:Con where
 ι:=FlI
 pat:=fun i=>[.nm 0 0,zA i.id,zA i.qty]
 pre:=fun i=>[z6 i.b]
 cnd:=fun i=>i.b.Rep i.L
 alts:=fun i=>[{o:=Book,res:=fun _=>zA (xU i.L i.id i.qty).2,post:=fun b=>[z6 b],rel:=fun b=>b.Rep (xU i.L i.id i.qty).1}]
def bfindC:Con:=con1 FlI (fun i=>[.nm 0 0,zA i.id]) (fun i=>[z6 i.b]) (fun i=>i.b.Rep i.L) (fun i=> .tup [z9g (dC i.L i.id),yF (wI i.L i.id)]) (fun i=>[z6 i.b])
def yWa (s:Bool):Con:=con1 AtI (fun i=>[.nm 0 0,zA (zD s),zA i.price]) (fun i=>[z6 i.b]) (fun i=>i.b.Rep i.L) (fun _=> .own 1) (fun i=>[z6 i.b,.own 192 5 ((atL i.L (zD s) i.price).map wU)])
def at1C:Con:=yWa ay
def at2C:Con:=yWa ax
def atC:Con:=con1 AtI (fun i=>[.nm 0 0,zA (zD i.s),zA i.price]) (fun i=>[z6 i.b]) (fun i=>i.b.Rep i.L) (fun _=> .own 1) (fun i=>[z6 i.b,.own 192 5 ((atL i.L (zD i.s) i.price).map wU)])
open Go Cv Go.Proofs
def y4 (a:DrI):=(a.b.dropF 1 a.id a.price)
def zFz (a:BkP) (b:DrI):Prop:=a.b.has2=b.b.has2∧aq Arena 3 zG a.b.a=zS b.b 1∧aa zC a.b.buys=aa zC b.b.buys∧aa zC a.b.sells=aa zC b.b.sells∧atE a.b.at_=lX (ci bu b.id) (atE b.b.at_)∧iE a.b.spare=iE b.b.spare∧(x0 a)∧∀(c:Unit),True→(gT a)∧∃(d:Int),zE (aa zC a.b.buys) (xO a).toNat ((0:Nat)+(1:Nat)) 1=az [dI d]∧∃(e:ArN),e.n=d∧aq Arena 3 zG e.a=aq Arena 3 zG a.b.a∧True∧∀(f:Unit),True→cnd ((e.a.qAt e.n).count==0) (((iE a.b.spare).length+1)*(8:Nat)≤(140737488355328:Nat)∧∃(g:yHh),(↑g.i:Int)=(xO a)∧(↑g.j:Int)=bu.wrap ((xO a)+1)∧g.els=aa zC a.b.buys∧(g.i<g.j∧g.j≤g.els.length)∧∀(h:Unit),True→(1:Int)=(1:Int)∧∃(j:Unit),(y4 b).top1=a.b.top1∧(y4 b).top2=a.b.top2∧(y4 b).has1=a.b.has1∧(y4 b).has2=a.b.has2∧aq Arena 3 zG (y4 b).a=aq Arena 3 zG e.a∧atE (y4 b).at_=atE a.b.at_∧aa zC (y4 b).buys=ac g.i g.els++ap g.j g.els∧aa zC (y4 b).sells=aa zC a.b.sells∧iE (y4 b).spare=iE a.b.spare++[[dI d]]∧True) (∃(g:Unit),(y4 b).top1=a.b.top1∧(y4 b).top2=a.b.top2∧(y4 b).has1=a.b.has1∧(y4 b).has2=a.b.has2∧aq Arena 3 zG (y4 b).a=aq Arena 3 zG e.a∧atE (y4 b).at_=atE a.b.at_∧aa zC (y4 b).buys=aa zC a.b.buys∧aa zC (y4 b).sells=aa zC a.b.sells∧iE (y4 b).spare=iE a.b.spare∧True)
def zEw (a:DrI):Prop:=∃(b:BkP),(1:Int)=(1:Int)∧b.price=a.price∧b.b.top1=a.b.top1∧b.b.top2=a.b.top2∧b.b.has1=a.b.has1∧zFz b a
def yEy (i:DrI):Prop:=
 (∀(a:bv×List D),a∈atE i.b.at_→like (ci bu i.id) a.fst=ax)∧cnd i.b.has1 (cnd (i.b.top1==i.id) (∃(a:BkP),(1:Int)=(1:Int)∧a.price=i.price∧a.b.top1=i.b.top1∧a.b.top2=i.b.top2∧a.b.has1=ay∧zFz a i) (zEw i)) (zEw i)
def y6 (a:DrI):=(a.b.dropF 2 a.id a.price)
def zHb (a:BkP) (b:DrI):Prop:=aq Arena 3 zG a.b.a=zS b.b 1∧aa zC a.b.buys=aa zC b.b.buys∧aa zC a.b.sells=aa zC b.b.sells∧atE a.b.at_=lX (ci bu b.id) (atE b.b.at_)∧iE a.b.spare=iE b.b.spare∧(x0 a)∧∀(c:Unit),True→(g8 a)∧∃(d:Int),zE (aa zC a.b.sells) (xP a).toNat ((0:Nat)+(1:Nat)) 1=az [dI d]∧∃(e:ArN),e.n=d∧aq Arena 3 zG e.a=aq Arena 3 zG a.b.a∧True∧∀(f:Unit),True→cnd ((e.a.qAt e.n).count==0) (((iE a.b.spare).length+1)*(8:Nat)≤(140737488355328:Nat)∧∃(g:yHh),(↑g.i:Int)=(xP a)∧(↑g.j:Int)=bu.wrap ((xP a)+1)∧g.els=aa zC a.b.sells∧(g.i<g.j∧g.j≤g.els.length)∧∀(h:Unit),True→(2:Int)=(2:Int)∧∃(j:Unit),(y6 b).top1=a.b.top1∧(y6 b).top2=a.b.top2∧(y6 b).has1=a.b.has1∧(y6 b).has2=a.b.has2∧aq Arena 3 zG (y6 b).a=aq Arena 3 zG e.a∧atE (y6 b).at_=atE a.b.at_∧aa zC (y6 b).buys=aa zC a.b.buys∧aa zC (y6 b).sells=ac g.i g.els++ap g.j g.els∧iE (y6 b).spare=iE a.b.spare++[[dI d]]∧True) (∃(g:Unit),(y6 b).top1=a.b.top1∧(y6 b).top2=a.b.top2∧(y6 b).has1=a.b.has1∧(y6 b).has2=a.b.has2∧aq Arena 3 zG (y6 b).a=aq Arena 3 zG e.a∧atE (y6 b).at_=atE a.b.at_∧aa zC (y6 b).buys=aa zC a.b.buys∧aa zC (y6 b).sells=aa zC a.b.sells∧iE (y6 b).spare=iE a.b.spare∧True)
def zHe (a:DrI):Prop:=∃(b:BkP),(2:Int)=(2:Int)∧b.price=a.price∧b.b.top1=a.b.top1∧b.b.top2=a.b.top2∧b.b.has1=a.b.has1∧b.b.has2=a.b.has2∧zHb b a
def yAj (i:DrI):Prop:=
 (∀(a:bv×List D),a∈atE i.b.at_→like (ci bu i.id) a.fst=ax)∧cnd i.b.has2 (cnd (i.b.top2==i.id) (∃(a:BkP),(2:Int)=(2:Int)∧a.price=i.price∧a.b.top1=i.b.top1∧a.b.top2=i.b.top2∧a.b.has1=i.b.has1∧a.b.has2=ay∧zHb a i) (zHe i)) (zHe i)
def zAy (a:FlI):Prop:=aa zC a.b.buys=aa zC a.b.buys∧aa zC a.b.sells=aa zC a.b.sells∧atE a.b.at_=atE a.b.at_∧iE a.b.spare=iE a.b.spare∧True
def zEx (a:Int) (b:FlI) (c:Int) (d:Int):Prop:=∃(e:ArN),e.n=a∧aq Arena 3 zG e.a=aq Arena 3 zG b.b.a∧e.a.slots.length≤1000000∧∀(f:Unit),True→∃(g:Unit),(dC b.L b.id).id=b.id∧(dC b.L b.id).side=c∧(dC b.L b.id).price=d∧(dC b.L b.id).qty=(e.a.getF e.n).fst.qty∧(dC b.L b.id).top=(e.a.getF e.n).fst.top∧wI b.L b.id=ax∧b.b.top1=b.b.top1∧b.b.top2=b.b.top2∧b.b.has1=b.b.has1∧b.b.has2=b.b.has2∧aq Arena 3 zG b.b.a=aq Arena 3 zG e.a∧zAy b
def pN (a:FlI) (b:Int) (c:Int) (d:Int) (e:Bool):Prop:=uM (ci bu a.id) (atE a.b.at_)=az [dI b,dI c,dI d]∧e=ax∨uM (ci bu a.id) (atE a.b.at_)=bc∧[dI b,dI c,dI d]=[dI 0,dI 0,dI 0]∧e=ay
def yFw (i:FlI):Prop:=
 (∀(a:bv×List D),a∈atE i.b.at_→like (ci bu i.id) a.fst=ax)∧∃(a:Bool),∃(b:Int),∃(c:Int),∃(d:Int),(pN i b c d a)∧cnd (!a) (∃(e:Unit),(dC i.L i.id).id=0∧(dC i.L i.id).side=0∧(dC i.L i.id).price=0∧(dC i.L i.id).qty=0∧(dC i.L i.id).top=ay∧wI i.L i.id=ay∧i.b.top1=i.b.top1∧i.b.top2=i.b.top2∧i.b.has1=i.b.has1∧i.b.has2=i.b.has2∧aq Arena 3 zG i.b.a=aq Arena 3 zG i.b.a∧zAy i) ((zEx d i b c)∧d=d∧True∧zEx d i b c)
def eT (a:Book) (b:FlI):Prop:=aa zC a.buys=aa zC b.b.buys∧aa zC a.sells=aa zC b.b.sells∧atE a.at_=atE b.b.at_∧iE a.spare=iE b.b.spare∧a.Rep (xU b.L b.id b.qty).fst
def vB (a:DrJ):=(a.i.b.dropF (zD a.s) a.i.id a.i.price)
def zLk (a:FlI) (b:Int) (c:Int) (d:Int) (e:ArN):Prop:=∃(f:DrJ),f.i.id=a.id∧zD f.s=b∧f.i.price=c∧f.i.slot=d∧f.i.b.top1=a.b.top1∧f.i.b.top2=a.b.top2∧f.i.b.has1=a.b.has1∧f.i.b.has2=a.b.has2∧aq Arena 3 zG f.i.b.a=aq Arena 3 zG e.a∧aa zC f.i.b.buys=aa zC a.b.buys∧aa zC f.i.b.sells=aa zC a.b.sells∧atE f.i.b.at_=atE a.b.at_∧iE f.i.b.spare=iE a.b.spare∧(((f.i.b.a.slots.length≤1000000∧f.i.b.a.queues.length≤1000000)∧f.i.b.buys.length≤1000000∧f.i.b.sells.length≤1000000∧f.i.b.spare.length≤1000000)∧zW (zD f.s) (f.i.b.rungs (zD f.s)) f.i.price<(f.i.b.rungs (zD f.s)).length)∧∀(g:Unit),True→∃(h:Book),(xU a.L a.id a.qty).snd=0∧h.top1=(vB f).top1∧h.top2=(vB f).top2∧h.has1=(vB f).has1∧h.has2=(vB f).has2∧aq Arena 3 zG h.a=aq Arena 3 zG (vB f).a∧aa zC h.buys=aa zC (vB f).buys∧aa zC h.sells=aa zC (vB f).sells∧atE h.at_=atE (vB f).at_∧iE h.spare=iE (vB f).spare∧h.Rep (xU a.L a.id a.qty).fst
def zMb (a:Int) (b:TkI) (c:FlI) (d:Int) (e:Int):Prop:=∃(f:ArN),f.n=a∧aq Arena 3 zG f.a=aq Arena 3 zG (b.a.takeF b.n b.qty).fst∧f.a.slots.length≤1000000∧∀(g:Unit),True→cnd (!(f.a.getF f.n).snd) (zLk c d e a f) (cnd ((f.a.getF f.n).fst.id !=c.id) (zLk c d e a f) (∃(h:Book),(xU c.L c.id c.qty).snd=0∧h.top1=c.b.top1∧h.top2=c.b.top2∧h.has1=c.b.has1∧h.has2=c.b.has2∧aq Arena 3 zG h.a=aq Arena 3 zG f.a∧eT h c))
def yNx (i:FlI):Prop:=
 (∀(a:bv×List D),a∈atE i.b.at_→like (ci bu i.id) a.fst=ax)∧∃(a:Bool),∃(b:Int),∃(c:Int),∃(d:Int),(pN i b c d a)∧cnd (!a) (∃(e:Book),(xU i.L i.id i.qty).snd=26∧e.top1=i.b.top1∧e.top2=i.b.top2∧e.has1=i.b.has1∧e.has2=i.b.has2∧aq Arena 3 zG e.a=aq Arena 3 zG i.b.a∧eT e i) (∃(e:TkI),e.n=d∧e.qty=i.qty∧aq Arena 3 zG e.a=aq Arena 3 zG i.b.a∧(e.a.slots.length≤1000000∧∀(k:Nat) (s:Slot),e.a.slots[k]?=az s→s.used=ax→(0≤s.queue∧s.queue<(↑e.a.queues.length:Int))∧s.qty≤1000000∧(s.ahead=(-1)∨0≤s.ahead∧s.ahead<(↑e.a.slots.length:Int)∧s.ahead≠(↑k:Int))∧(s.back=(-1)∨0≤s.back∧s.back<(↑e.a.slots.length:Int)∧s.back≠(↑k:Int)))∧∀(f:Unit),True→cnd ((e.a.takeF e.n e.qty).snd !=0) (∃(g:Book),(xU i.L i.id i.qty).snd=(e.a.takeF e.n e.qty).snd∧g.top1=i.b.top1∧g.top2=i.b.top2∧g.has1=i.b.has1∧g.has2=i.b.has2∧aq Arena 3 zG g.a=aq Arena 3 zG (e.a.takeF e.n e.qty).fst∧eT g i) ((zMb d e i b c)∧d=d∧True∧zMb d e i b c))
def yUm (i:AtI):Prop:=
 ∃(a:Int),a=zD ay∧True∧∀(b:Unit),True→cnd (qR a) (∃(c:Unit),i.b.top1=i.b.top1∧i.b.top2=i.b.top2∧i.b.has1=i.b.has1∧i.b.has2=i.b.has2∧aq Arena 3 zG i.b.a=aq Arena 3 zG i.b.a∧aa zC i.b.buys=aa zC i.b.buys∧aa zC i.b.sells=aa zC i.b.sells∧atE i.b.at_=atE i.b.at_∧iE i.b.spare=iE i.b.spare∧aa wU (atL i.L (zD ay) i.price)=[]∧True) (∃(c:BkP),1=zD ay∧c.price=i.price∧c.b.top1=i.b.top1∧c.b.top2=i.b.top2∧c.b.has1=i.b.has1∧c.b.has2=i.b.has2∧aq Arena 3 zG c.b.a=aq Arena 3 zG i.b.a∧aa zC c.b.buys=aa zC i.b.buys∧aa zC c.b.sells=aa zC i.b.sells∧atE c.b.at_=atE i.b.at_∧iE c.b.spare=iE i.b.spare∧(x0 c)∧∀(d:Unit),True→cnd (!kL 1 (c.b.rungs 1) c.price) (∃(e:Unit),i.b.top1=c.b.top1∧i.b.top2=c.b.top2∧i.b.has1=c.b.has1∧i.b.has2=c.b.has2∧aq Arena 3 zG i.b.a=aq Arena 3 zG c.b.a∧aa zC i.b.buys=aa zC c.b.buys∧aa zC i.b.sells=aa zC c.b.sells∧atE i.b.at_=atE c.b.at_∧iE i.b.spare=iE c.b.spare∧aa wU (atL i.L (zD ay) i.price)=[]∧True) ((gT c)∧∃(e:Int),∃(f:Int),zE (aa zC c.b.buys) (xO c).toNat 0 2=az [dI e,dI f]∧∃(g:BoI),g.s=zD ay∧g.r.price=e∧g.r.queue=f∧g.b.top1=c.b.top1∧g.b.top2=c.b.top2∧g.b.has1=c.b.has1∧g.b.has2=c.b.has2∧aq Arena 3 zG g.b.a=aq Arena 3 zG c.b.a∧aa zC g.b.buys=aa zC c.b.buys∧aa zC g.b.sells=aa zC c.b.sells∧atE g.b.at_=atE c.b.at_∧iE g.b.spare=iE c.b.spare∧g.b.a.listOk g.r.queue g.l∧∀(h:Unit),True→∃(j:Unit),z6 i.b=z6 g.b∧aa wU (atL i.L (zD ay) i.price)=aa wU g.ords∧True))
def yVq (i:AtI):Prop:=
 ∃(a:Int),a=zD ax∧True∧∀(b:Unit),True→cnd (qR a) (∃(c:Unit),i.b.top1=i.b.top1∧i.b.top2=i.b.top2∧i.b.has1=i.b.has1∧i.b.has2=i.b.has2∧aq Arena 3 zG i.b.a=aq Arena 3 zG i.b.a∧aa zC i.b.buys=aa zC i.b.buys∧aa zC i.b.sells=aa zC i.b.sells∧atE i.b.at_=atE i.b.at_∧iE i.b.spare=iE i.b.spare∧aa wU (atL i.L (zD ax) i.price)=[]∧True) (∃(c:BkP),2=zD ax∧c.price=i.price∧c.b.top1=i.b.top1∧c.b.top2=i.b.top2∧c.b.has1=i.b.has1∧c.b.has2=i.b.has2∧aq Arena 3 zG c.b.a=aq Arena 3 zG i.b.a∧aa zC c.b.buys=aa zC i.b.buys∧aa zC c.b.sells=aa zC i.b.sells∧atE c.b.at_=atE i.b.at_∧iE c.b.spare=iE i.b.spare∧(x0 c)∧∀(d:Unit),True→cnd (!kL 2 (c.b.rungs 2) c.price) (∃(e:Unit),i.b.top1=c.b.top1∧i.b.top2=c.b.top2∧i.b.has1=c.b.has1∧i.b.has2=c.b.has2∧aq Arena 3 zG i.b.a=aq Arena 3 zG c.b.a∧aa zC i.b.buys=aa zC c.b.buys∧aa zC i.b.sells=aa zC c.b.sells∧atE i.b.at_=atE c.b.at_∧iE i.b.spare=iE c.b.spare∧aa wU (atL i.L (zD ax) i.price)=[]∧True) ((g8 c)∧∃(e:Int),∃(f:Int),zE (aa zC c.b.sells) (xP c).toNat 0 2=az [dI e,dI f]∧∃(g:BoI),g.s=zD ax∧g.r.price=e∧g.r.queue=f∧g.b.top1=c.b.top1∧g.b.top2=c.b.top2∧g.b.has1=c.b.has1∧g.b.has2=c.b.has2∧aq Arena 3 zG g.b.a=aq Arena 3 zG c.b.a∧aa zC g.b.buys=aa zC c.b.buys∧aa zC g.b.sells=aa zC c.b.sells∧atE g.b.at_=atE c.b.at_∧iE g.b.spare=iE c.b.spare∧g.b.a.listOk g.r.queue g.l∧∀(h:Unit),True→∃(j:Unit),z6 i.b=z6 g.b∧aa wU (atL i.L (zD ax) i.price)=aa wU g.ords∧True))
open Go Cv Go.Proofs
theorem nS {L:List zK} (h:(L.map (·.id)).Nodup) {o:zK} (ho:o∈L):dC L o.id=o:=by
 induction L with
 |nil=>cases ho
 |cons x L ih=>
  rw[y0l,y2l]at h
  rw[dC,y6f]
  rcases y0m.1 ho with rfl|ho
  ·rw[y0n rfl];rfl
  ·have:x.id≠o.id:=fun e=>h.1 (e▸y1d (f:=(·.id)) ho)
   rw[y0k this]
   exact ih h.2 ho
theorem bS {α β:Type} {f g:α→Option β}:∀{l:List α},(∀x∈l,f x=g x)→l.filterMap f=l.filterMap g
 |[],_=>rfl
 |x::l,h=>by rw[List.filterMap_cons,List.filterMap_cons,h x y0d,bS fun y hy=>h y (y0c _ hy)]
theorem yRt {L:List zK} {id:Int} (h:wI L id=ay):dC L id=yQm:=by
 rw[dC]
 have:L.find? (fun o=>decide (o.id=id))=bc:=by
  rw[af]
  intro o ho
  rw[wI,y6h]at h
  exact h o ho
 rw[this];rfl
structure Told (b:Book) (Q:List (List Nat)) (id:Int) (s:Int) (r:xG) (k:Nat):Prop where
 hs:s=1∨s=2
 hr:r∈b.rungs s
 hk:k∈y7 Q r
 e:pget b.at_ id=az ⟨s,r.price,k⟩
 ident:(b.a.slotAt k).id=id
 get:dC (b.flat Q) id=wV b.a s r.price k
 has:wI (b.flat Q) id=ax
theorem yKo {b:Book} {Q:List (List Nat)} {s:Int} (hs:s=1∨s=2) {r:xG} (hr:r∈b.rungs s) {k:Nat} (hk:k∈y7 Q r):wV b.a s r.price k∈b.flat Q:=
 flat_mem hs (y2s.2 ⟨r,hr,y1d hk⟩)
theorem Book.Core.told {b:Book} {Q:List (List Nat)} (c:b.Core Q (-1)) (id:Int):(pget b.at_ id=bc∧wI (b.flat Q) id=ay)∨∃s r k,Told b Q id s r k:=by
 cases hg:pget b.at_ id with
 |none=>
  have:=zHf hg
  rw[c.keysP.mem_iff,← hasId_iff]at this
  exact .inl ⟨rfl,by simpa using this⟩
 |some x=>
  obtain⟨k,r,hs,hr,hk,hx,hid⟩:=c.plcI (sU hg)
  have hm:=yKo hs hr hk
  have hget:=nS c.ids hm
  have e:(wV b.a x.side r.price k).id=id:=hid
  rw[e]at hget
  exact .inr ⟨x.side,r,k,hs,hr,hk,by rw[hg];exact congrArg az hx,hid,hget,hasId_iff.2 (by rw[← e];exact y1d hm)⟩
theorem Told.only {b:Book} {Q:List (List Nat)} (c:b.Core Q (-1)) {id s:Int} {r:xG} {k:Nat} (h:Told b Q id s r k) {s':Int} (hs':s'=1∨s'=2) {r':xG} (hr':r'∈b.rungs s') {j:Nat} (hj:j∈y7 Q r'):(b.a.slotAt j).id=id↔j=k:=by
 constructor
 ·intro e
  have h1:=c.plc hs' hr' hj
  have h2:=c.plc h.hs h.hr h.hk
  rw[e]at h1
  rw[h.ident]at h2
  have:=congrArg Place.slot (zJk c.keys h1 h2)
  dsimp only at this
  omega
 ·rintro rfl;exact h.ident
theorem Book.Core.less {b:Book} {Q:List (List Nat)} (c:b.Core Q (-1)) (ht:b.Tops (b.flat Q)) {id s:Int} {r:xG} {k:Nat} (h:Told b Q id s r k) {q:Int} (hq:1≤q∧q<(b.a.slotAt k).qty):
 (b.a.takeF k q).2=0∧({b with a:=(b.a.takeF k q).1}:Book).Rep (uO (b.flat Q) id q)∧(b.a.takeF k q).1.slots.length=250∧(b.a.takeF k q).1.getF k=((((b.a.takeF k q).1.slotAt k)).ent,ax)∧((b.a.takeF k q).1.slotAt k).id=id:=by
 obtain⟨t1,t2,t3⟩:=c.wf.take (c.get h.hs h.hr) h.hk (q:=q) ⟨hq.1,by omega⟩
 rw[yZx (by omega)]at t3
 obtain⟨w,t4,t5⟩:=t3
 have hent:∀j,((b.a.takeF k q).1.slotAt j).ent=if j=k then{(b.a.slotAt k).ent with qty:=(b.a.slotAt k).qty-q}else(b.a.slotAt j).ent:=by
  intro j
  split
  ·rename_i e;rw[e,t4];rfl
  ·rename_i e;exact(t2 j e).1
 have hid:∀j,((b.a.takeF k q).1.slotAt j).id=(b.a.slotAt j).id:=by
  intro j
  have:=congrArg Ent.id (hent j)
  split at this
  ·rename_i e;rw[e]at this ⊢;exact this
  ·exact this
 have hflat:({b with a:=(b.a.takeF k q).1}:Book).flat Q=uO (b.flat Q) id q:=by
  have side:∀s',s'=1∨s'=2→({b with a:=(b.a.takeF k q).1}:Book).sideL Q s'=uO (b.sideL Q s') id q:=by
   intro s' hs'
   rw[uO,Book.sideL,Book.sideL,List.filterMap_flatMap]
   refine y8 fun r' hr'=> ?_
   rw[Book.rOrds,Book.rOrds,List.filterMap_map]
   have:(y7 Q r').filterMap (fun j=>az (wV (b.a.takeF k q).1 s' r'.price j))=(y7 Q r').map (wV (b.a.takeF k q).1 s' r'.price):=by rw[← List.filterMap_eq_map];rfl
   refine this.symm.trans (bS fun j hj=> ?_)
   simp only[cn,wV,yAo,hent]
   have hon:=h.only c hs' hr' hj
   by_cases e:j=k
   ·subst e
    rw[yZy rfl]
    refine((yZy (show(b.a.slotAt j).ent.id=id from h.ident)).trans (yZx fun e=> ?_)).symm
    have e:(b.a.slotAt j).qty=q:=e
    omega
   ·rw[yZx e];exact(yZx (fun e2=>e (hon.1 e2))).symm
  rw[Book.flat,side 1 (.inl rfl),side 2 (.inr rfl),Book.flat,uO,uO,uO,List.filterMap_append]
 have hu:(b.a.takeF k q).1.usedAt k=ax:=by
  obtain⟨hk2,⟨_,_,h2⟩,h3⟩:=w.toWf0.mem (c.get h.hs h.hr) h.hk
  have hlt:=w.len
  simp only[Arena.usedAt,y0o,y1z,y0s]
  exact⟨by omega,by omega,h2.used⟩
 refine⟨t1,⟨Q,c.flag w hid,⟨fun o ho=> ?_,fun s' hs' hh=> ?_⟩,hflat.symm⟩,w.len,by rw[Arena.getF,yZy hu,y0s],by rw[hid,h.ident]⟩
 ·obtain⟨o',ho',e⟩:=y5j.1 ho
  have:=ht.fl o' ho'
  split at e
  ·split at e
   ·cases e
   ·cases e;exact this
  ·cases e;exact this
 ·obtain⟨o,ho,o1,o2⟩:=ht.th s' hs' hh
  by_cases e:o.id=id
  ·refine⟨{o with qty:=o.qty-q},y5j.2 ⟨o,ho,?_⟩,o1,o2⟩
   have hg:=nS c.ids ho
   rw[e,h.get]at hg
   rw[yZy e,yZx (fun e2=>by
    rw[← hg]at e2
    have:(b.a.slotAt k).qty=q:=e2
    omega)]
  ·exact⟨o,y5j.2 ⟨o,ho,yZx e⟩,o1,o2⟩
theorem z4j:∀{l:List (Int×Place)} {k:Int},(l.map (·.1)).Nodup→mC k l=l.filter fun x=> !decide (x.1=k)
 |[],k,_=>rfl
 |(a,b)::l,k,h=>by
  rw[y0l,y2l]at h
  rw[mC]
  by_cases e:k=a
  ·subst e
   rw[yZy rfl,y5b (by simp)]
   symm
   rw[y3u]
   intro x hx
   have:x.1≠k:=fun e=>h.1 (e▸y1d (f:=(·.1)) hx)
   simp[this]
  ·rw[yZx e,y5a (by simp[Ne.symm e]),z4j h.2]
theorem zEl {l:List Nat} (h:l.Nodup) (k:Nat):l.erase k=l.filter fun j=> !decide (j=k):=by
 rw[h.erase_eq_filter]
 refine List.filter_congr fun j _=> ?_
 simp[bne,BEq.beq]
theorem yCh {s:Int} {l:List xG} (hs:l.Pairwise fun r r'=>btr s r.price r'.price=ax) {R1 R2:List xG} {r:xG} (hl:l=R1++r::R2):zW s l r.price=R1.length:=by
 subst hl
 rw[ae]at hs
 refine mL (by simp) (fun k hk x hx=> ?_) (fun x hx=> ?_)
 ·rw[y2p hk]at hx
  exact hs.2.2 x (y0g hx) r y0d
 ·rw[y1x (y1f _),y5s]at hx
  cases hx
  exact lF _ _
theorem yFs (b:Book) (id:Int) {s:Int} (hs:s=1∨s=2):(b.unhas s id).a=b.a∧(b.unhas s id).buys=b.buys∧(b.unhas s id).sells=b.sells∧(b.unhas s id).spare=b.spare∧∀s',s'=1∨s'=2→(b.unhas s id).topI s'=b.topI s'∧(b.unhas s id).hasF s'=if s'=s∧b.topI s=id then ay else b.hasF s':=by
 rw[Book.unhas]
 by_cases hc:b.hasF s=ax∧b.topI s=id
 ·rw[yZy hc]
  rcases hs with rfl|rfl
  ·exact⟨rfl,rfl,rfl,rfl,fun s' h=>by rcases h with rfl|rfl;exact⟨rfl,(yZy ⟨rfl,hc.2⟩).symm⟩;exact⟨rfl,(yZx (fun e=>absurd e.1 (by decide))).symm⟩⟩
  ·exact⟨rfl,rfl,rfl,rfl,fun s' h=>by rcases h with rfl|rfl;exact⟨rfl,(yZx (fun e=>absurd e.1 (by decide))).symm⟩;exact⟨rfl,(yZy ⟨rfl,hc.2⟩).symm⟩⟩
 ·rw[yZx hc]
  refine⟨rfl,rfl,rfl,rfl,fun s' h=>⟨rfl,?_⟩⟩
  split
  ·rename_i e
   rw[e.1]
   cases hh:b.hasF s with
   |false=>rfl
   |true=>exact absurd ⟨hh,e.2⟩ hc
  ·rfl
theorem Book.Core.close {b:Book} {Q:List (List Nat)} {s:Int} (hs:s=1∨s=2) {r:xG} {R1 R2:List xG} (hr:b.rungs s=R1++r::R2) (c:b.Core Q r.queue) (he:y7 Q r=[]) {b':Book} (hb:b'=({b with spare:=b.spare++[r.queue]}:Book).setR s (R1++R2)):
 b'.Core Q (-1)∧b'.flat Q=b.flat Q:=by
 obtain⟨g1,g2⟩:=zNc ({b with spare:=b.spare++[r.queue]}:Book) hs (R1++R2)
 rw[← hb]at g1 g2
 have ha:b'.a=b.a:=by rw[hb];rcases hs with rfl|rfl<;>rfl
 have hat:b'.at_=b.at_:=by rw[hb];rcases hs with rfl|rfl<;>rfl
 have hsp:b'.spare=b.spare++[r.queue]:=by rw[hb];rcases hs with rfl|rfl<;>rfl
 have hqs:b'.qs.Perm b.qs:=by
  rw[hb]
  rcases hs with rfl|rfl
  ·have hr:b.buys=R1++r::R2:=hr
   show((R1++R2).map (·.queue)++b.sells.map (·.queue)++(b.spare++[r.queue])).Perm (b.buys.map (·.queue)++b.sells.map (·.queue)++b.spare)
   rw[hr,← y0i]
   refine(y4s _ _).trans ?_
   simp only[y0j,y0l,y0i,y1p]
   exact y0q.symm
  ·have hr:b.sells=R1++r::R2:=hr
   show(b.buys.map (·.queue)++(R1++R2).map (·.queue)++(b.spare++[r.queue])).Perm (b.buys.map (·.queue)++b.sells.map (·.queue)++b.spare)
   rw[hr,← y0i]
   refine(y4s _ _).trans ?_
   simp only[y0j,y0l,y0i,y1p]
   refine .trans ?_ (cp _ y0q.symm)
   exact y0q.symm
 have hside:∀s',s'=1∨s'=2→b'.sideL Q s'=b.sideL Q s':=by
  intro s' hs'
  have ho:∀x,b'.rOrds Q s' x=b.rOrds Q s' x:=fun x=>by rw[Book.rOrds,Book.rOrds,ha]
  rw[Book.sideL,Book.sideL]
  by_cases e:s'=s
  ·subst e
   rw[g1,hr,y1u,y1u,y1s,y8 (fun x _=>ho x),y8 (l:=R2) (fun x _=>ho x)]
   rw[show b.rOrds Q s' r=[]by rw[Book.rOrds,he];rfl,y2e]
  ·rw[g2 s' e hs'];exact y8 fun x _=>ho x
 have hplc:∀s',s'=1∨s'=2→b'.plcs Q s'=b.plcs Q s':=by
  intro s' hs'
  rw[Book.plcs,Book.plcs,ha]
  by_cases e:s'=s
  ·subst e
   rw[g1,hr,y1u,y1u,y1s,he,y3r,y2e]
  ·rw[g2 s' e hs'];rfl
 have hflat:b'.flat Q=b.flat Q:=by rw[Book.flat,Book.flat,hside 1 (.inl rfl),hside 2 (.inr rfl)]
 have hnd:=hqs.nodup_iff.2 c.nd
 have hmid:r.queue∉(R1++R2).map (·.queue):=by
  intro hm
  have h1:r.queue∈(b'.rungs s).map (·.queue):=by rw[g1];exact hm
  rw[Book.qs]at hnd
  have h2:=(y2k.1 hnd).2.2 r.queue (by
   rcases hs with rfl|rfl
   ·exact y1o _ h1
   ·exact y1q _ h1) r.queue (by rw[hsp];simp)
  exact h2 rfl
 refine⟨⟨by rw[ha];exact c.wf,fun s' hs'=> ?_,fun q hq=>c.rng q (hqs.mem_iff.1 hq),hnd,by rw[hqs.length_eq];exact c.ql,fun s' hs' x hx _=> ?_,fun q hq=> ?_,by rw[hat,hplc 1 (.inl rfl),hplc 2 (.inr rfl)];exact c.at_,by rw[hflat];exact c.ids,c.qb⟩,hflat⟩
 ·by_cases e:s'=s
  ·subst e
   have:=c.srt s' hs'
   rw[hr]at this
   rw[g1]
   exact this.sublist (List.Sublist.append_left (List.sublist_cons_self _ _) _)
  ·rw[g2 s' e hs'];exact c.srt s' hs'
 ·by_cases e:s'=s
  ·subst e
   rw[g1]at hx
   refine c.ne s' hs' x (by rw[hr];rcases y0u.1 hx with h|h;exact y1o _ h;exact y1q _ (y0c _ h)) fun e2=>hmid (e2▸y1d (f:=(·.queue)) hx)
  ·rw[g2 s' e hs']at hx
   refine c.ne s' hs' x hx fun e2=> ?_
   have h1:r.queue∈(b'.rungs s').map (·.queue):=by rw[g2 s' e hs',← e2];exact y1d (f:=(·.queue)) hx
   rw[Book.qs]at hnd
   exact(y2k.1 hnd).2.2 r.queue (by
    rcases hs' with rfl|rfl
    ·exact y1o _ h1
    ·exact y1q _ h1) r.queue (by rw[hsp];simp) rfl
 ·rw[hsp]at hq
  rcases y0u.1 hq with hq|hq
  ·exact c.sp q hq
  ·rw[y1k.1 hq];exact he
open Go Cv Go.Proofs
theorem zPe {L:List zK} (h:(L.map (·.id)).Nodup) {id:Int} (hh:wI L id=ax):uO L id (dC L id).qty=L.filter fun o=> !decide (o.id=id):=by
 rw[uO,← List.filterMap_eq_filter]
 refine bS fun o ho=> ?_
 by_cases e:o.id=id
 ·have hg:=nS h ho
  rw[e]at hg
  rw[yZy e,yZy (by rw[hg])]
  simp[Option.guard,e]
 ·rw[yZx e]
  simp[Option.guard,e]
theorem Book.Core.gone {b:Book} {Q:List (List Nat)} (c:b.Core Q (-1)) (ht:b.Tops (b.flat Q)) {id s:Int} {r:xG} {k:Nat} (h:Told b Q id s r k) {q:Int} (hq:1≤q∧q=(b.a.slotAt k).qty):
 (b.a.takeF k q).2=0∧(({b with a:=(b.a.takeF k q).1}:Book).dropF s id r.price).Rep (uO (b.flat Q) id q)∧(b.a.takeF k q).1.slots.length=250∧(b.a.takeF k q).1.queues.length=b.a.queues.length∧((b.a.takeF k q).1.getF k).2=ay∧zW s (b.rungs s) r.price<(b.rungs s).length:=by
 obtain⟨t1,t2,t3⟩:=c.wf.take (c.get h.hs h.hr) h.hk (q:=q) ⟨hq.1,by omega⟩
 rw[yZy hq.2.symm]at t3
 obtain⟨w,t4,t5⟩:=t3
 generalize hA:(b.a.takeF k q).1=a1 at*
 have hget:=c.get h.hs h.hr
 have hnQ:=(yZz.1 hget).1
 have hrq:=c.rng _ (uQ h.hs h.hr)
 generalize hQ':Q.set r.queue.toNat ((y7 Q r).erase k)=Q' at*
 have hQl:Q'.length=Q.length:=by rw[← hQ',y1c]
 have hnd:(y7 Q r).Nodup:=c.wf.nd _ _ hget
 have hqd:∀s' (r':xG),(s'=1∨s'=2)→r'∈b.rungs s'→y7 Q' r'=(y7 Q r').erase k:=by
  intro s' r' hs' hr'
  by_cases e:r'.queue=r.queue
  ·have e1:y7 Q r'=y7 Q r:=by rw[y7,y7,e]
   rw[e1,y7,e,← hQ']
   exact zT (fP hnQ)
  ·have h2:y7 Q' r'=y7 Q r':=by
    have:=c.rng _ (uQ hs' hr')
    rw[y7,y7,y0h,y0h,← hQ',vX (by omega)]
   rw[h2]
   symm
   refine List.erase_of_not_mem fun hk=> ?_
   have:=c.wf.toWf0.one (c.get hs' hr') hget hk h.hk
   have:=c.rng _ (uQ hs' hr')
   omega
 have hQo:∀q:Int,0≤q→q≠r.queue→Q'.getD q.toNat []=Q.getD q.toNat []:=by
  intro q h0 hne
  rw[← hQ',y0h,vX (by omega),y0h]
 obtain⟨u1,u2,u3,u4,u5⟩:=yFs ({b with a:=a1}:Book) id h.hs
 obtain⟨b1,hb1⟩:∃b1:Book,b1={({b with a:=a1}:Book).unhas s id with at_:=mC id b.at_}:=⟨_,rfl⟩
 have v1:b1.a=a1:=by rw[hb1];exact u1
 have v2:b1.buys=b.buys:=by rw[hb1];exact u2
 have v3:b1.sells=b.sells:=by rw[hb1];exact u3
 have v4:b1.spare=b.spare:=by rw[hb1];exact u4
 have v5:b1.at_=mC id b.at_:=by rw[hb1]
 have v6:∀s',s'=1∨s'=2→b1.topI s'=b.topI s'∧b1.hasF s'=if s'=s∧b.topI s=id then ay else b.hasF s':=by
  intro s' hs'
  rw[hb1];exact u5 s' hs'
 have vr:∀s',b1.rungs s'=b.rungs s':=by intro s';rw[Book.rungs,Book.rungs,v2,v3]
 have vq:b1.qs=b.qs:=by rw[Book.qs,Book.qs,v2,v3,v4]
 have hord:∀s',s'=1∨s'=2→b1.sideL Q' s'=(b.sideL Q s').filter (fun o=> !decide (o.id=id))∧b1.plcs Q' s'=(b.plcs Q s').filter fun x=> !decide (x.1=id):=by
  intro s' hs'
  rw[Book.sideL,Book.sideL,Book.plcs,Book.plcs,vr,List.filter_flatMap,List.filter_flatMap]
  have key:∀r'∈b.rungs s',∀j∈y7 Q r',((b.a.slotAt j).id=id↔j=k)∧(j≠k→wV a1 s' r'.price j=wV b.a s' r'.price j∧vG a1 s' r'.price j=vG b.a s' r'.price j):=by
   intro r' hr' j hj
   refine⟨h.only c hs' hr' hj,fun e=> ?_⟩
   have:=(t2 j e).1
   refine⟨by rw[wV,wV,this],?_⟩
   have:=congrArg Ent.id this
   rw[vG,vG]
   exact congrArg (fun i=>(i,(⟨s',r'.price,j⟩:Place))) this
  refine⟨y8 fun r' hr'=> ?_,y8 fun r' hr'=> ?_⟩
  ·rw[Book.rOrds,Book.rOrds,hqd s' r' hs' hr',zEl (c.wf.nd _ _ (c.get hs' hr')),ag,v1]
   have e1:(y7 Q r').filter ((fun o:zK=> !decide (o.id=id))∘wV b.a s' r'.price)=(y7 Q r').filter fun j=> !decide (j=k):=by
    refine List.filter_congr fun j hj=> ?_
    show(!decide ((b.a.slotAt j).id=id))=_
    rw[decide_eq_decide.2 (key r' hr' j hj).1]
   rw[e1]
   refine y1h fun j hj=> ?_
   rw[y2c]at hj
   exact((key r' hr' j hj.1).2 (by simpa using hj.2)).1
  ·rw[hqd s' r' hs' hr',zEl (c.wf.nd _ _ (c.get hs' hr')),ag,v1]
   have e1:(y7 Q r').filter ((fun x:Int×Place=> !decide (x.1=id))∘vG b.a s' r'.price)=(y7 Q r').filter fun j=> !decide (j=k):=by
    refine List.filter_congr fun j hj=> ?_
    show(!decide ((b.a.slotAt j).id=id))=_
    rw[decide_eq_decide.2 (key r' hr' j hj).1]
   rw[e1]
   refine y1h fun j hj=> ?_
   rw[y2c]at hj
   exact((key r' hr' j hj.1).2 (by simpa using hj.2)).2
 have hflat:b1.flat Q'=(b.flat Q).filter fun o=> !decide (o.id=id):=by
  rw[Book.flat,(hord 1 (.inl rfl)).1,(hord 2 (.inr rfl)).1,Book.flat,y2w]
 have hat:b1.at_.Perm (b1.plcs Q' 1++b1.plcs Q' 2):=by
  rw[v5,z4j c.keys,(hord 1 (.inl rfl)).2,(hord 2 (.inr rfl)).2,← y2w]
  exact c.at_.filter _
 have hold:∀s' (r':xG),(s'=1∨s'=2)→r'∈b.rungs s'→y7 Q r'≠[]:=fun s' r' hs' hr'=>c.ne s' hs' r' hr' fun e=>by
  have:=c.rng _ (uQ hs' hr');omega
 have c1:b1.Core Q' r.queue:=by
  refine⟨by rw[v1];exact w,fun s' hs'=>by rw[vr];exact c.srt s' hs',by rw[vq,hQl];exact c.rng,by rw[vq];exact c.nd,by rw[vq,hQl];exact c.ql,fun s' hs' r' hr' hne=> ?_,fun q hq=> ?_,hat,?_,by rw[hQl];exact c.qb⟩
  ·rw[vr]at hr'
   have e:=hQo r'.queue (c.rng _ (uQ hs' hr')).1 hne
   rw[y7,e];exact hold s' r' hs' hr'
  ·rw[v4]at hq
   have hqq:q∈b.qs:=y1q _ hq
   rw[hQo q (c.rng q hqq).1 fun e=> ?_]
   ·exact c.sp q hq
   ·have hcn:=c.nd
    rw[Book.qs]at hcn
    refine(y2k.1 hcn).2.2 r.queue ?_ q hq e.symm
    rcases h.hs with rfl|rfl
    ·exact y1o _ (y1d (f:=(·.queue)) h.hr)
    ·exact y1q _ (y1d (f:=(·.queue)) h.hr)
  ·rw[hflat]
   exact c.ids.sublist (List.Sublist.map _ y5w)
 have htk:uO (b.flat Q) id q=b1.flat Q':=by
  rw[hflat,← zPe c.ids h.has,h.get,hq.2];rfl
 have hm1:∀o,o∈b1.flat Q'↔o∈b.flat Q∧o.id≠id:=by
  intro o;rw[hflat,y2c];simp
 have ht1:∀b2:Book,(∀x,b2.hasF x=b1.hasF x∧b2.topI x=b1.topI x)→b2.Tops (b1.flat Q'):=by
  intro b2 hb2
  refine⟨fun o ho=> ?_,fun s' hs' hh=> ?_⟩
  ·rw[(hb2 _).1,(hb2 _).2]
   obtain⟨ho,hne⟩:=(hm1 o).1 ho
   have hs':=(mX ho).1
   rw[(v6 _ hs').1,(v6 _ hs').2,ht.fl o ho]
   split
   ·rename_i e
    rw[e.1,e.2,y0k hne,y5g,y5g]
   ·rfl
  ·rw[(hb2 _).1,(v6 s' hs').2]at hh
   rw[(hb2 _).2,(v6 s' hs').1]
   split at hh
   ·cases hh
   ·rename_i e
    obtain⟨o,ho,o1,o2⟩:=ht.th s' hs' hh
    refine⟨o,(hm1 o).2 ⟨ho,fun e2=>e ?_⟩,o1,o2⟩
    have hg:=nS c.ids ho
    rw[e2,h.get]at hg
    have hsd:s'=s:=by rw[← o1,← hg];rfl
    exact⟨hsd,by rw[← hsd,← o2,e2]⟩
 obtain⟨R1,R2,hsplit⟩:=List.append_of_mem h.hr
 have hfn:=yCh (c.srt s h.hs) hsplit
 have hgd:(b.rungs s).getD (zW s (b.rungs s) r.price) ⟨0,0⟩=r:=by
  rw[hfn,hsplit]
  refine zT ?_
  rw[y1x (y1f _),y5s];rfl
 have hfl:zW s (b.rungs s) r.price<(b.rungs s).length:=by rw[hfn,hsplit];simp
 have hQr:Q'[r.queue.toNat]? =az ((y7 Q r).erase k):=by rw[← hQ'];exact fP hnQ
 have hcount:(a1.qAt r.queue).count=((y7 Q r).erase k).length:=by
  have:=w.q _ _ hQr
  have hql:=w.ql
  rw[zSp hrq.1 this]
 have er:y7 Q' r=(y7 Q r).erase k:=zT hQr
 have hru:({b with a:=a1}:Book).rungs s=b.rungs s:=rfl
 have hus:(a1.getF k).2=ay:=by
  have:a1.usedAt k=ay:=by
   have e:a1.slotAt k=slot0:=t4
   rw[Arena.slotAt]at e
   rw[Arena.usedAt,y0s,e];simp[slot0]
  rw[Arena.getF,yZx (by rw[this];decide)]
 refine⟨t1,?_,w.len,by rw[w.ql,c.wf.ql,hQl],hus,hfl⟩
 rw[Book.dropF,hru,hgd]
 by_cases hz:(a1.qAt r.queue).count=0
 ·rw[yZy hz]
  have he:y7 Q' r=[]:=by
   rw[er]
   refine y0y ?_
   omega
  obtain⟨k1,k2⟩:=Book.Core.close h.hs (by rw[vr];exact hsplit) c1 he rfl
  have ebk:(({({b with a:=a1}:Book).unhas s id with at_:=mC id b.at_,spare:=b.spare++[r.queue]}:Book).setR s ((b.rungs s).take (zW s (b.rungs s) r.price)++(b.rungs s).drop (zW s (b.rungs s) r.price+1)))=(({b1 with spare:=b1.spare++[r.queue]}:Book).setR s (R1++R2)):=by
   have e1:(b.rungs s).take (zW s (b.rungs s) r.price)++(b.rungs s).drop (zW s (b.rungs s) r.price+1)=R1++R2:=by
    rw[hfn,hsplit,List.take_left]
    congr 1
    rw[y5f,y3s (by omega),Nat.add_sub_cancel_left];rfl
   rw[e1,v4,hb1]
  refine⟨Q',?_,?_,?_⟩
  ·exact ebk▸k1
  ·rw[htk]
   refine ht1 _ fun x=> ?_
   show(Book.hasF (({({b with a:=a1}:Book).unhas s id with at_:=mC id b.at_,spare:=b.spare++[r.queue]}:Book).setR s ((b.rungs s).take (zW s (b.rungs s) r.price)++(b.rungs s).drop (zW s (b.rungs s) r.price+1))) x=_∧Book.topI (({({b with a:=a1}:Book).unhas s id with at_:=mC id b.at_,spare:=b.spare++[r.queue]}:Book).setR s ((b.rungs s).take (zW s (b.rungs s) r.price)++(b.rungs s).drop (zW s (b.rungs s) r.price+1))) x=_)
   rw[ebk]
   rcases h.hs with rfl|rfl<;>exact⟨rfl,rfl⟩
  ·rw[htk]
   show _=Book.flat (({({b with a:=a1}:Book).unhas s id with at_:=mC id b.at_,spare:=b.spare++[r.queue]}:Book).setR s ((b.rungs s).take (zW s (b.rungs s) r.price)++(b.rungs s).drop (zW s (b.rungs s) r.price+1))) Q'
   rw[ebk];exact k2.symm
 ·rw[yZx hz]
  have c2:b1.Core Q' (-1):=⟨c1.wf,c1.srt,c1.rng,c1.nd,c1.ql,fun s' hs' r' hr' _=>by
   by_cases e:r'.queue=r.queue
   ·rw[y7,e]
    intro e2
    rw[y7]at er
    rw[er]at e2
    rw[hcount,e2]at hz
    exact hz rfl
   ·exact c1.ne s' hs' r' hr' e,c1.sp,c1.at_,c1.ids,c1.qb⟩
  have hh:({({b with a:=a1}:Book).unhas s id with at_:=mC id b.at_}:Book)=b1:=hb1.symm
  show Book.Rep {({b with a:=a1}:Book).unhas s id with at_:=mC id b.at_} _
  rw[hh,htk]
  exact⟨Q',c2,ht1 b1 fun _=>⟨rfl,rfl⟩,rfl⟩
open Go Cv Go.Proofs
theorem nY (k:Int):∀l,lX (ci bu k) (atE l)=atE (mC k l)
 |[]=>rfl
 |(a,b)::l=>by
  have ih:=nY k l
  show(bif (keq .i64 .i64 && decide (k=a))then atE l else _::lX _ (atE l))=_
  rw[ih,mC]
  by_cases h:k=a
  ·subst h;simp[keq]
  ·simp[h,atE]
theorem z5k:delRC.ok Tryz.prog 271:=
 delX_ok mixed Tryz.func271 rfl (by kernel_rfl) (by kernel_rfl) (by kernel_rfl) (by kernel_rfl) zEq rfl (by decide) (fun s sn sk i j w R=>by kernel_rfl)
theorem dup {X:Prop} {n:Int} (h:X):X∧n=n∧True∧X:=⟨h,rfl,trivial,h⟩
theorem Book.Core.small {b:Book} {Q:List (List Nat)} (c:b.Core Q (-1)):b.small:=by
 have hq:=c.qb
 have h1:=c.ql
 have h2:=c.wf.ql
 have h3:=c.wf.len
 rw[Book.qs,y0e,y0e,y0a,y0a]at h1
 exact⟨⟨by omega,by omega⟩,by omega,by omega,by omega⟩
theorem yRw (i:DrI) (h:drop1C.cnd i):yEy i:=by
 obtain⟨hsm,hn⟩:i.ok 1:=h
 obtain⟨⟨ha1,ha2⟩,hb1,hb2,hsp⟩:=id hsm
 have hn:zW 1 i.b.buys i.price<i.b.buys.length:=hn
 obtain⟨r,hr⟩:=z8 (l:=i.b.buys) hn
 have hgd:((i.b.rungs 1).getD (zW 1 (i.b.rungs 1) i.price) ⟨0,0⟩)=r:=zT hr
 have hw:∀k:Int,bu.wrap ((zW 1 (i.b.rungs 1) i.price:Int)+1)=((zW 1 (i.b.rungs 1) i.price+1:Nat):Int):=fun _=>by
  have:=zEe 1 i.price (i.b.rungs 1)
  have hl:(i.b.rungs 1).length≤1000000:=by show i.b.buys.length≤_;omega
  rw[w64 (by omega)];rfl
 have hn2:((zW 1 (i.b.rungs 1) i.price:Nat):Int)<((aa zC i.b.buys).length:Int):=by
  rw[y0a]
  show((zW 1 i.b.buys i.price:Nat):Int)<_
  omega
 unfold yEy zEw zFz gT vV x0 xO y4 dI
 refine⟨jV _ _,Cv.cnd.mk (fun c1=>Cv.cnd.mk (fun c2=> ?_) (fun c2=> ?_)) (fun c1=> ?_)⟩
 ·have c2:i.b.top1=i.id:=by simpa using c2
  have hu:i.b.unhas 1 i.id={i.b with has1:=ay}:=by rw[Book.unhas,yZy ⟨c1,c2⟩];rfl
  refine⟨⟨{i.b with has1:=ay,at_:=mC i.id i.b.at_},i.price⟩,rfl,rfl,rfl,rfl,rfl,rfl,rfl,rfl,rfl,(nY _ _).symm,rfl,hsm,fun _ _=>⟨⟨by omega,hn2⟩,r.queue,elA hr (by simp[zC]) rfl,⟨i.b.a,r.queue⟩,rfl,rfl,trivial,fun _ _=>Cv.cnd.mk (fun e=>⟨by simp only[xD];omega,⟨i.b.buys.map zC,zW 1 (i.b.rungs 1) i.price,zW 1 (i.b.rungs 1) i.price+1⟩,rfl,(hw 0).symm,rfl,⟨y5i _,by rw[y0a];exact hn⟩,fun _ _=>⟨rfl,(),?_⟩⟩) (fun e=>⟨(),?_⟩)⟩⟩
  ·have e:(i.b.a.qAt r.queue).count=0:=by simpa using e
   rw[Book.dropF,hgd,yZy e,hu]
   refine⟨rfl,rfl,rfl,rfl,rfl,rfl,?_,rfl,?_,trivial⟩
   ·show aa zC (i.b.buys.take _++i.b.buys.drop _)=_
    rw[y0j,y4d,y4r]
   ·show iE (i.b.spare++[r.queue])=_
    simp[iE]
  ·have e:¬(i.b.a.qAt r.queue).count=0:=by simpa using e
   rw[Book.dropF,hgd,yZx e,hu]
   exact⟨rfl,rfl,rfl,rfl,rfl,rfl,rfl,rfl,rfl,trivial⟩
 ·have c2:¬i.b.top1=i.id:=by simpa using c2
  have hu:i.b.unhas 1 i.id={i.b with has1:=i.b.has1}:=by rw[Book.unhas,yZx (fun e=>c2 e.2)]
  refine⟨⟨{i.b with has1:=i.b.has1,at_:=mC i.id i.b.at_},i.price⟩,rfl,rfl,rfl,rfl,rfl,rfl,rfl,rfl,rfl,(nY _ _).symm,rfl,hsm,fun _ _=>⟨⟨by omega,hn2⟩,r.queue,elA hr (by simp[zC]) rfl,⟨i.b.a,r.queue⟩,rfl,rfl,trivial,fun _ _=>Cv.cnd.mk (fun e=>⟨by simp only[xD];omega,⟨i.b.buys.map zC,zW 1 (i.b.rungs 1) i.price,zW 1 (i.b.rungs 1) i.price+1⟩,rfl,(hw 0).symm,rfl,⟨y5i _,by rw[y0a];exact hn⟩,fun _ _=>⟨rfl,(),?_⟩⟩) (fun e=>⟨(),?_⟩)⟩⟩
  ·have e:(i.b.a.qAt r.queue).count=0:=by simpa using e
   rw[Book.dropF,hgd,yZy e,hu]
   refine⟨rfl,rfl,rfl,rfl,rfl,rfl,?_,rfl,?_,trivial⟩
   ·show aa zC (i.b.buys.take _++i.b.buys.drop _)=_
    rw[y0j,y4d,y4r]
   ·show iE (i.b.spare++[r.queue])=_
    simp[iE]
  ·have e:¬(i.b.a.qAt r.queue).count=0:=by simpa using e
   rw[Book.dropF,hgd,yZx e,hu]
   exact⟨rfl,rfl,rfl,rfl,rfl,rfl,rfl,rfl,rfl,trivial⟩
 ·have hu:i.b.unhas 1 i.id={i.b with has1:=i.b.has1}:=by
   rw[Book.unhas,yZx]
   rintro⟨e,_⟩
   exact absurd (show i.b.has1=ax from e) (by rw[c1];decide)
  refine⟨⟨{i.b with has1:=i.b.has1,at_:=mC i.id i.b.at_},i.price⟩,rfl,rfl,rfl,rfl,rfl,rfl,rfl,rfl,rfl,(nY _ _).symm,rfl,hsm,fun _ _=>⟨⟨by omega,hn2⟩,r.queue,elA hr (by simp[zC]) rfl,⟨i.b.a,r.queue⟩,rfl,rfl,trivial,fun _ _=>Cv.cnd.mk (fun e=>⟨by simp only[xD];omega,⟨i.b.buys.map zC,zW 1 (i.b.rungs 1) i.price,zW 1 (i.b.rungs 1) i.price+1⟩,rfl,(hw 0).symm,rfl,⟨y5i _,by rw[y0a];exact hn⟩,fun _ _=>⟨rfl,(),?_⟩⟩) (fun e=>⟨(),?_⟩)⟩⟩
  ·have e:(i.b.a.qAt r.queue).count=0:=by simpa using e
   rw[Book.dropF,hgd,yZy e,hu]
   refine⟨rfl,rfl,rfl,rfl,rfl,rfl,?_,rfl,?_,trivial⟩
   ·show aa zC (i.b.buys.take _++i.b.buys.drop _)=_
    rw[y0j,y4d,y4r]
   ·show iE (i.b.spare++[r.queue])=_
    simp[iE]
  ·have e:¬(i.b.a.qAt r.queue).count=0:=by simpa using e
   rw[Book.dropF,hgd,yZx e,hu]
   exact⟨rfl,rfl,rfl,rfl,rfl,rfl,rfl,rfl,rfl,trivial⟩
theorem yCd:drop1C.ok Tryz.prog 243:=okw mixed (gokc zKw (gokc m8 (gokc z5k gok0))) 0 (fun _=>[]) (fun _=>[]) [] Tryz.func243 yRw
theorem ySr (i:DrI) (h:drop2C.cnd i):yAj i:=by
 obtain⟨hsm,hn⟩:i.ok 2:=h
 obtain⟨⟨ha1,ha2⟩,hb1,hb2,hsp⟩:=id hsm
 have hn:zW 2 i.b.sells i.price<i.b.sells.length:=hn
 obtain⟨r,hr⟩:=z8 (l:=i.b.sells) hn
 have hgd:((i.b.rungs 2).getD (zW 2 (i.b.rungs 2) i.price) ⟨0,0⟩)=r:=zT hr
 have hw:∀k:Int,bu.wrap ((zW 2 (i.b.rungs 2) i.price:Int)+1)=((zW 2 (i.b.rungs 2) i.price+1:Nat):Int):=fun _=>by
  have:=zEe 2 i.price (i.b.rungs 2)
  have hl:(i.b.rungs 2).length≤1000000:=by show i.b.sells.length≤_;omega
  rw[w64 (by omega)];rfl
 have hn2:((zW 2 (i.b.rungs 2) i.price:Nat):Int)<((aa zC i.b.sells).length:Int):=by
  rw[y0a]
  show((zW 2 i.b.sells i.price:Nat):Int)<_
  omega
 unfold yAj zHe zHb g8 vK x0 xP y6 dI
 refine⟨jV _ _,Cv.cnd.mk (fun c1=>Cv.cnd.mk (fun c2=> ?_) (fun c2=> ?_)) (fun c1=> ?_)⟩
 ·have c2:i.b.top2=i.id:=by simpa using c2
  have hu:i.b.unhas 2 i.id={i.b with has2:=ay}:=by rw[Book.unhas,yZy ⟨c1,c2⟩];rfl
  refine⟨⟨{i.b with has2:=ay,at_:=mC i.id i.b.at_},i.price⟩,rfl,rfl,rfl,rfl,rfl,rfl,rfl,rfl,rfl,(nY _ _).symm,rfl,hsm,fun _ _=>⟨⟨by omega,hn2⟩,r.queue,elA hr (by simp[zC]) rfl,⟨i.b.a,r.queue⟩,rfl,rfl,trivial,fun _ _=>Cv.cnd.mk (fun e=>⟨by simp only[xD];omega,⟨i.b.sells.map zC,zW 2 (i.b.rungs 2) i.price,zW 2 (i.b.rungs 2) i.price+1⟩,rfl,(hw 0).symm,rfl,⟨y5i _,by rw[y0a];exact hn⟩,fun _ _=>⟨rfl,(),?_⟩⟩) (fun e=>⟨(),?_⟩)⟩⟩
  ·have e:(i.b.a.qAt r.queue).count=0:=by simpa using e
   rw[Book.dropF,hgd,yZy e,hu]
   refine⟨rfl,rfl,rfl,rfl,rfl,rfl,rfl,?_,?_,trivial⟩
   ·show aa zC (i.b.sells.take _++i.b.sells.drop _)=_
    rw[y0j,y4d,y4r]
   ·show iE (i.b.spare++[r.queue])=_
    simp[iE]
  ·have e:¬(i.b.a.qAt r.queue).count=0:=by simpa using e
   rw[Book.dropF,hgd,yZx e,hu]
   exact⟨rfl,rfl,rfl,rfl,rfl,rfl,rfl,rfl,rfl,trivial⟩
 ·have c2:¬i.b.top2=i.id:=by simpa using c2
  have hu:i.b.unhas 2 i.id={i.b with has2:=i.b.has2}:=by rw[Book.unhas,yZx (fun e=>c2 e.2)]
  refine⟨⟨{i.b with has2:=i.b.has2,at_:=mC i.id i.b.at_},i.price⟩,rfl,rfl,rfl,rfl,rfl,rfl,rfl,rfl,rfl,(nY _ _).symm,rfl,hsm,fun _ _=>⟨⟨by omega,hn2⟩,r.queue,elA hr (by simp[zC]) rfl,⟨i.b.a,r.queue⟩,rfl,rfl,trivial,fun _ _=>Cv.cnd.mk (fun e=>⟨by simp only[xD];omega,⟨i.b.sells.map zC,zW 2 (i.b.rungs 2) i.price,zW 2 (i.b.rungs 2) i.price+1⟩,rfl,(hw 0).symm,rfl,⟨y5i _,by rw[y0a];exact hn⟩,fun _ _=>⟨rfl,(),?_⟩⟩) (fun e=>⟨(),?_⟩)⟩⟩
  ·have e:(i.b.a.qAt r.queue).count=0:=by simpa using e
   rw[Book.dropF,hgd,yZy e,hu]
   refine⟨rfl,rfl,rfl,rfl,rfl,rfl,rfl,?_,?_,trivial⟩
   ·show aa zC (i.b.sells.take _++i.b.sells.drop _)=_
    rw[y0j,y4d,y4r]
   ·show iE (i.b.spare++[r.queue])=_
    simp[iE]
  ·have e:¬(i.b.a.qAt r.queue).count=0:=by simpa using e
   rw[Book.dropF,hgd,yZx e,hu]
   exact⟨rfl,rfl,rfl,rfl,rfl,rfl,rfl,rfl,rfl,trivial⟩
 ·have hu:i.b.unhas 2 i.id={i.b with has2:=i.b.has2}:=by
   rw[Book.unhas,yZx]
   rintro⟨e,_⟩
   exact absurd (show i.b.has2=ax from e) (by rw[c1];decide)
  refine⟨⟨{i.b with has2:=i.b.has2,at_:=mC i.id i.b.at_},i.price⟩,rfl,rfl,rfl,rfl,rfl,rfl,rfl,rfl,rfl,(nY _ _).symm,rfl,hsm,fun _ _=>⟨⟨by omega,hn2⟩,r.queue,elA hr (by simp[zC]) rfl,⟨i.b.a,r.queue⟩,rfl,rfl,trivial,fun _ _=>Cv.cnd.mk (fun e=>⟨by simp only[xD];omega,⟨i.b.sells.map zC,zW 2 (i.b.rungs 2) i.price,zW 2 (i.b.rungs 2) i.price+1⟩,rfl,(hw 0).symm,rfl,⟨y5i _,by rw[y0a];exact hn⟩,fun _ _=>⟨rfl,(),?_⟩⟩) (fun e=>⟨(),?_⟩)⟩⟩
  ·have e:(i.b.a.qAt r.queue).count=0:=by simpa using e
   rw[Book.dropF,hgd,yZy e,hu]
   refine⟨rfl,rfl,rfl,rfl,rfl,rfl,rfl,?_,?_,trivial⟩
   ·show aa zC (i.b.sells.take _++i.b.sells.drop _)=_
    rw[y0j,y4d,y4r]
   ·show iE (i.b.spare++[r.queue])=_
    simp[iE]
  ·have e:¬(i.b.a.qAt r.queue).count=0:=by simpa using e
   rw[Book.dropF,hgd,yZx e,hu]
   exact⟨rfl,rfl,rfl,rfl,rfl,rfl,rfl,rfl,rfl,trivial⟩
theorem yDd:drop2C.ok Tryz.prog 243:=okw mixed (gokc zMj (gokc m8 (gokc z5k gok0))) 0 (fun _=>[]) (fun _=>[]) [] Tryz.func243 ySr
theorem yKp:dropC.ok Tryz.prog 243:=fun j=>match j with
 |⟨i,ay⟩=>yCd i
 |⟨i,ax⟩=>yDd i
theorem yJu {a:Arena} {k:Nat} {p t:Int} {m:Nat} (h:zTw (a.slotAt k) m k p t) (hl:k<a.slots.length):a.getF k=((a.slotAt k).ent,ax):=by
 have:a.usedAt k=ax:=by
  simp only[Arena.usedAt,y0o,y1z,y0s]
  exact⟨by omega,by omega,h.used⟩
 rw[Arena.getF,yZy this,y0s]
theorem zVm {b:Book} {Q:List (List Nat)} (c:b.Core Q (-1)) {id s:Int} {r:xG} {k:Nat} (h:Told b Q id s r k):b.a.getF k=((b.a.slotAt k).ent,ax)∧(b.a.slotAt k).qty≤1000000∧1≤(b.a.slotAt k).qty:=by
 obtain⟨h1,⟨p,t,h2⟩,h3⟩:=c.wf.toWf0.mem (c.get h.hs h.hr) h.hk
 exact⟨yJu h2 (by rw[c.wf.len];exact h1),h2.q2,c.wf.pos _ _ (c.get h.hs h.hr) _ h.hk⟩
theorem yRm (i:FlI) (h:bfindC.cnd i):yFw i:=by
 obtain⟨Q,c,ht,hL⟩:i.b.Rep i.L:=h
 unfold yFw zEx zAy pN dI
 rcases c.told i.id with⟨hg,hn⟩|⟨s,r,k,hT⟩
 ·refine⟨jV _ _,ay,0,0,0,.inr ⟨?_,rfl,rfl⟩,Cv.cnd.mk (fun _=> ?_) (fun e=>absurd e (by decide))⟩
  ·rw[eL,hg];rfl
  ·rw[← hL]at hn
   rw[yRt hn,hn]
   exact⟨(),k0q⟩
 ·refine⟨jV _ _,ax,s,r.price,k,.inl ⟨?_,rfl⟩,Cv.cnd.mk (fun e=>absurd e (by decide)) (fun _=>dup ⟨⟨i.b.a,k⟩,rfl,rfl,by dsimp only;rw[c.wf.len];decide,fun _ _=>⟨(),?_⟩⟩)⟩
  ·rw[eL,hT.e];rfl
  ·have h1:=hT.get
   have h2:=hT.has
   rw[← hL]at h1 h2
   rw[h1,h2,(zVm c hT).1]
   exact⟨hT.ident,k0q⟩
theorem zVo:bfindC.ok Tryz.prog 170:=okw mixed (gokc z5s gok0) 0 (fun _=>[]) (fun _=>[]) [0] Tryz.func170 yRm
theorem Book.Core.okAt {b:Book} {Q:List (List Nat)} (c:b.Core Q (-1)):b.a.okAt:=c.wf.toWf0.ok
theorem yWt (i:FlI) (h:fillC.cnd i):yNx i:=by
 have hR:i.b.Rep i.L:=h
 obtain⟨Q,c,ht,hL⟩:=id hR
 unfold yNx zMb zLk vB eT pN dI
 rcases c.told i.id with⟨hg,hn⟩|⟨s,r,k,hT⟩
 ·refine⟨jV _ _,ay,0,0,0,.inr ⟨?_,rfl,rfl⟩,Cv.cnd.mk (fun _=> ?_) (fun e=>absurd e (by simp))⟩
  ·rw[eL,hg];rfl
  ·rw[← hL]at hn
   rw[xU,yZy hn]
   exact⟨i.b,rfl,rfl,rfl,rfl,rfl,rfl,rfl,rfl,rfl,rfl,hR⟩
 have hg:=hT.get
 have hh:=hT.has
 rw[← hL]at hg hh
 obtain⟨hsg,hq1,hq2⟩:=zVm c hT
 have hqq:(dC i.L i.id).qty=(i.b.a.slotAt k).qty:=by rw[hg];rfl
 refine⟨jV _ _,ax,s,r.price,k,.inl ⟨?_,rfl⟩,Cv.cnd.mk (fun e=>absurd e (by simp)) (fun _=>⟨⟨i.b.a,k,i.qty⟩,rfl,rfl,rfl,c.okAt,fun _ _=> ?_⟩)⟩
 ·rw[eL,hT.e];rfl
 dsimp only
 have hu:i.b.a.usedAt k=ax:=by
  cases hu:i.b.a.usedAt k with
  |true=>rfl
  |false=>rw[Arena.getF,yZx (by rw[hu];decide)]at hsg;exact absurd (congrArg Prod.snd hsg) (by simp)
 by_cases hb:i.qty<1∨(i.b.a.slotAt k).qty<i.qty
 ·have ht:i.b.a.takeF k i.qty=(i.b.a,24):=by rw[Arena.takeF,yZx (by rw[hu];decide),y0s,yZy hb]
  rw[ht]
  refine Cv.cnd.mk (fun _=> ?_) (fun e=>absurd e (by simp))
  rw[xU,yZx (by rw[hh];decide),yZy (by rw[hqq];exact hb)]
  exact⟨i.b,rfl,rfl,rfl,rfl,rfl,rfl,rfl,rfl,rfl,rfl,hR⟩
 have hfl:xU i.L i.id i.qty=(uO i.L i.id i.qty,0):=by rw[xU,yZx (by rw[hh];decide),yZx (by rw[hqq];exact hb)]
 by_cases hf:i.qty=(i.b.a.slotAt k).qty
 ·obtain⟨g1,g2,g3,g4,g5,g6⟩:=c.gone (by rw[← hL];exact ht) hT (q:=i.qty) ⟨by omega,hf⟩
  rw[← hL]at g2
  have hsm:=c.small
  rw[g1]
  refine Cv.cnd.mk (fun e=>absurd e (by simp)) (fun _=>dup ⟨⟨(i.b.a.takeF k i.qty).1,k⟩,rfl,rfl,by dsimp only;rw[g3];decide,fun _ _=> ?_⟩)
  dsimp only
  rw[g5]
  refine Cv.cnd.mk (fun _=> ?_) (fun e=>absurd e (by simp))
  rcases hT.hs with rfl|rfl
  ·refine⟨⟨⟨{i.b with a:=(i.b.a.takeF k i.qty).1},i.id,r.price,k⟩,ay⟩,rfl,rfl,rfl,rfl,rfl,rfl,rfl,rfl,rfl,rfl,rfl,rfl,rfl,⟨⟨⟨by dsimp only;rw[g3];decide,by dsimp only;rw[g4];exact hsm.1.2⟩,hsm.2⟩,g6⟩,fun _ _=> ?_⟩
   refine⟨({i.b with a:=(i.b.a.takeF k i.qty).1}:Book).dropF 1 i.id r.price,by rw[hfl],rfl,rfl,rfl,rfl,rfl,rfl,rfl,rfl,rfl,by rw[hfl];exact g2⟩
  ·refine⟨⟨⟨{i.b with a:=(i.b.a.takeF k i.qty).1},i.id,r.price,k⟩,ax⟩,rfl,rfl,rfl,rfl,rfl,rfl,rfl,rfl,rfl,rfl,rfl,rfl,rfl,⟨⟨⟨by dsimp only;rw[g3];decide,by dsimp only;rw[g4];exact hsm.1.2⟩,hsm.2⟩,g6⟩,fun _ _=> ?_⟩
   refine⟨({i.b with a:=(i.b.a.takeF k i.qty).1}:Book).dropF 2 i.id r.price,by rw[hfl],rfl,rfl,rfl,rfl,rfl,rfl,rfl,rfl,rfl,by rw[hfl];exact g2⟩
 ·obtain⟨g1,g2,g3,g4,g5⟩:=c.less (by rw[← hL];exact ht) hT (q:=i.qty) (by omega)
  rw[← hL]at g2
  rw[g1]
  refine Cv.cnd.mk (fun e=>absurd e (by simp)) (fun _=>dup ⟨⟨(i.b.a.takeF k i.qty).1,k⟩,rfl,rfl,by dsimp only;rw[g3];decide,fun _ _=> ?_⟩)
  dsimp only
  rw[g4]
  refine Cv.cnd.mk (fun e=>absurd e (by simp)) (fun _=>Cv.cnd.mk (fun e=> ?_) (fun _=> ?_))
  ·have e:¬((i.b.a.takeF k i.qty).1.slotAt k).ent.id=i.id:=by simpa using e
   exact absurd g5 e
  ·exact⟨{i.b with a:=(i.b.a.takeF k i.qty).1},by rw[hfl],rfl,rfl,rfl,rfl,rfl,rfl,rfl,rfl,rfl,by rw[hfl];exact g2⟩
theorem yHo:fillC.ok Tryz.prog 211:=okw mixed (gokc yGg (gokc z5s (gokc yKp gok0))) 0 (fun _=>[]) (fun _=>[]) [0] Tryz.func211 yWt
theorem zTu (A B:List zK) (s p:Int):atL (A++B) s p=atL A s p++atL B s p:=y2w _ _
theorem zUb {A:List zK} {s p:Int} (h:∀o∈A,o.side=s→o.price≠p):atL A s p=[]:=by
 rw[atL,y3t]
 intro o ho
 by_cases e:o.side=s
 ·simp[h o ho e]
 ·simp[e]
theorem yLg {A:List zK} {s p:Int} (h:∀o∈A,o.side=s∧o.price=p):atL A s p=A:=by
 rw[atL,y3u]
 intro o ho
 simp[h o ho]
theorem zNv {s x y:Int} (h:btr s x y=ax):x≠y:=by
 rintro rfl;rw[lF]at h;cases h
theorem Book.Core.at_no {b:Book} {Q:List (List Nat)} (c:b.Core Q (-1)) {s p:Int} (hs:s=1∨s=2) (h:kL s (b.rungs s) p=ay):atL (b.flat Q) s p=[]:=by
 have hsp:=zAx (p:=p) (c.srt s hs)
 rw[yZx (by rw[h];decide)]at hsp
 refine zUb fun o ho e=> ?_
 obtain⟨_,r,hr,_,hp⟩:=mX ho
 rw[e]at hr
 rw[hp]
 rw[← y2g (zW s (b.rungs s) p) (b.rungs s)]at hr
 rcases y0u.1 hr with hr|hr
 ·exact zNv (hsp.1 r hr)
 ·exact(zNv (hsp.2 r hr)).symm
theorem Book.Core.at_yes {b:Book} {Q:List (List Nat)} (c:b.Core Q (-1)) {s p:Int} (hs:s=1∨s=2) (h:kL s (b.rungs s) p=ax):∃r,(b.rungs s)[zW s (b.rungs s) p]? =az r∧r.price=p∧r∈b.rungs s∧atL (b.flat Q) s p=b.rOrds Q s r:=by
 have hsp:=zAx (p:=p) (c.srt s hs)
 rw[yZy h]at hsp
 obtain⟨h1,r,hr,hp,h2⟩:=hsp
 have hlt:=(yZz.1 hr).1
 refine⟨r,hr,hp,y0g hr,?_⟩
 have hsplit:b.rungs s=(b.rungs s).take (zW s (b.rungs s) p)++r::(b.rungs s).drop (zW s (b.rungs s) p+1):=by
  conv=>lhs;rw[← y2g (zW s (b.rungs s) p) (b.rungs s)]
  rw[y2x hlt,(yZz.1 hr).2]
 have hside:atL (b.sideL Q s) s p=b.rOrds Q s r:=by
  rw[Book.sideL,hsplit,y1u,y1s,zTu,zTu,zUb,yLg,zUb,y0v,y2e]
  ·intro o ho _
   obtain⟨r',hr',ho⟩:=y2s.1 ho
   rw[(x9 ho).2];exact(zNv (h2 r' hr')).symm
  ·intro o ho
   rw[← hp];exact x9 ho
  ·intro o ho _
   obtain⟨r',hr',ho⟩:=y2s.1 ho
   rw[(x9 ho).2];exact zNv (h1 r' hr')
 have hother:∀s',s'≠s→atL (b.sideL Q s') s p=[]:=fun s' hne=>zUb fun o ho e=>absurd ((aC ho).1.symm.trans e) hne
 rw[Book.flat,zTu]
 rcases hs with rfl|rfl
 ·rw[hside,hother 2 (by decide),y0v]
 ·rw[hside,hother 1 (by decide),y2e]
theorem Book.Core.listOk {b:Book} {Q:List (List Nat)} (c:b.Core Q (-1)) {s:Int} (hs:s=1∨s=2) {r:xG} (hr:r∈b.rungs s):b.a.listOk r.queue (y7 Q r):=by
 have hg:=c.get hs hr
 have hrq:=c.rng _ (uQ hs hr)
 refine⟨by have:=c.wf.toWf0.short hg;omega,?_⟩
 rw[yZy ⟨hrq.1,by rw[c.wf.ql];exact hrq.2⟩,zT (c.wf.q _ _ hg)]
 exact zQb (c.wf.sg _ _ hg)
theorem yYc (i:AtI) (h:at1C.cnd i):yUm i:=by
 obtain⟨Q,c,ht,hL⟩:i.b.Rep i.L:=h
 unfold yUm gT vV x0 xO qR dI
 refine⟨1,rfl,trivial,fun _ _=>Cv.cnd.mk (fun e=>absurd e (by decide)) fun _=>⟨⟨i.b,i.price⟩,rfl,rfl,rfl,rfl,rfl,rfl,rfl,rfl,rfl,rfl,rfl,c.small,fun _ _=>Cv.cnd.mk (fun e=> ?_) (fun e=> ?_)⟩⟩
 ·have e:kL 1 (i.b.rungs 1) i.price=ay:=by simpa using e
  have:=c.at_no (.inl rfl) e
  rw[← hL]at this
  refine⟨(),rfl,rfl,rfl,rfl,rfl,rfl,rfl,rfl,rfl,?_,trivial⟩
  show aa wU (atL i.L 1 i.price)=[]
  rw[this];rfl
 ·have e:kL 1 (i.b.rungs 1) i.price=ax:=by simpa using e
  obtain⟨r,hr,hp,hm,ha⟩:=c.at_yes (.inl rfl) e
  rw[← hL]at ha
  have hlt:=(yZz.1 hr).1
  refine⟨⟨by omega,by rw[y0a];exact Int.ofNat_lt.2 hlt⟩,r.price,r.queue,elA hr (by simp[zC]) rfl,⟨i.b,1,r,y7 Q r⟩,rfl,rfl,rfl,rfl,rfl,rfl,rfl,rfl,rfl,rfl,rfl,rfl,c.listOk (.inl rfl) hm,fun _ _=>⟨(),rfl,?_,trivial⟩⟩
  show aa wU (atL i.L 1 i.price)=_
  rw[ha,BoI.ords,Book.rOrds,Arena.ents];simp only[y2o];rfl
theorem yTq:at1C.ok Tryz.prog 262:=okw mixed (gokc sX (gokc zKw (gokc zQq gok0))) 0 (fun _=>[]) (fun _=>[]) [0] Tryz.func262 yYc
theorem yYl (i:AtI) (h:at2C.cnd i):yVq i:=by
 obtain⟨Q,c,ht,hL⟩:i.b.Rep i.L:=h
 unfold yVq g8 vK x0 xP qR dI
 refine⟨2,rfl,trivial,fun _ _=>Cv.cnd.mk (fun e=>absurd e (by decide)) fun _=>⟨⟨i.b,i.price⟩,rfl,rfl,rfl,rfl,rfl,rfl,rfl,rfl,rfl,rfl,rfl,c.small,fun _ _=>Cv.cnd.mk (fun e=> ?_) (fun e=> ?_)⟩⟩
 ·have e:kL 2 (i.b.rungs 2) i.price=ay:=by simpa using e
  have:=c.at_no (.inr rfl) e
  rw[← hL]at this
  refine⟨(),rfl,rfl,rfl,rfl,rfl,rfl,rfl,rfl,rfl,?_,trivial⟩
  show aa wU (atL i.L 2 i.price)=[]
  rw[this];rfl
 ·have e:kL 2 (i.b.rungs 2) i.price=ax:=by simpa using e
  obtain⟨r,hr,hp,hm,ha⟩:=c.at_yes (.inr rfl) e
  rw[← hL]at ha
  have hlt:=(yZz.1 hr).1
  refine⟨⟨by omega,by rw[y0a];exact Int.ofNat_lt.2 hlt⟩,r.price,r.queue,elA hr (by simp[zC]) rfl,⟨i.b,2,r,y7 Q r⟩,rfl,rfl,rfl,rfl,rfl,rfl,rfl,rfl,rfl,rfl,rfl,rfl,c.listOk (.inr rfl) hm,fun _ _=>⟨(),rfl,?_,trivial⟩⟩
  show aa wU (atL i.L 2 i.price)=_
  rw[ha,BoI.ords,Book.rOrds,Arena.ents];simp only[y2o];rfl
theorem yQn:at2C.ok Tryz.prog 262:=okw mixed (gokc sX (gokc zMj (gokc zQq gok0))) 0 (fun _=>[]) (fun _=>[]) [0] Tryz.func262 yYl
theorem yUz:atC.ok Tryz.prog 262:=fun j=>match j with
 |⟨b,L,ay,p⟩=>yTq ⟨b,L,ay,p⟩
 |⟨b,L,ax,p⟩=>yQn ⟨b,L,ax,p⟩
open Go Cv Go.Proofs
def zYg (p:Int) (l:List zK):Lv:=⟨p,(l.map (·.qty)).sum,l.length⟩
theorem zKi:∀{l:List zK} {v:Lv} {vs:List Lv},grp l=v::vs→∃o r,l=o::r∧o.price=v.price
 |[],v,vs,h=>by cases h
 |o::r,v,vs,h=>by
  refine⟨o,r,rfl,?_⟩
  rw[grp]at h
  split at h
  ·cases h;rfl
  ·split at h
   ·rename_i e;cases h;exact e.symm
   ·cases h;rfl
theorem z3q {p:Int}:∀{l:List zK} {m:List zK},l≠[]→(∀o∈l,o.price=p)→(∀o r,m=o::r→o.price≠p)→grp (l++m)=zYg p l::grp m
 |[],m,h,_,_=>absurd rfl h
 |[o],m,_,h,hm=>by
  have e:=h o y0d
  rw[am,grp]
  split
  ·rename_i g;simp[zYg,e,g]
  ·rename_i v vs g
   obtain⟨o',r,e1,e2⟩:=zKi g
   have:=hm o' r e1
   rw[yZx (by omega)];simp[zYg,e,g]
 |o::o'::l,m,_,h,hm=>by
  have e:=h o y0d
  have ih:=z3q (l:=o'::l) (m:=m) (by simp) (fun x hx=>h x (y0c _ hx)) hm
  rw[y1p,grp,ih]
  dsimp only
  rw[yZy (show(zYg p (o'::l)).price=o.price from e.symm)]
  simp only[zYg,y0l,y1l,y0f]
  rfl
theorem zYn {f:xG→List zK}:∀{R:List xG},(∀r∈R,f r≠[]∧∀o∈f r,o.price=r.price)→R.Pairwise (fun r r'=>r.price≠r'.price)→grp (R.flatMap f)=R.map fun r=>zYg r.price (f r)
 |[],_,_=>rfl
 |r::R,h,hp=>by
  rw[y1w]at hp
  have ih:=zYn (R:=R) (fun x hx=>h x (y0c _ hx)) hp.2
  rw[y1s,z3q (h r y0d).1 (h r y0d).2,ih,y0l]
  intro o l e
  cases R with
  |nil=>cases e
  |cons r' R'=>
   rw[y1s]at e
   obtain⟨h1,h2⟩:=h r' (y0c _ y0d)
   cases hf:f r' with
   |nil=>exact absurd hf h1
   |cons x y=>
    rw[hf,y1p]at e
    cases e
    rw[h2 o (by rw[hf];exact y0d)]
    exact(hp.1 r' y0d).symm
theorem zOz {b:Book} {Q:List (List Nat)} {s:Int} (hs:s=1∨s=2):(b.flat Q).filter (fun o=>decide (o.side=s))=b.sideL Q s:=by
 have h1:∀s',(b.sideL Q s').filter (fun o=>decide (o.side=s))=if s'=s then b.sideL Q s' else[]:=by
  intro s'
  split
  ·rename_i e
   rw[y3u]
   intro o ho
   rw[(aC ho).1,e];simp
  ·rename_i e
   rw[y3t]
   intro o ho
   rw[(aC ho).1];simp[e]
 rw[Book.flat,y2w,h1,h1]
 rcases hs with rfl|rfl
 ·simp
 ·simp
theorem Book.Core.neL {b:Book} {Q:List (List Nat)} (c:b.Core Q (-1)) {s:Int} (hs:s=1∨s=2) {r:xG} (hr:r∈b.rungs s):y7 Q r≠[]:=c.ne s hs r hr fun e=>by have:=c.rng _ (uQ hs hr);omega
theorem Book.Core.toldL {b:Book} {Q:List (List Nat)} (c:b.Core Q (-1)) {s:Int} (hs:s=1∨s=2) {r:xG} (hr:r∈b.rungs s):b.told r=zYg r.price (b.rOrds Q s r):=by
 have hg:=c.get hs hr
 have hrq:=c.rng _ (uQ hs hr)
 have hq:=c.wf.q _ _ hg
 have hql:=c.wf.ql
 rw[Book.told,zSp hrq.1 hq,zYg,Book.rOrds,y2o,y0a]
 rfl
theorem Book.Core.lad {b:Book} {Q:List (List Nat)} (c:b.Core Q (-1)) {s:Int} (hs:s=1∨s=2):uU (b.flat Q) s=(b.rungs s).map b.told:=by
 rw[uU,zOz hs,Book.sideL,zYn]
 ·exact y1h fun r hr=>(c.toldL hs hr).symm
 ·intro r hr
  refine⟨fun e=>c.neL hs hr (List.map_eq_nil_iff.1 e),fun o ho=>(x9 ho).2⟩
 ·exact(c.srt s hs).imp fun h=>zNv h
theorem Book.Core.bestL {b:Book} {Q:List (List Nat)} (c:b.Core Q (-1)) {s:Int} (hs:s=1∨s=2):b.best (b.rungs s)=Sx.bestL (b.flat Q) s:=by
 rw[Sx.bestL,c.lad hs]
 cases b.rungs s<;>rfl
theorem Book.Core.cnt {b:Book} {Q:List (List Nat)} (c:b.Core Q (-1)):b.cntOk:=by
 intro q hq
 obtain⟨n,hn⟩:=y2q.1 hq
 have hlt:=(yZz.1 hn).1
 rw[c.wf.ql]at hlt
 obtain⟨l,hl⟩:=z8 hlt
 have:=c.wf.q n l hl
 rw[hn]at this
 cases this
 have:=c.wf.toWf0.short hl
 constructor<;>dsimp only<;>omega
def qU (L:List zK):Top:=(top0.buy (bestL L 1)).sell (bestL L 2)
theorem Book.Rep.top {b:Book} {L:List zK} (h:b.Rep L):b.top=qU L:=by
 obtain⟨Q,c,ht,rfl⟩:=h
 rw[Book.top,qU,← c.bestL (.inl rfl),← c.bestL (.inr rfl)];rfl
theorem Book.Rep.cnt {b:Book} {L:List zK} (h:b.Rep L):b.cntOk:=by
 obtain⟨Q,c,ht,rfl⟩:=h
 exact c.cnt
structure zKs (o:zK):Prop where
 s:o.side=1∨o.side=2
 q:1≤o.qty∧o.qty≤1000000
theorem Book.Rep.ords {b:Book} {L:List zK} (h:b.Rep L):(∀o∈L,zKs o)∧(L.map (·.id)).Nodup∧L.length≤250:=by
 obtain⟨Q,c,ht,rfl⟩:=h
 refine⟨fun o ho=> ?_,c.ids,?_⟩
 ·obtain⟨hs,r,hr,ho,hp⟩:=mX ho
  refine⟨hs,?_⟩
  obtain⟨k,hk,e⟩:=y1a.1 ho
  obtain⟨_,⟨_,_,h2⟩,_⟩:=c.wf.toWf0.mem (c.get hs hr) hk
  have eq:o.qty=(b.a.slotAt k).qty:=by rw[← e];rfl
  rw[eq]
  exact⟨c.wf.pos _ _ (c.get hs hr) _ hk,h2.q2⟩
 ·have hnd:(((b.rungs 1).flatMap (y7 Q)++(b.rungs 2).flatMap (y7 Q))).Nodup:=by
   have hm:((b.flat Q).map (·.id))=((b.rungs 1).flatMap (y7 Q)++(b.rungs 2).flatMap (y7 Q)).map fun k=>(b.a.slotAt k).id:=by
    rw[Book.flat,y0j,y0j,Book.sideL,Book.sideL,sW,sW,sW,sW]
    congr 1
    ·exact y8 fun r _=>by rw[Book.rOrds,y2o];rfl
    ·exact y8 fun r _=>by rw[Book.rOrds,y2o];rfl
   have:=c.ids
   rw[hm]at this
   exact List.Pairwise.of_map _ (fun a b hab e=>hab (by rw[e])) this
  have hl:(b.flat Q).length=((b.rungs 1).flatMap (y7 Q)++(b.rungs 2).flatMap (y7 Q)).length:=by
   rw[Book.flat,y0e,y0e,Book.sideL,Book.sideL,y5d,y5d,y5d,y5d]
   congr 1
   ·congr 1;exact y1h fun r _=>by rw[Book.rOrds,y0a]
   ·congr 1;exact y1h fun r _=>by rw[Book.rOrds,y0a]
  rw[hl]
  refine zNf 250 hnd fun k hk=> ?_
  rcases y0u.1 hk with hk|hk
  ·obtain⟨r,hr,hk⟩:=y2s.1 hk
   exact(c.wf.toWf0.mem (c.get (.inl rfl) hr) hk).1
  ·obtain⟨r,hr,hk⟩:=y2s.1 hk
   exact(c.wf.toWf0.mem (c.get (.inr rfl) hr) hk).1
theorem Book.Rep.fit {b:Book} {L:List zK} (h:b.Rep L):b.fit:=by
 obtain⟨Q,c,ht,rfl⟩:=h
 have hs:=c.small
 have h1:=c.ql
 have h2:=c.wf.ql
 have hqb:=c.qb
 rw[Book.qs,y0e,y0e,y0a,y0a]at h1
 refine⟨⟨hs.1.1,fun hf=> ?_,fun q hq=> ?_⟩,by omega,by omega,by omega,by omega⟩
 ·obtain⟨k,_,hk,hk1,hku,_⟩:=c.wf.toWf0.unused hf
  exact⟨_,y0g hk1,hku⟩
 ·obtain⟨n,hn⟩:=y2q.1 hq
  have hlt:=(yZz.1 hn).1
  rw[c.wf.ql]at hlt
  obtain⟨l,hl⟩:=z8 hlt
  have:=c.wf.q n l hl
  rw[hn]at this
  cases this
  dsimp only
  rcases wE l with e|⟨y,j,e,e2⟩
  ·exact .inl ((m3 l).2 e)
  ·rw[e2]
   have:=(c.wf.toWf0.mem hl (k:=j) (by rw[e];simp)).1
   rw[c.wf.len]
   exact .inr ⟨by omega,by omega⟩
def whL:Nat→List (List zK)→List (Int×Int)
 |_,[]=>[]
 |k,L::B=>L.map (fun o=>(o.id,(k:Int)))++whL (k+1) B
theorem whL_mem:∀{B:List (List zK)} {n:Nat} {x:Int×Int},x∈whL n B↔∃(k:Nat) (L:List zK),B[k]? =az L∧x.1∈L.map (·.id)∧x.2=((n+k:Nat):Int)
 |[],n,x=>by simp[whL]
 |L::B,n,x=>by
  rw[whL,y0u,whL_mem (B:=B)]
  constructor
  ·rintro(h|⟨k,L',h1,h2,h3⟩)
   ·obtain⟨o,ho,rfl⟩:=y1a.1 h
    exact⟨0,L,rfl,y1d (f:=(·.id)) ho,rfl⟩
   ·exact⟨k+1,L',h1,h2,by rw[h3];omega⟩
  ·rintro⟨k,L',h1,h2,h3⟩
   cases k with
   |zero=>
    cases h1
    obtain⟨o,ho,e⟩:=y1a.1 h2
    exact .inl (y1a.2 ⟨o,ho,Prod.ext e h3.symm⟩)
   |succ k=>exact .inr ⟨k,L',h1,h2,by rw[h3];omega⟩
theorem zIv:∀{B:List (List zK)} (n k:Nat),k<B.length→∃rest,∀X:List zK,(whL n (B.set k X)).Perm (X.map (fun o=>(o.id,((n+k:Nat):Int)))++rest)
 |[],n,k,h=>absurd h (by simp)
 |L::B,n,0,h=>⟨whL (n+1) B,fun X=> .refl _⟩
 |L::B,n,k+1,h=>by
  obtain⟨rest,hr⟩:=zIv (B:=B) (n+1) k (by simpa using h)
  refine⟨L.map (fun o=>(o.id,(n:Int)))++rest,fun X=> ?_⟩
  rw[y6c,whL]
  refine((hr X).append_left _).trans ?_
  rw[← y0i,← y0i,show n+1+k=n+(k+1)by omega]
  exact y2a.append_right _
structure MSt.Rep (s:MSt) (p:Prd) (B:List (List zK)):Prop where
 ep:s.p=p
 bl:s.books.length=B.length
 bk:∀(k:Nat) (b:Book) (L:List zK),s.books[k]? =az b→B[k]? =az L→b.Rep L
 wh:s.wh.Perm (whL 0 B)
 ids:((whL 0 B).map (·.1)).Nodup
def aF (B:List (List zK)) (id:Int):Option Nat:=B.findIdx? fun L=>wI L id
theorem gJ {B:List (List zK)} {id:Int} {k:Nat} (h:aF B id=az k):∃L,B[k]? =az L∧wI L id=ax:=by
 rw[aF,y3b]at h
 obtain⟨h1,h2,_⟩:=h
 exact⟨_,y1g h1,h2⟩
theorem z1n {B:List (List zK)} {id:Int} (h:aF B id=bc):∀L∈B,wI L id=ay:=by
 rw[aF,y4g]at h
 exact h
theorem zRr:∀{l:List (Int×Int)},(l.map (·.1)).Nodup→∀{k x:Int},(k,x)∈l→zBg l k=az x
 |[],_,k,x,hx=>by cases hx
 |p::l,h,k,x,hx=>by
  rw[y0l,y2l]at h
  rw[zBg,y6f]
  rcases y0m.1 hx with ex|hx
  ·subst ex;simp
  ·have:p.1≠k:=by rintro e;exact h.1 (e▸y1d (f:=(·.1)) hx)
   rw[y0k this]
   exact zRr h.2 hx
theorem z6n {l:List (Int×Int)} {k:Int} (h:k∉l.map (·.1)):zBg l k=bc:=by
 rw[zBg,Option.map_eq_none_iff,af]
 intro x hx e
 have e:x.1=k:=by simpa using e
 exact h (e▸y1d (f:=(·.1)) hx)
theorem MSt.Rep.keys {s:MSt} {p:Prd} {B:List (List zK)} (h:s.Rep p B):(s.wh.map (·.1)).Nodup:=(h.wh.map (·.1)).nodup_iff.2 h.ids
theorem MSt.Rep.at_ {s:MSt} {p:Prd} {B:List (List zK)} (h:s.Rep p B) (id:Int):zBg s.wh id=(aF B id).map (fun k:Nat=>(k:Int)):=by
 cases hi:aF B id with
 |none=>
  refine z6n fun hm=> ?_
  rw[(h.wh.map (·.1)).mem_iff]at hm
  obtain⟨x,hx,rfl⟩:=y1a.1 hm
  obtain⟨k,L,h1,h2,_⟩:=whL_mem.1 hx
  have:=z1n hi L (y0g h1)
  rw[hasId_iff.2 h2]at this;cases this
 |some k=>
  obtain⟨L,h1,h2⟩:=gJ hi
  refine zRr h.keys (h.wh.mem_iff.2 (whL_mem.2 ⟨k,L,h1,hasId_iff.1 h2,by simp⟩))
open Go Cv Go.Proofs
def kH (B:List (List zK)) (id q:Int):List (List zK)×Int:=match aF B id with
 |none=>(B,26)
 |some k=>(B.set k (xU (B.getD k []) id q).1,(xU (B.getD k []) id q).2)
theorem zLx {L:List zK} (h:(L.map (·.id)).Nodup) (id q:Int):((xU L id q).1.map (·.id)=L.map (·.id)∧wI (xU L id q).1 id=wI L id)∨((xU L id q).1=L.filter (fun o=> !decide (o.id=id))∧wI (xU L id q).1 id=ay):=by
 rw[xU]
 by_cases h1:wI L id=ay
 ·rw[yZy h1];exact .inl ⟨rfl,rfl⟩
 have h1:wI L id=ax:=by simpa using h1
 rw[yZx (by rw[h1];decide)]
 by_cases h2:q<1∨(dC L id).qty<q
 ·rw[yZy h2];exact .inl ⟨rfl,rfl⟩
 rw[yZx h2]
 dsimp only
 by_cases h3:(dC L id).qty=q
 ·refine .inr ?_
  have e:uO L id q=L.filter fun o=> !decide (o.id=id):=by rw[← h3];exact zPe h h1
  refine⟨e,?_⟩
  rw[e,wI,y6h]
  intro o ho
  rw[y2c]at ho
  simpa using ho.2
 ·refine .inl ?_
  have hm:(uO L id q).map (·.id)=L.map (·.id):=by
   have:uO L id q=L.map fun o=>if o.id=id then{o with qty:=o.qty-q}else o:=by
    rw[uO,← List.filterMap_eq_map]
    refine bS fun o ho=> ?_
    simp only[cn]
    by_cases e:o.id=id
    ·have hg:=nS h ho
     rw[e]at hg
     rw[yZy e,yZy e,yZx (fun e2=>h3 (by rw[hg];exact e2))]
    ·rw[yZx e,yZx e]
   rw[this,y2o]
   refine y1h fun o _=> ?_
   simp only[cn]
   split<;>rfl
  refine⟨hm,?_⟩
  rw[y4n,hasId_iff,hasId_iff,hm]
theorem z3x:∀{l:List (Int×Int)} {k:Int},(l.map (·.1)).Nodup→zZf k l=l.filter fun x=> !decide (x.1=k)
 |[],k,_=>rfl
 |(a,b)::l,k,h=>by
  rw[y0l,y2l]at h
  rw[zZf]
  by_cases e:k=a
  ·subst e
   rw[yZy rfl,y5b (by simp)]
   symm
   rw[y3u]
   intro x hx
   have:x.1≠k:=fun e=>h.1 (e▸y1d (f:=(·.1)) hx)
   simp[this]
  ·rw[yZx e,y5a (by simp[Ne.symm e]),z3x h.2]
theorem zUp:∀{l:List (Int×Int)} {k x:Int},k∉l.map (·.1)→zXn k x l=l++[(k,x)]
 |[],k,x,_=>rfl
 |p::l,k,x,h=>by
  rw[y0l,y0m,not_or]at h
  rw[zXn,yZx h.1,zUp h.2];rfl
theorem uA {α:Type} {l:List α} {k:Nat} {x:α} (h:l[k]? =az x):l.set k x=l:=by
 apply y3a
 intro i
 rw[y2r]
 split
 ·rename_i e
  subst e
  rw[yZy (yZz.1 h).1,h]
 ·rfl
theorem MSt.Rep.set {s:MSt} {p:Prd} {B:List (List zK)} (h:s.Rep p B) {k:Nat} {L':List zK} {b':Book} (hb:b'.Rep L') (hk:k<B.length) {wh':List (Int×Int)} (hw:wh'.Perm (whL 0 (B.set k L'))) (hi:((whL 0 (B.set k L')).map (·.1)).Nodup):({s with books:=s.books.set k b',wh:=wh'}:MSt).Rep p (B.set k L'):=by
 refine⟨h.ep,by simpa using h.bl,fun j b L h1 h2=> ?_,hw,hi⟩
 by_cases e:k=j
 ·subst e
  have h1:(s.books.set k b')[k]? =az b:=h1
  rw[fP (by rw[h.bl];exact hk)]at h1
  rw[fP hk]at h2
  cases h1;cases h2;exact hb
 ·have h1:(s.books.set k b')[j]? =az b:=h1
  rw[vX e]at h1 h2
  exact h.bk j b L h1 h2
theorem MSt.Rep.take {s:MSt} {p:Prd} {B:List (List zK)} (h:s.Rep p B) {id q:Int} {k:Nat} (hi:aF B id=az k) {L:List zK} (hL:B[k]? =az L) (hn:(L.map (·.id)).Nodup) {b':Book} (hb:b'.Rep (xU L id q).1):
 ({s with books:=s.books.set k b',wh:=if wI (xU L id q).1 id=ax then s.wh else zZf id s.wh}:MSt).Rep p (kH B id q).1:=by
 have hk:=(yZz.1 hL).1
 have ht:(kH B id q).1=B.set k (xU L id q).1:=by simp only[kH,hi,zT hL]
 obtain⟨L2,e1,hh⟩:=gJ hi
 rw[hL]at e1;cases e1
 obtain⟨rest,hr⟩:=zIv (B:=B) 0 k hk
 have hL0:=hr L
 rw[uA hL]at hL0
 rw[ht]
 rcases zLx hn id q with⟨e1,e2⟩|⟨e1,e2⟩
 ·have hm:∀X Y:List zK,X.map (·.id)=Y.map (·.id)→X.map (fun o=>(o.id,((0+k:Nat):Int)))=Y.map (fun o=>(o.id,((0+k:Nat):Int))):=by
   intro X Y e
   have:=congrArg (aa fun i:Int=>(i,((0+k:Nat):Int))) e
   rw[y2o,y2o]at this
   exact this
  have hp:(whL 0 (B.set k (xU L id q).1)).Perm (whL 0 B):=by
   refine(hr _).trans ?_
   rw[hm _ _ e1]
   exact hL0.symm
  rw[e2,hh,yZy rfl]
  exact h.set hb hk (h.wh.trans hp.symm) ((hp.map (·.1)).nodup_iff.2 h.ids)
 ·rw[e2,yZx (by decide)]
  have hrest:∀x∈rest,x.1≠id:=by
   intro x hx e
   have hnd:=(hL0.map (·.1)).nodup_iff.1 h.ids
   rw[y0j,y2o]at hnd
   have h1:id∈L.map ((·.1)∘fun o:zK=>(o.id,((0+k:Nat):Int))):=hasId_iff.1 hh
   exact(y2k.1 hnd).2.2 id h1 x.1 (y1d (f:=(·.1)) hx) e.symm
  have hp:(whL 0 (B.set k (xU L id q).1)).Perm ((whL 0 B).filter fun x=> !decide (x.1=id)):=by
   refine(hr _).trans (.trans ?_ (hL0.filter _).symm)
   rw[e1,y2w,ag]
   have:rest.filter (fun x=> !decide (x.1=id))=rest:=by
    rw[y3u]
    intro x hx
    simp[hrest x hx]
   rw[this]
   exact .refl _
  refine h.set hb hk ?_ ((hp.map (·.1)).nodup_iff.2 (h.ids.sublist (List.Sublist.map _ y5w)))
  rw[z3x h.keys]
  exact(h.wh.filter _).trans hp.symm
def z0d (p:Prd) (B:List (List zK)) (inst id:Int) (s price q:Int):List (List zK)×Int:=
 if inst<0∨B.length≤inst then(B,20)else if(aF B id).isSome=ax then(B,25)else if 250≤(whL 0 B).length then(B,13)else if p.price inst price≠0 then(B,p.price inst price)
 else(B.set inst.toNat (zIj (B.getD inst.toNat []) s id price q).1,(zIj (B.getD inst.toNat []) s id price q).2)
theorem yFp (L:List zK) (s id p q:Int):((zSa L s id p q).map (·.id)).Perm (id::L.map (·.id)):=by
 have:∀X:List zK,((X.takeWhile (before s p)++⟨id,s,p,q,gG L s p⟩::X.dropWhile (before s p)).map (·.id)).Perm (id::X.map (·.id)):=by
  intro X
  conv=>rhs;rw[← y5x (p:=before s p) (l:=X)]
  rw[y0j,y0l,y0j]
  exact y0q
 rw[zSa]
 split
 ·refine(this _).trans ?_
  rw[z2a]
 ·exact this _
theorem MSt.Rep.add {s:MSt} {p:Prd} {B:List (List zK)} (h:s.Rep p B) (inst id:Int) (sd:Bool) (price q:Int):
 (MSt.addF ⟨s,inst,id,sd,price,q⟩).1.Rep p (z0d p B inst id (zD sd) price q).1∧(MSt.addF ⟨s,inst,id,sd,price,q⟩).2=(z0d p B inst id (zD sd) price q).2:=by
 have hsd:zD sd=1∨zD sd=2:=by cases sd;exact .inl rfl;exact .inr rfl
 rw[MSt.addF,z0d]
 dsimp only
 rw[h.bl,h.at_,h.wh.length_eq,show s.p.price inst price=p.price inst price by rw[h.ep],Option.isSome_map]
 by_cases c1:inst<0∨(B.length:Int)≤inst
 ·rw[yZy c1,yZy c1];exact⟨h,rfl⟩
 rw[yZx c1,yZx c1]
 by_cases c2:(aF B id).isSome=ax
 ·rw[yZy c2,yZy c2];exact⟨h,rfl⟩
 rw[yZx c2,yZx c2]
 by_cases c3:250≤(whL 0 B).length
 ·rw[yZy c3,yZy c3];exact⟨h,rfl⟩
 rw[yZx c3,yZx c3]
 by_cases c4:p.price inst price≠0
 ·rw[yZy c4,yZy c4];exact⟨h,rfl⟩
 rw[yZx c4,yZx c4]
 obtain⟨k,hk⟩:∃k:Nat,inst=k:=⟨inst.toNat,by omega⟩
 subst hk
 rw[y0s]
 have hkl:k<B.length:=by omega
 obtain⟨b,hb⟩:=z8 (l:=s.books) (i:=k) (by rw[h.bl];exact hkl)
 obtain⟨L,hL⟩:=z8 (l:=B) (i:=k) hkl
 have hba:s.bookAt k=b:=by rw[MSt.bookAt,y0s];exact zT hb
 rw[hba,zT hL]
 obtain⟨r1,r2⟩:=(h.bk k b L hb hL).add hsd id price q
 refine⟨?_,r2⟩
 rw[r2]
 obtain⟨rest,hr⟩:=zIv (B:=B) 0 k hkl
 have hL0:=hr L
 rw[uA hL]at hL0
 have hcase:(zIj L (zD sd) id price q).2≠0∧(zIj L (zD sd) id price q).1=L∨(zIj L (zD sd) id price q).2=0∧(zIj L (zD sd) id price q).1=zSa L (zD sd) id price q:=by
  rw[zIj]
  repeat' split
  ·exact .inl ⟨by simp,rfl⟩
  ·exact .inl ⟨by simp,rfl⟩
  ·exact .inl ⟨by simp,rfl⟩
  ·exact .inr ⟨rfl,rfl⟩
 rcases hcase with⟨e1,e2⟩|⟨e1,e2⟩
 ·rw[yZx e1]
  refine h.set r1 hkl ?_ ?_
  ·rw[e2,uA hL];exact h.wh
  ·rw[e2,uA hL];exact h.ids
 ·rw[yZy e1]
  have hnk:id∉s.wh.map (·.1):=by
   intro hm
   obtain⟨x,hx,rfl⟩:=y1a.1 hm
   have:=zRr h.keys hx
   rw[h.at_]at this
   cases hq:aF B x.1 with
   |none=>rw[hq]at this;cases this
   |some j=>rw[hq]at c2;exact c2 rfl
  have hp:(whL 0 (B.set k (zIj L (zD sd) id price q).1)).Perm ((id,(k:Int))::whL 0 B):=by
   refine(hr _).trans (.trans ?_ (hL0.symm.cons _))
   rw[e2,← y1p]
   refine co _ ?_
   have:=(yFp L (zD sd) id price q).map fun i:Int=>(i,(k:Int))
   rw[y2o,y0l,y2o]at this
   rw[y0w]
   exact this
  refine h.set r1 hkl ?_ ((hp.map (·.1)).nodup_iff.2 (y2l.2 ⟨?_,h.ids⟩))
  ·rw[zUp hnk]
   exact(y4s _ _).trans ((h.wh.cons _).trans hp.symm)
  ·rw[← (h.wh.map (·.1)).mem_iff];exact hnk
theorem zUg:∀(n k:Nat),whL k (ab n [])=[]
 |0,_=>rfl
 |n+1,k=>by rw[y4o,whL,zUg];rfl
theorem z0k (p:Prd):(mF p).Rep p (ab p.count []):=by
 refine⟨rfl,by simp[mF],fun k b L h1 h2=> ?_,?_,?_⟩
 ·have e1:b=book0:=y5v (y0g (show(ab p.count book0)[k]? =az b from h1))
  have e2:L=[]:=y5v (y0g h2)
  rw[e1,e2];exact z7m
 ·rw[zUg];exact .refl _
 ·rw[zUg];exact aj
open Go Cv Go.Proofs
def yNh (s:Bool):Con:=con1 BkL (fun i=>[.nm 0 0,zA (zD s)]) (fun i=>[z6 i.b]) (fun i=>i.b.Rep i.L) (fun _=> .own 1) (fun i=>[z6 i.b,.own 41 3 ((uU i.L (zD s)).map lvE)])
def lad1C:Con:=yNh ay
def lad2C:Con:=yNh ax
def yWy (s:Bool) (i:BkL):List SAnn:=[{ι:=Nat,slots:=fun j=>[(5,.own 0),(19,zA j)],rows:=fun j=>[.own 41 3 (((uU i.L (zD s)).take j).map lvE)]}]
structure BkT where
 b:Book
 L:List zK
 s:Bool
def ladC:Con:=con1 BkT (fun i=>[.nm 0 0,zA (zD i.s)]) (fun i=>[z6 i.b]) (fun i=>i.b.Rep i.L) (fun _=> .own 1) (fun i=>[z6 i.b,.own 41 3 ((uU i.L (zD i.s)).map lvE)])
@[reducible] def yEk (s:MSt):List AObj:=[xL s 0,xL s 1,xL s 2,xL s 3,xL s 4]
def topsOC:Con:=con1 MSt (fun _=>[.nm 0 0]) (fun s=>yEk s) MSt.cntOk (fun s=> .own 5) (fun s=>yEk s++[.own 252 6 (s.tops.map zX)])
structure StI where
 s:MSt
 p:Prd
 B:List (List zK)
 id:Int
 q:Int
def stakeC:Con where
 ι:=StI
 pat:=fun i=>[.nm 0 0,zA i.id,zA i.q]
 pre:=fun i=>[zF i.s]
 cnd:=fun i=>i.s.Rep i.p i.B∧i.B.length≤1000
 alts:=fun i=>[{o:=MSt,res:=fun _=>zA (kH i.B i.id i.q).2,post:=fun s=>[zF s],rel:=fun s=>s.Rep i.p (kH i.B i.id i.q).1}]
def yG (B:List (List zK)) (id:Int):Int×zK×Bool:=match aF B id with
 |none=>(0,yQm,ay)
 |some k=>(k,dC (B.getD k []) id,ax)
def sfindC:Con:=con1 StI (fun i=>[.nm 0 0,zA i.id]) (fun i=>[zF i.s]) (fun i=>i.s.Rep i.p i.B∧i.B.length≤1000) (fun i=> .tup [zA (yG i.B i.id).1,z9g (yG i.B i.id).2.1,yF (yG i.B i.id).2.2]) (fun i=>[zF i.s])
end Sx
