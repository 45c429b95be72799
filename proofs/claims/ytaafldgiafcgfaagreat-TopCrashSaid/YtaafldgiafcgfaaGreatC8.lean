/- Texts of ours. No condition. -/
import Derived.Test.YtaafldgiafcgfaaGreatC7
set_option linter.all false
open List renaming map->aa,replicate->ab,take->ac,getElem?_modify->ae,pairwise_append->af,length_erase_of_mem->ag,getElem?_replicate->aj,filter_eq_nil_iff->ak,range->am,drop->ao
open Sx.AObj renaming adt->ap,cells->aq,own->ar,fro->au,map->av
open Bool renaming true->aw,false->ax
open Option renaming some->ay,none->az
open Go.Builtin renaming zeroCells->ba,firstCells->bc,append_->be
open Go.IntKind renaming i64->bg
open Go renaming Value->bo,World->bu,Program->bv,size_zeroCells->bz,TypeId->cd,Addr->ce
open Go.Value renaming int->cf,string->cg
open Function renaming comp->ci
open List.Perm renaming append_right->cm,append_left->cn
open And renaming intro->co
namespace Sx
set_option maxRecDepth 100000
open Go Cv Go.Proofs
def yGl {l:List Int} {q r:Int} (h:yU l q=aw) (h0:0<=r) (h1:r<=q):yU l r=aw:=by
 obtain⟨a,b,c,d⟩:=jE h;have e:(l.all λn=>decide (1<=n) && decide (n<=1000000))=aw:=by
  rw[y8h];intro x hx;simpa using c x hx
 rw[yU,e,y5s a,y5s h0,y5s (show r<=l.sum by omega)];rfl
def getD_none {l:List Int} {n:Nat} (h:l[n]? =az):l.getD n 0=0:=by rw[y5k,h];rfl
def zDe {l:List Int} {q:Int} (h:yU l q=aw) (n:Nat):0<=l.getD n 0/\l.getD n 0<=1000000:=by
 cases hn:l[n]? with
 |none=>rw[getD_none hn];decide
 |some x=>rw[zU hn];have:=(jE h).2.2.1 x (y5m hn);omega
def z9v {l:List Int} {q:Int} (h:yU l q=aw) (n:Nat):0<=(hY l q).getD n 0/\(hY l q).getD n 0<=l.getD n 0:=by
 rw[hY,y5d h];obtain⟨a,b,c,d⟩:=jE h;cases hn:l[n]? with
 |none=>
  have:(uR l q)[n]? =az:=by rw[List.getElem?_eq_none_iff,eQ];exact List.getElem?_eq_none_iff.1 hn
  rw[getD_none hn,getD_none this];decide
 |some x=>
  rw[zU hn,zU (zOu l q n x hn)];have:=zHm l q n b (λy hy=>by have:=c y hy;omega);have:=c x (y5m hn);omega
def y3s (i:SpI) (h:splC.cnd i):yYv i:=by
 obtain⟨hl,hq,hle,hpa⟩:i.l.length<=1000000/\i64r i.q/\i64r i.least/\i64r i.part:=h;unfold yYv zDx j6;have no (e:¬(yU i.l i.q=aw/\0<=i.part/\i.part<=100/\1<=i.least)):zDg i=[]:=by rw[zDg,y5b e]
 refine⟨⟨i.l,i.q⟩,rfl,rfl,⟨hl,hq⟩,λ_ _=>Cv.cnd.mk (λc=> ?_) (λc=>zI (λd=> ?_) (λd=>zI (λe=> ?_) (λe=>zI (λf=> ?_) (λf=> ?_))))⟩
 ·have c:yU i.l i.q=ax:=by simpa using c
  exact⟨(),by rw[no (by rw[c];simp)];rfl,trivial⟩
 ·exact⟨(),by rw[no (by omega)];rfl,trivial⟩
 ·exact⟨(),by rw[no (by omega)];rfl,trivial⟩
 ·exact⟨(),by rw[no (by omega)];rfl,trivial⟩
 have c:yU i.l i.q=aw:=by simpa using c
 obtain⟨h1,h2,h3,h4⟩:=jE c;have hq2:=zLa c;have m0:0<=i.q*i.part:=xBk h2 (by omega);have m1:i.q*i.part<=i.q*100:=y9y (by omega) h2;have hr:=yGl (r:=i.q*i.part / 100) c (by omega) (by omega);have es:zDg i=nQ i.rs:=by rw[zDg,y5d ⟨c,by omega,by omega,by omega⟩]
 refine⟨⟨i.q,i.part,100⟩,rfl,rfl,rfl,⟨by dsimp only;omega,by dsimp only;omega,by dsimp only;omega,by dsimp only;omega,by dsimp only;omega,by dsimp only;omega⟩,λ_ _=>⟨⟨i.l,i.q*i.part / 100⟩,rfl,rfl,⟨hl,by dsimp only;omega,by dsimp only;omega⟩,λ_ _=>⟨i.rs,rfl,rfl,?_,rfl,⟨h1,?_,?_,hle,?_⟩,λ_ _=>⟨(),by rw[es],trivial⟩⟩⟩⟩
 ·rw[w64 (by dsimp only;omega)];rfl
 ·show(hY i.l (i.q*i.part / 100)).length=i.l.length;rw[hY,y5d hr,eQ]
 ·show i64r (i.q-i.q*i.part / 100);exact⟨by omega,by omega⟩
 ·intro n;have a:=z9v hr n;have b:=zDe c n;exact⟨a.1,a.2,b.2⟩
def yTn:splC.ok Tryz.prog 214:=okw mixed (gokc zEm (gokc zQt (gokc z8o (gokc z5g gok0)))) 0 (λ_=>[]) (λ_=>[]) [] Tryz.func214 y3s
def yUe (n:Nat):ab n [D.v (.int .i64 0)]=iE (ab n 0):=by simp[iE]
def zZq (n k:Nat):(ab n (0:Int)).getD k 0=0:=by
 rw[y5k,aj];split<;>rfl
def yJn (n t k:Nat) (x:Int):((ab n (0:Int)).set t x).getD k 0=x/\k=t\/((ab n (0:Int)).set t x).getD k 0=0:=by
 rw[y5k,y8r];split
 ·rename_i e;split
  ·exact .inl ⟨rfl,e.symm⟩
  ·exact .inr rfl
 ·right;rw[<- y5k];exact zZq n k
def y2n (i:PsI) (h:proC.cnd i):yZq i:=by
 obtain⟨hl,hq,hle,hmo⟩:i.l.length<=1000000/\i64r i.q/\i64r i.least/\i64r i.most:=h;unfold yZq zMc tP zNp zOg zDx j6 dI;have no (e:¬(yU i.l i.q=aw/\1<=i.least/\0<=i.most)):zDy i=[]:=by rw[zDy,y5b e]
 refine⟨⟨i.l,i.q⟩,rfl,rfl,⟨hl,hq⟩,λ_ _=>Cv.cnd.mk (λc=> ?_) (λc=>zI (λd=> ?_) (λd=>zI (λe=> ?_) (λe=> ?_)))⟩
 ·have c:yU i.l i.q=ax:=by simpa using c
  exact⟨(),by rw[no (by rw[c];simp)];rfl,trivial⟩
 ·exact⟨(),by rw[no (by omega)];rfl,trivial⟩
 ·exact⟨(),by rw[no (by omega)];rfl,trivial⟩
 have c:yU i.l i.q=aw:=by simpa using c
 obtain⟨h1,h2,h3,h4⟩:=jE c;have hq2:=zLa c;have es:zDy i=nQ i.rs:=by rw[zDy,y5d ⟨c,by omega,by omega⟩]
 simp only[yZ,y5u,yUe];have out (hn:¬(0<=i.top/\i.top<(i.l.length:Int))):i.rs=⟨i.l,ab i.l.length 0,i.least,i.q⟩:=by rw[PsI.rs,y5b hn]
 have ok0:RsI.ok ⟨i.l,ab i.l.length 0,i.least,i.q⟩:=⟨h1,by simp,hq,hle,λn=>by
  have:=zDe c n;dsimp only;rw[zZq];omega⟩
 refine⟨⟨by omega,by omega,by omega,by omega⟩,zI (λa=>zI (λb=> ?_) (λb=> ?_)) (λa=> ?_)⟩
 ·obtain⟨n,hn⟩:=yC (l:=i.l) (i:=i.top.toNat) (by omega);have hf:i.first=min (min n i.most) i.q:=by rw[PsI.first,zU hn]
  have bn:=h3 n (y5m hn);have hr0:(ab i.l.length (0:Int))[i.top.toNat]? =ay 0:=by rw[aj,y5d (by omega)]
  have ers:i.rs=⟨i.l,(ab i.l.length 0).set i.top.toNat i.first,i.least,i.q-i.first⟩:=by rw[PsI.rs,y5d ⟨by omega,by omega⟩]
  refine⟨⟨by omega,by omega⟩,n,elI hn,?_⟩;rw[zUx hr0,<- hf];simp only[yZ,y6j,y8g];refine⟨⟨by omega,by omega⟩,by omega,⟨by omega,by omega⟩,i.first,elI (uL hr0),?_⟩;rw[w64 (x:=i.q-i.first) (by omega)];refine⟨⟨i.l,(ab i.l.length 0).set i.top.toNat i.first,i.least,i.q-i.first⟩,rfl,rfl,rfl,rfl,⟨h1,by simp,⟨by dsimp only;omega,by dsimp only;omega⟩,hle,λk=> ?_⟩,λ_ _=>⟨(),by rw[es,ers],trivial⟩⟩;have bk:=zDe c k;dsimp only;rcases yJn i.l.length i.top.toNat k i.first with⟨g,gk⟩|g
  ·rw[g,gk,zU hn];omega
  ·rw[g];omega
 ·refine⟨⟨i.l,ab i.l.length 0,i.least,i.q⟩,rfl,rfl,rfl,rfl,ok0,λ_ _=>⟨(),by rw[es,out (by omega)],trivial⟩⟩
 ·refine⟨⟨i.l,ab i.l.length 0,i.least,i.q⟩,rfl,rfl,rfl,rfl,ok0,λ_ _=>⟨(),by rw[es,out (by omega)],trivial⟩⟩
def yXx:proC.ok Tryz.prog 213:=okw mixed (gokc zEm (gokc z5g gok0)) 0 (λ_=>[]) (λ_=>[]) [] Tryz.func213 y2n
structure AlI where
 p:Prd
 l:List zH
 q:Int
def AlI.qs (i:AlI):List Int:=i.l.map (·.qty)
def kE (i:AlI):List Int:=if i.p.rule=1 then hY i.qs i.q else if i.p.rule=2 then zDy ⟨i.qs,topI i.l,i.p.top,i.p.least,i.q⟩else if i.p.rule=3 then zDg ⟨i.qs,i.p.part,i.p.least,i.q⟩else[]
def allocC:Con:=con1 AlI (λi=>[prdV i.p,roV 5 (i.l.map wW),zA i.q]) (λ_=>[]) (λi=>i.l.length<=1000/\i64r i.q/\i64r i.p.least/\i64r i.p.top/\i64r i.p.part) (λ_=> .own 0) (λi=>[.own 2 1 (iE (kE i))])
def yVl (i:AlI):List SAnn:=[{ι:=Nat,slots:=λj=>[(7,.own 0),(13,zA j)],rows:=λj=>[.own 2 1 (iE (i.qs.take j))]}]
def yEd (i:AlI):Prop:=
 ∃(a:Nat),(↑a:Int)=0/\iE (ac a i.qs)=[]/\∃(b:Nat->Prop),∃(c:Nat->Nat),b a/\∀(d:Nat),b d->cnd (decide ((↑d:Int)<(↑(aa wW i.l).length:Int))) ((0<=(↑d:Int)/\(↑d:Int)<(↑(aa wW i.l).length:Int))/\∃(e:Int),∃(f:Int),∃(g:Int),∃(h:Int),∃(j:Bool),zE (aa wW i.l) (↑d:Int).toNat 0 5=ay [dI e,dI f,dI g,dI h,D.v (.bool j)]/\((iE (ac d i.qs)).length+1)*(8:Nat)<=(140737488355328:Nat)/\∃(k:Nat),(↑k:Int)=bg.wrap ((↑d:Int)+1)/\iE (ac k i.qs)=iE (ac d i.qs)++[[dI h]]/\b k/\c k<c d/\dh (aq [V.d (D.v (cg (sb i.p.code))),V.own 0,V.d (dI i.p.tick),V.d (dI i.p.low),V.d (dI i.p.high),V.d (dI i.p.wide),V.d (dI i.p.rule),V.d (dI i.p.top),V.d (dI i.p.least),V.d (dI i.p.part),V.own 1] 25)/\dh (au 1 (iE i.p.settle))/\dh (au 1 (iE i.p.months))) (cnd (i.p.rule==1) (∃(e:LqI),iE e.l=iE (ac d i.qs)/\e.q=i.q/\(j6 e)/\∀(f:Unit),True->∃(g:Unit),iE (kE i)=iE (hY e.l e.q)/\True) (cnd (i.p.rule==2) (∃(e:List zH),aa wW e=aa wW i.l/\e.length<=1000000/\∀(f:Unit),True->∃(g:PsI),iE g.l=iE (ac d i.qs)/\g.top=topI e/\g.most=i.p.top/\g.least=i.p.least/\g.q=i.q/\(g.l.length<=1000000/\((-9223372036854775808)<=g.q/\g.q<=9223372036854775807)/\((-9223372036854775808)<=g.least/\g.least<=9223372036854775807)/\(-9223372036854775808)<=g.most/\g.most<=9223372036854775807)/\∀(h:Unit),True->∃(j:Unit),iE (kE i)=iE (zDy g)/\True) (cnd (i.p.rule==3) (∃(e:SpI),iE e.l=iE (ac d i.qs)/\e.part=i.p.part/\e.least=i.p.least/\e.q=i.q/\(e.l.length<=1000000/\((-9223372036854775808)<=e.q/\e.q<=9223372036854775807)/\((-9223372036854775808)<=e.least/\e.least<=9223372036854775807)/\(-9223372036854775808)<=e.part/\e.part<=9223372036854775807)/\∀(f:Unit),True->∃(g:Unit),iE (kE i)=iE (zDg e)/\True) (∃(e:Unit),iE (kE i)=[]/\True))))
def yUx (i:AlI) (h:allocC.cnd i):yEd i:=by
 obtain⟨hl,hq,hle,hto,hpa⟩:i.l.length<=1000/\i64r i.q/\i64r i.p.least/\i64r i.p.top/\i64r i.p.part:=h;have hql:i.qs.length=i.l.length:=by simp[AlI.qs]
 unfold yEd j6 dI;simp only[yZ,y5c];refine⟨0,by(first|exact rfl|exact trivial),by(first|exact rfl|exact trivial),λj=>j<=i.l.length,λj=>i.l.length-j,y6i _,λj hj=>zI (λc=> ?_) (λc=> ?_)⟩
 ·have hj':j<i.l.length:=by omega
  obtain⟨o,ho⟩:=yC (l:=i.l) (i:=j) hj';have hqo:i.qs[j]? =ay o.qty:=by rw[AlI.qs,y6q,ho];rfl
  refine⟨⟨by omega,by omega⟩,o.id,o.side,o.price,o.qty,o.top,yXw ho,by rw[y5t];omega,j+1,wjn (by omega),?_,hj',by dsimp only;omega,by(repeat'(first|exact trivial|exact rfl|apply co))⟩;rw[y6m,hqo];simp[iE]
 have hje:j=i.l.length:=by omega
 subst hje;rw[y5n (l:=i.qs) (by omega)];refine Cv.cnd.mk (λa=> ?_) (λa=>Cv.cnd.mk (λb=> ?_) (λb=>Cv.cnd.mk (λd=> ?_) (λd=> ?_)))
 ·have a:i.p.rule=1:=by simpa using a
  exact⟨⟨i.qs,i.q⟩,rfl,rfl,⟨by dsimp only;omega,hq⟩,λ_ _=>⟨(),by rw[kE,y5d a],trivial⟩⟩
 ·have a:¬i.p.rule=1:=by simpa using a
  have b:i.p.rule=2:=by simpa using b
  exact⟨i.l,rfl,by omega,λ_ _=>⟨⟨i.qs,topI i.l,i.p.top,i.p.least,i.q⟩,rfl,rfl,rfl,rfl,rfl,⟨by dsimp only;omega,hq,hle,hto⟩,λ_ _=>⟨(),by rw[kE,y5b a,y5d b],trivial⟩⟩⟩
 ·have a:¬i.p.rule=1:=by simpa using a
  have b:¬i.p.rule=2:=by simpa using b
  have d:i.p.rule=3:=by simpa using d
  exact⟨⟨i.qs,i.p.part,i.p.least,i.q⟩,rfl,rfl,rfl,rfl,⟨by dsimp only;omega,hq,hle,hpa⟩,λ_ _=>⟨(),by rw[kE,y5b a,y5b b,y5d d],trivial⟩⟩
 ·have a:¬i.p.rule=1:=by simpa using a
  have b:¬i.p.rule=2:=by simpa using b
  have d:¬i.p.rule=3:=by simpa using d
  exact⟨(),by rw[kE,y5b a,y5b b,y5b d];rfl,trivial⟩
def yKd:allocC.ok Tryz.prog 200:=okw mixed (gokc z8o (gokc yAc (gokc yXx (gokc yTn gok0)))) 0 (λ_=>[]) (λi=>yVl i) [] Tryz.func200 yUx
def vM (l:List Nat) (t:Int):Int:=match l with
 |[]=>t
 |k::_=>k
def kY:List Nat->Int->Int
 |[],p=>p
 |k::l,_=>kY l k
structure zVn (s:Slot) (n k:Nat) (p t:Int):Prop where
 used:s.used=aw
 no:s.n=k
 queue:s.queue=n
 ahead:s.ahead=p
 back:s.back=t
 q1:0<=s.qty
 q2:s.qty<=1000000
def seg (sl:List Slot) (n:Nat):Int->List Nat->Int->Prop
 |_,[],_=>True
 |p,k::l,t=>(∃s,sl[k]? =ay s/\zVn s n k p (vM l t))/\seg sl n k l t
def zGt (l1 l2:List Nat) (t:Int):vM (l1++l2) t=vM l1 (vM l2 t):=by cases l1<;>rfl
def bU:∀(l1 l2:List Nat) (p:Int),kY (l1++l2) p=kY l2 (kY l1 p)
 |[],l2,p=>rfl
 |k::l1,l2,p=>bU l1 l2 k
def lZ {sl:List Slot} {n:Nat}:∀{l1 l2:List Nat} {p t:Int},seg sl n p (l1++l2) t↔seg sl n p l1 (vM l2 t)/\seg sl n (kY l1 p) l2 t
 |[],l2,p,t=>by simp[seg,kY]
 |k::l1,l2,p,t=>by
  rw[y6t,seg,seg,zGt,lZ,kY,and_assoc]
def z5y {sl:List Slot} {n k:Nat}:∀{l:List Nat} {p t:Int},seg sl n p l t->k∈l->∃s p' t',sl[k]? =ay s/\zVn s n k p' t'
 |j::l,p,t,h,hk=>by
  rcases y5w.1 hk with rfl|hk
  ·obtain⟨⟨s,h1,h2⟩,_⟩:=h;exact⟨s,_,_,h1,h2⟩
  ·exact z5y h.2 hk
def vC {sl sl':List Slot} {n:Nat}:∀{l:List Nat} {p t:Int},(∀k∈l,sl'[k]? =sl[k]?)->seg sl n p l t->seg sl' n p l t
 |[],p,t,_,h=>h
 |k::l,p,t,e,⟨⟨s,h1,h2⟩,h3⟩=>⟨⟨s,by rw[e k y5h];exact h1,h2⟩,vC (λj hj=>e j (y5j _ hj)) h3⟩
def dU {α:Type} {l:List α} {f:α->α} {i j:Nat} (h:i≠j):(l.modify i f)[j]? =l[j]? :=by rw[ae];cases l[j]? <;>simp[h]
def tY {α:Type} {l:List α} {f:α->α} {i:Nat} {x:α} (h:l[i]? =ay x):(l.modify i f)[i]? =ay (f x):=by rw[ae,h];simp
def vY {α:Type} {l:List α} {x:α} {i j:Nat} (h:i≠j):(l.set i x)[j]? =l[j]? :=by rw[y8r,y5b h]
def fV {α:Type} {l:List α} {x:α} {i:Nat} (h:i<l.length):(l.set i x)[i]? =ay x:=by rw[y8r,y5d rfl,y5d h]
def bL {α:Type} {Q:List α} {n m:Nat} {x y:α} (h:(Q.set n x)[m]? =ay y):(m=n/\y=x)\/(m≠n/\Q[m]? =ay y):=by
 by_cases e:n=m
 ·subst e;have hn:n<Q.length:=by
   have:=(y5f.1 h).1;simpa using this
  rw[fV hn]at h;cases h;exact .inl ⟨rfl,rfl⟩
 ·rw[vY e]at h;exact .inr ⟨λc=>e c.symm,h⟩
def zXm {sl:List Slot} {n k:Nat} {l:List Nat} {p t:Int} (t':Int) (hk:k∉l) (h:seg sl n p (l++[k]) t):seg (sl.modify k λs=>{s with back:=t'}) n p (l++[k]) t':=by
 rw[lZ]at h ⊢;obtain⟨h1,⟨s,h2,h3⟩,_⟩:=h;refine⟨vC (λj hj=>dU (λe=>hk (e▸hj))) h1,⟨_,tY h2,?_⟩,trivial⟩;exact⟨h3.used,h3.no,h3.queue,h3.ahead,rfl,h3.q1,h3.q2⟩
def yCe {sl:List Slot} {n k:Nat} {l:List Nat} {p t:Int} (p':Int) (hk:k∉l) (h:seg sl n p (k::l) t):seg (sl.modify k λs=>{s with ahead:=p'}) n p' (k::l) t:=by
 obtain⟨⟨s,h1,h2⟩,h3⟩:=h;refine⟨⟨_,tY h1,?_⟩,vC (λj hj=>dU (λe=>hk (e▸hj))) h3⟩;exact⟨h2.used,h2.no,h2.queue,rfl,h2.back,h2.q1,h2.q2⟩
def wJ (l:List Nat):l=[]\/∃(x:List Nat) (j:Nat),l=x++[j]/\∀p:Int,kY l p=(j:Int):=by
 rcases List.eq_nil_or_concat l with rfl|⟨x,j,rfl⟩
 ·exact .inl rfl
 ·exact .inr ⟨x,j,by simp,λp=>by rw[List.concat_eq_append,bU];rfl⟩
def nF (l:List Nat):kY l (-1)= -1↔l=[]:=by
 rcases wJ l with rfl|⟨x,j,rfl,e⟩
 ·simp[kY]
 ·rw[e];simp
def zRr (l:List Nat):vM l (-1)= -1↔l=[]:=by
 cases l with
 |nil=>simp[vM]
 |cons k l=>simp only[vM];constructor
            ·intro h;omega
            ·intro h;cases h
def zAy {α β:Type} {g:α->β} {f:α->α} (h:∀x,g (f x)=g x):∀(l:List α) (i:Nat),(l.modify i f).map g=l.map g
 |[],i=>by simp
 |a::l,0=>by simp[h]
 |a::l,i+1=>by rw[xAl,y5p,y5p,zAy h l i]
def zMv:∀(m:Nat) {l:List Nat},l.Nodup->(∀k∈l,k<m)->l.length<=m
 |0,[],_,_=>y5x 0
 |0,k::l,_,h=>absurd (h k y5h) (by omega)
 |m+1,l,hn,h=>by
  have:=zMv m (hn.erase m) λk hk=>by
   have:=(hn.mem_erase_iff).1 hk;have:=h k this.2;omega
  by_cases hm:m∈l
  ·rw[ag hm]at this;omega
  ·rw[List.erase_of_not_mem hm]at this;omega
def z5h {f g:Nat->Int} {k:Nat}:∀{l:List Nat},l.Nodup->k∈l->(∀j∈l,j≠k->g j=f j)->(l.map g).sum=(l.map f).sum+(g k-f k)
 |j::l,hn,hk,h=>by
  have hn:=y7r.1 hn;rw[y5p,y5p,y6s,y6s];rcases y5w.1 hk with rfl|hk
  ·have:l.map g=l.map f:=y6k λi hi=>h i (y5j _ hi) (λe=>hn.1 (e▸hi))
   rw[this];omega
  ·have e:=h j y5h (λe=>hn.1 (e▸hk));rw[z5h hn.2 hk (λi hi=>h i (y5j _ hi)),e];omega
def yHk {f:Nat->Int} {m:Int}:∀{l:List Nat},(∀j∈l,0<=f j/\f j<=m)->0<=(l.map f).sum/\(l.map f).sum<=m*l.length
 |[],_=>by simp
 |j::l,h=>by
  have:=h j y5h;have:=yHk (l:=l) λi hi=>h i (y5j _ hi)
  rw[y5p,y6s,y5g,Int.natCast_add,Int.mul_add];simp only[Int.natCast_one,Int.mul_one];omega
def Arena.qsum (a:Arena) (l:List Nat):Int:=(l.map λk=>(a.slotAt k).qty).sum
structure Arena.Wf0 (a:Arena) (Q:List (List Nat)):Prop where
 len:a.slots.length=250
 ql:a.queues.length=Q.length
 q:∀(n:Nat) (l:List Nat),Q[n]? =ay l->a.queues[n]? =ay ⟨vM l (-1),kY l (-1),a.qsum l,l.length⟩
 sg:∀(n:Nat) (l:List Nat),Q[n]? =ay l->seg a.slots n (-1) l (-1)
 nd:∀(n:Nat) (l:List Nat),Q[n]? =ay l->l.Nodup
 us:∀(k:Nat) (s:Slot),a.slots[k]? =ay s->s.used=aw->∃(n:Nat) (l:List Nat),Q[n]? =ay l/\k∈l
 free:a.free=((a.slots.map (·.used)).countP (!·):Nat)
structure Arena.Wf (a:Arena) (Q:List (List Nat)):Prop extends a.Wf0 Q where
 pos:∀(n:Nat) (l:List Nat),Q[n]? =ay l->∀k∈l,1<=(a.slotAt k).qty
def Arena.Wf0.mem {a:Arena} {Q:List (List Nat)} (h:a.Wf0 Q) {n k:Nat} {l:List Nat} (hl:Q[n]? =ay l) (hk:k∈l):k<250/\(∃p t,zVn (a.slotAt k) n k p t)/\a.slots[k]? =ay (a.slotAt k):=by
 obtain⟨s,p,t,h1,h2⟩:=z5y (h.sg n l hl) hk;have e:a.slotAt k=s:=zU h1;have hlt:=(y5f.1 h1).1;rw[h.len]at hlt;exact⟨hlt,⟨p,t,by rw[e];exact h2⟩,by rw[e];exact h1⟩
def Arena.Wf0.one {a:Arena} {Q:List (List Nat)} (h:a.Wf0 Q) {n m k:Nat} {l l':List Nat} (hl:Q[n]? =ay l) (hl':Q[m]? =ay l') (hk:k∈l) (hk':k∈l'):n=m:=by
 obtain⟨_,⟨_,_,h1⟩,_⟩:=h.mem hl hk;obtain⟨_,⟨_,_,h2⟩,_⟩:=h.mem hl' hk';have:=h1.queue;have:=h2.queue;omega
def Arena.Wf0.short {a:Arena} {Q:List (List Nat)} (h:a.Wf0 Q) {n:Nat} {l:List Nat} (hl:Q[n]? =ay l):l.length<=250:=zMv 250 (h.nd n l hl) λk hk=>(h.mem hl hk).1
def aB {a a':Arena} {l:List Nat} (h:∀k∈l,(a'.slotAt k).qty=(a.slotAt k).qty):a'.qsum l=a.qsum l:=by rw[Arena.qsum,Arena.qsum,y6k h]
def Arena.Wf0.sum {a:Arena} {Q:List (List Nat)} (h:a.Wf0 Q) {n:Nat} {l:List Nat} (hl:Q[n]? =ay l):0<=a.qsum l/\a.qsum l<=250000000:=by
 have:=yHk (f:=λk=>(a.slotAt k).qty) (m:=1000000) (l:=l) λj hj=>by
  obtain⟨_,⟨_,_,h1⟩,_⟩:=h.mem hl hj;exact⟨h1.q1,h1.q2⟩
 have:=h.short hl;rw[Arena.qsum];omega
def zRm {sl:List Slot} {n:Nat}:∀{l:List Nat} {p:Int},seg sl n p l (-1)->zZw sl (vM l (-1)) l
 |[],p,_=>rfl
 |k::l,p,⟨⟨s,h1,h2⟩,h3⟩=>by
  refine⟨rfl,(y5f.1 h1).1,?_⟩;rw[zU h1,h2.back];exact zRm h3
def Arena.Wf0.ok {a:Arena} {Q:List (List Nat)} (h:a.Wf0 Q):a.okAt:=by
 refine⟨by rw[h.len];decide,λk s hk hu=> ?_⟩;obtain⟨n,l,hl,hkl⟩:=h.us k s hk hu;have hQ:=(y5f.1 hl).1;have hql:=h.ql;obtain⟨l1,l2,rfl⟩:=List.append_of_mem hkl;have hsg:=h.sg n _ hl;have hnd:=h.nd n _ hl;rw[lZ]at hsg;obtain⟨_,⟨s',h1,h2⟩,_⟩:=hsg;rw[hk]at h1;cases h1;have hq:=h2.queue;have hd:=y7l.1 hnd;have hd2:=y7r.1 hd.2.1;refine⟨⟨by omega,by omega⟩,h2.q2,?_,?_⟩
 ·rw[h2.ahead];rcases wJ l1 with rfl|⟨x,j,rfl,e⟩
  ·exact .inl rfl
  ·have hj:j∈x++[j]:=by simp
   have hjl:=(h.mem hl (y6u _ hj)).1;rw[e,h.len];refine .inr ⟨by omega,by omega,λe2=> ?_⟩;have:j=k:=by omega
   exact hd.2.2 j hj k y5h this
 ·rw[h2.back];cases l2 with
  |nil=>exact .inl rfl
  |cons j x=>
   have hjl:=(h.mem hl (y6x _ (y5j _ y5h))).1;rw[vM,h.len];refine .inr ⟨by omega,by omega,λe2=> ?_⟩;have:j=k:=by omega
   exact hd2.1 (this▸y5h)
def Arena.Wf0.open {a:Arena} {Q:List (List Nat)} (h:a.Wf0 Q):a.openQ.Wf0 (Q++[[]]):=by
 have g:∀{n:Nat} {l:List Nat},(Q++[[]])[n]? =ay l->Q[n]? =ay l\/(n=Q.length/\l=[]):=by
  intro n l hl;rw[List.getElem?_append]at hl;split at hl
  ·exact .inl hl
  ·rename_i hn;have:=(y5f.1 hl).1;simp only[y6z]at this;have e:n-Q.length=0:=by omega
   rw[e]at hl;cases hl;exact .inr ⟨by omega,rfl⟩
 refine⟨h.len,by simp[Arena.openQ,h.ql],λn l hl=> ?_,λn l hl=> ?_,λn l hl=> ?_,λk s hk hu=> ?_,h.free⟩
 ·rcases g hl with hl|⟨rfl,rfl⟩
  ·show(a.queues++[aH])[n]? =_;rw[y7x (by have:=(y5f.1 hl).1;have:=h.ql;omega)];exact h.q n l hl
  ·show(a.queues++[aH])[_]? =_;rw[<- h.ql,y7f (y5x _),xAp];rfl
 ·rcases g hl with hl|⟨rfl,rfl⟩
  ·exact h.sg n l hl
  ·trivial
 ·rcases g hl with hl|⟨rfl,rfl⟩
  ·exact h.nd n l hl
  ·exact List.nodup_nil
 ·obtain⟨n,l,hl,hkl⟩:=h.us k s hk hu;exact⟨n,l,by rw[y7x (y5f.1 hl).1];exact hl,hkl⟩
def Arena.Wf.open {a:Arena} {Q:List (List Nat)} (h:a.Wf Q):a.openQ.Wf (Q++[[]]):=by
 refine⟨h.toWf0.open,λn l hl k hk=> ?_⟩;rw[List.getElem?_append]at hl;split at hl
 ·exact h.pos n l hl k hk
 ·have:=(y5f.1 hl).1;simp only[y6z]at this;have e:n-Q.length=0:=by omega
  rw[e]at hl;cases hl;cases hk
def zOw {sl sl':List Slot} {n:Nat}:∀{l:List Nat} {p t:Int},(∀k∈l,∀s,sl[k]? =ay s->∃s',sl'[k]? =ay s'/\s'.used=s.used/\s'.n=s.n/\s'.queue=s.queue/\s'.ahead=s.ahead/\s'.back=s.back/\0<=s'.qty/\s'.qty<=1000000)->seg sl n p l t->seg sl' n p l t
 |[],p,t,_,h=>h
 |k::l,p,t,e,⟨⟨s,h1,h2⟩,h3⟩=>by
  obtain⟨s',q0,q1,q2,q3,q4,q5,q6,q7⟩:=e k y5h s h1;exact⟨⟨s',q0,⟨q1.trans h2.used,q2.trans h2.no,q3.trans h2.queue,q4.trans h2.ahead,q5.trans h2.back,q6,q7⟩⟩,zOw (λj hj=>e j (y5j _ hj)) h3⟩
def zUr (a:Arena) (n:Int) (t:Bool) (j:Nat):(a.topF n t).slotAt j=if a.usedAt n=aw/\j=n.toNat then{a.slotAt j with top:=t}else a.slotAt j:=by
 rw[Arena.topF];by_cases hu:a.usedAt n=aw
 ·rw[y5d hu];by_cases e:j=n.toNat
  ·subst e;rw[y5d ⟨hu,rfl⟩];have hlt:n.toNat<a.slots.length:=by
    simp only[Arena.usedAt,y5o,y6p]at hu;omega
   show(a.slots.modify n.toNat _).getD n.toNat slot0=_;obtain⟨s,hs⟩:=yC hlt;rw[zU (tY hs),xO hs]
  ·rw[y5b (λh=>e h.2)];show(a.slots.modify n.toNat _).getD j slot0=a.slots.getD j slot0;rw[y5k,dU (λh=>e h.symm),y5k]
 ·rw[y5b hu,y5b (λh=>hu h.1)]
def Arena.Wf.top {a:Arena} {Q:List (List Nat)} (h:a.Wf Q) (n:Int) (t:Bool):(a.topF n t).Wf Q:=by
 have hq:∀j,((a.topF n t).slotAt j).qty=(a.slotAt j).qty:=by
  intro j;rw[zUr];split<;>rfl
 by_cases hu:a.usedAt n=aw
 ·have e:a.topF n t={a with slots:=a.slots.modify n.toNat λs=>{s with top:=t}}:=by rw[Arena.topF,y5d hu]
  have hm:∀(k:Nat) (s:Slot),a.slots[k]? =ay s->∃s',(a.topF n t).slots[k]? =ay s'/\s'.used=s.used/\s'.n=s.n/\s'.queue=s.queue/\s'.ahead=s.ahead/\s'.back=s.back/\s'.qty=s.qty:=by
   intro k s hk;rw[e];by_cases ek:n.toNat=k
   ·subst ek;exact⟨_,tY hk,rfl,rfl,rfl,rfl,rfl,rfl⟩
   ·exact⟨s,by rw[dU ek];exact hk,rfl,rfl,rfl,rfl,rfl,rfl⟩
  have hl:(a.topF n t).slots.length=250:=by rw[e];simpa using h.len
  have hmu:(a.topF n t).slots.map (·.used)=a.slots.map (·.used):=by rw[e];exact zAy (g:=λs:Slot=>s.used) (f:=λs:Slot=>{s with top:=t}) (λ_=>rfl) _ _
  refine⟨⟨hl,by rw[e];exact h.ql,λm l hm'=> ?_,λm l hm'=> ?_,h.nd,λk s hk hs=> ?_,by rw[hmu];rw[e];exact h.free⟩,λm l hm' k hk=>by rw[hq];exact h.pos m l hm' k hk⟩
  ·rw[aB λk _=>hq k];rw[e];exact h.q m l hm'
  ·refine zOw (λk hk s hs=> ?_) (h.sg m l hm');obtain⟨s',q0,q1,q2,q3,q4,q5,q6⟩:=hm k s hs;obtain⟨_,⟨_,_,h2⟩,h3⟩:=h.mem hm' hk;rw[hs]at h3;cases h3;exact⟨s',q0,q1,q2,q3,q4,q5,by rw[q6];exact h2.q1,by rw[q6];exact h2.q2⟩
  ·have hlt:=(y5f.1 hk).1;rw[hl,<- h.len]at hlt;obtain⟨s0,h0⟩:=yC hlt;obtain⟨s',q0,q1,_⟩:=hm k s0 h0;rw[hk]at q0;cases q0;exact h.us k s0 h0 (by rw[<- q1];exact hs)
 ·have e:a.topF n t=a:=by rw[Arena.topF,y5b hu]
  rw[e];exact h
def zNz {sl:List Slot} {k:Nat} {s x:Slot} (hk:sl[k]? =ay s):((sl.set k x).map (·.used)).countP (!·)+(if s.used=aw then 0 else 1)=(sl.map (·.used)).countP (!·)+(if x.used=aw then 0 else 1):=by
 have hlt:=(y5f.1 hk).1;have e:(sl.map (·.used))[k]'(by simpa using hlt)=s.used:=by
  rw[List.getElem_map,(y5f.1 hk).2]
 rw[List.map_set,List.countP_set (by simpa using hlt),e];have hp:s.used=ax->1<=(sl.map (·.used)).countP (!·):=by
  intro h;apply List.countP_pos_iff.2;exact⟨s.used,y6g (y5m hk),by rw[h];rfl⟩
 generalize (sl.map (·.used)).countP (!·)=c at hp ⊢
 cases h1:s.used<;>cases h2:x.used
 all_goals
  simp only[h1,xAd,Bool.not_true,y5v,↓reduceIte,if_true,if_false]at hp ⊢
  try have hp:=hp trivial
  omega
def z7j {sl:List Slot}:(sl.map (·.used)).countP (!·)<=sl.length:=by
 have:=List.countP_le_length (p:=λb:Bool=> !b) (l:=sl.map (·.used))
 simpa using this
def Arena.Wf0.unused {a:Arena} {Q:List (List Nat)} (h:a.Wf0 Q) (hf:a.free≠0):∃k:Nat,kZ a.slots=k/\k<250/\a.slots[k]? =ay (a.slotAt k)/\(a.slotAt k).used=ax/\∀(n:Nat) (l:List Nat),Q[n]? =ay l->k∉l:=by
 have hx:∃s∈a.slots,s.used=ax:=by
  have hp:0<(a.slots.map (·.used)).countP (!·):=by have:=h.free;omega
  obtain⟨b,hb,hb2⟩:=List.countP_pos_iff.1 hp;obtain⟨s,hs,rfl⟩:=y6n.1 hb;exact⟨s,hs,by simpa using hb2⟩
 obtain⟨s,hs,hu⟩:=hx;cases hi:a.slots.findIdx? λs=> !s.used with
 |none=>
  rw[y9v]at hi;have:=hi s hs;rw[hu]at this;cases this
 |some k=>
  have hi':=hi;rw[y8k]at hi;obtain⟨hk,hku,_⟩:=hi;have hk1:a.slots[k]? =ay a.slots[k]:=y6e hk;have e:=xO hk1;rw[<- e]at hku;have hku:(a.slotAt k).used=ax:=by simpa using hku
  refine⟨k,by rw[kZ,hi'];rfl,by rw[<- h.len];exact hk,by rw[e];exact hk1,hku,λn l hl hkl=> ?_⟩;obtain⟨_,⟨_,_,h2⟩,_⟩:=h.mem hl hkl;have:=h2.used;rw[hku]at this;cases this
def Arena.Wf.put {a:Arena} {Q:List (List Nat)} (h:a.Wf Q) {n:Nat} {l:List Nat} (hl:Q[n]? =ay l) (hf:a.free≠0) {id qty:Int} (top:Bool) (hq:1<=qty/\qty<=1000000):
 ∃k:Nat,kZ a.slots=k/\k<250/\(a.slotAt k).used=ax/\(∀(m:Nat) (l:List Nat),Q[m]? =ay l->k∉l)/\(a.put n id qty top).Wf (Q.set n (l++[k]))/\
  (∀j,((a.put n id qty top).slotAt j).ent=if j=k then⟨k,id,qty,top⟩else(a.slotAt j).ent)/\(a.put n id qty top).free=a.free-1:=by
 obtain⟨k,hk,hk2,hk1,hku,hkn⟩:=h.toWf0.unused hf;have hkl:=hkn n l hl;have hnQ:=(y5f.1 hl).1;have hqn:=h.q n l hl;have hnq:a.queues.getD n aH=⟨vM l (-1),kY l (-1),a.qsum l,l.length⟩:=zU hqn;have hsum:=h.toWf0.sum hl;have hsh:=h.toWf0.short hl;have hlen:=h.len;have hcl:=z7j (sl:=a.slots);have hfree:=h.free;obtain⟨x,hx⟩:∃x:Slot,x=⟨aw,k,id,qty,top,n,kY l (-1),-1⟩:=⟨_,rfl⟩
 have hS:(a.put n id qty top).slots=if kY l (-1)= -1 then a.slots.set k x else(a.slots.set k x).modify (kY l (-1)).toNat λs=>{s with back:=k}:=by
  simp only[Arena.put,y5u,hnq,hk,hx]
 have hQs:(a.put n id qty top).queues=a.queues.set n ⟨vM (l++[k]) (-1),k,a.qsum l+qty,(l.length:Int)+1⟩:=by
  simp only[Arena.put,y5u,hnq,hk];rw[w64 (by omega),w64 (by omega)];congr 2;by_cases e:l=[]
  ·subst e;rfl
  ·rw[y5b (λc=>e ((nF l).1 c)),zGt];cases l with
   |nil=>exact absurd rfl e
   |cons y ys=>rfl
 have hF:(a.put n id qty top).free=a.free-1:=by
  simp only[Arena.put];rw[w64 (by omega)]
 have hset:(a.slots.set k x)[k]? =ay x:=fV (by omega);have hlo:kY l (-1)= -1\/∃(y:List Nat) (j:Nat),l=y++[j]/\kY l (-1)=(j:Int):=by
  rcases wJ l with e|⟨y,j,e,e2⟩
  ·exact .inl ((nF l).2 e)
  ·exact .inr ⟨y,j,e,e2 _⟩
 have hoth:∀j,j≠k->(kY l (-1)≠(j:Int))->(a.put n id qty top).slots[j]? =a.slots[j]? :=by
  intro j hj hj2;rw[hS];split
  ·exact vY (λe=>hj e.symm)
  ·rcases hlo with e|⟨y,i,_,e⟩
   ·contradiction
   ·rw[dU (by omega),vY (λe=>hj e.symm)]
 have hself:(a.put n id qty top).slots[k]? =ay x:=by
  rw[hS];split
  ·exact hset
  ·rcases hlo with e|⟨y,i,e1,e⟩
   ·contradiction
   ·have:i≠k:=by rintro rfl;exact hkl (by rw[e1];simp)
    rw[dU (by omega)];exact hset
 have hlike:∀j,j≠k->((a.put n id qty top).slotAt j).ent=(a.slotAt j).ent/\((a.put n id qty top).slotAt j).used=(a.slotAt j).used/\((a.put n id qty top).slotAt j).qty=(a.slotAt j).qty:=by
  intro j hj;by_cases c:kY l (-1)=(j:Int)
  ·have e:(a.put n id qty top).slots=(a.slots.set k x).modify j λs=>{s with back:=k}:=by
    rw[hS,y5b (by omega),c];rfl
   by_cases hjl:j<a.slots.length
   ·obtain⟨s,hs⟩:=yC hjl;have h1:(a.put n id qty top).slots[j]? =ay {s with back:=k}:=by rw[e];exact tY (by rw[vY (λe=>hj e.symm)];exact hs)
    rw[xO h1,xO hs];exact⟨rfl,rfl,rfl⟩
   ·have h1:(a.put n id qty top).slots[j]? =az:=y6h (by rw[e];simpa using hjl);have h2:a.slots[j]? =az:=y6h (by omega);rw[Arena.slotAt,Arena.slotAt,y5k,y5k,h1,h2];exact⟨rfl,rfl,rfl⟩
  ·have:=hoth j hj c;rw[Arena.slotAt,Arena.slotAt,y5k,y5k,this];exact⟨rfl,rfl,rfl⟩
 have hselfA:(a.put n id qty top).slotAt k=x:=xO hself;have hent:∀j,((a.put n id qty top).slotAt j).ent=if j=k then⟨k,id,qty,top⟩else(a.slotAt j).ent:=by
  intro j;split
  ·rename_i e;rw[e,hselfA,hx];rfl
  ·rename_i e;exact(hlike j e).1
 have gQ:∀{m:Nat} {l':List Nat},(Q.set n (l++[k]))[m]? =ay l'->(m=n/\l'=l++[k])\/(m≠n/\Q[m]? =ay l'):=by
  intro m l' hm;exact bL hm
 have hsgn:seg (a.put n id qty top).slots n (-1) (l++[k]) (-1):=by
  rw[lZ];refine⟨?_,⟨x,hself,?_⟩,trivial⟩
  ·rcases wJ l with e|⟨y,j,e,e2⟩
   ·subst e;trivial
   ·have h0:=h.sg n l hl;have hnd:=h.nd n l hl;rw[hS,y5b (by rw[e2];omega),e2,y5u];rw[e]at h0 hnd hkl ⊢;have hd:=y7l.1 hnd;refine zXm (k:Int) (λhj=>hd.2.2 j hj j y5h rfl) (t:= -1) ?_;exact vC (λi hi=>vY (λe=>hkl (e▸hi))) h0
  ·rw[hx];exact⟨rfl,rfl,rfl,rfl,rfl,by dsimp only;omega,hq.2⟩
 refine⟨k,hk,hk2,hku,hkn,⟨⟨?_,?_,?_,?_,?_,?_,?_⟩,?_⟩,hent,hF⟩
 ·rw[hS];split<;>simp[hlen]
 ·rw[hQs];simp[h.ql]
 ·intro m l' hm;rcases gQ hm with⟨rfl,rfl⟩|⟨e,hm⟩
  ·rw[hQs,fV (by rw[h.ql];exact hnQ),bU];have:(a.put m id qty top).qsum (l++[k])=a.qsum l+qty:=by
    rw[Arena.qsum,y5l,xBf];have e1:l.map (λk=>((a.put m id qty top).slotAt k).qty)=l.map λk=>(a.slotAt k).qty:=y6k λj hj=>(hlike j (λe=>hkl (e▸hj))).2.2
    rw[e1];simp only[y5p,y8t,y6s,List.sum_nil,hselfA];rw[hx,Arena.qsum];dsimp only;omega
   rw[this];simp[kY]
  ·rw[hQs,vY (λc=>e c.symm),h.q m l' hm,aB];intro j hj;exact(hlike j (λe=>hkn m l' hm (e▸hj))).2.2.symm
 ·intro m l' hm;rcases gQ hm with⟨rfl,rfl⟩|⟨e,hm⟩
  ·exact hsgn
  ·refine vC (λj hj=>hoth j (λe=>hkn m l' hm (e▸hj)) λc=> ?_) (h.sg m l' hm);rcases hlo with e2|⟨y,i,e1,e2⟩
   ·omega
   ·have:i=j:=by omega
    exact e (h.toWf0.one hm hl hj (by rw[e1];simp[this]))
 ·intro m l' hm;rcases gQ hm with⟨rfl,rfl⟩|⟨e,hm⟩
  ·refine y7l.2 ⟨h.nd m l hl,by simp,?_⟩;rintro i hi j hj rfl;rw[y6r.1 hj]at hi;exact hkl hi
  ·exact h.nd m l' hm
 ·intro j s hj hs;by_cases e:j=k
  ·exact⟨n,l++[k],fV hnQ,by rw[e];simp⟩
  ·have hu:(a.slotAt j).used=aw:=by rw[<- (hlike j e).2.1,xO hj];exact hs
   have hjl:j<a.slots.length:=by
    have:=(y5f.1 hj).1;rw[hS]at this;split at this<;>simpa using this
   obtain⟨s',hs'⟩:=yC hjl;rw[xO hs']at hu;obtain⟨m,l',hm,hjm⟩:=h.us j s' hs' hu;by_cases em:m=n
   ·subst em;rw[hl]at hm;cases hm;exact⟨m,l++[k],fV hnQ,y6u _ hjm⟩
   ·exact⟨m,l',by rw[vY (λc=>em c.symm)];exact hm,hjm⟩
 ·have hmu:(a.put n id qty top).slots.map (·.used)=(a.slots.set k x).map (·.used):=by
   rw[hS];split
   ·rfl
   ·exact zAy (g:=λs:Slot=>s.used) (f:=λs:Slot=>{s with back:=k}) (λ_=>rfl) _ _
  have:=zNz (x:=x) hk1;rw[hku,y5b (by decide),show x.used=aw by rw[hx],y5d rfl]at this;rw[hmu,hF,hfree];omega
 ·intro m l' hm j hj;rcases gQ hm with⟨rfl,rfl⟩|⟨e,hm⟩
  ·rcases y6f.1 hj with hj|hj
   ·rw[(hlike j (λe=>hkl (e▸hj))).2.2];exact h.pos m l hl j hj
   ·rw[y6r.1 hj,hselfA,hx];exact hq.1
  ·rw[(hlike j (λe=>hkn m l' hm (e▸hj))).2.2];exact h.pos m l' hm j hj
def zFd (a:Arena) (k:Nat) (q:Int) (j:Nat) (hk:k<a.slots.length):(a.less k q).slotAt j=if j=k then{a.slotAt j with qty:=(a.slotAt j).qty-q}else a.slotAt j:=by
 split
 ·rename_i e;subst e;obtain⟨s,hs⟩:=yC hk;rw[xO hs,xO (a:=a.less j q) (tY hs)]
 ·rename_i e;show(a.slots.modify k _).getD j slot0=a.slots.getD j slot0;rw[y5k,dU (λc=>e c.symm),y5k]
def Arena.Wf0.less {a:Arena} {Q:List (List Nat)} (h:a.Wf0 Q) {n k:Nat} {l:List Nat} (hl:Q[n]? =ay l) (hk:k∈l) {q:Int} (hq:0<=q/\q<=(a.slotAt k).qty):(a.less k q).Wf0 Q:=by
 obtain⟨hk2,⟨p,t,hs⟩,hk1⟩:=h.mem hl hk;have hkl:k<a.slots.length:=by rw[h.len];exact hk2
 have hqt:(a.slotAt k).queue.toNat=n:=by rw[hs.queue];exact y5u n
 have hm:∀(j:Nat) (s:Slot),a.slots[j]? =ay s->∃s',(a.less k q).slots[j]? =ay s'/\s'.used=s.used/\s'.n=s.n/\s'.queue=s.queue/\s'.ahead=s.ahead/\s'.back=s.back:=by
  intro j s hj;by_cases e:k=j
  ·subst e;exact⟨_,tY hj,rfl,rfl,rfl,rfl,rfl⟩
  ·exact⟨s,by rw[show(a.less k q).slots=a.slots.modify k _ from rfl,dU e];exact hj,rfl,rfl,rfl,rfl,rfl⟩
 have hsl:(a.less k q).slots.length=250:=by simpa[Arena.less]using h.len
 have hqs:(a.less k q).queues=a.queues.modify n λx=>{x with total:=bg.wrap (x.total-q)}:=by rw[Arena.less,hqt]
 have hmu:(a.less k q).slots.map (·.used)=a.slots.map (·.used):=zAy (g:=λs:Slot=>s.used) (f:=λs:Slot=>{s with qty:=s.qty-q}) (λ_=>rfl) _ _
 refine⟨hsl,by rw[hqs];simpa using h.ql,λm l' hm'=> ?_,λm l' hm'=> ?_,h.nd,λj s hj hu=> ?_,by rw[hmu];exact h.free⟩
 ·by_cases e:n=m
  ·subst e;rw[hl]at hm';cases hm';rw[hqs,tY (h.q n l hl)];have hsum:=h.sum hl;have e2:(a.less k q).qsum l=a.qsum l-q:=by
    rw[Arena.qsum,Arena.qsum,z5h (k:=k) (f:=λk=>(a.slotAt k).qty) (h.nd n l hl) hk]
    ·rw[zFd a k q k hkl,y5d rfl];dsimp only;omega
    ·intro j _ hj;rw[zFd a k q j hkl,y5b hj]
   have h1:=hs.q2;rw[e2];dsimp only;rw[w64 (by omega)]
  ·rw[hqs,dU e,h.q m l' hm',aB];intro j hj;have:j≠k:=λc=>e (h.one hl hm' hk (c▸hj))
   rw[zFd a k q j hkl,y5b this]
 ·refine zOw (λj hj s hs'=> ?_) (h.sg m l' hm');obtain⟨s',q0,q1,q2,q3,q4,q5⟩:=hm j s hs';refine⟨s',q0,q1,q2,q3,q4,q5,?_⟩;have e:=xO q0;rw[<- e,zFd a k q j hkl];obtain⟨_,⟨_,_,h2⟩,h3⟩:=h.mem hm' hj;have:=h2.q1;have:=h2.q2;split
  ·rename_i c;subst c;dsimp only;omega
  ·omega
 ·have hlt:=(y5f.1 hj).1;rw[hsl,<- h.len]at hlt;obtain⟨s0,h0⟩:=yC hlt;obtain⟨s',q0,q1,_⟩:=hm j s0 h0;rw[hj]at q0;cases q0;exact h.us j s0 h0 (by rw[<- q1];exact hu)
def Arena.Wf0.drop {a:Arena} {Q:List (List Nat)} (h:a.Wf0 Q) {n k:Nat} {l1 l2:List Nat} (hl:Q[n]? =ay (l1++k::l2)) (h0:(a.slotAt k).qty=0):
 (a.dropF k).Wf0 (Q.set n (l1++l2))/\(∀j,j≠k->((a.dropF k).slotAt j).ent=(a.slotAt j).ent/\((a.dropF k).slotAt j).used=(a.slotAt j).used/\((a.dropF k).slotAt j).qty=(a.slotAt j).qty)/\(a.dropF k).slotAt k=slot0/\(a.dropF k).free=a.free+1:=by
 have hkm:k∈l1++k::l2:=by simp
 have hnQ:=(y5f.1 hl).1;obtain⟨hk2,_,hk1⟩:=h.mem hl hkm;have hlen:=h.len;have hkl:k<a.slots.length:=by omega
 have hsg:=h.sg n _ hl;have hnd:=h.nd n _ hl;have hd:=y7l.1 hnd;have hd2:=y7r.1 hd.2.1;have k1:k∉l1:=λhk=>hd.2.2 k hk k y5h rfl
 have k2:k∉l2:=hd2.1;rw[lZ]at hsg;obtain⟨g1,⟨s,hs1,hs⟩,g2⟩:=hsg;have es:=xO hs1;have eqn:(a.queues.getD s.queue.toNat aH)=⟨vM (l1++k::l2) (-1),kY (l1++k::l2) (-1),a.qsum (l1++k::l2),(l1++k::l2).length⟩:=by
  rw[hs.queue,y5u];exact zU (h.q n _ hl)
 have hfree:=h.free;have hcl:=z7j (sl:=a.slots);have hsh:=h.short hl;obtain⟨sl1,hsl1⟩:∃sl1,sl1=if kY l1 (-1)= -1 then a.slots else a.slots.modify (kY l1 (-1)).toNat λx=>{x with back:=vM l2 (-1)}:=⟨_,rfl⟩
 obtain⟨sl2,hsl2⟩:∃sl2,sl2=if vM l2 (-1)= -1 then sl1 else sl1.modify (vM l2 (-1)).toNat λx=>{x with ahead:=kY l1 (-1)}:=⟨_,rfl⟩
 have hS:(a.dropF k).slots=sl2.set k slot0:=by
  simp only[Arena.dropF,es,hs.ahead,hs.back];rw[hsl2,hsl1]
 have hQs:(a.dropF k).queues=a.queues.set n ⟨vM (l1++l2) (-1),kY (l1++l2) (-1),a.qsum (l1++l2),(l1++l2).length⟩:=by
  simp only[Arena.dropF,es,eqn,hs.ahead,hs.back];rw[hs.queue,y5u];have el:(l1++k::l2).length=(l1++l2).length+1:=by simp;omega
  have eq:a.qsum (l1++k::l2)=a.qsum (l1++l2):=by
   rw[Arena.qsum,Arena.qsum,y5l,xBf,y5l,xBf,y5p,y6s,h0];omega
  rw[el]at hsh ⊢;rw[w64 (by omega),eq];congr 2
  ·cases l1 with
   |nil=>simp[kY,zGt,vM]
   |cons y ys=>
    rw[y5b (by rw[nF];simp)];rfl
  ·rcases wJ l2 with e|⟨x,j,e,e2⟩
   ·subst e;simp[vM,bU,kY]
   ·have:l2≠[]:=by rw[e];simp
    rw[y5b (λc=>this ((zRr l2).1 c)),bU,bU,kY,e2,e2]
  ·simp
 have hF:(a.dropF k).free=a.free+1:=by
  simp only[Arena.dropF];rw[w64 (by omega)]
 have hc1:kY l1 (-1)= -1\/∃(y:List Nat) (j:Nat),l1=y++[j]/\kY l1 (-1)=(j:Int):=by
  rcases wJ l1 with e|⟨y,j,e,e2⟩
  ·exact .inl ((nF l1).2 e)
  ·exact .inr ⟨y,j,e,e2 _⟩
 have hc2:vM l2 (-1)= -1\/∃(y:List Nat) (j:Nat),l2=j::y/\vM l2 (-1)=(j:Int):=by
  cases l2 with
  |nil=>exact .inl rfl
  |cons j y=>exact .inr ⟨y,j,rfl,rfl⟩
 have hoth:∀j,j∉l1->j∉l2->j≠k->(a.dropF k).slots[j]? =a.slots[j]? :=by
  intro j h1 h2 h3;rw[hS,vY (λe=>h3 e.symm),hsl2];have e1:sl1[j]? =a.slots[j]? :=by
   rw[hsl1];split
   ·rfl
   ·rcases hc1 with e|⟨y,i,e,e2⟩
    ·contradiction
    ·rw[dU];rw[e2,y5u];rintro rfl;exact h1 (by rw[e];simp)
  split
  ·exact e1
  ·rcases hc2 with e|⟨y,i,e,e2⟩
   ·contradiction
   ·rw[dU,e1];rw[e2,y5u];rintro rfl;exact h2 (by rw[e];simp)
 have hlike:∀j,j≠k->((a.dropF k).slotAt j).ent=(a.slotAt j).ent/\((a.dropF k).slotAt j).used=(a.slotAt j).used/\((a.dropF k).slotAt j).qty=(a.slotAt j).qty:=by
  intro j hj;have m1:∀(sl:List Slot) (i:Nat) (b:Int),((sl.modify i λx=>{x with back:=b}).getD j slot0).ent=(sl.getD j slot0).ent/\((sl.modify i λx=>{x with back:=b}).getD j slot0).used=(sl.getD j slot0).used/\((sl.modify i λx=>{x with back:=b}).getD j slot0).qty=(sl.getD j slot0).qty:=by
   intro sl i b;rw[y5k,y5k,ae];cases sl[j]? with
   |none=>exact⟨rfl,rfl,rfl⟩
   |some s=>by_cases e:i=j<;>simp[e,Slot.ent]
  have m2:∀(sl:List Slot) (i:Nat) (b:Int),((sl.modify i λx=>{x with ahead:=b}).getD j slot0).ent=(sl.getD j slot0).ent/\((sl.modify i λx=>{x with ahead:=b}).getD j slot0).used=(sl.getD j slot0).used/\((sl.modify i λx=>{x with ahead:=b}).getD j slot0).qty=(sl.getD j slot0).qty:=by
   intro sl i b;rw[y5k,y5k,ae];cases sl[j]? with
   |none=>exact⟨rfl,rfl,rfl⟩
   |some s=>by_cases e:i=j<;>simp[e,Slot.ent]
  have e0:(a.dropF k).slotAt j=sl2.getD j slot0:=by
   rw[Arena.slotAt,hS,y5k,vY (λe=>hj e.symm),y5k]
  have e1:(sl1.getD j slot0).ent=(a.slotAt j).ent/\(sl1.getD j slot0).used=(a.slotAt j).used/\(sl1.getD j slot0).qty=(a.slotAt j).qty:=by
   rw[hsl1];split
   ·exact⟨rfl,rfl,rfl⟩
   ·exact m1 _ _ _
  have e2:(sl2.getD j slot0).ent=(sl1.getD j slot0).ent/\(sl2.getD j slot0).used=(sl1.getD j slot0).used/\(sl2.getD j slot0).qty=(sl1.getD j slot0).qty:=by
   rw[hsl2];split
   ·exact⟨rfl,rfl,rfl⟩
   ·exact m2 _ _ _
  rw[e0];exact⟨e2.1.trans e1.1,e2.2.1.trans e1.2.1,e2.2.2.trans e1.2.2⟩
 have hl1:sl1.length=250:=by rw[hsl1];split<;>simp[hlen]
 have hl2:sl2.length=250:=by rw[hsl2];split<;>simp[hl1]
 have hself:(a.dropF k).slots[k]? =ay slot0:=by rw[hS];exact fV (by omega)
 have hsgn:seg (a.dropF k).slots n (-1) (l1++l2) (-1):=by
  rw[hS,lZ];constructor
  ·--the part ahead
   refine vC (sl:=sl2) (λj hj=>vY (λe=>k1 (e▸hj))) ?_;have f1:seg sl1 n (-1) l1 (vM l2 (-1)):=by
    rcases wJ l1 with e|⟨y,j,e,e2⟩
    ·subst e;trivial
    ·rw[hsl1,y5b (by rw[e2];omega),e2,y5u];subst e;have hd3:=y7l.1 hd.1;exact zXm _ (λhj=>hd3.2.2 j hj j y5h rfl) g1
   refine vC (λj hj=> ?_) f1;rw[hsl2];split
   ·rfl
   ·rcases hc2 with e|⟨y,i,e,e2⟩
    ·contradiction
    ·refine dU ?_;rw[e2,y5u];rintro rfl;exact hd.2.2 i hj i (y5j _ (by rw[e];simp)) rfl
  ·--the part behind
   refine vC (sl:=sl2) (λj hj=>vY (λe=>k2 (e▸hj))) ?_;have f1:seg sl1 n k l2 (-1):=by
    refine vC (λj hj=> ?_) g2;rw[hsl1];split
    ·rfl
    ·rcases hc1 with e|⟨y,i,e,e2⟩
     ·contradiction
     ·refine dU ?_;rw[e2,y5u];rintro rfl;exact hd.2.2 i (by rw[e];simp) i (y5j _ hj) rfl
   rcases hc2 with e|⟨y,j,e,e2⟩
   ·rw[(zRr l2).1 e];trivial
   ·rw[hsl2,y5b (by rw[e2];omega),e2,y5u];rw[e]at f1 hd2 ⊢;exact yCe _ (y7r.1 hd2.2).1 f1
 refine⟨⟨?_,?_,?_,?_,?_,?_,?_⟩,hlike,xO hself,hF⟩
 ·rw[hS,y6j];exact hl2
 ·rw[hQs];simp[h.ql]
 ·intro m l' hm;rcases bL hm with⟨rfl,rfl⟩|⟨e,hm⟩
  ·rw[hQs,fV (by rw[h.ql];exact hnQ)];congr 2;refine(aB λj hj=>(hlike j λe=> ?_).2.2).symm;subst e;rcases y6f.1 hj with hj|hj
   ·exact k1 hj
   ·exact k2 hj
  ·rw[hQs,vY (λc=>e c.symm),h.q m l' hm];congr 2;refine(aB λj hj=>(hlike j λe2=> ?_).2.2).symm;subst e2;exact e (h.one hm hl hj hkm)
 ·intro m l' hm;rcases bL hm with⟨rfl,rfl⟩|⟨e,hm⟩
  ·exact hsgn
  ·refine vC (λj hj=>hoth j ?_ ?_ ?_) (h.sg m l' hm)
   ·exactλc=>e (h.one hm hl hj (y6u _ c))
   ·exactλc=>e (h.one hm hl hj (y6x _ (y5j _ c)))
   ·rintro rfl;exact e (h.one hm hl hj hkm)
 ·intro m l' hm;rcases bL hm with⟨rfl,rfl⟩|⟨e,hm⟩
  ·refine y7l.2 ⟨hd.1,hd2.2,λi hi j hj=>hd.2.2 i hi j (y5j _ hj)⟩
  ·exact h.nd m l' hm
 ·intro j s' hj hu;have hjk:j≠k:=by
   rintro rfl;rw[hself]at hj;cases hj;cases hu
  have hu2:(a.slotAt j).used=aw:=by rw[<- (hlike j hjk).2.1,xO hj];exact hu
  have hjl:j<a.slots.length:=by
   have:=(y5f.1 hj).1;rw[hS,y6j]at this;omega
  obtain⟨s0,hs0⟩:=yC hjl;rw[xO hs0]at hu2;obtain⟨m,l',hm,hjm⟩:=h.us j s0 hs0 hu2;by_cases em:m=n
  ·subst em;rw[hl]at hm;cases hm;refine⟨m,_,fV hnQ,?_⟩;rcases y6f.1 hjm with hj|hj
   ·exact y6u _ hj
   ·rcases y5w.1 hj with e|hj
    ·exact absurd e hjk
    ·exact y6x _ hj
  ·exact⟨m,l',by rw[vY (λc=>em c.symm)];exact hm,hjm⟩
 ·have hmu:(a.dropF k).slots.map (·.used)=(a.slots.set k slot0).map (·.used):=by
   have e1:sl2.map (·.used)=a.slots.map (·.used):=by
    have f2:sl2.map (·.used)=sl1.map (·.used):=by
     rw[hsl2];split
     ·rfl
     ·exact zAy (g:=λs:Slot=>s.used) (f:=λs:Slot=>{s with ahead:=kY l1 (-1)}) (λ_=>rfl) _ _
    have f1:sl1.map (·.used)=a.slots.map (·.used):=by
     rw[hsl1];split
     ·rfl
     ·exact zAy (g:=λs:Slot=>s.used) (f:=λs:Slot=>{s with back:=vM l2 (-1)}) (λ_=>rfl) _ _
    rw[f2,f1]
   rw[hS,List.map_set,e1,List.map_set]
  have:=zNz (x:=slot0) hs1;rw[hs.used,y5d rfl,show slot0.used=ax from rfl,y5b (by decide)]at this;rw[hmu,hF,hfree];omega
def Arena.Wf.take {a:Arena} {Q:List (List Nat)} (h:a.Wf Q) {n k:Nat} {l:List Nat} (hl:Q[n]? =ay l) (hk:k∈l) {q:Int} (hq:1<=q/\q<=(a.slotAt k).qty):
 (a.takeF k q).2=0/\(∀j,j≠k->((a.takeF k q).1.slotAt j).ent=(a.slotAt j).ent/\((a.takeF k q).1.slotAt j).used=(a.slotAt j).used)/\
   (if(a.slotAt k).qty=q then(a.takeF k q).1.Wf (Q.set n (l.erase k))/\(a.takeF k q).1.slotAt k=slot0/\(a.takeF k q).1.free=a.free+1
    else(a.takeF k q).1.Wf Q/\(a.takeF k q).1.slotAt k={a.slotAt k with qty:=(a.slotAt k).qty-q}/\(a.takeF k q).1.free=a.free):=by
 obtain⟨hk2,⟨p,t,hs⟩,hk1⟩:=h.toWf0.mem hl hk;have hkl:k<a.slots.length:=by rw[h.len];exact hk2
 have hu:a.usedAt k=aw:=by
  simp only[Arena.usedAt,y5o,y6p];refine⟨by omega,by omega,?_⟩;rw[y5u];exact hs.used
 have hless:=h.toWf0.less hl hk (q:=q) (by omega);have hat:=zFd a k q;rw[Arena.takeF,y5b (by rw[hu];decide),y5u,y5b (by omega)];by_cases e:(a.slotAt k).qty=q
 ·rw[y5d e,y5d e];obtain⟨l1,l2,rfl⟩:=List.append_of_mem hk;have hnd:=h.nd n _ hl;have hd:=y7l.1 hnd;have k1:k∉l1:=λhk=>hd.2.2 k hk k y5h rfl
  obtain⟨d1,d2,d3,d4⟩:=hless.drop hl (by rw[hat k hkl,y5d rfl];dsimp only;omega);have ee:(l1++k::l2).erase k=l1++l2:=by rw[List.erase_append_right _ k1,List.erase_cons_head]
  refine⟨rfl,λj hj=> ?_,?_,d3,d4⟩
  ·have:=d2 j hj;rw[hat j hkl,y5b hj]at this;exact⟨this.1,this.2.1⟩
  ·rw[ee];refine⟨d1,λm l' hm j hj=> ?_⟩;have hj2:j≠k/\∃l'',Q[m]? =ay l''/\j∈l'':=by
    have hd2:=y7r.1 hd.2.1;rcases bL hm with⟨rfl,rfl⟩|⟨e3,hm⟩
    ·refine⟨?_,_,hl,?_⟩
     ·rintro rfl;rcases y6f.1 hj with hj|hj
      ·exact k1 hj
      ·exact hd2.1 hj
     ·rcases y6f.1 hj with hj|hj
      ·exact y6u _ hj
      ·exact y6x _ (y5j _ hj)
    ·refine⟨?_,_,hm,hj⟩;rintro rfl;exact e3 (h.toWf0.one hm hl hj hk)
   obtain⟨hj3,l'',hm2,hj4⟩:=hj2;have:=(d2 j hj3).2.2;rw[hat j hkl,y5b hj3]at this;dsimp only;rw[this];exact h.pos m l'' hm2 j hj4
 ·rw[y5b e,y5b e];refine⟨rfl,λj hj=> ?_,⟨hless,λm l' hm j hj=> ?_⟩,?_,rfl⟩
  ·dsimp only;rw[hat j hkl,y5b hj];exact⟨rfl,rfl⟩
  ·dsimp only;rw[hat j hkl];split
   ·rename_i c;subst c;dsimp only;omega
   ·exact h.pos m l' hm j hj
  ·dsimp only;rw[hat k hkl,y5d rfl]
def xD {α β:Type} {f g:α->List β}:∀{l:List α},(∀x∈l,f x=g x)->l.flatMap f=l.flatMap g
 |[],_=>rfl
 |x::l,h=>by rw[y6w,y6w,h x y5h,xD λy hy=>h y (y5j _ hy)]
def eO {α β γ:Type} {f:α->List β} {g:β->γ}:∀(l:List α),(l.flatMap f).map g=l.flatMap λx=>(f x).map g
 |[]=>rfl
 |x::l=>by rw[y6w,y6w,y5l,eO l]
def z2c {α β:Type} {f:α->List β}:∀{l:List α},(∀x∈l,f x≠[])->l.length<=(l.flatMap f).length
 |[],_=>y5x 0
 |x::l,h=>by
  have:=z2c (l:=l) λy hy=>h y (y5j _ hy)
  have:=List.length_pos_iff.2 (h x y5h);rw[y6w,y5a,y5g];omega
def zIm {α:Type} [DecidableEq α]:∀{l m:List α},l.Nodup->(∀x∈l,x∈m)->l.length<=m.length
 |[],_,_,_=>y6i _
 |x::l,m,h,hs=>by
  have hd:=y7r.1 h;have hx:=hs x y5h;have:=zIm (l:=l) (m:=m.erase x) hd.2 λy hy=>by
   have hne:y≠x:=by rintro rfl;exact hd.1 hy
   exact(List.mem_erase_of_ne hne).2 (hs y (y5j _ hy))
  rw[ag hx]at this;have:=List.length_pos_of_mem hx;rw[y5g];omega
def yCu {l:List Int} (h:l.Nodup) (hr:∀x∈l,0<=x/\x<l.length) {n:Nat} (hn:n<l.length):(n:Int)∈l:=by
 apply Classical.byContradiction;intro hx;have hnd:((n:Int)::l).Nodup:=y7r.2 ⟨hx,h⟩;have:=zIm (m:=(am l.length).map λk:Nat=>(k:Int)) hnd λy hy=>by
  rw[y6n];rcases y5w.1 hy with rfl|hy
  ·exact⟨n,y8b.2 hn,rfl⟩
  ·have:=hr y hy;exact⟨y.toNat,y8b.2 (by omega),by omega⟩
 simp at this;omega
def zLc {α β:Type} {l:List (α×β)} (h:(l.map (·.1)).Nodup) {k:α} {x y:β} (hx:(k,x)∈l) (hy:(k,y)∈l):x=y:=by
 induction l with
 |nil=>cases hx
 |cons p l ih=>
  rw[y5p,y7r]at h;rcases y5w.1 hx with ex|hx<;>rcases y5w.1 hy with ey|hy
  ·rw[<- ex]at ey;exact(Prod.mk.inj ey).2.symm
  ·exact absurd (y6g (f:=(·.1)) hy) (by rw[<- ex]at h;exact h.1)
  ·exact absurd (y6g (f:=(·.1)) hx) (by rw[<- ey]at h;exact h.1)
  ·exact ih h.2 hx hy
def eK:∀{l:List (Int×Place)} {k:Int} {x:Place},pget l k=ay x->(k,x)∈l
 |[],k,x,h=>by cases h
 |p::l,k,x,h=>by
  rw[pget,xBe]at h;by_cases e:p.1=k
  ·rw[y5s e]at h;simp only[y7e,Option.some.injEq]at h;subst h;subst e;exact y5h
  ·rw[y5q e]at h;exact y5j _ (eK h)
def zIk {l:List (Int×Place)} {k:Int} (h:pget l k=az):k∉l.map (·.1):=by
 intro hk;obtain⟨⟨k',x⟩,hx,rfl⟩:=y6n.1 hk;rw[pget,Option.map_eq_none_iff,List.find?_eq_none]at h;have:=h _ hx;simp at this
def zWu:∀{l:List (Int×Place)} {k:Int} {x:Place},k∉l.map (·.1)->rJ k x l=l++[(k,x)]
 |[],k,x,_=>rfl
 |p::l,k,x,h=>by
  rw[y5p,y5w,not_or]at h;rw[rJ,y5b h.1,zWu h.2];rfl
def xC (Q:List (List Nat)) (r:xL):List Nat:=Q.getD r.queue.toNat []
def yJr (s p:Int) (e:Ent):zH:=⟨e.id,s,p,e.qty,e.top⟩
def wU (a:Arena) (s p:Int) (k:Nat):zH:=yJr s p (a.slotAt k).ent
def Book.rOrds (b:Book) (Q:List (List Nat)) (s:Int) (r:xL):List zH:=(xC Q r).map (wU b.a s r.price)
def Book.sideL (b:Book) (Q:List (List Nat)) (s:Int):List zH:=(b.rungs s).flatMap (b.rOrds Q s)
def Book.flat (b:Book) (Q:List (List Nat)):List zH:=b.sideL Q 1++b.sideL Q 2
def vJ (a:Arena) (s p:Int) (k:Nat):Int×Place:=((a.slotAt k).id,⟨s,p,k⟩)
def Book.plcs (b:Book) (Q:List (List Nat)) (s:Int):List (Int×Place):=(b.rungs s).flatMap λr=>(xC Q r).map (vJ b.a s r.price)
def Book.qs (b:Book):List Int:=b.buys.map (·.queue)++b.sells.map (·.queue)++b.spare
structure Book.Core (b:Book) (Q:List (List Nat)) (hole:Int):Prop where
 wf:b.a.Wf Q
 srt:∀s,s=1\/s=2->(b.rungs s).Pairwise λr r'=>btr s r.price r'.price=aw
 rng:∀q∈b.qs,0<=q/\q<Q.length
 nd:b.qs.Nodup
 ql:b.qs.length=Q.length
 ne:∀s,s=1\/s=2->∀r∈b.rungs s,r.queue≠hole->xC Q r≠[]
 sp:∀q∈b.spare,Q.getD q.toNat []=[]
 at_:b.at_.Perm (b.plcs Q 1++b.plcs Q 2)
 ids:((b.flat Q).map (·.id)).Nodup
 qb:Q.length<=250
structure Book.Tops (b:Book) (L:List zH):Prop where
 fl:∀o∈L,o.top=(b.hasF o.side && decide (o.id=b.topI o.side))
 th:∀s,s=1\/s=2->b.hasF s=aw->∃o∈L,o.side=s/\o.id=b.topI s
structure Book.Rep (b:Book) (L:List zH):Prop where
 ex:∃Q,b.Core Q (-1)/\b.Tops L/\L=b.flat Q
def aI (b:Book) (Q:List (List Nat)) (s:Int):(b.plcs Q s).map (·.1)=(b.sideL Q s).map (·.id):=by
 rw[Book.plcs,Book.sideL,eO,eO];refine xD λr _=> ?_
 rw[Book.rOrds,y7q,y7q];rfl
def Book.Core.keysP {b:Book} {Q:List (List Nat)} {h:Int} (c:b.Core Q h):(b.at_.map (·.1)).Perm ((b.flat Q).map (·.id)):=by
 have:=c.at_.map (·.1)
 rw[y5l,aI,aI,<- y5l]at this;exact this
def Book.Core.keys {b:Book} {Q:List (List Nat)} {h:Int} (c:b.Core Q h):(b.at_.map (·.1)).Nodup:=c.keysP.nodup_iff.2 c.ids
def Book.Core.len {b:Book} {Q:List (List Nat)} {h:Int} (c:b.Core Q h):b.at_.length=(b.flat Q).length:=by
 have:=c.keysP.length_eq;simpa using this
def Book.Core.plc {b:Book} {Q:List (List Nat)} {h:Int} (c:b.Core Q h) {s:Int} (hs:s=1\/s=2) {r:xL} (hr:r∈b.rungs s) {k:Nat} (hk:k∈xC Q r):((b.a.slotAt k).id,(⟨s,r.price,k⟩:Place))∈b.at_:=by
 refine c.at_.mem_iff.2 ?_;have hp:vJ b.a s r.price k∈b.plcs Q s:=y7u.2 ⟨r,hr,y6g hk⟩;rcases hs with rfl|rfl
 ·exact y6u _ hp
 ·exact y6x _ hp
def Book.Core.plcI {b:Book} {Q:List (List Nat)} {h:Int} (c:b.Core Q h) {id:Int} {x:Place} (hx:(id,x)∈b.at_):∃(k:Nat) (r:xL),(x.side=1\/x.side=2)/\r∈b.rungs x.side/\k∈xC Q r/\x=⟨x.side,r.price,k⟩/\(b.a.slotAt k).id=id:=by
 have:=c.at_.mem_iff.1 hx;rcases y6f.1 this with hp|hp
 all_goals
  obtain⟨r,hr,hp⟩:=y7u.1 hp;obtain⟨k,hk,e⟩:=y6n.1 hp;simp only[vJ,Prod.mk.injEq]at e;obtain⟨e1,rfl⟩:=e;exact⟨k,r,by simp,hr,hk,rfl,e1⟩
def zYl {Q:List (List Nat)} {r:xL} (h:0<=r.queue/\r.queue<Q.length):Q[r.queue.toNat]? =ay (xC Q r):=by
 obtain⟨l,hl⟩:=yC (l:=Q) (i:=r.queue.toNat) (by omega);rw[xC,zU hl,hl]
def uW {b:Book} {s:Int} (hs:s=1\/s=2) {r:xL} (hr:r∈b.rungs s):r.queue∈b.qs:=by
 rcases hs with rfl|rfl
 ·exact y6u _ (y6u _ (y6g (f:=(·.queue)) hr))
 ·exact y6u _ (y6x _ (y6g (f:=(·.queue)) hr))
def Book.Core.get {b:Book} {Q:List (List Nat)} {h:Int} (c:b.Core Q h) {s:Int} (hs:s=1\/s=2) {r:xL} (hr:r∈b.rungs s):Q[r.queue.toNat]? =ay (xC Q r):=zYl (c.rng _ (uW hs hr))
def clr (L:List zH) (s:Int):List zH:=L.map λo=>if o.side=s then{o with top:=ax}else o
def l5 (s x:Int):btr s x x=ax:=by
 rw[btr];split<;>exact y5q (by omega)
def Book.Core.flag {b:Book} {Q:List (List Nat)} {h:Int} (c:b.Core Q h) {a':Arena} (hw:a'.Wf Q) (hi:∀k,(a'.slotAt k).id=(b.a.slotAt k).id):({b with a:=a'}:Book).Core Q h:=by
 have e1:∀s,({b with a:=a'}:Book).plcs Q s=b.plcs Q s:=by
  intro s;refine xD λr _=>y6k λk _=> ?_
  simp only[vJ,hi]
 have e2:((({b with a:=a'}:Book).flat Q).map (·.id))=(b.flat Q).map (·.id):=by
  rw[Book.flat,Book.flat,y5l,y5l,<- aI,<- aI,<- aI,<- aI,e1,e1]
 exact⟨hw,c.srt,c.rng,c.nd,c.ql,c.ne,c.sp,by rw[e1,e1];exact c.at_,by rw[e2];exact c.ids,c.qb⟩
def yPs (a:Arena) (n:Int) (t:Bool) (k:Nat):((a.topF n t).slotAt k).id=(a.slotAt k).id:=by
 rw[zUr];split<;>rfl
def Book.Core.untop {b:Book} {Q:List (List Nat)} {h:Int} (c:b.Core Q h) (s:Int):(b.untop s).Wf Q/\∀k,((b.untop s).slotAt k).id=(b.a.slotAt k).id:=by
 rw[Book.untop]
 repeat' split
 all_goals first|exact⟨c.wf,λ_=>rfl⟩|exact⟨c.wf.top _ _,λk=>yPs _ _ _ k⟩
def Book.Core.untop_flat {b:Book} {Q:List (List Nat)} {h:Int} (c:b.Core Q h) (ht:b.Tops (b.flat Q)) {s:Int} (hs:s=1\/s=2):({b with a:=b.untop s}:Book).flat Q=clr (b.flat Q) s:=by
 have hfl:∀{s':Int} (hs':s'=1\/s'=2) {r:xL} (hr:r∈b.rungs s') {k:Nat} (hk:k∈xC Q r),(b.a.slotAt k).top=(b.hasF s' && decide ((b.a.slotAt k).id=b.topI s')):=by
  intro s' hs' r hr k hk;have hm:wU b.a s' r.price k∈b.flat Q:=by
   have:wU b.a s' r.price k∈b.sideL Q s':=y7u.2 ⟨r,hr,y6g hk⟩;rcases hs' with rfl|rfl
   ·exact y6u _ this
   ·exact y6x _ this
  exact ht.fl _ hm
 have key:∀{s':Int} (hs':s'=1\/s'=2) {r:xL} (hr:r∈b.rungs s') {k:Nat} (hk:k∈xC Q r),((b.untop s).slotAt k).ent=if s'=s then{(b.a.slotAt k).ent with top:=ax}else(b.a.slotAt k).ent:=by
  intro s' hs' r hr k hk;have hplc:=c.plc hs' hr hk;have htop:=hfl hs' hr hk;have hno:(b.a.slotAt k).top=ax->(b.a.slotAt k).ent=if s'=s then{(b.a.slotAt k).ent with top:=ax}else(b.a.slotAt k).ent:=by
   intro e;split
   ·rw[Slot.ent,e]
   ·rfl
  rw[Book.untop];by_cases hh:b.hasF s=aw
  ·rw[y5d hh];cases hg:pget b.at_ (b.topI s)with
   |none=>
    dsimp only;by_cases e:s'=s
    ·subst e;refine hno ?_;rw[htop,hh,y7z];refine y5q λe2=> ?_
     rw[<- e2]at hg;exact zIk hg (y6g (f:=(·.1)) hplc)
    ·rw[y5b e]
   |some o=>
    dsimp only;obtain⟨k',r',hs2,hr2,hk2,ho,hid⟩:=c.plcI (eK hg);by_cases es:o.side=s
    ·rw[y5d es,zUr];have hos:o.slot=(k':Int):=by rw[ho]
     by_cases ek:k=k'
     ·subst ek;have hu:b.a.usedAt o.slot=aw:=by
       obtain⟨_,⟨_,_,h2⟩,h3⟩:=c.wf.toWf0.mem (c.get hs' hr) hk;have hlt:=(y5f.1 h3).1;simp only[Arena.usedAt,y5o,y6p,hos,y5u];exact⟨by omega,by omega,h2.used⟩
      rw[y5d ⟨hu,by rw[hos];rfl⟩];have:=c.plc hs2 hr2 hk2;have e3:=zLc c.keys hplc this;have e4:s'=s:=by
       have:=congrArg Place.side e3;dsimp only at this;rw[this,es]
      rw[y5d e4];rfl
     ·rw[y5b (λe=>ek (by have:=e.2;rw[hos]at this;simpa using this))];by_cases e:s'=s
      ·subst e;refine hno ?_;rw[htop,hh,y7z];refine y5q λe2=>ek ?_
       have hp2:=c.plc hs2 hr2 hk2;rw[hid,<- e2]at hp2;have e3:=zLc c.keys hplc hp2;have:=congrArg Place.slot e3;dsimp only at this;omega
      ·rw[y5b e]
    ·rw[y5b es];by_cases e:s'=s
     ·subst e;refine hno ?_;rw[htop,hh,y7z];refine y5q λe2=>es ?_
      have hp2:=eK hg;rw[<- e2]at hp2;have e3:=zLc c.keys hplc hp2;rw[<- e3]
     ·rw[y5b e]
  ·rw[y5b hh];by_cases e:s'=s
   ·subst e;refine hno ?_;have:b.hasF s'=ax:=by simpa using hh
    rw[htop,this,y8m]
   ·rw[y5b e]
 have side:∀s',s'=1\/s'=2->({b with a:=b.untop s}:Book).sideL Q s'=clr (b.sideL Q s') s:=by
  intro s' hs';rw[clr,Book.sideL,Book.sideL,eO];refine xD λr hr=> ?_
  rw[Book.rOrds,Book.rOrds,y7q];refine y6k λk hk=> ?_
  simp only[wU,ci,key hs' hr hk,yJr];by_cases e:s'=s
  ·rw[y5d e];exact(y5d e).symm
  ·rw[y5b e];exact(y5b e).symm
 rw[Book.flat,side 1 (.inl rfl),side 2 (.inr rfl),Book.flat,clr,clr,clr,y5l]
def before (s p:Int) (o:zH):Bool:=decide (o.side<s)||(decide (o.side=s) && !btr s p o.price)
def gI (L:List zH) (s p:Int):Bool:=L.all λo=> !decide (o.side=s)||btr s p o.price
def zUq (L:List zH) (s id p q:Int):List zH:=
 let L1:=if gI L s p=aw then clr L s else L
 L1.takeWhile (before s p)++⟨id,s,p,q,gI L s p⟩::L1.dropWhile (before s p)
def yKe {α:Type} {f:α->Bool}:∀{A B:List α},(∀x∈A,f x=aw)->(∀x∈B,f x=ax)->(A++B).takeWhile f=A/\(A++B).dropWhile f=B
 |[],[],_,_=>⟨rfl,rfl⟩
 |[],b::B,_,h=>by
  have:=h b y5h;simp[this]
 |a::A,B,h,h2=>by
  obtain⟨i1,i2⟩:=yKe (A:=A) (B:=B) (λx hx=>h x (y5j _ hx)) h2;have:=h a y5h;rw[y6t,List.takeWhile_cons,List.dropWhile_cons,this];simp[i1,i2]
def qF {b:Book} {Q:List (List Nat)} {s:Int} {r:xL} {o:zH} (h:o∈b.rOrds Q s r):o.side=s/\o.price=r.price:=by
 obtain⟨k,_,rfl⟩:=y6n.1 h;exact⟨rfl,rfl⟩
def mC {b:Book} {Q:List (List Nat)} {s:Int} {o:zH} (h:o∈b.sideL Q s):o.side=s/\∃r∈b.rungs s,o∈b.rOrds Q s r/\o.price=r.price:=by
 obtain⟨r,hr,ho⟩:=y7u.1 h;exact⟨(qF ho).1,r,hr,ho,(qF ho).2⟩
structure Spl (s p:Int) (R1 R2:List xL):Prop where
 a:∀r∈R1,btr s r.price p=aw
 b:∀r∈R2,btr s p r.price=aw
def zYp {s x y:Int} (h:btr s x y=aw):btr s y x=ax:=by
 rw[btr]at h ⊢;split at h
 ·rename_i e;rw[y5d e];have:=y6b h;exact y5q (by omega)
 ·rename_i e;rw[y5b e];have:=y6b h;exact y5q (by omega)
def zRo {s x y z:Int} (h:btr s x y=aw) (h2:btr s y z=aw):btr s x z=aw:=by
 rw[btr]at h h2 ⊢;split at h
 ·rename_i e;rw[y5d e]at h2 ⊢;have:=y6b h;have:=y6b h2;exact y5s (by omega)
 ·rename_i e;rw[y5b e]at h2 ⊢;have:=y6b h;have:=y6b h2;exact y5s (by omega)
def yBg {s x y:Int} (h:btr s x y=ax) (hne:x≠y):btr s y x=aw:=by
 rw[btr]at h ⊢;split at h
 ·rename_i e;rw[y5d e];have:=y9t h;exact y5s (by omega)
 ·rename_i e;rw[y5b e];have:=y9t h;exact y5s (by omega)
def zCe {s p:Int} {l:List xL} (hs:l.Pairwise λr r'=>btr s r.price r'.price=aw):
 (∀r∈l.take (zZ s l p),btr s r.price p=aw)/\
 (if kR s l p=aw then ∃r,l[zZ s l p]? =ay r/\r.price=p/\∀r'∈l.drop (zZ s l p+1),btr s p r'.price=aw
  else ∀r'∈l.drop (zZ s l p),btr s p r'.price=aw):=by
 have e1:l.take (zZ s l p)=l.takeWhile λr=>btr s r.price p:=by
  rw[zZ];have h:=xBj (l₁:=l.takeWhile λr=>btr s r.price p) (l₂:=l.dropWhile λr=>btr s r.price p);rwa [xAw]at h
 have e2:l.drop (zZ s l p)=l.dropWhile λr=>btr s r.price p:=by
  have h:=y7g (zZ s l p) l;have h2:=xAw (p:=λr:xL=>btr s r.price p) (l:=l);rw[e1]at h;exact List.append_cancel_left (h.trans h2.symm)
 refine⟨λr hr=> ?_,?_⟩
 ·rw[e1]at hr;exact y8h.1 List.all_takeWhile r hr
 have hd:∀r,l[zZ s l p]? =ay r->btr s r.price p=ax:=by
  intro r hr;have h0:(l.drop (zZ s l p))[0]? =ay r:=by rw[y7p];exact hr
  rw[e2]at h0;cases hdw:l.dropWhile λr=>btr s r.price p with
  |nil=>rw[hdw]at h0;cases h0
  |cons x y=>
   rw[hdw]at h0;cases h0;have:=List.head?_dropWhile_not (λr:xL=>btr s r.price p) l;rw[hdw]at this;simpa using this
 have hpw:∀r r',l[zZ s l p]? =ay r->r'∈l.drop (zZ s l p+1)->btr s r.price r'.price=aw:=by
  intro r r' hr hr';have hlt:=(y5f.1 hr).1;have:=List.Pairwise.sublist (List.drop_sublist (zZ s l p) l) hs;rw[y7j hlt,y8w,(y5f.1 hr).2]at this;exact this.1 r' hr'
 split
 ·rename_i hb;rw[kR]at hb;cases hr:l[zZ s l p]? with
  |none=>rw[hr]at hb;cases hb
  |some r=>
   rw[hr]at hb;have hp:r.price=p:=y6b hb;exact⟨r,rfl,hp,λr' hr'=>by rw[<- hp];exact hpw r r' hr hr'⟩
 ·rename_i hb;intro r' hr';by_cases hlt:zZ s l p<l.length
  ·obtain⟨r,hr⟩:=yC hlt;rw[kR,hr]at hb;have hp:¬r.price=p:=λe=>hb (y5s e)
   have h1:=yBg (hd r hr) hp;rw[y7j hlt,(y5f.1 hr).2]at hr';rcases y5w.1 hr' with rfl|hr'
   ·exact h1
   ·exact zRo h1 (hpw r r' hr hr')
  ·rw[y8j (by omega)]at hr';cases hr'
def Book.setR (b:Book) (s:Int) (l:List xL):Book:=if s=1 then{b with buys:=l}else{b with sells:=l}
def z9l {b:Book} {s:Int} (hs:s=1\/s=2):∃rest,b.qs.Perm ((b.rungs s).map (·.queue)++rest)/\∀l,(b.setR s l).qs.Perm (l.map (·.queue)++rest):=by
 rcases hs with rfl|rfl
 ·refine⟨b.sells.map (·.queue)++b.spare,?_,λl=> ?_⟩
  ·rw[Book.qs,y5i];exact .refl _
  ·show(l.map (·.queue)++b.sells.map (·.queue)++b.spare).Perm _
   rw[y5i]
 ·refine⟨b.buys.map (·.queue)++b.spare,?_,λl=> ?_⟩
  ·rw[Book.qs];show(b.buys.map (·.queue)++b.sells.map (·.queue)++b.spare).Perm (b.sells.map (·.queue)++(b.buys.map (·.queue)++b.spare))
   rw[<- y5i];exact y7h.append_right _
  ·show(b.buys.map (·.queue)++l.map (·.queue)++b.spare).Perm (l.map (·.queue)++(b.buys.map (·.queue)++b.spare))
   rw[<- y5i];exact y7h.append_right _
structure Queued (b:Book) (Q:List (List Nat)) (s p:Int) (b':Book) (n:Int) (Q':List (List Nat)) (R1 R2:List xL):Prop where
 core:b'.Core Q' n
 rungs:b'.rungs s=R1++⟨p,n⟩::R2
 spl:Spl s p R1 R2
 flat:b'.flat Q'=b.flat Q
 at_:b'.at_=b.at_
 free:b'.a.free=b.a.free
 tops:∀L,b.Tops L->b'.Tops L
 qty:∀x,b'.hasF x=b.hasF x/\b'.topI x=b.topI x
def yFv {α:Type} {l:List α} {x d:α} {n:Nat}:(l++[x]).getD n d=if n=l.length then x else l.getD n d:=by
 rw[y5k,y5k,List.getElem?_append];split
 ·rw[y5b (by omega)]
 ·rename_i h;by_cases e:n=l.length
  ·rw[y5d e,e,xAp];rfl
  ·rw[y5b e,y6h (show([x]:List α).length<=n-l.length by simp;omega),y6h (by omega)]
def Book.Core.add {b:Book} {Q:List (List Nat)} (c:b.Core Q (-1)) {s p n:Int} (hs:s=1\/s=2) {R1 R2:List xL} (hr:b.rungs s=R1++R2) (spl:Spl s p R1 R2) {b':Book} {Q':List (List Nat)}
 (hrs:b'.rungs s=R1++⟨p,n⟩::R2) (hro:∀s',s'≠s->s'=1\/s'=2->b'.rungs s'=b.rungs s') (hat:b'.at_=b.at_) (hw:b'.a.Wf Q') (hsl:b'.a.slots=b.a.slots)
 (hQ:∀k,Q'.getD k []=Q.getD k []) (hn:Q.getD n.toNat []=[]) (hrng:∀q∈b'.qs,0<=q/\q<Q'.length) (hnd:b'.qs.Nodup) (hql:b'.qs.length=Q'.length) (hsp:∀q∈b'.spare,Q.getD q.toNat []=[]) (hqb:Q'.length<=250):
 b'.Core Q' n/\b'.flat Q'=b.flat Q:=by
 have hslQ:∀r,xC Q' r=xC Q r:=λr=>hQ _
 have hsa:∀k,b'.a.slotAt k=b.a.slotAt k:=λk=>by rw[Arena.slotAt,Arena.slotAt,hsl]
 have hn':xC Q ⟨p,n⟩=[]:=hn;have hro':∀s' r,b'.rOrds Q' s' r=b.rOrds Q s' r:=by
  intro s' r;rw[Book.rOrds,Book.rOrds,hslQ];exact y6k λk _=>by rw[wU,wU,hsa]
 have hpo:∀s' (r:xL),(xC Q' r).map (vJ b'.a s' r.price)=(xC Q r).map (vJ b.a s' r.price):=by
  intro s' r;rw[hslQ];exact y6k λk _=>by rw[vJ,vJ,hsa]
 have hside:∀s',s'=1\/s'=2->b'.sideL Q' s'=b.sideL Q s':=by
  intro s' hs';rw[Book.sideL,Book.sideL];by_cases e:s'=s
  ·subst e;rw[hrs,hr,y7a,y7a,y6w,xD (λr _=>hro' s' r),xD (l:=R2) (λr _=>hro' s' r),hro',Book.rOrds,hn',y8t,y7v]
  ·rw[hro s' e hs'];exact xD λr _=>hro' s' r
 have hplc:∀s',s'=1\/s'=2->b'.plcs Q' s'=b.plcs Q s':=by
  intro s' hs';rw[Book.plcs,Book.plcs];by_cases e:s'=s
  ·subst e;rw[hrs,hr,y7a,y7a,y6w,xD (λr _=>hpo s' r),xD (l:=R2) (λr _=>hpo s' r),hpo,hn',y8t,y7v]
  ·rw[hro s' e hs'];exact xD λr _=>hpo s' r
 have hflat:b'.flat Q'=b.flat Q:=by rw[Book.flat,Book.flat,hside 1 (.inl rfl),hside 2 (.inr rfl)]
 refine⟨⟨hw,λs' hs'=> ?_,hrng,hnd,hql,λs' hs' r hr' hne=> ?_,λq hq=>by rw[hQ];exact hsp q hq,by rw[hat,hplc 1 (.inl rfl),hplc 2 (.inr rfl)];exact c.at_,by rw[hflat];exact c.ids,hqb⟩,hflat⟩
 ·by_cases e:s'=s
  ·subst e;have h0:=c.srt s' hs';rw[hr,af]at h0;rw[hrs,af,y8w];refine⟨h0.1,⟨spl.b,h0.2.1⟩,λx hx y hy=> ?_⟩;rcases y5w.1 hy with rfl|hy
   ·exact spl.a x hx
   ·exact h0.2.2 x hx y hy
  ·rw[hro s' e hs'];exact c.srt s' hs'
 ·rw[hslQ];have hold:∀r∈b.rungs s',xC Q r≠[]:=λr hr=>c.ne s' hs' r hr λe=>by
   have:=c.rng _ (uW hs' hr);omega
  by_cases e:s'=s
  ·subst e;rw[hrs]at hr';rcases y6f.1 hr' with h|h
   ·exact hold r (by rw[hr];exact y6u _ h)
   ·rcases y5w.1 h with rfl|h
    ·exact absurd rfl hne
    ·exact hold r (by rw[hr];exact y6x _ h)
  ·rw[hro s' e hs']at hr';exact hold r hr'
def zLx (b:Book) {s:Int} (hs:s=1\/s=2) (l:List xL):(b.setR s l).rungs s=l/\∀s',s'≠s->s'=1\/s'=2->(b.setR s l).rungs s'=b.rungs s':=by
 rcases hs with rfl|rfl
 ·exact⟨rfl,λs' h h2=>by rcases h2 with rfl|rfl;exact absurd rfl h;rfl⟩
 ·exact⟨rfl,λs' h h2=>by rcases h2 with rfl|rfl;rfl;exact absurd rfl h⟩
def yAg (b:Book) {s p:Int} (hs:s=1\/s=2):b.queueF s p=if kR s (b.rungs s) p=aw then(b,((b.rungs s).getD (zZ s (b.rungs s) p) ⟨0,0⟩).queue)else(({b with a:=b.newQ.2.2,spare:=b.newQ.2.1}:Book).setR s (b.ins s p),b.newQ.1):=by
 rcases hs with rfl|rfl<;>rfl
def Book.Core.queue {b:Book} {Q:List (List Nat)} (c:b.Core Q (-1)) (hl:(b.flat Q).length<250) {s:Int} (hs:s=1\/s=2) (p:Int):∃Q' R1 R2,Queued b Q s p (b.queueF s p).1 (b.queueF s p).2 Q' R1 R2:=by
 have hsp:=zCe (p:=p) (c.srt s hs);rw[yAg b hs];by_cases hb:kR s (b.rungs s) p=aw
 ·rw[y5d hb]at hsp ⊢;obtain⟨h1,r,hr,hp,h2⟩:=hsp;have hlt:=(y5f.1 hr).1;have er:(⟨p,r.queue⟩:xL)=r:=by rw[<- hp]
  have hsplit:b.rungs s=(b.rungs s).take (zZ s (b.rungs s) p)++r::(b.rungs s).drop (zZ s (b.rungs s) p+1):=by
   conv=>lhs;rw[<- y7g (zZ s (b.rungs s) p) (b.rungs s)]
   rw[y7j hlt,(y5f.1 hr).2]
  refine⟨Q,_,_,⟨⟨c.wf,c.srt,c.rng,c.nd,c.ql,λs' hs' r' hr' _=>c.ne s' hs' r' hr' λe=> ?_,c.sp,c.at_,c.ids,c.qb⟩,?_,⟨h1,h2⟩,rfl,rfl,rfl,λ_ h=>h,λ_=>⟨rfl,rfl⟩⟩⟩
  ·have:=c.rng _ (uW hs' hr');omega
  ·dsimp only;rw[zU hr,er];exact hsplit
 ·rw[y5b hb]at hsp ⊢;obtain⟨h1,h2⟩:=hsp;have hr:b.rungs s=(b.rungs s).take (zZ s (b.rungs s) p)++(b.rungs s).drop (zZ s (b.rungs s) p):=(y7g _ _).symm;obtain⟨g1,g2⟩:=zLx ({b with a:=b.newQ.2.2,spare:=b.newQ.2.1}:Book) hs (b.ins s p);have tops:∀x,((({b with a:=b.newQ.2.2,spare:=b.newQ.2.1}:Book).setR s (b.ins s p)).hasF x=b.hasF x/\(({b with a:=b.newQ.2.2,spare:=b.newQ.2.1}:Book).setR s (b.ins s p)).topI x=b.topI x):=by
   intro x;rcases hs with rfl|rfl<;>exact⟨rfl,rfl⟩
  have hat:(({b with a:=b.newQ.2.2,spare:=b.newQ.2.1}:Book).setR s (b.ins s p)).at_=b.at_:=by rcases hs with rfl|rfl<;>rfl
  have ha:(({b with a:=b.newQ.2.2,spare:=b.newQ.2.1}:Book).setR s (b.ins s p)).a=b.newQ.2.2:=by rcases hs with rfl|rfl<;>rfl
  have hspr:(({b with a:=b.newQ.2.2,spare:=b.newQ.2.1}:Book).setR s (b.ins s p)).spare=b.newQ.2.1:=by rcases hs with rfl|rfl<;>rfl
  obtain⟨rest,q1,q2⟩:=z9l (b:=({b with a:=b.newQ.2.2,spare:=b.newQ.2.1}:Book)) hs;have q2:=q2 (b.ins s p);have hqs:(({b with a:=b.newQ.2.2,spare:=b.newQ.2.1}:Book).setR s (b.ins s p)).qs.Perm (b.newQ.1::({b with a:=b.newQ.2.2,spare:=b.newQ.2.1}:Book).qs):=by
   refine q2.trans (.trans ?_ (q1.symm.cons _));rw[<- y6t];refine cm _ ?_;show((b.ins s p).map (·.queue)).Perm (b.newQ.1::(b.rungs s).map (·.queue))
   conv=>rhs;rw[hr]
   rw[Book.ins,y5l,y5l,y5p];exact y5r
  generalize hB:(({b with a:=b.newQ.2.2,spare:=b.newQ.2.1}:Book).setR s (b.ins s p))=B at*;have fin:∀Q',B.a.Wf Q'->B.a.slots=b.a.slots->B.a.free=b.a.free->(∀k,Q'.getD k []=Q.getD k [])->Q.getD b.newQ.1.toNat []=[]->(∀q∈B.qs,0<=q/\q<Q'.length)->B.qs.Nodup->B.qs.length=Q'.length->(∀q∈B.spare,Q.getD q.toNat []=[])->Q'.length<=250->∃Q' R1 R2,Queued b Q s p B b.newQ.1 Q' R1 R2:=by
   intro Q' w1 w2 w3 w4 w5 w6 w7 w8 w9 w10;obtain⟨u1,u2⟩:=c.add hs hr ⟨h1,h2⟩ (b':=B) (Q':=Q') (n:=b.newQ.1) (by rw[g1];rfl) g2 hat w1 w2 w4 w5 w6 w7 w8 w9 w10;refine⟨Q',_,_,⟨u1,g1.trans rfl,⟨h1,h2⟩,u2,hat,w3,λL h=>⟨λo ho=> ?_,λs' hs' hh=> ?_⟩,tops⟩⟩
   ·rw[(tops o.side).1,(tops o.side).2];exact h.fl o ho
   ·rw[(tops s').1]at hh;rw[(tops s').2];exact h.th s' hs' hh
  by_cases he:b.spare.length=0
  ·have hnq:b.newQ=((b.a.queues.length:Int),b.spare,b.a.openQ):=by rw[Book.newQ,y5d he]
   have hql:=c.wf.ql;have hspe:b.spare=[]:=y6d he;have hqs':B.qs.Perm ((Q.length:Int)::b.qs):=by
    rw[hnq]at hqs;rw[<- hql];exact hqs
   refine fin (Q++[[]]) (by rw[ha,hnq];exact c.wf.open) (by rw[ha,hnq];rfl) (by rw[ha,hnq];rfl) (λk=> ?_) ?_ (λq hq=> ?_) ?_ ?_ (λq hq=> ?_) ?_
   ·rw[yFv];split
    ·rename_i e;rw[e,y5k,y6h (y5x _)];rfl
    ·rfl
   ·rw[hnq,y5k,y6h (by dsimp only;omega)];rfl
   ·rw[y5a];rcases y5w.1 (hqs'.mem_iff.1 hq)with rfl|hq
    ·simp only[y6z];omega
    ·have:=c.rng q hq;simp only[y6z];omega
   ·refine hqs'.nodup_iff.2 (y7r.2 ⟨λhm=> ?_,c.nd⟩);have:=c.rng _ hm;omega
   ·rw[hqs'.length_eq,y5g,y5a,c.ql];rfl
   ·rw[hspr,hnq]at hq;rw[hspe]at hq;cases hq
   ·have h1:=z2c (l:=b.rungs 1) (f:=b.rOrds Q 1) λr hr e=>c.ne 1 (.inl rfl) r hr (λe2=>by have:=c.rng _ (uW (.inl rfl) hr);omega) (List.map_eq_nil_iff.1 e)
    have h2:=z2c (l:=b.rungs 2) (f:=b.rOrds Q 2) λr hr e=>c.ne 2 (.inr rfl) r hr (λe2=>by have:=c.rng _ (uW (.inr rfl) hr);omega) (List.map_eq_nil_iff.1 e)
    have h3:=c.ql;rw[Book.flat,y5a,Book.sideL,Book.sideL]at hl;rw[Book.qs,y5a,y5a,y5c,y5c,he]at h3;rw[rT]at h1 hl;rw[rC]at h2 hl;rw[y5a,y6z];omega
  ·have hnq:b.newQ=(b.spare.getD (b.spare.length-1) 0,b.spare.take (b.spare.length-1),b.a):=by rw[Book.newQ,y5b he]
   obtain⟨sp,q,hspq⟩:∃sp q,b.spare=sp++[q]:=⟨_,_,(List.dropLast_concat_getLast (l:=b.spare) (by intro e;rw[e]at he;exact he rfl)).symm⟩
   have e1:b.newQ=(q,sp,b.a):=by
    rw[hnq,hspq];simp
   have hqs':B.qs.Perm b.qs:=by
    refine hqs.trans ?_;rw[e1];show(q::(b.buys.map (·.queue)++b.sells.map (·.queue)++sp)).Perm (b.buys.map (·.queue)++b.sells.map (·.queue)++b.spare)
    rw[hspq,<- y5i];exact y9q q _|>.symm
   have hq0:q∈b.spare:=by rw[hspq];simp
   refine fin Q (by rw[ha,e1];exact c.wf) (by rw[ha,e1]) (by rw[ha,e1]) (λ_=>rfl) (by rw[e1];exact c.sp q hq0) (λq hq=>c.rng q (hqs'.mem_iff.1 hq)) (hqs'.nodup_iff.2 c.nd) (by rw[hqs'.length_eq];exact c.ql) (λq' hq'=> ?_) c.qb;rw[hspr,e1]at hq';exact c.sp q' (by rw[hspq];exact y6u _ hq')
def Book.Core.used {b:Book} {Q:List (List Nat)} (c:b.Core Q (-1)) (hl:(b.flat Q).length<250):b.a.free≠0:=by
 intro hf;have hcn:=c.wf.free;rw[hf]at hcn;have hz:(b.a.slots.map (·.used)).countP (!·)=0:=by omega
 rw[List.countP_eq_zero]at hz;have hin:∀k∈am 250,k∈((b.rungs 1).flatMap (xC Q)++(b.rungs 2).flatMap (xC Q)):=by
  intro k hk;have hk:=y8b.1 hk;obtain⟨s,hs⟩:=yC (l:=b.a.slots) (i:=k) (by rw[c.wf.len];exact hk);have hu:s.used=aw:=by
   have:=hz s.used (y6g (y5m hs));simpa using this
  obtain⟨n,l,hn,hkl⟩:=c.wf.us k s hs hu;have hnQ:=(y5f.1 hn).1;have hm:(n:Int)∈b.qs:=yCu c.nd (λx hx=>by rw[c.ql];exact c.rng x hx) (by rw[c.ql];exact hnQ);have e:∀r:xL,r.queue=(n:Int)->k∈xC Q r:=by
   intro r hr;rw[xC,hr,y5u,zU hn];exact hkl
  rw[Book.qs]at hm;rcases y6f.1 hm with hm|hm
  ·rcases y6f.1 hm with hm|hm
   ·obtain⟨r,hr,er⟩:=y6n.1 hm;exact y6u _ (y7u.2 ⟨r,hr,e r er⟩)
   ·obtain⟨r,hr,er⟩:=y6n.1 hm;exact y6x _ (y7u.2 ⟨r,hr,e r er⟩)
  ·have:=c.sp _ hm;rw[y5u,zU hn]at this;rw[this]at hkl;cases hkl
 have h1:=zIm List.nodup_range hin;have e:∀s,(b.sideL Q s).length=((b.rungs s).flatMap (xC Q)).length:=by
  intro s;rw[Book.sideL,xAc,xAc];congr 1;exact y6k λr _=>by rw[Book.rOrds,y5c]
 rw[y5a,<- e,<- e,List.length_range]at h1;rw[Book.flat,y5a]at hl;omega
def zWf {s p:Int} {o:zH} (h:o.side≠s) (hlt:o.side=1\/o.side=2) (hs:s=1\/s=2):before s p o=decide (s=2):=by
 rw[before,y5q h,y8m,Bool.or_false];rcases hs with rfl|rfl
 ·rw[y5q (by omega),y5q (by omega)]
 ·rw[y5s (by omega),y5s rfl]
def Queued.put {b:Book} {Q:List (List Nat)} {s p:Int} {b':Book} {n:Int} {Q':List (List Nat)} {R1 R2:List xL} (h:Queued b Q s p b' n Q' R1 R2) (hs:s=1\/s=2) {id qty:Int} (top:Bool) (hid:id∉(b.flat Q).map (·.id)) (hf:b.a.free≠0) (hq:1<=qty/\qty<=1000000):
 ∃Q3 A B,({b' with a:=(b'.a.push n id qty top).1,at_:=rJ id ⟨s,p,(b'.a.push n id qty top).2.1⟩ b'.at_}:Book).Core Q3 (-1)/\b'.flat Q'=A++B/\
  ({b' with a:=(b'.a.push n id qty top).1,at_:=rJ id ⟨s,p,(b'.a.push n id qty top).2.1⟩ b'.at_}:Book).flat Q3=A++⟨id,s,p,qty,top⟩::B/\(∀o∈A,before s p o=aw)/\∀o∈B,before s p o=ax:=by
 have c:=h.core;have hrm:(⟨p,n⟩:xL)∈b'.rungs s:=by rw[h.rungs];simp
 have hnr:0<=n/\n<Q'.length:=c.rng n (uW hs hrm);obtain⟨m,rfl⟩:∃m:Nat,n=m:=⟨n.toNat,by omega⟩
 have hl:Q'[m]? =ay (xC Q' ⟨p,m⟩):=zYl (r:=⟨p,m⟩) hnr;obtain⟨k,k1,k2,k3,k4,kw,kent,kfree⟩:=c.wf.put (id:=id) hl (by rw[h.free];exact hf) top hq;have hpush:b'.a.push m id qty top=(b'.a.put m id qty top,(k:Int),0):=by
  have:=c.wf.ql;rw[Arena.push,y5b (by omega),y5b (by omega),y5b (by rw[h.free];exact hf),k1]
 rw[hpush];dsimp only;have hmQ:=(y5f.1 hl).1;have hqd:∀s' (r:xL),(s'=1\/s'=2)->r∈b'.rungs s'->(r.queue=m->s'=s/\r=⟨p,m⟩):=by
  intro s' r hs' hr e;obtain⟨rest,q1,_⟩:=z9l (b:=b') hs;have hnd:=q1.nodup_iff.1 c.nd;rw[h.rungs,y5l,y5p]at hnd;by_cases es:s'=s
  ·subst es;refine⟨rfl,?_⟩;rw[h.rungs]at hr;have hnd2:=(y7l.1 hnd).1;rcases y6f.1 hr with hr|hr
   ·exact absurd e ((y7l.1 hnd2).2.2 r.queue (y6g (f:=(·.queue)) hr) m y5h)
   ·rcases y5w.1 hr with rfl|hr
    ·rfl
    ·have:=(y7r.1 (y7l.1 hnd2).2.1).1;exact absurd (e▸y6g (f:=(·.queue)) hr) this
  ·exfalso;have hcn:=c.nd;rw[Book.qs]at hcn;have hcn2:=(y7l.1 (y7l.1 hcn).1).2.2;have ha:(m:Int)∈(b'.rungs s).map (·.queue):=y6n.2 ⟨_,hrm,rfl⟩
   have hb:(m:Int)∈(b'.rungs s').map (·.queue):=y6n.2 ⟨r,hr,e⟩
   rcases hs with rfl|rfl<;>rcases hs' with rfl|rfl
   ·exact es rfl
   ·exact hcn2 _ ha _ hb rfl
   ·exact hcn2 _ hb _ ha rfl
   ·exact es rfl
 have hsl1:xC (Q'.set m (xC Q' ⟨p,m⟩++[k])) ⟨p,m⟩=xC Q' ⟨p,m⟩++[k]:=by
  show(Q'.set m _).getD (Int.toNat (m:Int)) []=_;rw[y5u];exact zU (fV hmQ)
 have hsl2:∀q:Int,0<=q->q≠m->(Q'.set m (xC Q' ⟨p,m⟩++[k])).getD q.toNat []=Q'.getD q.toNat []:=by
  intro q h0 hne;rw[y5k,vY (by omega),y5k]
 generalize hQ3:Q'.set m (xC Q' ⟨p,m⟩++[k])=Q3 at*;have hQl:Q3.length=Q'.length:=by rw[<- hQ3,y6j]
 have hpid:=aI;have hord:∀s' (r:xL),(s'=1\/s'=2)->r∈b'.rungs s'->∀j∈xC Q' r,j≠k/\(wU (b'.a.put m id qty top) s' r.price j=wU b'.a s' r.price j/\vJ (b'.a.put m id qty top) s' r.price j=vJ b'.a s' r.price j):=by
  intro s' r hs' hr j hj;have hjk:j≠k:=by rintro rfl;exact k4 _ _ (c.get hs' hr) hj
  have:=kent j;rw[y5b hjk]at this;refine⟨hjk,by rw[wU,wU,this],?_⟩;have:=congrArg Ent.id this;rw[vJ,vJ];exact congrArg (λi=>(i,(⟨s',r.price,j⟩:Place))) this
 have hr0:∀s' (r:xL),(s'=1\/s'=2)->r∈b'.rungs s'->r.queue≠m->xC Q3 r=xC Q' r:=by
  intro s' r hs' hr hne;exact hsl2 _ (c.rng _ (uW hs' hr)).1 hne
 generalize hB:({b' with a:=b'.a.put m id qty top,at_:=rJ id ⟨s,p,k⟩ b'.at_}:Book)=B3;have hBr:∀s',B3.rungs s'=b'.rungs s':=by intro s';rw[<- hB];rfl
 have hBa:B3.a=b'.a.put m id qty top:=by rw[<- hB]
 have hBat:B3.at_=rJ id ⟨s,p,k⟩ b'.at_:=by rw[<- hB]
 have hBqs:B3.qs=b'.qs:=by rw[<- hB];rfl
 have hBsp:B3.spare=b'.spare:=by rw[<- hB]
 have hro:∀s' (r:xL),(s'=1\/s'=2)->r∈b'.rungs s'->r.queue≠m->B3.rOrds Q3 s' r=b'.rOrds Q' s' r/\(xC Q3 r).map (vJ B3.a s' r.price)=(xC Q' r).map (vJ b'.a s' r.price):=by
  intro s' r hs' hr hne;rw[Book.rOrds,Book.rOrds,hr0 s' r hs' hr hne,hBa];exact⟨y6k λj hj=>(hord s' r hs' hr j hj).2.1,y6k λj hj=>(hord s' r hs' hr j hj).2.2⟩
 have hnew:wU B3.a s p k=⟨id,s,p,qty,top⟩/\vJ B3.a s p k=(id,⟨s,p,k⟩):=by
  have:=kent k;rw[y5d rfl]at this;rw[wU,hBa,this];refine⟨rfl,?_⟩;have:=congrArg Ent.id this;rw[vJ];exact congrArg (λi=>(i,(⟨s,p,k⟩:Place))) this
 have hroN:B3.rOrds Q3 s ⟨p,m⟩=b'.rOrds Q' s ⟨p,m⟩++[⟨id,s,p,qty,top⟩]/\(xC Q3 ⟨p,m⟩).map (vJ B3.a s p)=(xC Q' ⟨p,m⟩).map (vJ b'.a s p)++[(id,⟨s,p,k⟩)]:=by
  rw[Book.rOrds,Book.rOrds,hsl1,y5l,y5l,xBg,xBg];refine⟨?_,?_⟩
  ·rw[hnew.1,y6k (g:=wU b'.a s p) λj hj=>by rw[hBa];exact(hord s ⟨p,m⟩ hs hrm j hj).2.1]
  ·rw[hnew.2,y6k (g:=vJ b'.a s p) λj hj=>by rw[hBa];exact(hord s ⟨p,m⟩ hs hrm j hj).2.2]
 have hR1:∀r∈R1,r∈b'.rungs s/\r.queue≠m:=by
  intro r hr;have hm:r∈b'.rungs s:=by rw[h.rungs];exact y6u _ hr
  refine⟨hm,λe=> ?_⟩;have e2:=(hqd s r hs hm e).2;have:=h.spl.a r hr;rw[e2,l5]at this;cases this
 have hR2:∀r∈R2,r∈b'.rungs s/\r.queue≠m:=by
  intro r hr;have hm:r∈b'.rungs s:=by rw[h.rungs];exact y6x _ (y5j _ hr)
  refine⟨hm,λe=> ?_⟩;have e2:=(hqd s r hs hm e).2;have:=h.spl.b r hr;rw[e2,l5]at this;cases this
 have zC:B3.sideL Q3 s=(R1.flatMap (b'.rOrds Q' s)++b'.rOrds Q' s ⟨p,m⟩)++⟨id,s,p,qty,top⟩::R2.flatMap (b'.rOrds Q' s):=by
  rw[Book.sideL,hBr,h.rungs,y7a,y6w,hroN.1,xD (l:=R1) (λr hr=>(hro s r hs (hR1 r hr).1 (hR1 r hr).2).1),xD (l:=R2) (λr hr=>(hro s r hs (hR2 r hr).1 (hR2 r hr).2).1)];simp
 have sideO:b'.sideL Q' s=(R1.flatMap (b'.rOrds Q' s)++b'.rOrds Q' s ⟨p,m⟩)++R2.flatMap (b'.rOrds Q' s):=by
  rw[Book.sideL,h.rungs,y7a,y6w,y5i]
 have plcN:(B3.plcs Q3 s).Perm ((id,⟨s,p,k⟩)::b'.plcs Q' s):=by
  rw[Book.plcs,hBr,h.rungs,y7a,y6w,hroN.2,xD (l:=R1) (λr hr=>(hro s r hs (hR1 r hr).1 (hR1 r hr).2).2),xD (l:=R2) (λr hr=>(hro s r hs (hR2 r hr).1 (hR2 r hr).2).2),Book.plcs,h.rungs,y7a,y6w];rw[y5i,List.singleton_append,<- y5i];refine y5r.trans ?_;rw[y5i]
 have other:∀s',s'≠s->s'=1\/s'=2->B3.sideL Q3 s'=b'.sideL Q' s'/\B3.plcs Q3 s'=b'.plcs Q' s':=by
  intro s' hne hs';have hne':∀r∈b'.rungs s',r.queue≠m:=λr hr e=>hne (hqd s' r hs' hr e).1
  rw[Book.sideL,Book.sideL,Book.plcs,Book.plcs,hBr];exact⟨xD λr hr=>(hro s' r hs' hr (hne' r hr)).1,xD λr hr=>(hro s' r hs' hr (hne' r hr)).2⟩
 have bA:∀o∈R1.flatMap (b'.rOrds Q' s)++b'.rOrds Q' s ⟨p,m⟩,before s p o=aw:=by
  intro o ho;rcases y6f.1 ho with ho|ho
  ·obtain⟨r,hr,ho⟩:=y7u.1 ho;obtain⟨e1,e2⟩:=qF ho;rw[before,e1,e2,zYp (h.spl.a r hr)];simp
  ·obtain⟨e1,e2⟩:=qF ho;rw[before,e1,e2,l5];simp
 have bB:∀o∈R2.flatMap (b'.rOrds Q' s),before s p o=ax:=by
  intro o ho;obtain⟨r,hr,ho⟩:=y7u.1 ho;obtain⟨e1,e2⟩:=qF ho;rw[before,e1,e2,h.spl.b r hr];simp
 have bO:∀s',s'≠s->s'=1\/s'=2->∀o∈b'.sideL Q' s',before s p o=decide (s=2):=by
  intro s' hne hs' o ho;have:=(mC ho).1;exact zWf (by omega) (by omega) hs
 have flatE:∃A B,b'.flat Q'=A++B/\B3.flat Q3=A++⟨id,s,p,qty,top⟩::B/\(∀o∈A,before s p o=aw)/\∀o∈B,before s p o=ax:=by
  rcases hs with rfl|rfl
  ·refine⟨_,R2.flatMap (b'.rOrds Q' 1)++b'.sideL Q' 2,?_,?_,bA,λo ho=> ?_⟩
   ·rw[Book.flat,sideO];simp only[y5i]
   ·rw[Book.flat,zC,(other 2 (by decide) (.inr rfl)).1];simp only[y5i,y6t]
   ·rcases y6f.1 ho with ho|ho
    ·exact bB o ho
    ·exact bO 2 (by decide) (.inr rfl) o ho
  ·refine⟨b'.sideL Q' 1++(R1.flatMap (b'.rOrds Q' 2)++b'.rOrds Q' 2 ⟨p,m⟩),R2.flatMap (b'.rOrds Q' 2),?_,?_,λo ho=> ?_,bB⟩
   ·rw[Book.flat,sideO];simp only[y5i]
   ·rw[Book.flat,zC,(other 1 (by decide) (.inl rfl)).1];simp only[y5i]
   ·rcases y6f.1 ho with ho|ho
    ·exact bO 1 (by decide) (.inl rfl) o ho
    ·exact bA o ho
 obtain⟨A,B,f1,f2,f3,f4⟩:=flatE;refine⟨Q3,A,B,⟨by rw[hBa];exact kw,λs' hs'=>by rw[hBr];exact c.srt s' hs',by rw[hBqs,hQl];exact c.rng,by rw[hBqs];exact c.nd,by rw[hBqs,hQl];exact c.ql,λs' hs' r hr _=> ?_,λq hq=> ?_,?_,?_,by rw[hQl];exact c.qb⟩,f1,f2,f3,f4⟩
 ·rw[hBr]at hr;by_cases e:r.queue=m
  ·obtain⟨rfl,rfl⟩:=hqd s' r hs' hr e;rw[hsl1];simp
  ·rw[hr0 s' r hs' hr e];exact c.ne s' hs' r hr e
 ·rw[hBsp]at hq;have hqq:q∈b'.qs:=y6x _ hq;rw[hsl2 q (c.rng q hqq).1 λe=> ?_]
  ·exact c.sp q hq
  ·have hcn:=c.nd;rw[Book.qs]at hcn;refine(y7l.1 hcn).2.2 m ?_ q hq e.symm;rcases hs with rfl|rfl
   ·exact y6u _ (y6n.2 ⟨_,hrm,rfl⟩)
   ·exact y6x _ (y6n.2 ⟨_,hrm,rfl⟩)
 ·have hnk:id∉b'.at_.map (·.1):=by
   rw[c.keysP.mem_iff,h.flat];exact hid
  rw[hBat,zWu hnk];refine(y9q _ _).trans ?_;rcases hs with rfl|rfl
  ·rw[(other 2 (by decide) (.inr rfl)).2];exact(c.at_.cons _).trans (plcN.symm.append_right _)
  ·rw[(other 1 (by decide) (.inl rfl)).2];refine(c.at_.cons _).trans ?_;refine(y5r.symm).trans (plcN.symm.append_left _)
 ·rw[f2,y5l,y5p];have h1:=c.ids;rw[f1,y5l]at h1;have h2:id∉(A++B).map (·.id):=by rw[<- f1,h.flat];exact hid
  refine y5r.nodup_iff.2 (y7r.2 ⟨by rw[y5l]at h2;exact h2,h1⟩)
def wM (L:List zH) (id:Int):Bool:=L.any λo=>decide (o.id=id)
def zKl (L:List zH) (s id p q:Int):List zH×Int:=if q<1\/1000000<q then(L,24)else if wM L id=aw then(L,25)else if 250<=L.length then(L,13)else(zUq L s id p q,0)
def hasId_iff {L:List zH} {id:Int}:wM L id=aw↔id∈L.map (·.id):=by
 rw[wM,List.any_eq_true,y6n];constructor
 ·rintro⟨o,ho,e⟩;exact⟨o,ho,y6b e⟩
 ·rintro⟨o,ho,e⟩;exact⟨o,ho,y5s e⟩
def pA {b:Book} {Q:List (List Nat)} {o:zH} (h:o∈b.flat Q):(o.side=1\/o.side=2)/\∃r∈b.rungs o.side,o∈b.rOrds Q o.side r/\o.price=r.price:=by
 rcases y6f.1 h with h|h
 all_goals
  obtain⟨e,r,hr,ho,hp⟩:=mC h;rw[e];exact⟨by simp,r,hr,ho,hp⟩
def flat_mem {b:Book} {Q:List (List Nat)} {s:Int} (hs:s=1\/s=2) {o:zH} (h:o∈b.sideL Q s):o∈b.flat Q:=by
 rcases hs with rfl|rfl
 ·exact y6u _ h
 ·exact y6x _ h
def Book.Core.leads {b:Book} {Q:List (List Nat)} (c:b.Core Q (-1)) {s:Int} (hs:s=1\/s=2) (p:Int):b.leads s p=gI (b.flat Q) s p:=by
 have hsrt:=c.srt s hs;have hne:=c.ne s hs;rw[Book.leads];cases hr:b.rungs s with
 |nil=>
  symm;dsimp only;rw[gI,y8h];intro o ho;obtain⟨_,r,hr2,_⟩:=pA ho;by_cases e:o.side=s
  ·rw[e,hr]at hr2;cases hr2
  ·rw[y5q e];rfl
 |cons r0 l=>
  dsimp only;rw[hr,y8w]at hsrt;have hm:r0∈b.rungs s:=by rw[hr];exact y5h
  cases hb:btr s p r0.price with
  |true=>
   symm;rw[gI,y8h];intro o ho;obtain⟨_,r,hr2,_,hp⟩:=pA ho;by_cases e:o.side=s
   ·rw[e,hr]at hr2;rw[hp];rcases y5w.1 hr2 with rfl|hr2
    ·rw[hb];simp
    ·rw[zRo hb (hsrt.1 r hr2)];simp
   ·rw[y5q e];rfl
  |false=>
   symm;rw[gI,List.all_eq_false];have h0:=hne r0 hm λe=>by have:=c.rng _ (uW hs hm);omega
   cases hk:xC Q r0 with
   |nil=>exact absurd hk h0
   |cons k ks=>
    refine⟨wU b.a s r0.price k,flat_mem hs (y7u.2 ⟨r0,hm,by rw[Book.rOrds,hk];exact y5h⟩),?_⟩;show ¬((!decide (s=s))||btr s p r0.price)=aw;rw[hb];simp
def z8r {L:List zH} {s:Int} {o:zH} (h:o∈clr L s):∃o'∈L,o.id=o'.id/\o.side=o'.side/\o.price=o'.price/\o.qty=o'.qty/\o.top=(if o.side=s then ax else o'.top):=by
 obtain⟨o',ho,e⟩:=y6n.1 h;refine⟨o',ho,?_⟩;by_cases c:o'.side=s
 ·rw[y5d c]at e;subst e;exact⟨rfl,rfl,rfl,rfl,(y5d c).symm⟩
 ·rw[y5b c]at e;subst e;exact⟨rfl,rfl,rfl,rfl,(y5b c).symm⟩
def yLo {L:List zH} {s:Int} {o:zH} (h:o∈L) (hs:o.side≠s):o∈clr L s:=y6n.2 ⟨o,h,y5b hs⟩
def z5q (L:List zH) (s:Int):(clr L s).map (·.id)=L.map (·.id):=by
 rw[clr,y7q];refine y6k λo _=> ?_
 simp only[ci];split<;>rfl
def zWr (b:Book) (id:Int) {s:Int} (hs:s=1\/s=2):(b.leadF id s).a=b.untop s/\(b.leadF id s).buys=b.buys/\(b.leadF id s).sells=b.sells/\(b.leadF id s).at_=b.at_/\(b.leadF id s).spare=b.spare/\∀s',s'=1\/s'=2->(b.leadF id s).hasF s'=(if s'=s then aw else b.hasF s')/\(b.leadF id s).topI s'=(if s'=s then id else b.topI s'):=by
 rcases hs with rfl|rfl
 ·exact⟨rfl,rfl,rfl,rfl,rfl,λs' h=>by rcases h with rfl|rfl<;>exact⟨rfl,rfl⟩⟩
 ·exact⟨rfl,rfl,rfl,rfl,rfl,λs' h=>by rcases h with rfl|rfl<;>exact⟨rfl,rfl⟩⟩
def Book.Core.like {b b':Book} {Q:List (List Nat)} {h:Int} (c:b.Core Q h) (e1:b'.a=b.a) (e2:b'.buys=b.buys) (e3:b'.sells=b.sells) (e4:b'.at_=b.at_) (e5:b'.spare=b.spare):b'.Core Q h/\b'.flat Q=b.flat Q:=by
 have er:∀s,b'.rungs s=b.rungs s:=λs=>by rw[Book.rungs,Book.rungs,e2,e3]
 have eo:∀s r,b'.rOrds Q s r=b.rOrds Q s r:=λs r=>by rw[Book.rOrds,Book.rOrds,e1]
 have es:∀s,b'.sideL Q s=b.sideL Q s:=λs=>by rw[Book.sideL,Book.sideL,er];exact xD λr _=>eo s r
 have ep:∀s,b'.plcs Q s=b.plcs Q s:=λs=>by rw[Book.plcs,Book.plcs,er,e1]
 have ef:b'.flat Q=b.flat Q:=by rw[Book.flat,Book.flat,es,es]
 have eq:b'.qs=b.qs:=by rw[Book.qs,Book.qs,e2,e3,e5]
 exact⟨⟨by rw[e1];exact c.wf,λs hs=>by rw[er];exact c.srt s hs,by rw[eq];exact c.rng,by rw[eq];exact c.nd,by rw[eq];exact c.ql,λs hs=>by rw[er];exact c.ne s hs,by rw[e5];exact c.sp,by rw[e4,ep,ep];exact c.at_,by rw[ef];exact c.ids,c.qb⟩,ef⟩
def Book.Rep.stand {b:Book} {L:List zH} (h:b.Rep L) {s:Int} (hs:s=1\/s=2) {id p q:Int} (hid:id∉L.map (·.id)) (hl:L.length<250) (hq:1<=q/\q<=1000000):(b.stand s id p q).Rep (zUq L s id p q):=by
 obtain⟨Q,c,ht,rfl⟩:=h;have hld:=c.leads hs p;have h1:(b.led id s p).Core Q (-1)/\(b.led id s p).flat Q=(if gI (b.flat Q) s p=aw then clr (b.flat Q) s else b.flat Q):=by
  rw[Book.led,hld];split
  ·obtain⟨e1,e2,e3,e4,e5,_⟩:=zWr b id hs;obtain⟨u1,u2⟩:=c.untop s;obtain⟨v1,v2⟩:=Book.Core.like (b':=b.leadF id s) (c.flag u1 u2) e1 e2 e3 e4 e5;exact⟨v1,v2.trans (c.untop_flat ht hs)⟩
  ·exact⟨c,rfl⟩
 obtain⟨c1,f1⟩:=h1;have hlen1:((b.led id s p).flat Q).length<250:=by
  rw[f1];split
  ·rw[clr,y5c];exact hl
  ·exact hl
 have hid1:id∉((b.led id s p).flat Q).map (·.id):=by
  rw[f1];split
  ·rw[z5q];exact hid
  ·exact hid
 obtain⟨Q',R1,R2,hqd⟩:=c1.queue hlen1 hs p;obtain⟨Q3,A,B,k1,k2,k3,k4,k5⟩:=hqd.put hs (b.leads s p) hid1 (c1.used hlen1) hq;have hAB:A++B=(if gI (b.flat Q) s p=aw then clr (b.flat Q) s else b.flat Q):=by rw[<- k2,hqd.flat,f1]
 have hins:zUq (b.flat Q) s id p q=A++⟨id,s,p,q,b.leads s p⟩::B:=by
  rw[zUq];obtain⟨t1,t2⟩:=yKe k4 k5;rw[<- hAB,t1,t2,hld]
 refine⟨Q3,k1,?_,?_⟩
 ·rw[hins,hld];show Book.Tops {((b.led id s p).queueF s p).1 with a:=_,at_:=_} _;have hto:∀x,({((b.led id s p).queueF s p).1 with a:=(((b.led id s p).queueF s p).1.a.push ((b.led id s p).queueF s p).2 id q (b.leads s p)).1,at_:=rJ id ⟨s,p,(((b.led id s p).queueF s p).1.a.push ((b.led id s p).queueF s p).2 id q (b.leads s p)).2.1⟩ ((b.led id s p).queueF s p).1.at_}:Book).hasF x=(b.led id s p).hasF x/\({((b.led id s p).queueF s p).1 with a:=(((b.led id s p).queueF s p).1.a.push ((b.led id s p).queueF s p).2 id q (b.leads s p)).1,at_:=rJ id ⟨s,p,(((b.led id s p).queueF s p).1.a.push ((b.led id s p).queueF s p).2 id q (b.leads s p)).2.1⟩ ((b.led id s p).queueF s p).1.at_}:Book).topI x=(b.led id s p).topI x:=hqd.qty;generalize ({((b.led id s p).queueF s p).1 with a:=(((b.led id s p).queueF s p).1.a.push ((b.led id s p).queueF s p).2 id q (b.leads s p)).1,at_:=rJ id ⟨s,p,(((b.led id s p).queueF s p).1.a.push ((b.led id s p).queueF s p).2 id q (b.leads s p)).2.1⟩ ((b.led id s p).queueF s p).1.at_}:Book)=B3 at*;have mAB:∀o,o∈A++⟨id,s,p,q,gI (b.flat Q) s p⟩::B↔o=⟨id,s,p,q,gI (b.flat Q) s p⟩\/o∈A++B:=by
   intro o;rw[y6f,y5w,y6f];constructor
   ·rintro(h|h|h)
    ·exact .inr (.inl h)
    ·exact .inl h
    ·exact .inr (.inr h)
   ·rintro(h|h|h)
    ·exact .inr (.inl h)
    ·exact .inl h
    ·exact .inr (.inr h)
  have hsd:∀o∈b.flat Q,o.side=1\/o.side=2:=λo ho=>(pA ho).1
  by_cases hlead:gI (b.flat Q) s p=aw
  ·rw[y5d hlead]at hAB;have hb1:b.led id s p=b.leadF id s:=by rw[Book.led,y5d (hld.trans hlead)]
   obtain⟨_,_,_,_,_,e6⟩:=zWr b id hs;rw[hb1]at hto;refine⟨λo ho=> ?_,λs' hs' hh=> ?_⟩
   ·rcases(mAB o).1 ho with rfl|ho
    ·rw[(hto s).1,(hto s).2,(e6 s hs).1,(e6 s hs).2,y5d rfl,y5d rfl,hlead];simp
    ·rw[hAB]at ho;obtain⟨o',ho',i1,i2,_,_,i5⟩:=z8r ho;rw[(hto _).1,(hto _).2,i5,(e6 o.side (by rw[i2];exact hsd o' ho')).1,(e6 o.side (by rw[i2];exact hsd o' ho')).2];by_cases e:o.side=s
     ·rw[y5d e,y5d e,y5d e,y7z];symm;refine y5q λe2=>hid ?_
      rw[<- e2,i1];exact y6g ho'
     ·rw[y5b e,y5b e,y5b e,ht.fl o' ho',i1,i2]
   ·rw[(hto s').2,(e6 s' hs').2];by_cases e:s'=s
    ·rw[y5d e];exact⟨_,(mAB _).2 (.inl rfl),e.symm,rfl⟩
    ·rw[(hto s').1,(e6 s' hs').1,y5b e]at hh;rw[y5b e];obtain⟨o,ho,o1,o2⟩:=ht.th s' hs' hh;exact⟨o,(mAB _).2 (.inr (by rw[hAB];exact yLo ho (by rw[o1];exact e))),o1,o2⟩
  ·rw[y5b hlead]at hAB;have hlf:gI (b.flat Q) s p=ax:=by simpa using hlead
   have hb1:b.led id s p=b:=by rw[Book.led,y5b (by rw[hld];exact hlead)]
   rw[hb1]at hto;refine⟨λo ho=> ?_,λs' hs' hh=> ?_⟩
   ·rw[(hto _).1,(hto _).2];rcases(mAB o).1 ho with rfl|ho
    ·show gI (b.flat Q) s p=(b.hasF s && decide (id=b.topI s));rw[hlf];cases hh:b.hasF s with
     |false=>rfl
     |true=>
      rw[y7z];symm;refine y5q λe2=>hid ?_
      obtain⟨o,ho,_,o2⟩:=ht.th s hs hh;rw[e2,<- o2];exact y6g ho
    ·rw[hAB]at ho;exact ht.fl o ho
   ·rw[(hto s').1]at hh;rw[(hto s').2];obtain⟨o,ho,o1,o2⟩:=ht.th s' hs' hh;exact⟨o,(mAB _).2 (.inr (by rw[hAB];exact ho)),o1,o2⟩
 ·rw[hins];exact k3.symm
def Book.Rep.pget {b:Book} {L:List zH} (h:b.Rep L) (id:Int):(pget b.at_ id).isSome=wM L id:=by
 obtain⟨Q,c,ht,rfl⟩:=h;cases hg:Sx.pget b.at_ id with
 |none=>
  have:=zIk hg;rw[c.keysP.mem_iff,<- hasId_iff]at this;symm;simpa using this
 |some x=>
  have:=y6g (f:=(·.1)) (eK hg)
  rw[c.keysP.mem_iff,<- hasId_iff]at this;symm;exact this
def Book.Rep.len {b:Book} {L:List zH} (h:b.Rep L):b.at_.length=L.length:=by
 obtain⟨Q,c,ht,rfl⟩:=h;exact c.len
def Book.Rep.add {b:Book} {L:List zH} (h:b.Rep L) {s:Int} (hs:s=1\/s=2) (id p q:Int):(b.addF s id p q).1.Rep (zKl L s id p q).1/\(b.addF s id p q).2=(zKl L s id p q).2:=by
 rw[Book.addF,zKl,h.pget,h.len]
 repeat' split
 all_goals first|exact⟨h,rfl⟩|skip
 rename_i c1 c2 c3;exact⟨h.stand hs (λe=>c2 (hasId_iff.2 e)) (by omega) (by omega),rfl⟩
def yBr:book0.Rep []:=by
 refine⟨[],⟨⟨⟨by simp[book0,zPc],rfl,λn l h=>by simp at h,λn l h=>by simp at h,λn l h=>by simp at h,λk s hk hu=> ?_,?_⟩,λn l h=>by simp at h⟩,λs hs=> ?_,λq hq=>by simp[book0,Book.qs]at hq,by simp[book0,Book.qs],rfl,λs hs r hr=> ?_,λq hq=>by simp[book0]at hq,?_,?_,by decide⟩,⟨λo ho=>(by cases ho),λs hs hh=> ?_⟩,?_⟩
 ·have:=y5m hk;rw[xAt this]at hu;cases hu
 ·decide
 ·rcases hs with rfl|rfl<;>exact List.Pairwise.nil
 ·rcases hs with rfl|rfl<;>cases hr
 ·exact List.Perm.refl _
 ·exact List.nodup_nil
 ·rcases hs with rfl|rfl<;>cases hh
 ·rfl
structure BoI where
 b:Book
 s:Int
 r:xL
 l:List Nat
def BoI.ords (i:BoI):List zH:=(i.b.a.ents i.l).map λe=>⟨e.id,i.s,i.r.price,e.qty,e.top⟩
def ordersC:Con:=con1 BoI (λi=>[.nm 0 0,zA i.s,.agg [zA i.r.price,zA i.r.queue]]) (λi=>[z8 i.b]) (λi=>i.b.a.listOk i.r.queue i.l) (λ_=> .own 1) (λi=>[z8 i.b,.own 57 5 (i.ords.map wW)])
def yOe (i:BoI):List SAnn:=[{ι:=Nat,slots:=λj=>[(7,.own 0),(18,zA j)],rows:=λj=>[.own 57 5 ((i.ords.take j).map wW)]}]
def fA (a:ArL):=(aa zKi (a.a.ents a.l))
def z5n (i:BoI):Prop:=
 ∃(a:ArL),a.n=i.r.queue/\ap Arena 3 zG a.a=ap Arena 3 zG i.b.a/\a.a.listOk a.n a.l/\∀(b:Unit),True->∃(c:Nat),(↑c:Int)=0/\aa wW (ac c i.ords)=[]/\∃(d:Nat->Prop),∃(e:Nat->Nat),d c/\∀(f:Nat),d f->cnd (decide ((↑f:Int)<(↑(fA a).length:Int))) ((0<=(↑f:Int)/\(↑f:Int)<(↑(fA a).length:Int))/\∃(g:Int),∃(h:Int),∃(j:Int),∃(k:Bool),zE (fA a) (↑f:Int).toNat 0 4=ay [dI g,dI h,dI j,D.v (.bool k)]/\((aa wW (ac f i.ords)).length+1)*(40:Nat)<=(140737488355328:Nat)/\∃(l:Nat),(↑l:Int)=bg.wrap ((↑f:Int)+1)/\aa wW (ac l i.ords)=aa wW (ac f i.ords)++[[dI h,dI i.s,dI i.r.price,dI j,D.v (.bool k)]]/\d l/\e l<e f/\dh (ap Arena 3 zG a.a)/\dh (ar 247 4 (fA a))/\dh (aq [V.d (dI i.r.price),V.d (dI i.r.queue)] 255)/\dh (aq [V.nm 1 0,V.own 2,V.own 3,V.mp 4,V.d (dI i.b.top1),V.d (dI i.b.top2),V.own 5,V.d (D.v (.bool i.b.has1)),V.d (D.v (.bool i.b.has2))] (245:cd))/\dh (ar 255 2 (aa zB i.b.buys))/\dh (ar 255 2 (aa zB i.b.sells))/\dh (av (atE i.b.at_))/\dh (ar 3 1 (iE i.b.spare))) (∃(g:Unit),dh i.b.top1/\dh i.b.top2/\dh i.b.has1/\dh i.b.has2/\ap Arena 3 zG i.b.a=ap Arena 3 zG a.a/\dh (aa zB i.b.buys)/\dh (aa zB i.b.sells)/\dh (atE i.b.at_)/\dh (iE i.b.spare)/\aa wW i.ords=aa wW (ac f i.ords)/\True)
def y4c {l:List Ent} {k:Nat} {e:Ent} (h:l[k]? =ay e):zE (l.map zKi) k 0 4=ay [D.v (.int .i64 e.slot),.v (.int .i64 e.id),.v (.int .i64 e.qty),.v (.bool e.top)]:=elA h (by simp[zKi]) rfl
def yLw (i:BoI) (h:ordersC.cnd i):z5n i:=by
 have h:i.b.a.listOk i.r.queue i.l:=h;have hl:=h.len;have hen:(i.b.a.ents i.l).length=i.l.length:=by simp[Arena.ents]
 have hol:i.ords.length=i.l.length:=by simp[BoI.ords,Arena.ents]
 unfold z5n fA dI;refine⟨⟨i.b.a,i.r.queue,i.l⟩,rfl,rfl,h,λ_ _=> ?_⟩;simp only[y5c];refine⟨0,rfl,rfl,λj=>j<=i.l.length,λj=>i.l.length-j,y6i _,λj hj=>zI (λc=> ?_) (λc=> ?_)⟩
 ·obtain⟨e,he⟩:=yC (l:=i.b.a.ents i.l) (i:=j) (by omega);have ho:i.ords[j]? =ay ⟨e.id,i.s,i.r.price,e.qty,e.top⟩:=by rw[BoI.ords,y6q,he];rfl
  refine⟨⟨by omega,by omega⟩,e.slot,e.id,e.qty,e.top,y4c he,by rw[y5t];omega,j+1,wjn (by omega),?_,by omega,by dsimp only;omega,by(repeat'(first|exact trivial|exact rfl|apply co))⟩;rw[y6m,ho];simp[wW]
 ·have hje:j=i.l.length:=by omega
  subst hje;rw[y5n (l:=i.ords) (by omega)]
  (repeat'(first|exact rfl|exact trivial|assumption|apply co|refineλ(_:Unit) (_:True)=>?_|refine Exists.intro () ?_|omega|(dsimp only;omega)))
def zSi:ordersC.ok Tryz.prog 209:=okw mixed (gokc yHw gok0) 0 (λ_=>[]) (λi=>yOe i) [0] Tryz.func209 yLw
open Go Go.RowKit Cv
def z0o {P:bv} {tS rt e sz by_:Nat} {z:Array bo} (hi:vP P tS=ay (e,sz,by_,z)) {w:bu} {g i c n k:Nat} {A:Option ce} {cur src:List bo} {T:cd}
 (hg:w.heap[g]? =ay (.cells cur.toArray T (0,0))) (hs:(bc sz n (.slice A n k)).run P w= .ok src.toArray w) (hl:src.length=n*sz) (hfit:i+n<=c) (hroom:i*sz+n*sz<=cur.length) (hone:∀v∈src,v.oneC=aw):
 u0 P (be #[tS,tS] rt #[.slice (ay ⟨g,0,az⟩) i c,.slice A n k]) w (.slice (ay ⟨g,0,az⟩) (i+n) c) (World.setB w g (.cells (spl cur (i*sz) src).toArray T (0,0))):=by
 obtain⟨inf,zv,q1,q2,rfl,rfl,q5,rfl⟩:=kH hi;have hst:=wA (P:=P) src 0 (i*inf.size) cur w hg (by omega) hone;simp only[y9n]at hst;have hln:∀w,(Builtin.lenOf (.slice A n k)).run P w= .ok n w:=λw=>rfl
 unfold u0 be;simp only[y7d,y7m,y7b,bind,pure,run_bind,Sem.bind,Sem.run,Cv.run_underlying q1,Cv.run_sizeOf q2,y5v,if_false,hs,hln,hfit,if_true,vU,y6c,hst,xAd]
def z4n {P:bv} {tS ty e sz by_:Nat} {z:Array bo} (hi:vP P tS=ay (e,sz,by_,z)) (hz:z.size=sz) (h1:∀v∈z.toList,v.oneC=aw) {w:bu} {g o n c:Nat} {cur:List bo} {T:cd} (hn:0<n)
 (hg:w.heap[g]? =ay (.cells cur.toArray T (0,0))) (hroom:o+n*sz<=cur.length):
 u0 P (Builtin.clear_ #[tS] ty #[.slice (ay ⟨g,o,az⟩) n c]) w (.tuple #[]) (World.setB w g (.cells (spl cur o (ba z n).toList).toArray T (0,0))):=by
 obtain⟨inf,zv,q1,q2,rfl,rfl,q5,rfl⟩:=kH hi;have hlz:(ba zv.cells n).toList.length=n*inf.size:=by rw[y9b,bz,hz]
 have hst:=wA (P:=P) (ba zv.cells n).toList 0 o cur w hg (by omega) (by
  intro v hv;obtain⟨i,hi,rfl⟩:=List.getElem_of_mem hv;simp only[ba,Array.getElem_toList,Array.getElem_map,Array.getElem_range];have hpos:0<zv.cells.size:=by
   rcases Nat.eq_zero_or_pos zv.cells.size with h0|h0
   ·rw[hlz,<- hz,h0]at hi;omega
   ·exact h0
  have hlt:i % zv.cells.size<zv.cells.size:=Nat.mod_lt _ hpos;rw[getElem!_pos zv.cells (i % zv.cells.size) hlt];exact h1 _ (by simp))
 simp only[y9n]at hst;have hzr:∀w,(zeroValue e).run P w= .ok zv w:=λw=>zero_run (by unfold zero?;rw[q2];exact q5) w
 obtain⟨m,rfl⟩:∃m,n=m+1:=⟨n-1,by omega⟩
 unfold u0 Builtin.clear_;simp only[y7d,y7m,y7b,bind,pure,run_bind,Sem.bind,Sem.run,Cv.run_underlying q1,hzr,hst]
def yUw (P:bv) (tS sz:Nat) (s:Option ce) (sn sk:Nat) (i j:Int) (w:bu) (R:Ending->bu->Prop):Prop:=
ySs s sk i j (sn:Int) sz λa1 na1 ka1=>
cnd ((i:Int)==j) (
R (.returned (.slice s sn sk)) w) (
z8a w λw2=>
slN s sn sk az (ay i) sz λa3 na3 ka3=>
slN s sn sk (ay j) az sz λa4 na4 ka4=>
∃(a5:Option ce) (na5 ka5:Nat),∃w6:bu,u0 P (be #[tS,tS] tS #[.slice a3 na3 ka3,.slice a4 na4 ka4]) w2 (.slice a5 na5 ka5) w6/\
slN a5 na5 ka5 (ay (na5:Int)) (ay (sn:Int)) sz λa7 na7 ka7=>
∃w8:bu,u0 P (Builtin.clear_ #[tS] 0 #[.slice a7 na7 ka7]) w6 (.tuple #[]) w8/\
R (.returned (.slice a5 na5 ka5)) w8)
def y4o {P:bv} {tS e sz by_:Nat} {z:Array bo} (hi:vP P tS=ay (e,sz,by_,z)) (hz:z.size=sz) (hz1:∀v∈z.toList,v.oneC=aw)
 {k:Ko} {w:bu} {L:List HP} {s:Option ce} {sn sk i j:Nat} {xs:List bo} (H:Hp k w (slO e sz s sn sk xs::L)) (h1:∀u∈xs,u.oneC=aw) (hij:i<j) (hj:j<=sn):
 yUw P tS sz s sn sk i j w λen w'=>∃a kk,en= .returned (.slice a (sn-(j-i)) kk)/\Hp k w' (slO e sz a (sn-(j-i)) kk (xs.take (i*sz)++xs.drop (j*sz))::L):=by
 obtain⟨hxl,hnk⟩:=H.len;rcases H.slcases with⟨_,e0,_⟩|⟨b,r,rfl,g1,g2,g3,H0⟩
 ·omega
 have hle:i*sz<=xs.length:=by rw[hxl];exact y6o _ (by omega)
 have hjle:j*sz<=xs.length:=by rw[hxl];exact y6o _ hj
 have hdl:(xs.drop (j*sz)).length=(sn-j)*sz:=by rw[y5z,hxl,Nat.sub_mul]
 have hsum:i*sz+(sn-j)*sz=(sn-(j-i))*sz:=by rw[<- y8e];congr 1;omega
 have hsum2:i*sz+(sn-j)*sz+(j-i)*sz=sn*sz:=by rw[<- y8e,<- y8e];congr 1;omega
 have hsum3:j*sz+(sn-j)*sz=sn*sz:=by rw[<- y8e];congr 1;omega
 have hlen:(xs++r).length=xs.length+r.length:=y5a;unfold yUw;simp only[ySs,slN,y5u];refine⟨⟨by omega,by omega,by omega,by omega⟩,Cv.cnd.mk (λc=>absurd c (by simp;omega)) λ_=> ?_⟩;rintro _ rfl;have H1:=H0.drew;have hsrc:(bc sz (sn-j) (.slice (if sk=j then ay ⟨b,0,az⟩else(ay ⟨b,0,az⟩:Option ce).map (·.add (j*sz))) (sn-j) (sk-j))).run P w.drew= .ok (xs.drop (j*sz)).toArray w.drew:=by
  by_cases h0:(sn-j)*sz=0
  ·have:xs.drop (j*sz)=[]:=y6d (by omega);rw[this];by_cases hk:sk=j
   ·rw[y5d hk];unfold bc;rw[h0];rfl
   ·rw[y5b hk,y7e,vU];unfold bc;rw[h0];rfl
  ·have hk:sk≠j:=by rintro rfl;have:sn-sk=0:=by omega
                    rw[this]at h0;simp at h0
   rw[y5b hk,y7e,vU];unfold bc;rw[u7 H1.get (by rw[hlen];omega)];rw[y6c,y7t hjle,y5y (by omega),y5n (by omega)]
 refine⟨⟨by omega,by omega⟩,⟨by omega,by omega,hnk⟩,_,_,_,_,z0o (i:=i) (c:=sk) hi H1.get hsrc hdl (by omega) (by rw[hlen];omega) (λv hv=>h1 v (y8y hv)),⟨by omega,by omega,by omega⟩,?_⟩;have H2:=H1.upd (.cells (spl (xs++r) (i*sz) (xs.drop (j*sz))).toArray e);have e1:i+(sn-j)=sn-(j-i):=by omega
 rw[y5b (show sk≠i+(sn-j)by omega),y7e,vU,y6c,e1];have espl:spl (xs++r) (i*sz) (xs.drop (j*sz))=(xs.take (i*sz)++xs.drop (j*sz))++(xs++r).drop ((sn-(j-i))*sz):=by
  simp only[spl];rw[y5y hle,hdl,hsum]
 rw[espl]at H2;have hA:(xs.take (i*sz)++xs.drop (j*sz)).length=(sn-(j-i))*sz:=by
  rw[y5a,y5t,hdl];omega
 have hB:((xs++r).drop ((sn-(j-i))*sz)).length=(j-i)*sz+r.length:=by
  rw[y5z,hlen];omega
 rw[espl];have hn:sn-(sn-(j-i))=j-i:=by omega
 rw[hn];refine⟨_,z4n hi hz hz1 (by omega) H2.get (by rw[y5a,hA,hB];omega),_,_,rfl,?_⟩;have H3:=H2.upd (.cells (spl (xs.take (i*sz)++xs.drop (j*sz)++(xs++r).drop ((sn-(j-i))*sz)) ((sn-(j-i))*sz) (ba z (j-i)).toList).toArray e);have es:=zVq (xs.take (i*sz)++xs.drop (j*sz)) ((xs++r).drop ((sn-(j-i))*sz)) (ba z (j-i)).toList;rw[hA]at es;rw[es]at H3;rw[es];rw[y5i (xs.take (i*sz)++xs.drop (j*sz))]at H3 ⊢;have hzl:(ba z (j-i)).toList.length=(j-i)*sz:=by rw[y9b,bz,hz]
 refine H3.slmk hA ?_ (by omega);rw[y5a,hA,y5a,hzl,y5z,hB,<- g2,hlen,hxl];omega
structure yTd where
 els:List (List D)
 i:Nat
 j:Nat
def yVq (e sz:Nat):Con where
 ι:=yTd
 pat:=λi=>[.own 0,.d (.v (.int .i64 i.i)),.d (.v (.int .i64 i.j))]
 pre:=λi=>[.own e sz i.els]
 cnd:=λi=>i.i<i.j/\i.j<=i.els.length
 alts:=λi=>[{o:=Unit,res:=λ_=> .own 1,post:=λ_=>[.gone,.own e sz (i.els.take i.i++i.els.drop i.j)],rel:=λ_=>True}]
def delX_ok {P:bv} (hm:P.follows .mixedOrders=aw) {tS e sz by_ fI:Nat} {z:Array bo} {fn:Func} {c:Code} (hf:P.funcs[fI]? =ay fn) (hb:fn.body=ay c) (hbd:uP P fI=aw) (hok:okC fn.ntmps c=aw) (hfx:okF [] c=aw) (hsz3:Nat.ble 3 fn.ntmps=aw)
 (hi:vP P tS=ay (e,sz,by_,z)) (hz:z.size=sz) (hz1:∀v∈z.toList,v.oneC=aw)
 (heq:∀(s:Option ce) (sn sk:Nat) (i j:Int) (w:bu) (R:Ending->bu->Prop),yUw P tS sz s sn sk i j w R=cwp P [] c (zVo P fn R) (uO [.slice s sn sk,.int .i64 i,.int .i64 j]) w):
 (yVq e sz).ok P fI:=by
 intro i hc k L E w ys R hv;obtain⟨c1,c2⟩:i.i<i.j/\i.j<=i.els.length:=hc;simp only[yVq,VRL,VR,DR]at hv;obtain⟨y0,_,rfl,⟨l0,e0,_⟩,y1,_,rfl,⟨rfl,_⟩,y2,_,rfl,⟨rfl,_⟩,rfl⟩:=hv;obtain⟨s,sk,xs,sub0,g1,hxs,hu,H⟩:=R.ownOpen (n:=0) (t:=e) (sz:=sz) (els:=i.els) rfl;rw[e0]at g1;cases g1;have H2:Hp k w (slO e sz s i.els.length sk xs::fz E.F::L):=H;have hv:=y4o hi hz hz1 H2 hxs.one c1 c2;have hcall:=zJs (args:=[.slice s i.els.length sk,.int .i64 i.i,.int .i64 i.j]) hm hf hb [] hok hfx hsz3 (heq s i.els.length sk i.i i.j w _) hv;refine mD hbd (hcall.mono ?_);rintro en w' ⟨a,kk,rfl,H3⟩;have hl:(i.els.take i.i++i.els.drop i.j).length=i.els.length-(i.j-i.i):=by
  rw[y5a,y5t,y5z];omega
 have H4:Hp k w' (slO e sz a (i.els.take i.i++i.els.drop i.j).length kk (xs.take (i.i*sz)++xs.drop (i.j*sz))::(([]:List (Nat×AObj)).map (rHP E)++fz E.F::L)):=by
  rw[hl];exact H3
 obtain⟨E',r1,r2,r3⟩:=cR (nx:=1) R.nx (by
  rw[xAb,<- pD i.i hu,<- nT i.j hu];exact(hxs.take _).append (hxs.drop _)) (λx hx=>by
   rcases y6f.1 hx with hx|hx
   ·exact hu x (y8x hx)
   ·exact hu x (y8y hx)) H4
 rw[hl]at r3;refine⟨_,rfl,_,y6r.2 rfl,(),trivial,E',r1,r3,⟨r2.nx,?_⟩⟩;exact((@uA k w' True _).2 ⟨trivial,r2.hp⟩).imp (B:=rHP E' (0,.gone)) λx hx=> .inl ⟨rfl,hx.2⟩
def nA (k:Int):List (Int×Place)->List (Int×Place)
 |[]=>[]
 |(a,b)::l=>if k=a then l else(a,b)::nA k l
structure DrI where
 b:Book
 id:Int
 price:Int
 slot:Int
def Book.unhas (b:Book) (s id:Int):Book:=if b.hasF s=aw/\b.topI s=id then(if s=1 then{b with has1:=ax}else{b with has2:=ax})else b
def Book.dropF (b:Book) (s id price:Int):Book:=
 if(b.a.qAt ((b.rungs s).getD (zZ s (b.rungs s) price) ⟨0,0⟩).queue).count=0 then
  ({b.unhas s id with at_:=nA id b.at_,spare:=b.spare++[((b.rungs s).getD (zZ s (b.rungs s) price) ⟨0,0⟩).queue]}:Book).setR s ((b.rungs s).take (zZ s (b.rungs s) price)++(b.rungs s).drop (zZ s (b.rungs s) price+1))
 else{b.unhas s id with at_:=nA id b.at_}
def yNn (b:Book):AObj:= .cells [.nm 1 0,.own 6,.own 7,.mp 4,zA b.top1,zA b.top2,.own 8,yP b.has1,yP b.has2] 245
@[reducible] def yQm (b:Book):List AObj:=[yNn b,zP b 1,.gone,.gone,zP b 4,.gone,zP b 2,zP b 3,zP b 5]
@[reducible] def DrI.ok (i:DrI) (s:Int):Prop:=i.b.small/\zZ s (i.b.rungs s) i.price<(i.b.rungs s).length
def yGx (s:Int):Con:=con1 DrI (λi=>[.nm 0 0,zA i.id,.agg [zA s,zA i.price,zA i.slot]]) (λi=>zJh i.b) (λi=>i.ok s) (λ_=>mG) (λi=>yQm (i.b.dropF s i.id i.price))
def drop1C:Con:=yGx 1
def drop2C:Con:=yGx 2
structure DrJ where
 i:DrI
 s:Bool
def dropC:Con:=con1 DrJ (λj=>[.nm 0 0,zA j.i.id,.agg [zA (zC j.s),zA j.i.price,zA j.i.slot]]) (λj=>zJh j.i.b) (λj=>j.i.ok (zC j.s)) (λ_=>mG) (λj=>yQm (j.i.b.dropF (zC j.s) j.i.id j.i.price))
def delRC:Con:=yVq 255 2
def yTe:zH:=⟨0,0,0,0,ax⟩
def dV (L:List zH) (id:Int):zH:=(L.find? λo=>decide (o.id=id)).getD yTe
def uS (L:List zH) (id q:Int):List zH:=L.filterMap λo=>if o.id=id then(if o.qty=q then az else ay {o with qty:=o.qty-q})else ay o
def x6 (L:List zH) (id q:Int):List zH×Int:=if wM L id=ax then(L,26)else if q<1\/(dV L id).qty<q then(L,24)else(uS L id q,0)
def atL (L:List zH) (s p:Int):List zH:=L.filter λo=>decide (o.side=s) && decide (o.price=p)
def grp:List zH->List Lv
 |[]=>[]
 |o::l=>match grp l with
  |[]=>[⟨o.price,o.qty,1⟩]
  |v::vs=>if v.price=o.price then⟨v.price,o.qty+v.qty,v.count+1⟩::vs else⟨o.price,o.qty,1⟩::v::vs
def hU (L:List zH) (s:Int):List Lv:=grp (L.filter λo=>decide (o.side=s))
def bestL (L:List zH) (s:Int):Lv×Bool:=match hU L s with
 |[]=>(⟨0,0,0⟩,ax)
 |v::_=>(v,aw)
structure BkL where
 b:Book
 L:List zH
structure FlI where
 b:Book
 L:List zH
 id:Int
 qty:Int
structure AtI where
 b:Book
 L:List zH
 s:Bool
 price:Int
def fillC:Con where
 ι:=FlI
 pat:=λi=>[.nm 0 0,zA i.id,zA i.qty]
 pre:=λi=>[z8 i.b]
 cnd:=λi=>i.b.Rep i.L
 alts:=λi=>[{o:=Book,res:=λ_=>zA (x6 i.L i.id i.qty).2,post:=λb=>[z8 b],rel:=λb=>b.Rep (x6 i.L i.id i.qty).1}]
def bfindC:Con:=con1 FlI (λi=>[.nm 0 0,zA i.id]) (λi=>[z8 i.b]) (λi=>i.b.Rep i.L) (λi=> .tup [z2n (dV i.L i.id),yP (wM i.L i.id)]) (λi=>[z8 i.b])
def yYo (s:Bool):Con:=con1 AtI (λi=>[.nm 0 0,zA (zC s),zA i.price]) (λi=>[z8 i.b]) (λi=>i.b.Rep i.L) (λ_=> .own 1) (λi=>[z8 i.b,.own 57 5 ((atL i.L (zC s) i.price).map wW)])
def at1C:Con:=yYo ax
def at2C:Con:=yYo aw
def atC:Con:=con1 AtI (λi=>[.nm 0 0,zA (zC i.s),zA i.price]) (λi=>[z8 i.b]) (λi=>i.b.Rep i.L) (λ_=> .own 1) (λi=>[z8 i.b,.own 57 5 ((atL i.L (zC i.s) i.price).map wW)])
def xA (a:DrI):=(a.b.dropF 1 a.id a.price)
def zHs (a:BkP) (b:DrI):Prop:=a.b.has2=b.b.has2/\ap Arena 3 zG a.b.a=zP b.b 1/\aa zB a.b.buys=aa zB b.b.buys/\aa zB a.b.sells=aa zB b.b.sells/\atE a.b.at_=zBi (cf bg b.id) (atE b.b.at_)/\iE a.b.spare=iE b.b.spare/\(qD a)/\∀(c:Unit),True->(gW a)/\∃(d:Int),zE (aa zB a.b.buys) (xU a).toNat 1 1=ay [dI d]/\∃(e:ArN),e.n=d/\ap Arena 3 zG e.a=ap Arena 3 zG a.b.a/\True/\∀(f:Unit),True->cnd ((e.a.qAt e.n).count==0) (((iE a.b.spare).length+1)*(8:Nat)<=(140737488355328:Nat)/\∃(g:yTd),(↑g.i:Int)=(xU a)/\(↑g.j:Int)=bg.wrap ((xU a)+1)/\g.els=aa zB a.b.buys/\(g.i<g.j/\g.j<=g.els.length)/\∀(h:Unit),True->dh ((1:Int))/\∃(j:Unit),(xA b).top1=a.b.top1/\(xA b).top2=a.b.top2/\(xA b).has1=a.b.has1/\(xA b).has2=a.b.has2/\ap Arena 3 zG (xA b).a=ap Arena 3 zG e.a/\atE (xA b).at_=atE a.b.at_/\aa zB (xA b).buys=ac g.i g.els++ao g.j g.els/\aa zB (xA b).sells=aa zB a.b.sells/\iE (xA b).spare=iE a.b.spare++[[dI d]]/\True) (∃(g:Unit),(xA b).top1=a.b.top1/\(xA b).top2=a.b.top2/\(xA b).has1=a.b.has1/\(xA b).has2=a.b.has2/\ap Arena 3 zG (xA b).a=ap Arena 3 zG e.a/\atE (xA b).at_=atE a.b.at_/\aa zB (xA b).buys=aa zB a.b.buys/\aa zB (xA b).sells=aa zB a.b.sells/\iE (xA b).spare=iE a.b.spare/\True)
def zHa (a:DrI):Prop:=∃(b:BkP),dh ((1:Int))/\b.price=a.price/\b.b.top1=a.b.top1/\b.b.top2=a.b.top2/\b.b.has1=a.b.has1/\zHs b a
def yKb (i:DrI):Prop:=
 (∀(a:bo×List D),a∈atE i.b.at_->like (cf bg i.id) a.fst=aw)/\cnd i.b.has1 (cnd (i.b.top1==i.id) (∃(a:BkP),dh ((1:Int))/\a.price=i.price/\a.b.top1=i.b.top1/\a.b.top2=i.b.top2/\a.b.has1=ax/\zHs a i) (zHa i)) (zHa i)
def y9 (a:DrI):=(a.b.dropF 2 a.id a.price)
def zHt (a:BkP) (b:DrI):Prop:=ap Arena 3 zG a.b.a=zP b.b 1/\aa zB a.b.buys=aa zB b.b.buys/\aa zB a.b.sells=aa zB b.b.sells/\atE a.b.at_=zBi (cf bg b.id) (atE b.b.at_)/\iE a.b.spare=iE b.b.spare/\(qD a)/\∀(c:Unit),True->(gT a)/\∃(d:Int),zE (aa zB a.b.sells) (xV a).toNat 1 1=ay [dI d]/\∃(e:ArN),e.n=d/\ap Arena 3 zG e.a=ap Arena 3 zG a.b.a/\True/\∀(f:Unit),True->cnd ((e.a.qAt e.n).count==0) (((iE a.b.spare).length+1)*(8:Nat)<=(140737488355328:Nat)/\∃(g:yTd),(↑g.i:Int)=(xV a)/\(↑g.j:Int)=bg.wrap ((xV a)+1)/\g.els=aa zB a.b.sells/\(g.i<g.j/\g.j<=g.els.length)/\∀(h:Unit),True->dh ((2:Int))/\∃(j:Unit),(y9 b).top1=a.b.top1/\(y9 b).top2=a.b.top2/\(y9 b).has1=a.b.has1/\(y9 b).has2=a.b.has2/\ap Arena 3 zG (y9 b).a=ap Arena 3 zG e.a/\atE (y9 b).at_=atE a.b.at_/\aa zB (y9 b).buys=aa zB a.b.buys/\aa zB (y9 b).sells=ac g.i g.els++ao g.j g.els/\iE (y9 b).spare=iE a.b.spare++[[dI d]]/\True) (∃(g:Unit),(y9 b).top1=a.b.top1/\(y9 b).top2=a.b.top2/\(y9 b).has1=a.b.has1/\(y9 b).has2=a.b.has2/\ap Arena 3 zG (y9 b).a=ap Arena 3 zG e.a/\atE (y9 b).at_=atE a.b.at_/\aa zB (y9 b).buys=aa zB a.b.buys/\aa zB (y9 b).sells=aa zB a.b.sells/\iE (y9 b).spare=iE a.b.spare/\True)
def zGh (a:DrI):Prop:=∃(b:BkP),dh ((2:Int))/\b.price=a.price/\b.b.top1=a.b.top1/\b.b.top2=a.b.top2/\b.b.has1=a.b.has1/\b.b.has2=a.b.has2/\zHt b a
def yGn (i:DrI):Prop:=
 (∀(a:bo×List D),a∈atE i.b.at_->like (cf bg i.id) a.fst=aw)/\cnd i.b.has2 (cnd (i.b.top2==i.id) (∃(a:BkP),dh ((2:Int))/\a.price=i.price/\a.b.top1=i.b.top1/\a.b.top2=i.b.top2/\a.b.has1=i.b.has1/\a.b.has2=ax/\zHt a i) (zGh i)) (zGh i)
def zCo (a:FlI):Prop:=aa zB a.b.buys=aa zB a.b.buys/\dh (aa zB a.b.sells)/\dh (atE a.b.at_)/\dh (iE a.b.spare)/\True
def zIp (a:Int) (b:FlI) (c:Int) (d:Int):Prop:=∃(e:ArN),e.n=a/\ap Arena 3 zG e.a=ap Arena 3 zG b.b.a/\e.a.slots.length<=1000000/\∀(f:Unit),True->∃(g:Unit),(dV b.L b.id).id=b.id/\(dV b.L b.id).side=c/\(dV b.L b.id).price=d/\(dV b.L b.id).qty=(e.a.getF e.n).fst.qty/\(dV b.L b.id).top=(e.a.getF e.n).fst.top/\wM b.L b.id=aw/\dh b.b.top1/\dh b.b.top2/\dh b.b.has1/\dh b.b.has2/\ap Arena 3 zG b.b.a=ap Arena 3 zG e.a/\zCo b
def tE (a:FlI) (b:Int) (c:Int) (d:Int) (e:Bool):Prop:=kK (cf bg a.id) (atE a.b.at_)=ay [dI b,dI c,dI d]/\e=aw\/kK (cf bg a.id) (atE a.b.at_)=az/\[dI b,dI c,dI d]=[dI 0,dI 0,dI 0]/\e=ax
def yJi (i:FlI):Prop:=
 (∀(a:bo×List D),a∈atE i.b.at_->like (cf bg i.id) a.fst=aw)/\∃(a:Bool),∃(b:Int),∃(c:Int),∃(d:Int),(tE i b c d a)/\cnd (!a) (∃(e:Unit),(dV i.L i.id).id=0/\(dV i.L i.id).side=0/\(dV i.L i.id).price=0/\(dV i.L i.id).qty=0/\(dV i.L i.id).top=ax/\wM i.L i.id=ax/\dh i.b.top1/\dh i.b.top2/\dh i.b.has1/\dh i.b.has2/\dh (ap Arena 3 zG i.b.a)/\zCo i) ((zIp d i b c)/\d=d/\True/\zIp d i b c)
def lU (a:Book) (b:FlI):Prop:=aa zB a.buys=aa zB b.b.buys/\aa zB a.sells=aa zB b.b.sells/\atE a.at_=atE b.b.at_/\iE a.spare=iE b.b.spare/\a.Rep (x6 b.L b.id b.qty).fst
def wY (a:DrJ):=(a.i.b.dropF (zC a.s) a.i.id a.i.price)
def zPt (a:FlI) (b:Int) (c:Int) (d:Int) (e:ArN):Prop:=∃(f:DrJ),f.i.id=a.id/\zC f.s=b/\f.i.price=c/\f.i.slot=d/\f.i.b.top1=a.b.top1/\f.i.b.top2=a.b.top2/\f.i.b.has1=a.b.has1/\f.i.b.has2=a.b.has2/\ap Arena 3 zG f.i.b.a=ap Arena 3 zG e.a/\aa zB f.i.b.buys=aa zB a.b.buys/\aa zB f.i.b.sells=aa zB a.b.sells/\atE f.i.b.at_=atE a.b.at_/\iE f.i.b.spare=iE a.b.spare/\(((f.i.b.a.slots.length<=1000000/\f.i.b.a.queues.length<=1000000)/\f.i.b.buys.length<=1000000/\f.i.b.sells.length<=1000000/\f.i.b.spare.length<=1000000)/\zZ (zC f.s) (f.i.b.rungs (zC f.s)) f.i.price<(f.i.b.rungs (zC f.s)).length)/\∀(g:Unit),True->∃(h:Book),(x6 a.L a.id a.qty).snd=0/\h.top1=(wY f).top1/\h.top2=(wY f).top2/\h.has1=(wY f).has1/\h.has2=(wY f).has2/\ap Arena 3 zG h.a=ap Arena 3 zG (wY f).a/\aa zB h.buys=aa zB (wY f).buys/\aa zB h.sells=aa zB (wY f).sells/\atE h.at_=atE (wY f).at_/\iE h.spare=iE (wY f).spare/\h.Rep (x6 a.L a.id a.qty).fst
def zTm (a:Int) (b:TkI) (c:FlI) (d:Int) (e:Int):Prop:=∃(f:ArN),f.n=a/\ap Arena 3 zG f.a=ap Arena 3 zG (b.a.takeF b.n b.qty).fst/\f.a.slots.length<=1000000/\∀(g:Unit),True->cnd (!(f.a.getF f.n).snd) (zPt c d e a f) (cnd ((f.a.getF f.n).fst.id !=c.id) (zPt c d e a f) (∃(h:Book),(x6 c.L c.id c.qty).snd=0/\h.top1=c.b.top1/\h.top2=c.b.top2/\h.has1=c.b.has1/\h.has2=c.b.has2/\ap Arena 3 zG h.a=ap Arena 3 zG f.a/\lU h c))
def yRh (i:FlI):Prop:=
 (∀(a:bo×List D),a∈atE i.b.at_->like (cf bg i.id) a.fst=aw)/\∃(a:Bool),∃(b:Int),∃(c:Int),∃(d:Int),(tE i b c d a)/\cnd (!a) (∃(e:Book),(x6 i.L i.id i.qty).snd=26/\e.top1=i.b.top1/\e.top2=i.b.top2/\e.has1=i.b.has1/\e.has2=i.b.has2/\ap Arena 3 zG e.a=ap Arena 3 zG i.b.a/\lU e i) (∃(e:TkI),e.n=d/\e.qty=i.qty/\ap Arena 3 zG e.a=ap Arena 3 zG i.b.a/\(e.a.slots.length<=1000000/\∀(k:Nat) (s:Slot),e.a.slots[k]?=ay s->s.used=aw->(0<=s.queue/\s.queue<(↑e.a.queues.length:Int))/\s.qty<=1000000/\(s.ahead=(-1)\/0<=s.ahead/\s.ahead<(↑e.a.slots.length:Int)/\s.ahead≠(↑k:Int))/\(s.back=(-1)\/0<=s.back/\s.back<(↑e.a.slots.length:Int)/\s.back≠(↑k:Int)))/\∀(f:Unit),True->cnd ((e.a.takeF e.n e.qty).snd !=0) (∃(g:Book),(x6 i.L i.id i.qty).snd=(e.a.takeF e.n e.qty).snd/\g.top1=i.b.top1/\g.top2=i.b.top2/\g.has1=i.b.has1/\g.has2=i.b.has2/\ap Arena 3 zG g.a=ap Arena 3 zG (e.a.takeF e.n e.qty).fst/\lU g i) ((zTm d e i b c)/\d=d/\True/\zTm d e i b c))
def yYl (i:AtI):Prop:=
 ∃(a:Int),a=zC ax/\True/\∀(b:Unit),True->cnd (qU a) (∃(c:Unit),dh i.b.top1/\dh i.b.top2/\dh i.b.has1/\dh i.b.has2/\dh (ap Arena 3 zG i.b.a)/\dh (aa zB i.b.buys)/\dh (aa zB i.b.sells)/\dh (atE i.b.at_)/\dh (iE i.b.spare)/\aa wW (atL i.L (zC ax) i.price)=[]/\True) (∃(c:BkP),1=zC ax/\c.price=i.price/\c.b.top1=i.b.top1/\c.b.top2=i.b.top2/\c.b.has1=i.b.has1/\c.b.has2=i.b.has2/\ap Arena 3 zG c.b.a=ap Arena 3 zG i.b.a/\aa zB c.b.buys=aa zB i.b.buys/\aa zB c.b.sells=aa zB i.b.sells/\atE c.b.at_=atE i.b.at_/\iE c.b.spare=iE i.b.spare/\(qD c)/\∀(d:Unit),True->cnd (!kR 1 (c.b.rungs 1) c.price) (∃(e:Unit),i.b.top1=c.b.top1/\i.b.top2=c.b.top2/\i.b.has1=c.b.has1/\i.b.has2=c.b.has2/\ap Arena 3 zG i.b.a=ap Arena 3 zG c.b.a/\aa zB i.b.buys=aa zB c.b.buys/\aa zB i.b.sells=aa zB c.b.sells/\atE i.b.at_=atE c.b.at_/\iE i.b.spare=iE c.b.spare/\aa wW (atL i.L (zC ax) i.price)=[]/\True) ((gW c)/\∃(e:Int),∃(f:Int),zE (aa zB c.b.buys) (xU c).toNat 0 2=ay [dI e,dI f]/\∃(g:BoI),g.s=zC ax/\g.r.price=e/\g.r.queue=f/\g.b.top1=c.b.top1/\g.b.top2=c.b.top2/\g.b.has1=c.b.has1/\g.b.has2=c.b.has2/\ap Arena 3 zG g.b.a=ap Arena 3 zG c.b.a/\aa zB g.b.buys=aa zB c.b.buys/\aa zB g.b.sells=aa zB c.b.sells/\atE g.b.at_=atE c.b.at_/\iE g.b.spare=iE c.b.spare/\g.b.a.listOk g.r.queue g.l/\∀(h:Unit),True->∃(j:Unit),z8 i.b=z8 g.b/\aa wW (atL i.L (zC ax) i.price)=aa wW g.ords/\True))
def yYg (i:AtI):Prop:=
 ∃(a:Int),a=zC aw/\True/\∀(b:Unit),True->cnd (qU a) (∃(c:Unit),dh i.b.top1/\dh i.b.top2/\dh i.b.has1/\dh i.b.has2/\dh (ap Arena 3 zG i.b.a)/\dh (aa zB i.b.buys)/\dh (aa zB i.b.sells)/\dh (atE i.b.at_)/\dh (iE i.b.spare)/\aa wW (atL i.L (zC aw) i.price)=[]/\True) (∃(c:BkP),2=zC aw/\c.price=i.price/\c.b.top1=i.b.top1/\c.b.top2=i.b.top2/\c.b.has1=i.b.has1/\c.b.has2=i.b.has2/\ap Arena 3 zG c.b.a=ap Arena 3 zG i.b.a/\aa zB c.b.buys=aa zB i.b.buys/\aa zB c.b.sells=aa zB i.b.sells/\atE c.b.at_=atE i.b.at_/\iE c.b.spare=iE i.b.spare/\(qD c)/\∀(d:Unit),True->cnd (!kR 2 (c.b.rungs 2) c.price) (∃(e:Unit),i.b.top1=c.b.top1/\i.b.top2=c.b.top2/\i.b.has1=c.b.has1/\i.b.has2=c.b.has2/\ap Arena 3 zG i.b.a=ap Arena 3 zG c.b.a/\aa zB i.b.buys=aa zB c.b.buys/\aa zB i.b.sells=aa zB c.b.sells/\atE i.b.at_=atE c.b.at_/\iE i.b.spare=iE c.b.spare/\aa wW (atL i.L (zC aw) i.price)=[]/\True) ((gT c)/\∃(e:Int),∃(f:Int),zE (aa zB c.b.sells) (xV c).toNat 0 2=ay [dI e,dI f]/\∃(g:BoI),g.s=zC aw/\g.r.price=e/\g.r.queue=f/\g.b.top1=c.b.top1/\g.b.top2=c.b.top2/\g.b.has1=c.b.has1/\g.b.has2=c.b.has2/\ap Arena 3 zG g.b.a=ap Arena 3 zG c.b.a/\aa zB g.b.buys=aa zB c.b.buys/\aa zB g.b.sells=aa zB c.b.sells/\atE g.b.at_=atE c.b.at_/\iE g.b.spare=iE c.b.spare/\g.b.a.listOk g.r.queue g.l/\∀(h:Unit),True->∃(j:Unit),z8 i.b=z8 g.b/\aa wW (atL i.L (zC aw) i.price)=aa wW g.ords/\True))
def sL {L:List zH} (h:(L.map (·.id)).Nodup) {o:zH} (ho:o∈L):dV L o.id=o:=by
 induction L with
 |nil=>cases ho
 |cons x L ih=>
  rw[y5p,y7r]at h;rw[dV,xBe];rcases y5w.1 ho with rfl|ho
  ·rw[y5s rfl];rfl
  ·have:x.id≠o.id:=λe=>h.1 (e▸y6g (f:=(·.id)) ho)
   rw[y5q this];exact ih h.2 ho
def aK {α β:Type} {f g:α->Option β}:∀{l:List α},(∀x∈l,f x=g x)->l.filterMap f=l.filterMap g
 |[],_=>rfl
 |x::l,h=>by rw[List.filterMap_cons,List.filterMap_cons,h x y5h,aK λy hy=>h y (y5j _ hy)]
def yTa {L:List zH} {id:Int} (h:wM L id=ax):dV L id=yTe:=by
 rw[dV];have:L.find? (λo=>decide (o.id=id))=az:=by
  rw[List.find?_eq_none];intro o ho;rw[wM,xBh]at h;exact h o ho
 rw[this];rfl
structure Told (b:Book) (Q:List (List Nat)) (id:Int) (s:Int) (r:xL) (k:Nat):Prop where
 hs:s=1\/s=2
 hr:r∈b.rungs s
 hk:k∈xC Q r
 e:pget b.at_ id=ay ⟨s,r.price,k⟩
 ident:(b.a.slotAt k).id=id
 get:dV (b.flat Q) id=wU b.a s r.price k
 has:wM (b.flat Q) id=aw
def yLu {b:Book} {Q:List (List Nat)} {s:Int} (hs:s=1\/s=2) {r:xL} (hr:r∈b.rungs s) {k:Nat} (hk:k∈xC Q r):wU b.a s r.price k∈b.flat Q:=
 flat_mem hs (y7u.2 ⟨r,hr,y6g hk⟩)
def Book.Core.told {b:Book} {Q:List (List Nat)} (c:b.Core Q (-1)) (id:Int):(pget b.at_ id=az/\wM (b.flat Q) id=ax)\/∃s r k,Told b Q id s r k:=by
 cases hg:pget b.at_ id with
 |none=>
  have:=zIk hg;rw[c.keysP.mem_iff,<- hasId_iff]at this;exact .inl ⟨rfl,by simpa using this⟩
 |some x=>
  obtain⟨k,r,hs,hr,hk,hx,hid⟩:=c.plcI (eK hg);have hm:=yLu hs hr hk;have hget:=sL c.ids hm;have e:(wU b.a x.side r.price k).id=id:=hid;rw[e]at hget;exact .inr ⟨x.side,r,k,hs,hr,hk,by rw[hg];exact congrArg ay hx,hid,hget,hasId_iff.2 (by rw[<- e];exact y6g hm)⟩
def Told.only {b:Book} {Q:List (List Nat)} (c:b.Core Q (-1)) {id s:Int} {r:xL} {k:Nat} (h:Told b Q id s r k) {s':Int} (hs':s'=1\/s'=2) {r':xL} (hr':r'∈b.rungs s') {j:Nat} (hj:j∈xC Q r'):(b.a.slotAt j).id=id↔j=k:=by
 constructor
 ·intro e;have h1:=c.plc hs' hr' hj;have h2:=c.plc h.hs h.hr h.hk;rw[e]at h1;rw[h.ident]at h2;have:=congrArg Place.slot (zLc c.keys h1 h2);dsimp only at this;omega
 ·rintro rfl;exact h.ident
def Book.Core.less {b:Book} {Q:List (List Nat)} (c:b.Core Q (-1)) (ht:b.Tops (b.flat Q)) {id s:Int} {r:xL} {k:Nat} (h:Told b Q id s r k) {q:Int} (hq:1<=q/\q<(b.a.slotAt k).qty):
 (b.a.takeF k q).2=0/\({b with a:=(b.a.takeF k q).1}:Book).Rep (uS (b.flat Q) id q)/\(b.a.takeF k q).1.slots.length=250/\(b.a.takeF k q).1.getF k=((((b.a.takeF k q).1.slotAt k)).ent,aw)/\((b.a.takeF k q).1.slotAt k).id=id:=by
 obtain⟨t1,t2,t3⟩:=c.wf.take (c.get h.hs h.hr) h.hk (q:=q) ⟨hq.1,by omega⟩;rw[y5b (by omega)]at t3;obtain⟨w,t4,t5⟩:=t3;have hent:∀j,((b.a.takeF k q).1.slotAt j).ent=if j=k then{(b.a.slotAt k).ent with qty:=(b.a.slotAt k).qty-q}else(b.a.slotAt j).ent:=by
  intro j;split
  ·rename_i e;rw[e,t4];rfl
  ·rename_i e;exact(t2 j e).1
 have hid:∀j,((b.a.takeF k q).1.slotAt j).id=(b.a.slotAt j).id:=by
  intro j;have:=congrArg Ent.id (hent j);split at this
  ·rename_i e;rw[e]at this ⊢;exact this
  ·exact this
 have hflat:({b with a:=(b.a.takeF k q).1}:Book).flat Q=uS (b.flat Q) id q:=by
  have side:∀s',s'=1\/s'=2->({b with a:=(b.a.takeF k q).1}:Book).sideL Q s'=uS (b.sideL Q s') id q:=by
   intro s' hs';rw[uS,Book.sideL,Book.sideL,List.filterMap_flatMap];refine xD λr' hr'=> ?_
   rw[Book.rOrds,Book.rOrds,List.filterMap_map];have:(xC Q r').filterMap (λj=>ay (wU (b.a.takeF k q).1 s' r'.price j))=(xC Q r').map (wU (b.a.takeF k q).1 s' r'.price):=by rw[<- List.filterMap_eq_map];rfl
   refine this.symm.trans (aK λj hj=> ?_);simp only[ci,wU,yJr,hent];have hon:=h.only c hs' hr' hj;by_cases e:j=k
   ·subst e;rw[y5d rfl];refine((y5d (show(b.a.slotAt j).ent.id=id from h.ident)).trans (y5b λe=> ?_)).symm;have e:(b.a.slotAt j).qty=q:=e;omega
   ·rw[y5b e];exact(y5b (λe2=>e (hon.1 e2))).symm
  rw[Book.flat,side 1 (.inl rfl),side 2 (.inr rfl),Book.flat,uS,uS,uS,List.filterMap_append]
 have hu:(b.a.takeF k q).1.usedAt k=aw:=by
  obtain⟨hk2,⟨_,_,h2⟩,h3⟩:=w.toWf0.mem (c.get h.hs h.hr) h.hk;have hlt:=w.len;simp only[Arena.usedAt,y5o,y6p,y5u];exact⟨by omega,by omega,h2.used⟩
 refine⟨t1,⟨Q,c.flag w hid,⟨λo ho=> ?_,λs' hs' hh=> ?_⟩,hflat.symm⟩,w.len,by rw[Arena.getF,y5d hu,y5u],by rw[hid,h.ident]⟩
 ·obtain⟨o',ho',e⟩:=xAi.1 ho;have:=ht.fl o' ho';split at e
  ·split at e
   ·cases e
   ·cases e;exact this
  ·cases e;exact this
 ·obtain⟨o,ho,o1,o2⟩:=ht.th s' hs' hh;by_cases e:o.id=id
  ·refine⟨{o with qty:=o.qty-q},xAi.2 ⟨o,ho,?_⟩,o1,o2⟩;have hg:=sL c.ids ho;rw[e,h.get]at hg;rw[y5d e,y5b (λe2=>by
    rw[<- hg]at e2;have:(b.a.slotAt k).qty=q:=e2;omega)]
  ·exact⟨o,xAi.2 ⟨o,ho,y5b e⟩,o1,o2⟩
def z8u:∀{l:List (Int×Place)} {k:Int},(l.map (·.1)).Nodup->nA k l=l.filter λx=> !decide (x.1=k)
 |[],k,_=>rfl
 |(a,b)::l,k,h=>by
  rw[y5p,y7r]at h;rw[nA];by_cases e:k=a
  ·subst e;rw[y5d rfl,xAa (by simp)];symm;rw[xAu];intro x hx;have:x.1≠k:=λe=>h.1 (e▸y6g (f:=(·.1)) hx)
   simp[this]
  ·rw[y5b e,y9z (by simp[Ne.symm e]),z8u h.2]
def zEv {l:List Nat} (h:l.Nodup) (k:Nat):l.erase k=l.filter λj=> !decide (j=k):=by
 rw[h.erase_eq_filter];refine List.filter_congr λj _=> ?_
 simp[bne,BEq.beq]
def yFb {s:Int} {l:List xL} (hs:l.Pairwise λr r'=>btr s r.price r'.price=aw) {R1 R2:List xL} {r:xL} (hl:l=R1++r::R2):zZ s l r.price=R1.length:=by
 subst hl;rw[af]at hs;refine pU (by simp) (λk hk x hx=> ?_) (λx hx=> ?_)
 ·rw[y7x hk]at hx;exact hs.2.2 x (y5m hx) r y5h
 ·rw[y7f (y5x _),xAp]at hx;cases hx;exact l5 _ _
def yHl (b:Book) (id:Int) {s:Int} (hs:s=1\/s=2):(b.unhas s id).a=b.a/\(b.unhas s id).buys=b.buys/\(b.unhas s id).sells=b.sells/\(b.unhas s id).spare=b.spare/\∀s',s'=1\/s'=2->(b.unhas s id).topI s'=b.topI s'/\(b.unhas s id).hasF s'=if s'=s/\b.topI s=id then ax else b.hasF s':=by
 rw[Book.unhas];by_cases hc:b.hasF s=aw/\b.topI s=id
 ·rw[y5d hc];rcases hs with rfl|rfl
  ·exact⟨rfl,rfl,rfl,rfl,λs' h=>by rcases h with rfl|rfl;exact⟨rfl,(y5d ⟨rfl,hc.2⟩).symm⟩;exact⟨rfl,(y5b (λe=>absurd e.1 (by decide))).symm⟩⟩
  ·exact⟨rfl,rfl,rfl,rfl,λs' h=>by rcases h with rfl|rfl;exact⟨rfl,(y5b (λe=>absurd e.1 (by decide))).symm⟩;exact⟨rfl,(y5d ⟨rfl,hc.2⟩).symm⟩⟩
 ·rw[y5b hc];refine⟨rfl,rfl,rfl,rfl,λs' h=>⟨rfl,?_⟩⟩;split
  ·rename_i e;rw[e.1];cases hh:b.hasF s with
   |false=>rfl
   |true=>exact absurd ⟨hh,e.2⟩ hc
  ·rfl
def Book.Core.close {b:Book} {Q:List (List Nat)} {s:Int} (hs:s=1\/s=2) {r:xL} {R1 R2:List xL} (hr:b.rungs s=R1++r::R2) (c:b.Core Q r.queue) (he:xC Q r=[]) {b':Book} (hb:b'=({b with spare:=b.spare++[r.queue]}:Book).setR s (R1++R2)):
 b'.Core Q (-1)/\b'.flat Q=b.flat Q:=by
 obtain⟨g1,g2⟩:=zLx ({b with spare:=b.spare++[r.queue]}:Book) hs (R1++R2);rw[<- hb]at g1 g2;have ha:b'.a=b.a:=by rw[hb];rcases hs with rfl|rfl<;>rfl
 have hat:b'.at_=b.at_:=by rw[hb];rcases hs with rfl|rfl<;>rfl
 have hsp:b'.spare=b.spare++[r.queue]:=by rw[hb];rcases hs with rfl|rfl<;>rfl
 have hqs:b'.qs.Perm b.qs:=by
  rw[hb];rcases hs with rfl|rfl
  ·have hr:b.buys=R1++r::R2:=hr;show((R1++R2).map (·.queue)++b.sells.map (·.queue)++(b.spare++[r.queue])).Perm (b.buys.map (·.queue)++b.sells.map (·.queue)++b.spare)
   rw[hr,<- y5i];refine(y9q _ _).trans ?_;simp only[y5l,y5p,y5i,y6t];exact y5r.symm
  ·have hr:b.sells=R1++r::R2:=hr;show(b.buys.map (·.queue)++(R1++R2).map (·.queue)++(b.spare++[r.queue])).Perm (b.buys.map (·.queue)++b.sells.map (·.queue)++b.spare)
   rw[hr,<- y5i];refine(y9q _ _).trans ?_;simp only[y5l,y5p,y5i,y6t];refine .trans ?_ (cn _ y5r.symm);exact y5r.symm
 have hside:∀s',s'=1\/s'=2->b'.sideL Q s'=b.sideL Q s':=by
  intro s' hs';have ho:∀x,b'.rOrds Q s' x=b.rOrds Q s' x:=λx=>by rw[Book.rOrds,Book.rOrds,ha]
  rw[Book.sideL,Book.sideL];by_cases e:s'=s
  ·subst e;rw[g1,hr,y7a,y7a,y6w,xD (λx _=>ho x),xD (l:=R2) (λx _=>ho x)];rw[show b.rOrds Q s' r=[]by rw[Book.rOrds,he];rfl,y7v]
  ·rw[g2 s' e hs'];exact xD λx _=>ho x
 have hplc:∀s',s'=1\/s'=2->b'.plcs Q s'=b.plcs Q s':=by
  intro s' hs';rw[Book.plcs,Book.plcs,ha];by_cases e:s'=s
  ·subst e;rw[g1,hr,y7a,y7a,y6w,he,y8t,y7v]
  ·rw[g2 s' e hs'];rfl
 have hflat:b'.flat Q=b.flat Q:=by rw[Book.flat,Book.flat,hside 1 (.inl rfl),hside 2 (.inr rfl)]
 have hnd:=hqs.nodup_iff.2 c.nd;have hmid:r.queue∉(R1++R2).map (·.queue):=by
  intro hm;have h1:r.queue∈(b'.rungs s).map (·.queue):=by rw[g1];exact hm
  rw[Book.qs]at hnd;have h2:=(y7l.1 hnd).2.2 r.queue (by
   rcases hs with rfl|rfl
   ·exact y6u _ h1
   ·exact y6x _ h1) r.queue (by rw[hsp];simp)
  exact h2 rfl
 refine⟨⟨by rw[ha];exact c.wf,λs' hs'=> ?_,λq hq=>c.rng q (hqs.mem_iff.1 hq),hnd,by rw[hqs.length_eq];exact c.ql,λs' hs' x hx _=> ?_,λq hq=> ?_,by rw[hat,hplc 1 (.inl rfl),hplc 2 (.inr rfl)];exact c.at_,by rw[hflat];exact c.ids,c.qb⟩,hflat⟩
 ·by_cases e:s'=s
  ·subst e;have:=c.srt s' hs';rw[hr]at this;rw[g1];exact this.sublist (List.Sublist.append_left (List.sublist_cons_self _ _) _)
  ·rw[g2 s' e hs'];exact c.srt s' hs'
 ·by_cases e:s'=s
  ·subst e;rw[g1]at hx;refine c.ne s' hs' x (by rw[hr];rcases y6f.1 hx with h|h;exact y6u _ h;exact y6x _ (y5j _ h)) λe2=>hmid (e2▸y6g (f:=(·.queue)) hx)
  ·rw[g2 s' e hs']at hx;refine c.ne s' hs' x hx λe2=> ?_
   have h1:r.queue∈(b'.rungs s').map (·.queue):=by rw[g2 s' e hs',<- e2];exact y6g (f:=(·.queue)) hx
   rw[Book.qs]at hnd;exact(y7l.1 hnd).2.2 r.queue (by
    rcases hs' with rfl|rfl
    ·exact y6u _ h1
    ·exact y6x _ h1) r.queue (by rw[hsp];simp) rfl
 ·rw[hsp]at hq;rcases y6f.1 hq with hq|hq
  ·exact c.sp q hq
  ·rw[y6r.1 hq];exact he
def zQp {L:List zH} (h:(L.map (·.id)).Nodup) {id:Int} (hh:wM L id=aw):uS L id (dV L id).qty=L.filter λo=> !decide (o.id=id):=by
 rw[uS,<- List.filterMap_eq_filter];refine aK λo ho=> ?_
 by_cases e:o.id=id
 ·have hg:=sL h ho;rw[e]at hg;rw[y5d e,y5d (by rw[hg])];simp[Option.guard,e]
 ·rw[y5b e];simp[Option.guard,e]
def Book.Core.gone {b:Book} {Q:List (List Nat)} (c:b.Core Q (-1)) (ht:b.Tops (b.flat Q)) {id s:Int} {r:xL} {k:Nat} (h:Told b Q id s r k) {q:Int} (hq:1<=q/\q=(b.a.slotAt k).qty):
 (b.a.takeF k q).2=0/\(({b with a:=(b.a.takeF k q).1}:Book).dropF s id r.price).Rep (uS (b.flat Q) id q)/\(b.a.takeF k q).1.slots.length=250/\(b.a.takeF k q).1.queues.length=b.a.queues.length/\((b.a.takeF k q).1.getF k).2=ax/\zZ s (b.rungs s) r.price<(b.rungs s).length:=by
 obtain⟨t1,t2,t3⟩:=c.wf.take (c.get h.hs h.hr) h.hk (q:=q) ⟨hq.1,by omega⟩;rw[y5d hq.2.symm]at t3;obtain⟨w,t4,t5⟩:=t3;generalize hA:(b.a.takeF k q).1=a1 at*;have hget:=c.get h.hs h.hr;have hnQ:=(y5f.1 hget).1;have hrq:=c.rng _ (uW h.hs h.hr);generalize hQ':Q.set r.queue.toNat ((xC Q r).erase k)=Q' at*;have hQl:Q'.length=Q.length:=by rw[<- hQ',y6j]
 have hnd:(xC Q r).Nodup:=c.wf.nd _ _ hget;have hqd:∀s' (r':xL),(s'=1\/s'=2)->r'∈b.rungs s'->xC Q' r'=(xC Q r').erase k:=by
  intro s' r' hs' hr';by_cases e:r'.queue=r.queue
  ·have e1:xC Q r'=xC Q r:=by rw[xC,xC,e]
   rw[e1,xC,e,<- hQ'];exact zU (fV hnQ)
  ·have h2:xC Q' r'=xC Q r':=by
    have:=c.rng _ (uW hs' hr');rw[xC,xC,y5k,y5k,<- hQ',vY (by omega)]
   rw[h2];symm;refine List.erase_of_not_mem λhk=> ?_
   have:=c.wf.toWf0.one (c.get hs' hr') hget hk h.hk;have:=c.rng _ (uW hs' hr');omega
 have hQo:∀q:Int,0<=q->q≠r.queue->Q'.getD q.toNat []=Q.getD q.toNat []:=by
  intro q h0 hne;rw[<- hQ',y5k,vY (by omega),y5k]
 obtain⟨u1,u2,u3,u4,u5⟩:=yHl ({b with a:=a1}:Book) id h.hs;obtain⟨b1,hb1⟩:∃b1:Book,b1={({b with a:=a1}:Book).unhas s id with at_:=nA id b.at_}:=⟨_,rfl⟩
 have v1:b1.a=a1:=by rw[hb1];exact u1
 have v2:b1.buys=b.buys:=by rw[hb1];exact u2
 have v3:b1.sells=b.sells:=by rw[hb1];exact u3
 have v4:b1.spare=b.spare:=by rw[hb1];exact u4
 have v5:b1.at_=nA id b.at_:=by rw[hb1]
 have v6:∀s',s'=1\/s'=2->b1.topI s'=b.topI s'/\b1.hasF s'=if s'=s/\b.topI s=id then ax else b.hasF s':=by
  intro s' hs';rw[hb1];exact u5 s' hs'
 have vr:∀s',b1.rungs s'=b.rungs s':=by intro s';rw[Book.rungs,Book.rungs,v2,v3]
 have vq:b1.qs=b.qs:=by rw[Book.qs,Book.qs,v2,v3,v4]
 have hord:∀s',s'=1\/s'=2->b1.sideL Q' s'=(b.sideL Q s').filter (λo=> !decide (o.id=id))/\b1.plcs Q' s'=(b.plcs Q s').filter λx=> !decide (x.1=id):=by
  intro s' hs';rw[Book.sideL,Book.sideL,Book.plcs,Book.plcs,vr,List.filter_flatMap,List.filter_flatMap];have key:∀r'∈b.rungs s',∀j∈xC Q r',((b.a.slotAt j).id=id↔j=k)/\(j≠k->wU a1 s' r'.price j=wU b.a s' r'.price j/\vJ a1 s' r'.price j=vJ b.a s' r'.price j):=by
   intro r' hr' j hj;refine⟨h.only c hs' hr' hj,λe=> ?_⟩;have:=(t2 j e).1;refine⟨by rw[wU,wU,this],?_⟩;have:=congrArg Ent.id this;rw[vJ,vJ];exact congrArg (λi=>(i,(⟨s',r'.price,j⟩:Place))) this
  refine⟨xD λr' hr'=> ?_,xD λr' hr'=> ?_⟩
  ·rw[Book.rOrds,Book.rOrds,hqd s' r' hs' hr',zEv (c.wf.nd _ _ (c.get hs' hr')),List.filter_map,v1];have e1:(xC Q r').filter ((λo:zH=> !decide (o.id=id))∘wU b.a s' r'.price)=(xC Q r').filter λj=> !decide (j=k):=by
    refine List.filter_congr λj hj=> ?_
    show(!decide ((b.a.slotAt j).id=id))=_;rw[decide_eq_decide.2 (key r' hr' j hj).1]
   rw[e1];refine y6k λj hj=> ?_
   rw[y7c]at hj;exact((key r' hr' j hj.1).2 (by simpa using hj.2)).1
  ·rw[hqd s' r' hs' hr',zEv (c.wf.nd _ _ (c.get hs' hr')),List.filter_map,v1];have e1:(xC Q r').filter ((λx:Int×Place=> !decide (x.1=id))∘vJ b.a s' r'.price)=(xC Q r').filter λj=> !decide (j=k):=by
    refine List.filter_congr λj hj=> ?_
    show(!decide ((b.a.slotAt j).id=id))=_;rw[decide_eq_decide.2 (key r' hr' j hj).1]
   rw[e1];refine y6k λj hj=> ?_
   rw[y7c]at hj;exact((key r' hr' j hj.1).2 (by simpa using hj.2)).2
 have hflat:b1.flat Q'=(b.flat Q).filter λo=> !decide (o.id=id):=by
  rw[Book.flat,(hord 1 (.inl rfl)).1,(hord 2 (.inr rfl)).1,Book.flat,y9g]
 have hat:b1.at_.Perm (b1.plcs Q' 1++b1.plcs Q' 2):=by
  rw[v5,z8u c.keys,(hord 1 (.inl rfl)).2,(hord 2 (.inr rfl)).2,<- y9g];exact c.at_.filter _
 have hold:∀s' (r':xL),(s'=1\/s'=2)->r'∈b.rungs s'->xC Q r'≠[]:=λs' r' hs' hr'=>c.ne s' hs' r' hr' λe=>by
  have:=c.rng _ (uW hs' hr');omega
 have c1:b1.Core Q' r.queue:=by
  refine⟨by rw[v1];exact w,λs' hs'=>by rw[vr];exact c.srt s' hs',by rw[vq,hQl];exact c.rng,by rw[vq];exact c.nd,by rw[vq,hQl];exact c.ql,λs' hs' r' hr' hne=> ?_,λq hq=> ?_,hat,?_,by rw[hQl];exact c.qb⟩
  ·rw[vr]at hr';have e:=hQo r'.queue (c.rng _ (uW hs' hr')).1 hne;rw[xC,e];exact hold s' r' hs' hr'
  ·rw[v4]at hq;have hqq:q∈b.qs:=y6x _ hq;rw[hQo q (c.rng q hqq).1 λe=> ?_]
   ·exact c.sp q hq
   ·have hcn:=c.nd;rw[Book.qs]at hcn;refine(y7l.1 hcn).2.2 r.queue ?_ q hq e.symm;rcases h.hs with rfl|rfl
    ·exact y6u _ (y6g (f:=(·.queue)) h.hr)
    ·exact y6x _ (y6g (f:=(·.queue)) h.hr)
  ·rw[hflat];exact c.ids.sublist (List.Sublist.map _ xAv)
 have htk:uS (b.flat Q) id q=b1.flat Q':=by
  rw[hflat,<- zQp c.ids h.has,h.get,hq.2];rfl
 have hm1:∀o,o∈b1.flat Q'↔o∈b.flat Q/\o.id≠id:=by
  intro o;rw[hflat,y7c];simp
 have ht1:∀b2:Book,(∀x,b2.hasF x=b1.hasF x/\b2.topI x=b1.topI x)->b2.Tops (b1.flat Q'):=by
  intro b2 hb2;refine⟨λo ho=> ?_,λs' hs' hh=> ?_⟩
  ·rw[(hb2 _).1,(hb2 _).2];obtain⟨ho,hne⟩:=(hm1 o).1 ho;have hs':=(pA ho).1;rw[(v6 _ hs').1,(v6 _ hs').2,ht.fl o ho];split
   ·rename_i e;rw[e.1,e.2,y5q hne,xAf,xAf]
   ·rfl
  ·rw[(hb2 _).1,(v6 s' hs').2]at hh;rw[(hb2 _).2,(v6 s' hs').1];split at hh
   ·cases hh
   ·rename_i e;obtain⟨o,ho,o1,o2⟩:=ht.th s' hs' hh;refine⟨o,(hm1 o).2 ⟨ho,λe2=>e ?_⟩,o1,o2⟩;have hg:=sL c.ids ho;rw[e2,h.get]at hg;have hsd:s'=s:=by rw[<- o1,<- hg];rfl
    exact⟨hsd,by rw[<- hsd,<- o2,e2]⟩
 obtain⟨R1,R2,hsplit⟩:=List.append_of_mem h.hr;have hfn:=yFb (c.srt s h.hs) hsplit;have hgd:(b.rungs s).getD (zZ s (b.rungs s) r.price) ⟨0,0⟩=r:=by
  rw[hfn,hsplit];refine zU ?_;rw[y7f (y5x _),xAp];rfl
 have hfl:zZ s (b.rungs s) r.price<(b.rungs s).length:=by rw[hfn,hsplit];simp
 have hQr:Q'[r.queue.toNat]? =ay ((xC Q r).erase k):=by rw[<- hQ'];exact fV hnQ
 have hcount:(a1.qAt r.queue).count=((xC Q r).erase k).length:=by
  have:=w.q _ _ hQr;have hql:=w.ql;rw[zVv hrq.1 this]
 have er:xC Q' r=(xC Q r).erase k:=zU hQr;have hru:({b with a:=a1}:Book).rungs s=b.rungs s:=rfl;have hus:(a1.getF k).2=ax:=by
  have:a1.usedAt k=ax:=by
   have e:a1.slotAt k=slot0:=t4;rw[Arena.slotAt]at e;rw[Arena.usedAt,y5u,e];simp[slot0]
  rw[Arena.getF,y5b (by rw[this];decide)]
 refine⟨t1,?_,w.len,by rw[w.ql,c.wf.ql,hQl],hus,hfl⟩;rw[Book.dropF,hru,hgd];by_cases hz:(a1.qAt r.queue).count=0
 ·rw[y5d hz];have he:xC Q' r=[]:=by
   rw[er];refine y6d ?_;omega
  obtain⟨k1,k2⟩:=Book.Core.close h.hs (by rw[vr];exact hsplit) c1 he rfl;have ebk:(({({b with a:=a1}:Book).unhas s id with at_:=nA id b.at_,spare:=b.spare++[r.queue]}:Book).setR s ((b.rungs s).take (zZ s (b.rungs s) r.price)++(b.rungs s).drop (zZ s (b.rungs s) r.price+1)))=(({b1 with spare:=b1.spare++[r.queue]}:Book).setR s (R1++R2)):=by
   have e1:(b.rungs s).take (zZ s (b.rungs s) r.price)++(b.rungs s).drop (zZ s (b.rungs s) r.price+1)=R1++R2:=by
    rw[hfn,hsplit,xBj];congr 1;rw[xAe,y8j (by omega),Nat.add_sub_cancel_left];rfl
   rw[e1,v4,hb1]
  refine⟨Q',?_,?_,?_⟩
  ·exact ebk▸k1
  ·rw[htk];refine ht1 _ λx=> ?_
   show(Book.hasF (({({b with a:=a1}:Book).unhas s id with at_:=nA id b.at_,spare:=b.spare++[r.queue]}:Book).setR s ((b.rungs s).take (zZ s (b.rungs s) r.price)++(b.rungs s).drop (zZ s (b.rungs s) r.price+1))) x=_/\Book.topI (({({b with a:=a1}:Book).unhas s id with at_:=nA id b.at_,spare:=b.spare++[r.queue]}:Book).setR s ((b.rungs s).take (zZ s (b.rungs s) r.price)++(b.rungs s).drop (zZ s (b.rungs s) r.price+1))) x=_);rw[ebk];rcases h.hs with rfl|rfl<;>exact⟨rfl,rfl⟩
  ·rw[htk];show _=Book.flat (({({b with a:=a1}:Book).unhas s id with at_:=nA id b.at_,spare:=b.spare++[r.queue]}:Book).setR s ((b.rungs s).take (zZ s (b.rungs s) r.price)++(b.rungs s).drop (zZ s (b.rungs s) r.price+1))) Q';rw[ebk];exact k2.symm
 ·rw[y5b hz];have c2:b1.Core Q' (-1):=⟨c1.wf,c1.srt,c1.rng,c1.nd,c1.ql,λs' hs' r' hr' _=>by
   by_cases e:r'.queue=r.queue
   ·rw[xC,e];intro e2;rw[xC]at er;rw[er]at e2;rw[hcount,e2]at hz;exact hz rfl
   ·exact c1.ne s' hs' r' hr' e,c1.sp,c1.at_,c1.ids,c1.qb⟩
  have hh:({({b with a:=a1}:Book).unhas s id with at_:=nA id b.at_}:Book)=b1:=hb1.symm;show Book.Rep {({b with a:=a1}:Book).unhas s id with at_:=nA id b.at_} _;rw[hh,htk];exact⟨Q',c2,ht1 b1 λ_=>⟨rfl,rfl⟩,rfl⟩
def tF (k:Int):∀l,zBi (cf bg k) (atE l)=atE (nA k l)
 |[]=>rfl
 |(a,b)::l=>by
  have ih:=tF k l;show(bif (keq .i64 .i64 && decide (k=a))then atE l else _::zBi _ (atE l))=_;rw[ih,nA];by_cases h:k=a
  ·subst h;simp[keq]
  ·simp[h,atE]
def z7w:delRC.ok Tryz.prog 208:=
 delX_ok mixed Tryz.func208 rfl (by kernel_rfl) (by kernel_rfl) (by kernel_rfl) (by kernel_rfl) zHx rfl (by decide) (λs sn sk i j w R=>by kernel_rfl)
def dup {X:Prop} {n:Int} (h:X):X/\n=n/\True/\X:=⟨h,rfl,trivial,h⟩
def Book.Core.small {b:Book} {Q:List (List Nat)} (c:b.Core Q (-1)):b.small:=by
 have hq:=c.qb;have h1:=c.ql;have h2:=c.wf.ql;have h3:=c.wf.len;rw[Book.qs,y5a,y5a,y5c,y5c]at h1;exact⟨⟨by omega,by omega⟩,by omega,by omega,by omega⟩
def yWn (i:DrI) (h:drop1C.cnd i):yKb i:=by
 obtain⟨hsm,hn⟩:i.ok 1:=h;obtain⟨⟨ha1,ha2⟩,hb1,hb2,hsp⟩:=id hsm;have hn:zZ 1 i.b.buys i.price<i.b.buys.length:=hn;obtain⟨r,hr⟩:=yC (l:=i.b.buys) hn;have hgd:((i.b.rungs 1).getD (zZ 1 (i.b.rungs 1) i.price) ⟨0,0⟩)=r:=zU hr;have hw:∀k:Int,bg.wrap ((zZ 1 (i.b.rungs 1) i.price:Int)+1)=((zZ 1 (i.b.rungs 1) i.price+1:Nat):Int):=λ_=>by
  have:=zFn 1 i.price (i.b.rungs 1);have hl:(i.b.rungs 1).length<=1000000:=by show i.b.buys.length<=_;omega
  rw[w64 (by omega)];rfl
 have hn2:((zZ 1 (i.b.rungs 1) i.price:Nat):Int)<((aa zB i.b.buys).length:Int):=by
  rw[y5c];show((zZ 1 i.b.buys i.price:Nat):Int)<_;omega
 unfold yKb zHa zHs gW vT qD xU xA dI;refine⟨jZ _ _,Cv.cnd.mk (λc1=>Cv.cnd.mk (λc2=> ?_) (λc2=> ?_)) (λc1=> ?_)⟩
 ·have c2:i.b.top1=i.id:=by simpa using c2
  have hu:i.b.unhas 1 i.id={i.b with has1:=ax}:=by rw[Book.unhas,y5d ⟨c1,c2⟩];rfl
  refine⟨⟨{i.b with has1:=ax,at_:=nA i.id i.b.at_},i.price⟩,rfl,rfl,rfl,rfl,rfl,rfl,rfl,rfl,rfl,(tF _ _).symm,rfl,hsm,λ_ _=>⟨⟨by omega,hn2⟩,r.queue,elA hr (by simp[zB]) rfl,⟨i.b.a,r.queue⟩,rfl,rfl,trivial,λ_ _=>Cv.cnd.mk (λe=>⟨by simp only[yZ];omega,⟨i.b.buys.map zB,zZ 1 (i.b.rungs 1) i.price,zZ 1 (i.b.rungs 1) i.price+1⟩,rfl,(hw 0).symm,rfl,⟨xAh _,by rw[y5c];exact hn⟩,λ_ _=>⟨rfl,(),?_⟩⟩) (λe=>⟨(),?_⟩)⟩⟩
  ·have e:(i.b.a.qAt r.queue).count=0:=by simpa using e
   rw[Book.dropF,hgd,y5d e,hu];refine⟨rfl,rfl,rfl,rfl,rfl,rfl,?_,rfl,?_,trivial⟩
   ·show aa zB (i.b.buys.take _++i.b.buys.drop _)=_;rw[y5l,y9p,xAm]
   ·show iE (i.b.spare++[r.queue])=_;simp[iE]
  ·have e:¬(i.b.a.qAt r.queue).count=0:=by simpa using e
   rw[Book.dropF,hgd,y5b e,hu];exact⟨rfl,rfl,rfl,rfl,rfl,rfl,rfl,rfl,rfl,trivial⟩
 ·have c2:¬i.b.top1=i.id:=by simpa using c2
  have hu:i.b.unhas 1 i.id={i.b with has1:=i.b.has1}:=by rw[Book.unhas,y5b (λe=>c2 e.2)]
  refine⟨⟨{i.b with has1:=i.b.has1,at_:=nA i.id i.b.at_},i.price⟩,rfl,rfl,rfl,rfl,rfl,rfl,rfl,rfl,rfl,(tF _ _).symm,rfl,hsm,λ_ _=>⟨⟨by omega,hn2⟩,r.queue,elA hr (by simp[zB]) rfl,⟨i.b.a,r.queue⟩,rfl,rfl,trivial,λ_ _=>Cv.cnd.mk (λe=>⟨by simp only[yZ];omega,⟨i.b.buys.map zB,zZ 1 (i.b.rungs 1) i.price,zZ 1 (i.b.rungs 1) i.price+1⟩,rfl,(hw 0).symm,rfl,⟨xAh _,by rw[y5c];exact hn⟩,λ_ _=>⟨rfl,(),?_⟩⟩) (λe=>⟨(),?_⟩)⟩⟩
  ·have e:(i.b.a.qAt r.queue).count=0:=by simpa using e
   rw[Book.dropF,hgd,y5d e,hu];refine⟨rfl,rfl,rfl,rfl,rfl,rfl,?_,rfl,?_,trivial⟩
   ·show aa zB (i.b.buys.take _++i.b.buys.drop _)=_;rw[y5l,y9p,xAm]
   ·show iE (i.b.spare++[r.queue])=_;simp[iE]
  ·have e:¬(i.b.a.qAt r.queue).count=0:=by simpa using e
   rw[Book.dropF,hgd,y5b e,hu];exact⟨rfl,rfl,rfl,rfl,rfl,rfl,rfl,rfl,rfl,trivial⟩
 ·have hu:i.b.unhas 1 i.id={i.b with has1:=i.b.has1}:=by
   rw[Book.unhas,y5b];rintro⟨e,_⟩;exact absurd (show i.b.has1=aw from e) (by rw[c1];decide)
  refine⟨⟨{i.b with has1:=i.b.has1,at_:=nA i.id i.b.at_},i.price⟩,rfl,rfl,rfl,rfl,rfl,rfl,rfl,rfl,rfl,(tF _ _).symm,rfl,hsm,λ_ _=>⟨⟨by omega,hn2⟩,r.queue,elA hr (by simp[zB]) rfl,⟨i.b.a,r.queue⟩,rfl,rfl,trivial,λ_ _=>Cv.cnd.mk (λe=>⟨by simp only[yZ];omega,⟨i.b.buys.map zB,zZ 1 (i.b.rungs 1) i.price,zZ 1 (i.b.rungs 1) i.price+1⟩,rfl,(hw 0).symm,rfl,⟨xAh _,by rw[y5c];exact hn⟩,λ_ _=>⟨rfl,(),?_⟩⟩) (λe=>⟨(),?_⟩)⟩⟩
  ·have e:(i.b.a.qAt r.queue).count=0:=by simpa using e
   rw[Book.dropF,hgd,y5d e,hu];refine⟨rfl,rfl,rfl,rfl,rfl,rfl,?_,rfl,?_,trivial⟩
   ·show aa zB (i.b.buys.take _++i.b.buys.drop _)=_;rw[y5l,y9p,xAm]
   ·show iE (i.b.spare++[r.queue])=_;simp[iE]
  ·have e:¬(i.b.a.qAt r.queue).count=0:=by simpa using e
   rw[Book.dropF,hgd,y5b e,hu];exact⟨rfl,rfl,rfl,rfl,rfl,rfl,rfl,rfl,rfl,trivial⟩
def yDe:drop1C.ok Tryz.prog 198:=okw mixed (gokc zNt (gokc nX (gokc z7w gok0))) 0 (λ_=>[]) (λ_=>[]) [] Tryz.func198 yWn
def yTg (i:DrI) (h:drop2C.cnd i):yGn i:=by
 obtain⟨hsm,hn⟩:i.ok 2:=h;obtain⟨⟨ha1,ha2⟩,hb1,hb2,hsp⟩:=id hsm;have hn:zZ 2 i.b.sells i.price<i.b.sells.length:=hn;obtain⟨r,hr⟩:=yC (l:=i.b.sells) hn;have hgd:((i.b.rungs 2).getD (zZ 2 (i.b.rungs 2) i.price) ⟨0,0⟩)=r:=zU hr;have hw:∀k:Int,bg.wrap ((zZ 2 (i.b.rungs 2) i.price:Int)+1)=((zZ 2 (i.b.rungs 2) i.price+1:Nat):Int):=λ_=>by
  have:=zFn 2 i.price (i.b.rungs 2);have hl:(i.b.rungs 2).length<=1000000:=by show i.b.sells.length<=_;omega
  rw[w64 (by omega)];rfl
 have hn2:((zZ 2 (i.b.rungs 2) i.price:Nat):Int)<((aa zB i.b.sells).length:Int):=by
  rw[y5c];show((zZ 2 i.b.sells i.price:Nat):Int)<_;omega
 unfold yGn zGh zHt gT vV qD xV y9 dI;refine⟨jZ _ _,Cv.cnd.mk (λc1=>Cv.cnd.mk (λc2=> ?_) (λc2=> ?_)) (λc1=> ?_)⟩
 ·have c2:i.b.top2=i.id:=by simpa using c2
  have hu:i.b.unhas 2 i.id={i.b with has2:=ax}:=by rw[Book.unhas,y5d ⟨c1,c2⟩];rfl
  refine⟨⟨{i.b with has2:=ax,at_:=nA i.id i.b.at_},i.price⟩,rfl,rfl,rfl,rfl,rfl,rfl,rfl,rfl,rfl,(tF _ _).symm,rfl,hsm,λ_ _=>⟨⟨by omega,hn2⟩,r.queue,elA hr (by simp[zB]) rfl,⟨i.b.a,r.queue⟩,rfl,rfl,trivial,λ_ _=>Cv.cnd.mk (λe=>⟨by simp only[yZ];omega,⟨i.b.sells.map zB,zZ 2 (i.b.rungs 2) i.price,zZ 2 (i.b.rungs 2) i.price+1⟩,rfl,(hw 0).symm,rfl,⟨xAh _,by rw[y5c];exact hn⟩,λ_ _=>⟨rfl,(),?_⟩⟩) (λe=>⟨(),?_⟩)⟩⟩
  ·have e:(i.b.a.qAt r.queue).count=0:=by simpa using e
   rw[Book.dropF,hgd,y5d e,hu];refine⟨rfl,rfl,rfl,rfl,rfl,rfl,rfl,?_,?_,trivial⟩
   ·show aa zB (i.b.sells.take _++i.b.sells.drop _)=_;rw[y5l,y9p,xAm]
   ·show iE (i.b.spare++[r.queue])=_;simp[iE]
  ·have e:¬(i.b.a.qAt r.queue).count=0:=by simpa using e
   rw[Book.dropF,hgd,y5b e,hu];exact⟨rfl,rfl,rfl,rfl,rfl,rfl,rfl,rfl,rfl,trivial⟩
 ·have c2:¬i.b.top2=i.id:=by simpa using c2
  have hu:i.b.unhas 2 i.id={i.b with has2:=i.b.has2}:=by rw[Book.unhas,y5b (λe=>c2 e.2)]
  refine⟨⟨{i.b with has2:=i.b.has2,at_:=nA i.id i.b.at_},i.price⟩,rfl,rfl,rfl,rfl,rfl,rfl,rfl,rfl,rfl,(tF _ _).symm,rfl,hsm,λ_ _=>⟨⟨by omega,hn2⟩,r.queue,elA hr (by simp[zB]) rfl,⟨i.b.a,r.queue⟩,rfl,rfl,trivial,λ_ _=>Cv.cnd.mk (λe=>⟨by simp only[yZ];omega,⟨i.b.sells.map zB,zZ 2 (i.b.rungs 2) i.price,zZ 2 (i.b.rungs 2) i.price+1⟩,rfl,(hw 0).symm,rfl,⟨xAh _,by rw[y5c];exact hn⟩,λ_ _=>⟨rfl,(),?_⟩⟩) (λe=>⟨(),?_⟩)⟩⟩
  ·have e:(i.b.a.qAt r.queue).count=0:=by simpa using e
   rw[Book.dropF,hgd,y5d e,hu];refine⟨rfl,rfl,rfl,rfl,rfl,rfl,rfl,?_,?_,trivial⟩
   ·show aa zB (i.b.sells.take _++i.b.sells.drop _)=_;rw[y5l,y9p,xAm]
   ·show iE (i.b.spare++[r.queue])=_;simp[iE]
  ·have e:¬(i.b.a.qAt r.queue).count=0:=by simpa using e
   rw[Book.dropF,hgd,y5b e,hu];exact⟨rfl,rfl,rfl,rfl,rfl,rfl,rfl,rfl,rfl,trivial⟩
 ·have hu:i.b.unhas 2 i.id={i.b with has2:=i.b.has2}:=by
   rw[Book.unhas,y5b];rintro⟨e,_⟩;exact absurd (show i.b.has2=aw from e) (by rw[c1];decide)
  refine⟨⟨{i.b with has2:=i.b.has2,at_:=nA i.id i.b.at_},i.price⟩,rfl,rfl,rfl,rfl,rfl,rfl,rfl,rfl,rfl,(tF _ _).symm,rfl,hsm,λ_ _=>⟨⟨by omega,hn2⟩,r.queue,elA hr (by simp[zB]) rfl,⟨i.b.a,r.queue⟩,rfl,rfl,trivial,λ_ _=>Cv.cnd.mk (λe=>⟨by simp only[yZ];omega,⟨i.b.sells.map zB,zZ 2 (i.b.rungs 2) i.price,zZ 2 (i.b.rungs 2) i.price+1⟩,rfl,(hw 0).symm,rfl,⟨xAh _,by rw[y5c];exact hn⟩,λ_ _=>⟨rfl,(),?_⟩⟩) (λe=>⟨(),?_⟩)⟩⟩
  ·have e:(i.b.a.qAt r.queue).count=0:=by simpa using e
   rw[Book.dropF,hgd,y5d e,hu];refine⟨rfl,rfl,rfl,rfl,rfl,rfl,rfl,?_,?_,trivial⟩
   ·show aa zB (i.b.sells.take _++i.b.sells.drop _)=_;rw[y5l,y9p,xAm]
   ·show iE (i.b.spare++[r.queue])=_;simp[iE]
  ·have e:¬(i.b.a.qAt r.queue).count=0:=by simpa using e
   rw[Book.dropF,hgd,y5b e,hu];exact⟨rfl,rfl,rfl,rfl,rfl,rfl,rfl,rfl,rfl,trivial⟩
def yCw:drop2C.ok Tryz.prog 198:=okw mixed (gokc zMr (gokc nX (gokc z7w gok0))) 0 (λ_=>[]) (λ_=>[]) [] Tryz.func198 yTg
def yMw:dropC.ok Tryz.prog 198:=λj=>match j with
 |⟨i,ax⟩=>yDe i
 |⟨i,aw⟩=>yCw i
def yNm {a:Arena} {k:Nat} {p t:Int} {m:Nat} (h:zVn (a.slotAt k) m k p t) (hl:k<a.slots.length):a.getF k=((a.slotAt k).ent,aw):=by
 have:a.usedAt k=aw:=by
  simp only[Arena.usedAt,y5o,y6p,y5u];exact⟨by omega,by omega,h.used⟩
 rw[Arena.getF,y5d this,y5u]
def zYa {b:Book} {Q:List (List Nat)} (c:b.Core Q (-1)) {id s:Int} {r:xL} {k:Nat} (h:Told b Q id s r k):b.a.getF k=((b.a.slotAt k).ent,aw)/\(b.a.slotAt k).qty<=1000000/\1<=(b.a.slotAt k).qty:=by
 obtain⟨h1,⟨p,t,h2⟩,h3⟩:=c.wf.toWf0.mem (c.get h.hs h.hr) h.hk;exact⟨yNm h2 (by rw[c.wf.len];exact h1),h2.q2,c.wf.pos _ _ (c.get h.hs h.hr) _ h.hk⟩
def yTi (i:FlI) (h:bfindC.cnd i):yJi i:=by
 obtain⟨Q,c,ht,hL⟩:i.b.Rep i.L:=h;unfold yJi zIp zCo tE dI;rcases c.told i.id with⟨hg,hn⟩|⟨s,r,k,hT⟩
 ·refine⟨jZ _ _,ax,0,0,0,.inr ⟨?_,rfl,rfl⟩,Cv.cnd.mk (λ_=> ?_) (λe=>absurd e (by decide))⟩
  ·rw[zBb,hg];rfl
  ·rw[<- hL]at hn;rw[yTa hn,hn];exact⟨(),by(repeat'(first|exact trivial|exact rfl|apply co))⟩
 ·refine⟨jZ _ _,aw,s,r.price,k,.inl ⟨?_,rfl⟩,Cv.cnd.mk (λe=>absurd e (by decide)) (λ_=>dup ⟨⟨i.b.a,k⟩,rfl,rfl,by dsimp only;rw[c.wf.len];decide,λ_ _=>⟨(),?_⟩⟩)⟩
  ·rw[zBb,hT.e];rfl
  ·have h1:=hT.get;have h2:=hT.has;rw[<- hL]at h1 h2;rw[h1,h2,(zYa c hT).1];exact⟨hT.ident,by(repeat'(first|exact trivial|exact rfl|apply co))⟩
def zXd:bfindC.ok Tryz.prog 111:=okw mixed (gokc z9d gok0) 0 (λ_=>[]) (λ_=>[]) [0] Tryz.func111 yTi
def Book.Core.okAt {b:Book} {Q:List (List Nat)} (c:b.Core Q (-1)):b.a.okAt:=c.wf.toWf0.ok
def yYq (i:FlI) (h:fillC.cnd i):yRh i:=by
 have hR:i.b.Rep i.L:=h;obtain⟨Q,c,ht,hL⟩:=id hR;unfold yRh zTm zPt wY lU tE dI;rcases c.told i.id with⟨hg,hn⟩|⟨s,r,k,hT⟩
 ·refine⟨jZ _ _,ax,0,0,0,.inr ⟨?_,rfl,rfl⟩,Cv.cnd.mk (λ_=> ?_) (λe=>absurd e (by simp))⟩
  ·rw[zBb,hg];rfl
  ·rw[<- hL]at hn;rw[x6,y5d hn];exact⟨i.b,rfl,rfl,rfl,rfl,rfl,rfl,rfl,rfl,rfl,rfl,hR⟩
 have hg:=hT.get;have hh:=hT.has;rw[<- hL]at hg hh;obtain⟨hsg,hq1,hq2⟩:=zYa c hT;have hqq:(dV i.L i.id).qty=(i.b.a.slotAt k).qty:=by rw[hg];rfl
 refine⟨jZ _ _,aw,s,r.price,k,.inl ⟨?_,rfl⟩,Cv.cnd.mk (λe=>absurd e (by simp)) (λ_=>⟨⟨i.b.a,k,i.qty⟩,rfl,rfl,rfl,c.okAt,λ_ _=> ?_⟩)⟩
 ·rw[zBb,hT.e];rfl
 dsimp only;have hu:i.b.a.usedAt k=aw:=by
  cases hu:i.b.a.usedAt k with
  |true=>rfl
  |false=>rw[Arena.getF,y5b (by rw[hu];decide)]at hsg;exact absurd (congrArg Prod.snd hsg) (by simp)
 by_cases hb:i.qty<1\/(i.b.a.slotAt k).qty<i.qty
 ·have ht:i.b.a.takeF k i.qty=(i.b.a,24):=by rw[Arena.takeF,y5b (by rw[hu];decide),y5u,y5d hb]
  rw[ht];refine Cv.cnd.mk (λ_=> ?_) (λe=>absurd e (by simp));rw[x6,y5b (by rw[hh];decide),y5d (by rw[hqq];exact hb)];exact⟨i.b,rfl,rfl,rfl,rfl,rfl,rfl,rfl,rfl,rfl,rfl,hR⟩
 have hfl:x6 i.L i.id i.qty=(uS i.L i.id i.qty,0):=by rw[x6,y5b (by rw[hh];decide),y5b (by rw[hqq];exact hb)]
 by_cases hf:i.qty=(i.b.a.slotAt k).qty
 ·obtain⟨g1,g2,g3,g4,g5,g6⟩:=c.gone (by rw[<- hL];exact ht) hT (q:=i.qty) ⟨by omega,hf⟩;rw[<- hL]at g2;have hsm:=c.small;rw[g1];refine Cv.cnd.mk (λe=>absurd e (by simp)) (λ_=>dup ⟨⟨(i.b.a.takeF k i.qty).1,k⟩,rfl,rfl,by dsimp only;rw[g3];decide,λ_ _=> ?_⟩);dsimp only;rw[g5];refine Cv.cnd.mk (λ_=> ?_) (λe=>absurd e (by simp));rcases hT.hs with rfl|rfl
  ·refine⟨⟨⟨{i.b with a:=(i.b.a.takeF k i.qty).1},i.id,r.price,k⟩,ax⟩,rfl,rfl,rfl,rfl,rfl,rfl,rfl,rfl,rfl,rfl,rfl,rfl,rfl,⟨⟨⟨by dsimp only;rw[g3];decide,by dsimp only;rw[g4];exact hsm.1.2⟩,hsm.2⟩,g6⟩,λ_ _=> ?_⟩;refine⟨({i.b with a:=(i.b.a.takeF k i.qty).1}:Book).dropF 1 i.id r.price,by rw[hfl],rfl,rfl,rfl,rfl,rfl,rfl,rfl,rfl,rfl,by rw[hfl];exact g2⟩
  ·refine⟨⟨⟨{i.b with a:=(i.b.a.takeF k i.qty).1},i.id,r.price,k⟩,aw⟩,rfl,rfl,rfl,rfl,rfl,rfl,rfl,rfl,rfl,rfl,rfl,rfl,rfl,⟨⟨⟨by dsimp only;rw[g3];decide,by dsimp only;rw[g4];exact hsm.1.2⟩,hsm.2⟩,g6⟩,λ_ _=> ?_⟩;refine⟨({i.b with a:=(i.b.a.takeF k i.qty).1}:Book).dropF 2 i.id r.price,by rw[hfl],rfl,rfl,rfl,rfl,rfl,rfl,rfl,rfl,rfl,by rw[hfl];exact g2⟩
 ·obtain⟨g1,g2,g3,g4,g5⟩:=c.less (by rw[<- hL];exact ht) hT (q:=i.qty) (by omega);rw[<- hL]at g2;rw[g1];refine Cv.cnd.mk (λe=>absurd e (by simp)) (λ_=>dup ⟨⟨(i.b.a.takeF k i.qty).1,k⟩,rfl,rfl,by dsimp only;rw[g3];decide,λ_ _=> ?_⟩);dsimp only;rw[g4];refine Cv.cnd.mk (λe=>absurd e (by simp)) (λ_=>Cv.cnd.mk (λe=> ?_) (λ_=> ?_))
  ·have e:¬((i.b.a.takeF k i.qty).1.slotAt k).ent.id=i.id:=by simpa using e
   exact absurd g5 e
  ·exact⟨{i.b with a:=(i.b.a.takeF k i.qty).1},by rw[hfl],rfl,rfl,rfl,rfl,rfl,rfl,rfl,rfl,rfl,by rw[hfl];exact g2⟩
def yKt:fillC.ok Tryz.prog 187:=okw mixed (gokc yJz (gokc z9d (gokc yMw gok0))) 0 (λ_=>[]) (λ_=>[]) [0] Tryz.func187 yYq
def zTw (A B:List zH) (s p:Int):atL (A++B) s p=atL A s p++atL B s p:=y9g _ _
def zUp {A:List zH} {s p:Int} (h:∀o∈A,o.side=s->o.price≠p):atL A s p=[]:=by
 rw[atL,ak];intro o ho;by_cases e:o.side=s
 ·simp[h o ho e]
 ·simp[e]
def yOa {A:List zH} {s p:Int} (h:∀o∈A,o.side=s/\o.price=p):atL A s p=A:=by
 rw[atL,xAu];intro o ho;simp[h o ho]
def zNn {s x y:Int} (h:btr s x y=aw):x≠y:=by
 rintro rfl;rw[l5]at h;cases h
def Book.Core.at_no {b:Book} {Q:List (List Nat)} (c:b.Core Q (-1)) {s p:Int} (hs:s=1\/s=2) (h:kR s (b.rungs s) p=ax):atL (b.flat Q) s p=[]:=by
 have hsp:=zCe (p:=p) (c.srt s hs);rw[y5b (by rw[h];decide)]at hsp;refine zUp λo ho e=> ?_
 obtain⟨_,r,hr,_,hp⟩:=pA ho;rw[e]at hr;rw[hp];rw[<- y7g (zZ s (b.rungs s) p) (b.rungs s)]at hr;rcases y6f.1 hr with hr|hr
 ·exact zNn (hsp.1 r hr)
 ·exact(zNn (hsp.2 r hr)).symm
def Book.Core.at_yes {b:Book} {Q:List (List Nat)} (c:b.Core Q (-1)) {s p:Int} (hs:s=1\/s=2) (h:kR s (b.rungs s) p=aw):∃r,(b.rungs s)[zZ s (b.rungs s) p]? =ay r/\r.price=p/\r∈b.rungs s/\atL (b.flat Q) s p=b.rOrds Q s r:=by
 have hsp:=zCe (p:=p) (c.srt s hs);rw[y5d h]at hsp;obtain⟨h1,r,hr,hp,h2⟩:=hsp;have hlt:=(y5f.1 hr).1;refine⟨r,hr,hp,y5m hr,?_⟩;have hsplit:b.rungs s=(b.rungs s).take (zZ s (b.rungs s) p)++r::(b.rungs s).drop (zZ s (b.rungs s) p+1):=by
  conv=>lhs;rw[<- y7g (zZ s (b.rungs s) p) (b.rungs s)]
  rw[y7j hlt,(y5f.1 hr).2]
 have hside:atL (b.sideL Q s) s p=b.rOrds Q s r:=by
  rw[Book.sideL,hsplit,y7a,y6w,zTw,zTw,zUp,yOa,zUp,y6a,y7v]
  ·intro o ho _;obtain⟨r',hr',ho⟩:=y7u.1 ho;rw[(qF ho).2];exact(zNn (h2 r' hr')).symm
  ·intro o ho;rw[<- hp];exact qF ho
  ·intro o ho _;obtain⟨r',hr',ho⟩:=y7u.1 ho;rw[(qF ho).2];exact zNn (h1 r' hr')
 have hother:∀s',s'≠s->atL (b.sideL Q s') s p=[]:=λs' hne=>zUp λo ho e=>absurd ((mC ho).1.symm.trans e) hne
 rw[Book.flat,zTw];rcases hs with rfl|rfl
 ·rw[hside,hother 2 (by decide),y6a]
 ·rw[hside,hother 1 (by decide),y7v]
def Book.Core.listOk {b:Book} {Q:List (List Nat)} (c:b.Core Q (-1)) {s:Int} (hs:s=1\/s=2) {r:xL} (hr:r∈b.rungs s):b.a.listOk r.queue (xC Q r):=by
 have hg:=c.get hs hr;have hrq:=c.rng _ (uW hs hr);refine⟨by have:=c.wf.toWf0.short hg;omega,?_⟩;rw[y5d ⟨hrq.1,by rw[c.wf.ql];exact hrq.2⟩,zU (c.wf.q _ _ hg)];exact zRm (c.wf.sg _ _ hg)
def y2o (i:AtI) (h:at1C.cnd i):yYl i:=by
 obtain⟨Q,c,ht,hL⟩:i.b.Rep i.L:=h;unfold yYl gW vT qD xU qU dI;refine⟨1,rfl,trivial,λ_ _=>Cv.cnd.mk (λe=>absurd e (by decide)) λ_=>⟨⟨i.b,i.price⟩,rfl,rfl,rfl,rfl,rfl,rfl,rfl,rfl,rfl,rfl,rfl,c.small,λ_ _=>Cv.cnd.mk (λe=> ?_) (λe=> ?_)⟩⟩
 ·have e:kR 1 (i.b.rungs 1) i.price=ax:=by simpa using e
  have:=c.at_no (.inl rfl) e;rw[<- hL]at this;refine⟨(),rfl,rfl,rfl,rfl,rfl,rfl,rfl,rfl,rfl,?_,trivial⟩;show aa wW (atL i.L 1 i.price)=[];rw[this];rfl
 ·have e:kR 1 (i.b.rungs 1) i.price=aw:=by simpa using e
  obtain⟨r,hr,hp,hm,ha⟩:=c.at_yes (.inl rfl) e;rw[<- hL]at ha;have hlt:=(y5f.1 hr).1;refine⟨⟨by omega,by rw[y5c];exact Int.ofNat_lt.2 hlt⟩,r.price,r.queue,elA hr (by simp[zB]) rfl,⟨i.b,1,r,xC Q r⟩,rfl,rfl,rfl,rfl,rfl,rfl,rfl,rfl,rfl,rfl,rfl,rfl,c.listOk (.inl rfl) hm,λ_ _=>⟨(),rfl,?_,trivial⟩⟩;show aa wW (atL i.L 1 i.price)=_;rw[ha,BoI.ords,Book.rOrds,Arena.ents];simp only[y7q];rfl
def yXh:at1C.ok Tryz.prog 199:=okw mixed (gokc eL (gokc zNt (gokc zSi gok0))) 0 (λ_=>[]) (λ_=>[]) [0] Tryz.func199 y2o
def y4g (i:AtI) (h:at2C.cnd i):yYg i:=by
 obtain⟨Q,c,ht,hL⟩:i.b.Rep i.L:=h;unfold yYg gT vV qD xV qU dI;refine⟨2,rfl,trivial,λ_ _=>Cv.cnd.mk (λe=>absurd e (by decide)) λ_=>⟨⟨i.b,i.price⟩,rfl,rfl,rfl,rfl,rfl,rfl,rfl,rfl,rfl,rfl,rfl,c.small,λ_ _=>Cv.cnd.mk (λe=> ?_) (λe=> ?_)⟩⟩
 ·have e:kR 2 (i.b.rungs 2) i.price=ax:=by simpa using e
  have:=c.at_no (.inr rfl) e;rw[<- hL]at this;refine⟨(),rfl,rfl,rfl,rfl,rfl,rfl,rfl,rfl,rfl,?_,trivial⟩;show aa wW (atL i.L 2 i.price)=[];rw[this];rfl
 ·have e:kR 2 (i.b.rungs 2) i.price=aw:=by simpa using e
  obtain⟨r,hr,hp,hm,ha⟩:=c.at_yes (.inr rfl) e;rw[<- hL]at ha;have hlt:=(y5f.1 hr).1;refine⟨⟨by omega,by rw[y5c];exact Int.ofNat_lt.2 hlt⟩,r.price,r.queue,elA hr (by simp[zB]) rfl,⟨i.b,2,r,xC Q r⟩,rfl,rfl,rfl,rfl,rfl,rfl,rfl,rfl,rfl,rfl,rfl,rfl,c.listOk (.inr rfl) hm,λ_ _=>⟨(),rfl,?_,trivial⟩⟩;show aa wW (atL i.L 2 i.price)=_;rw[ha,BoI.ords,Book.rOrds,Arena.ents];simp only[y7q];rfl
def yVi:at2C.ok Tryz.prog 199:=okw mixed (gokc eL (gokc zMr (gokc zSi gok0))) 0 (λ_=>[]) (λ_=>[]) [0] Tryz.func199 y4g
def y2g:atC.ok Tryz.prog 199:=λj=>match j with
 |⟨b,L,ax,p⟩=>yXh ⟨b,L,ax,p⟩
 |⟨b,L,aw,p⟩=>yVi ⟨b,L,aw,p⟩
def z0s (p:Int) (l:List zH):Lv:=⟨p,(l.map (·.qty)).sum,l.length⟩
def zNf:∀{l:List zH} {v:Lv} {vs:List Lv},grp l=v::vs->∃o r,l=o::r/\o.price=v.price
 |[],v,vs,h=>by cases h
 |o::r,v,vs,h=>by
  refine⟨o,r,rfl,?_⟩;rw[grp]at h;split at h
  ·cases h;rfl
  ·split at h
   ·rename_i e;cases h;exact e.symm
   ·cases h;rfl
def z5o {p:Int}:∀{l:List zH} {m:List zH},l≠[]->(∀o∈l,o.price=p)->(∀o r,m=o::r->o.price≠p)->grp (l++m)=z0s p l::grp m
 |[],m,h,_,_=>absurd rfl h
 |[o],m,_,h,hm=>by
  have e:=h o y5h;rw[List.singleton_append,grp];split
  ·rename_i g;simp[z0s,e,g]
  ·rename_i v vs g;obtain⟨o',r,e1,e2⟩:=zNf g;have:=hm o' r e1;rw[y5b (by omega)];simp[z0s,e,g]
 |o::o'::l,m,_,h,hm=>by
  have e:=h o y5h;have ih:=z5o (l:=o'::l) (m:=m) (by simp) (λx hx=>h x (y5j _ hx)) hm;rw[y6t,grp,ih];dsimp only;rw[y5d (show(z0s p (o'::l)).price=o.price from e.symm)];simp only[z0s,y5p,y6s,y5g];rfl
def zYc {f:xL->List zH}:∀{R:List xL},(∀r∈R,f r≠[]/\∀o∈f r,o.price=r.price)->R.Pairwise (λr r'=>r.price≠r'.price)->grp (R.flatMap f)=R.map λr=>z0s r.price (f r)
 |[],_,_=>rfl
 |r::R,h,hp=>by
  rw[y8w]at hp;have ih:=zYc (R:=R) (λx hx=>h x (y5j _ hx)) hp.2;rw[y6w,z5o (h r y5h).1 (h r y5h).2,ih,y5p];intro o l e;cases R with
  |nil=>cases e
  |cons r' R'=>
   rw[y6w]at e;obtain⟨h1,h2⟩:=h r' (y5j _ y5h);cases hf:f r' with
   |nil=>exact absurd hf h1
   |cons x y=>
    rw[hf,y6t]at e;cases e;rw[h2 o (by rw[hf];exact y5h)];exact(hp.1 r' y5h).symm
def zQn {b:Book} {Q:List (List Nat)} {s:Int} (hs:s=1\/s=2):(b.flat Q).filter (λo=>decide (o.side=s))=b.sideL Q s:=by
 have h1:∀s',(b.sideL Q s').filter (λo=>decide (o.side=s))=if s'=s then b.sideL Q s' else[]:=by
  intro s';split
  ·rename_i e;rw[xAu];intro o ho;rw[(mC ho).1,e];simp
  ·rename_i e;rw[ak];intro o ho;rw[(mC ho).1];simp[e]
 rw[Book.flat,y9g,h1,h1];rcases hs with rfl|rfl
 ·simp
 ·simp
def Book.Core.neL {b:Book} {Q:List (List Nat)} (c:b.Core Q (-1)) {s:Int} (hs:s=1\/s=2) {r:xL} (hr:r∈b.rungs s):xC Q r≠[]:=c.ne s hs r hr λe=>by have:=c.rng _ (uW hs hr);omega
def Book.Core.toldL {b:Book} {Q:List (List Nat)} (c:b.Core Q (-1)) {s:Int} (hs:s=1\/s=2) {r:xL} (hr:r∈b.rungs s):b.told r=z0s r.price (b.rOrds Q s r):=by
 have hg:=c.get hs hr;have hrq:=c.rng _ (uW hs hr);have hq:=c.wf.q _ _ hg;have hql:=c.wf.ql;rw[Book.told,zVv hrq.1 hq,z0s,Book.rOrds,y7q,y5c];rfl
def Book.Core.lad {b:Book} {Q:List (List Nat)} (c:b.Core Q (-1)) {s:Int} (hs:s=1\/s=2):hU (b.flat Q) s=(b.rungs s).map b.told:=by
 rw[hU,zQn hs,Book.sideL,zYc]
 ·exact y6k λr hr=>(c.toldL hs hr).symm
 ·intro r hr;refine⟨λe=>c.neL hs hr (List.map_eq_nil_iff.1 e),λo ho=>(qF ho).2⟩
 ·exact(c.srt s hs).imp λh=>zNn h
def Book.Core.bestL {b:Book} {Q:List (List Nat)} (c:b.Core Q (-1)) {s:Int} (hs:s=1\/s=2):b.best (b.rungs s)=Sx.bestL (b.flat Q) s:=by
 rw[Sx.bestL,c.lad hs];cases b.rungs s<;>rfl
def Book.Core.cnt {b:Book} {Q:List (List Nat)} (c:b.Core Q (-1)):b.cntOk:=by
 intro q hq;obtain⟨n,hn⟩:=y7s.1 hq;have hlt:=(y5f.1 hn).1;rw[c.wf.ql]at hlt;obtain⟨l,hl⟩:=yC hlt;have:=c.wf.q n l hl;rw[hn]at this;cases this;have:=c.wf.toWf0.short hl;constructor<;>dsimp only<;>omega
def qW (L:List zH):Top:=(top0.buy (bestL L 1)).sell (bestL L 2)
def Book.Rep.top {b:Book} {L:List zH} (h:b.Rep L):b.top=qW L:=by
 obtain⟨Q,c,ht,rfl⟩:=h;rw[Book.top,qW,<- c.bestL (.inl rfl),<- c.bestL (.inr rfl)];rfl
def Book.Rep.cnt {b:Book} {L:List zH} (h:b.Rep L):b.cntOk:=by
 obtain⟨Q,c,ht,rfl⟩:=h;exact c.cnt
structure zMo (o:zH):Prop where
 s:o.side=1\/o.side=2
 q:1<=o.qty/\o.qty<=1000000
def Book.Rep.ords {b:Book} {L:List zH} (h:b.Rep L):(∀o∈L,zMo o)/\(L.map (·.id)).Nodup/\L.length<=250:=by
 obtain⟨Q,c,ht,rfl⟩:=h;refine⟨λo ho=> ?_,c.ids,?_⟩
 ·obtain⟨hs,r,hr,ho,hp⟩:=pA ho;refine⟨hs,?_⟩;obtain⟨k,hk,e⟩:=y6n.1 ho;obtain⟨_,⟨_,_,h2⟩,_⟩:=c.wf.toWf0.mem (c.get hs hr) hk;have eq:o.qty=(b.a.slotAt k).qty:=by rw[<- e];rfl
  rw[eq];exact⟨c.wf.pos _ _ (c.get hs hr) _ hk,h2.q2⟩
 ·have hnd:(((b.rungs 1).flatMap (xC Q)++(b.rungs 2).flatMap (xC Q))).Nodup:=by
   have hm:((b.flat Q).map (·.id))=((b.rungs 1).flatMap (xC Q)++(b.rungs 2).flatMap (xC Q)).map λk=>(b.a.slotAt k).id:=by
    rw[Book.flat,y5l,y5l,Book.sideL,Book.sideL,eO,eO,eO,eO];congr 1
    ·exact xD λr _=>by rw[Book.rOrds,y7q];rfl
    ·exact xD λr _=>by rw[Book.rOrds,y7q];rfl
   have:=c.ids;rw[hm]at this;exact List.Pairwise.of_map _ (λa b hab e=>hab (by rw[e])) this
  have hl:(b.flat Q).length=((b.rungs 1).flatMap (xC Q)++(b.rungs 2).flatMap (xC Q)).length:=by
   rw[Book.flat,y5a,y5a,Book.sideL,Book.sideL,xAc,xAc,xAc,xAc];congr 1
   ·congr 1;exact y6k λr _=>by rw[Book.rOrds,y5c]
   ·congr 1;exact y6k λr _=>by rw[Book.rOrds,y5c]
  rw[hl];refine zMv 250 hnd λk hk=> ?_
  rcases y6f.1 hk with hk|hk
  ·obtain⟨r,hr,hk⟩:=y7u.1 hk;exact(c.wf.toWf0.mem (c.get (.inl rfl) hr) hk).1
  ·obtain⟨r,hr,hk⟩:=y7u.1 hk;exact(c.wf.toWf0.mem (c.get (.inr rfl) hr) hk).1
def Book.Rep.fit {b:Book} {L:List zH} (h:b.Rep L):b.fit:=by
 obtain⟨Q,c,ht,rfl⟩:=h;have hs:=c.small;have h1:=c.ql;have h2:=c.wf.ql;have hqb:=c.qb;rw[Book.qs,y5a,y5a,y5c,y5c]at h1;refine⟨⟨hs.1.1,λhf=> ?_,λq hq=> ?_⟩,by omega,by omega,by omega,by omega⟩
 ·obtain⟨k,_,hk,hk1,hku,_⟩:=c.wf.toWf0.unused hf;exact⟨_,y5m hk1,hku⟩
 ·obtain⟨n,hn⟩:=y7s.1 hq;have hlt:=(y5f.1 hn).1;rw[c.wf.ql]at hlt;obtain⟨l,hl⟩:=yC hlt;have:=c.wf.q n l hl;rw[hn]at this;cases this;dsimp only;rcases wJ l with e|⟨y,j,e,e2⟩
  ·exact .inl ((nF l).2 e)
  ·rw[e2];have:=(c.wf.toWf0.mem hl (k:=j) (by rw[e];simp)).1;rw[c.wf.len];exact .inr ⟨by omega,by omega⟩
def whL:Nat->List (List zH)->List (Int×Int)
 |_,[]=>[]
 |k,L::B=>L.map (λo=>(o.id,(k:Int)))++whL (k+1) B
def whL_mem:∀{B:List (List zH)} {n:Nat} {x:Int×Int},x∈whL n B↔∃(k:Nat) (L:List zH),B[k]? =ay L/\x.1∈L.map (·.id)/\x.2=((n+k:Nat):Int)
 |[],n,x=>by simp[whL]
 |L::B,n,x=>by
  rw[whL,y6f,whL_mem (B:=B)];constructor
  ·rintro(h|⟨k,L',h1,h2,h3⟩)
   ·obtain⟨o,ho,rfl⟩:=y6n.1 h;exact⟨0,L,rfl,y6g (f:=(·.id)) ho,rfl⟩
   ·exact⟨k+1,L',h1,h2,by rw[h3];omega⟩
  ·rintro⟨k,L',h1,h2,h3⟩;cases k with
   |zero=>
    cases h1;obtain⟨o,ho,e⟩:=y6n.1 h2;exact .inl (y6n.2 ⟨o,ho,Prod.ext e h3.symm⟩)
   |succ k=>exact .inr ⟨k,L',h1,h2,by rw[h3];omega⟩
def zKy:∀{B:List (List zH)} (n k:Nat),k<B.length->∃rest,∀X:List zH,(whL n (B.set k X)).Perm (X.map (λo=>(o.id,((n+k:Nat):Int)))++rest)
 |[],n,k,h=>absurd h (by simp)
 |L::B,n,0,h=>⟨whL (n+1) B,λX=> .refl _⟩
 |L::B,n,k+1,h=>by
  obtain⟨rest,hr⟩:=zKy (B:=B) (n+1) k (by simpa using h);refine⟨L.map (λo=>(o.id,(n:Int)))++rest,λX=> ?_⟩;rw[xBa,whL];refine((hr X).append_left _).trans ?_;rw[<- y5i,<- y5i,show n+1+k=n+(k+1)by omega];exact y7h.append_right _
structure MSt.Rep (s:MSt) (p:Prd) (B:List (List zH)):Prop where
 ep:s.p=p
 bl:s.books.length=B.length
 bk:∀(k:Nat) (b:Book) (L:List zH),s.books[k]? =ay b->B[k]? =ay L->b.Rep L
 wh:s.wh.Perm (whL 0 B)
 ids:((whL 0 B).map (·.1)).Nodup
def mM (B:List (List zH)) (id:Int):Option Nat:=B.findIdx? λL=>wM L id
def gE {B:List (List zH)} {id:Int} {k:Nat} (h:mM B id=ay k):∃L,B[k]? =ay L/\wM L id=aw:=by
 rw[mM,y8k]at h;obtain⟨h1,h2,_⟩:=h;exact⟨_,y6e h1,h2⟩
def z3z {B:List (List zH)} {id:Int} (h:mM B id=az):∀L∈B,wM L id=ax:=by
 rw[mM,y9v]at h;exact h
def zUs:∀{l:List (Int×Int)},(l.map (·.1)).Nodup->∀{k x:Int},(k,x)∈l->zDh l k=ay x
 |[],_,k,x,hx=>by cases hx
 |p::l,h,k,x,hx=>by
  rw[y5p,y7r]at h;rw[zDh,xBe];rcases y5w.1 hx with ex|hx
  ·subst ex;simp
  ·have:p.1≠k:=by rintro e;exact h.1 (e▸y6g (f:=(·.1)) hx)
   rw[y5q this];exact zUs h.2 hx
def yBo {l:List (Int×Int)} {k:Int} (h:k∉l.map (·.1)):zDh l k=az:=by
 rw[zDh,Option.map_eq_none_iff,List.find?_eq_none];intro x hx e;have e:x.1=k:=by simpa using e
 exact h (e▸y6g (f:=(·.1)) hx)
def MSt.Rep.keys {s:MSt} {p:Prd} {B:List (List zH)} (h:s.Rep p B):(s.wh.map (·.1)).Nodup:=(h.wh.map (·.1)).nodup_iff.2 h.ids
def MSt.Rep.at_ {s:MSt} {p:Prd} {B:List (List zH)} (h:s.Rep p B) (id:Int):zDh s.wh id=(mM B id).map (λk:Nat=>(k:Int)):=by
 cases hi:mM B id with
 |none=>
  refine yBo λhm=> ?_
  rw[(h.wh.map (·.1)).mem_iff]at hm
  obtain⟨x,hx,rfl⟩:=y6n.1 hm;obtain⟨k,L,h1,h2,_⟩:=whL_mem.1 hx;have:=z3z hi L (y5m h1);rw[hasId_iff.2 h2]at this;cases this
 |some k=>
  obtain⟨L,h1,h2⟩:=gE hi;refine zUs h.keys (h.wh.mem_iff.2 (whL_mem.2 ⟨k,L,h1,hasId_iff.1 h2,by simp⟩))
def kI (B:List (List zH)) (id q:Int):List (List zH)×Int:=match mM B id with
 |none=>(B,26)
 |some k=>(B.set k (x6 (B.getD k []) id q).1,(x6 (B.getD k []) id q).2)
def zNa {L:List zH} (h:(L.map (·.id)).Nodup) (id q:Int):((x6 L id q).1.map (·.id)=L.map (·.id)/\wM (x6 L id q).1 id=wM L id)\/((x6 L id q).1=L.filter (λo=> !decide (o.id=id))/\wM (x6 L id q).1 id=ax):=by
 rw[x6];by_cases h1:wM L id=ax
 ·rw[y5d h1];exact .inl ⟨rfl,rfl⟩
 have h1:wM L id=aw:=by simpa using h1
 rw[y5b (by rw[h1];decide)];by_cases h2:q<1\/(dV L id).qty<q
 ·rw[y5d h2];exact .inl ⟨rfl,rfl⟩
 rw[y5b h2];dsimp only;by_cases h3:(dV L id).qty=q
 ·refine .inr ?_;have e:uS L id q=L.filter λo=> !decide (o.id=id):=by rw[<- h3];exact zQp h h1
  refine⟨e,?_⟩;rw[e,wM,xBh];intro o ho;rw[y7c]at ho;simpa using ho.2
 ·refine .inl ?_;have hm:(uS L id q).map (·.id)=L.map (·.id):=by
   have:uS L id q=L.map λo=>if o.id=id then{o with qty:=o.qty-q}else o:=by
    rw[uS,<- List.filterMap_eq_map];refine aK λo ho=> ?_
    simp only[ci];by_cases e:o.id=id
    ·have hg:=sL h ho;rw[e]at hg;rw[y5d e,y5d e,y5b (λe2=>h3 (by rw[hg];exact e2))]
    ·rw[y5b e,y5b e]
   rw[this,y7q];refine y6k λo _=> ?_
   simp only[ci];split<;>rfl
  refine⟨hm,?_⟩;rw[xBd,hasId_iff,hasId_iff,hm]
def z9g:∀{l:List (Int×Int)} {k:Int},(l.map (·.1)).Nodup->z1f k l=l.filter λx=> !decide (x.1=k)
 |[],k,_=>rfl
 |(a,b)::l,k,h=>by
  rw[y5p,y7r]at h;rw[z1f];by_cases e:k=a
  ·subst e;rw[y5d rfl,xAa (by simp)];symm;rw[xAu];intro x hx;have:x.1≠k:=λe=>h.1 (e▸y6g (f:=(·.1)) hx)
   simp[this]
  ·rw[y5b e,y9z (by simp[Ne.symm e]),z9g h.2]
def z1a:∀{l:List (Int×Int)} {k x:Int},k∉l.map (·.1)->z0e k x l=l++[(k,x)]
 |[],k,x,_=>rfl
 |p::l,k,x,h=>by
  rw[y5p,y5w,not_or]at h;rw[z0e,y5b h.1,z1a h.2];rfl
def uD {α:Type} {l:List α} {k:Nat} {x:α} (h:l[k]? =ay x):l.set k x=l:=by
 apply y9a;intro i;rw[y8r];split
 ·rename_i e;subst e;rw[y5d (y5f.1 h).1,h]
 ·rfl
def MSt.Rep.set {s:MSt} {p:Prd} {B:List (List zH)} (h:s.Rep p B) {k:Nat} {L':List zH} {b':Book} (hb:b'.Rep L') (hk:k<B.length) {wh':List (Int×Int)} (hw:wh'.Perm (whL 0 (B.set k L'))) (hi:((whL 0 (B.set k L')).map (·.1)).Nodup):({s with books:=s.books.set k b',wh:=wh'}:MSt).Rep p (B.set k L'):=by
 refine⟨h.ep,by simpa using h.bl,λj b L h1 h2=> ?_,hw,hi⟩;by_cases e:k=j
 ·subst e;have h1:(s.books.set k b')[k]? =ay b:=h1;rw[fV (by rw[h.bl];exact hk)]at h1;rw[fV hk]at h2;cases h1;cases h2;exact hb
 ·have h1:(s.books.set k b')[j]? =ay b:=h1;rw[vY e]at h1 h2;exact h.bk j b L h1 h2
def MSt.Rep.take {s:MSt} {p:Prd} {B:List (List zH)} (h:s.Rep p B) {id q:Int} {k:Nat} (hi:mM B id=ay k) {L:List zH} (hL:B[k]? =ay L) (hn:(L.map (·.id)).Nodup) {b':Book} (hb:b'.Rep (x6 L id q).1):
 ({s with books:=s.books.set k b',wh:=if wM (x6 L id q).1 id=aw then s.wh else z1f id s.wh}:MSt).Rep p (kI B id q).1:=by
 have hk:=(y5f.1 hL).1;have ht:(kI B id q).1=B.set k (x6 L id q).1:=by simp only[kI,hi,zU hL]
 obtain⟨L2,e1,hh⟩:=gE hi;rw[hL]at e1;cases e1;obtain⟨rest,hr⟩:=zKy (B:=B) 0 k hk;have hL0:=hr L;rw[uD hL]at hL0;rw[ht];rcases zNa hn id q with⟨e1,e2⟩|⟨e1,e2⟩
 ·have hm:∀X Y:List zH,X.map (·.id)=Y.map (·.id)->X.map (λo=>(o.id,((0+k:Nat):Int)))=Y.map (λo=>(o.id,((0+k:Nat):Int))):=by
   intro X Y e;have:=congrArg (aa λi:Int=>(i,((0+k:Nat):Int))) e;rw[y7q,y7q]at this;exact this
  have hp:(whL 0 (B.set k (x6 L id q).1)).Perm (whL 0 B):=by
   refine(hr _).trans ?_;rw[hm _ _ e1];exact hL0.symm
  rw[e2,hh,y5d rfl];exact h.set hb hk (h.wh.trans hp.symm) ((hp.map (·.1)).nodup_iff.2 h.ids)
 ·rw[e2,y5b (by decide)];have hrest:∀x∈rest,x.1≠id:=by
   intro x hx e;have hnd:=(hL0.map (·.1)).nodup_iff.1 h.ids
   rw[y5l,y7q]at hnd;have h1:id∈L.map ((·.1)∘λo:zH=>(o.id,((0+k:Nat):Int))):=hasId_iff.1 hh
   exact(y7l.1 hnd).2.2 id h1 x.1 (y6g (f:=(·.1)) hx) e.symm
  have hp:(whL 0 (B.set k (x6 L id q).1)).Perm ((whL 0 B).filter λx=> !decide (x.1=id)):=by
   refine(hr _).trans (.trans ?_ (hL0.filter _).symm);rw[e1,y9g,List.filter_map];have:rest.filter (λx=> !decide (x.1=id))=rest:=by
    rw[xAu];intro x hx;simp[hrest x hx]
   rw[this];exact .refl _
  refine h.set hb hk ?_ ((hp.map (·.1)).nodup_iff.2 (h.ids.sublist (List.Sublist.map _ xAv)))
  rw[z9g h.keys];exact(h.wh.filter _).trans hp.symm
def z4m (p:Prd) (B:List (List zH)) (inst id:Int) (s price q:Int):List (List zH)×Int:=
 if inst<0\/B.length<=inst then(B,20)else if(mM B id).isSome=aw then(B,25)else if 250<=(whL 0 B).length then(B,13)else if p.price inst price≠0 then(B,p.price inst price)
 else(B.set inst.toNat (zKl (B.getD inst.toNat []) s id price q).1,(zKl (B.getD inst.toNat []) s id price q).2)
def yIn (L:List zH) (s id p q:Int):((zUq L s id p q).map (·.id)).Perm (id::L.map (·.id)):=by
 have:∀X:List zH,((X.takeWhile (before s p)++⟨id,s,p,q,gI L s p⟩::X.dropWhile (before s p)).map (·.id)).Perm (id::X.map (·.id)):=by
  intro X
  conv=>rhs;rw[<- xAw (p:=before s p) (l:=X)]
  rw[y5l,y5p,y5l];exact y5r
 rw[zUq];split
 ·refine(this _).trans ?_;rw[z5q]
 ·exact this _
def MSt.Rep.add {s:MSt} {p:Prd} {B:List (List zH)} (h:s.Rep p B) (inst id:Int) (sd:Bool) (price q:Int):
 (MSt.addF ⟨s,inst,id,sd,price,q⟩).1.Rep p (z4m p B inst id (zC sd) price q).1/\(MSt.addF ⟨s,inst,id,sd,price,q⟩).2=(z4m p B inst id (zC sd) price q).2:=by
 have hsd:zC sd=1\/zC sd=2:=by cases sd;exact .inl rfl;exact .inr rfl
 rw[MSt.addF,z4m];dsimp only;rw[h.bl,h.at_,h.wh.length_eq,show s.p.price inst price=p.price inst price by rw[h.ep],Option.isSome_map];by_cases c1:inst<0\/(B.length:Int)<=inst
 ·rw[y5d c1,y5d c1];exact⟨h,rfl⟩
 rw[y5b c1,y5b c1];by_cases c2:(mM B id).isSome=aw
 ·rw[y5d c2,y5d c2];exact⟨h,rfl⟩
 rw[y5b c2,y5b c2];by_cases c3:250<=(whL 0 B).length
 ·rw[y5d c3,y5d c3];exact⟨h,rfl⟩
 rw[y5b c3,y5b c3];by_cases c4:p.price inst price≠0
 ·rw[y5d c4,y5d c4];exact⟨h,rfl⟩
 rw[y5b c4,y5b c4];obtain⟨k,hk⟩:∃k:Nat,inst=k:=⟨inst.toNat,by omega⟩
 subst hk;rw[y5u];have hkl:k<B.length:=by omega
 obtain⟨b,hb⟩:=yC (l:=s.books) (i:=k) (by rw[h.bl];exact hkl);obtain⟨L,hL⟩:=yC (l:=B) (i:=k) hkl;have hba:s.bookAt k=b:=by rw[MSt.bookAt,y5u];exact zU hb
 rw[hba,zU hL];obtain⟨r1,r2⟩:=(h.bk k b L hb hL).add hsd id price q;refine⟨?_,r2⟩;rw[r2];obtain⟨rest,hr⟩:=zKy (B:=B) 0 k hkl;have hL0:=hr L;rw[uD hL]at hL0;have hcase:(zKl L (zC sd) id price q).2≠0/\(zKl L (zC sd) id price q).1=L\/(zKl L (zC sd) id price q).2=0/\(zKl L (zC sd) id price q).1=zUq L (zC sd) id price q:=by
  rw[zKl]
  repeat' split
  ·exact .inl ⟨by simp,rfl⟩
  ·exact .inl ⟨by simp,rfl⟩
  ·exact .inl ⟨by simp,rfl⟩
  ·exact .inr ⟨rfl,rfl⟩
 rcases hcase with⟨e1,e2⟩|⟨e1,e2⟩
 ·rw[y5b e1];refine h.set r1 hkl ?_ ?_
  ·rw[e2,uD hL];exact h.wh
  ·rw[e2,uD hL];exact h.ids
 ·rw[y5d e1];have hnk:id∉s.wh.map (·.1):=by
   intro hm;obtain⟨x,hx,rfl⟩:=y6n.1 hm;have:=zUs h.keys hx;rw[h.at_]at this;cases hq:mM B x.1 with
   |none=>rw[hq]at this;cases this
   |some j=>rw[hq]at c2;exact c2 rfl
  have hp:(whL 0 (B.set k (zKl L (zC sd) id price q).1)).Perm ((id,(k:Int))::whL 0 B):=by
   refine(hr _).trans (.trans ?_ (hL0.symm.cons _));rw[e2,<- y6t];refine cm _ ?_;have:=(yIn L (zC sd) id price q).map λi:Int=>(i,(k:Int))
   rw[y7q,y5p,y7q]at this;rw[y6c];exact this
  refine h.set r1 hkl ?_ ((hp.map (·.1)).nodup_iff.2 (y7r.2 ⟨?_,h.ids⟩))
  ·rw[z1a hnk];exact(y9q _ _).trans ((h.wh.cons _).trans hp.symm)
  ·rw[<- (h.wh.map (·.1)).mem_iff];exact hnk
def zUi:∀(n k:Nat),whL k (ab n [])=[]
 |0,_=>rfl
 |n+1,k=>by rw[y9m,whL,zUi];rfl
def z2d (p:Prd):(aV p).Rep p (ab p.count []):=by
 refine⟨rfl,by simp[aV],λk b L h1 h2=> ?_,?_,?_⟩
 ·have e1:b=book0:=xAt (y5m (show(ab p.count book0)[k]? =ay b from h1));have e2:L=[]:=xAt (y5m h2);rw[e1,e2];exact yBr
 ·rw[zUi];exact .refl _
 ·rw[zUi];exact List.nodup_nil
def yQq (s:Bool):Con:=con1 BkL (λi=>[.nm 0 0,zA (zC s)]) (λi=>[z8 i.b]) (λi=>i.b.Rep i.L) (λ_=> .own 1) (λi=>[z8 i.b,.own 127 3 ((hU i.L (zC s)).map lvE)])
def lad1C:Con:=yQq ax
def lad2C:Con:=yQq aw
def y2k (s:Bool) (i:BkL):List SAnn:=[{ι:=Nat,slots:=λj=>[(5,.own 0),(19,zA j)],rows:=λj=>[.own 127 3 (((hU i.L (zC s)).take j).map lvE)]}]
structure BkT where
 b:Book
 L:List zH
 s:Bool
def ladC:Con:=con1 BkT (λi=>[.nm 0 0,zA (zC i.s)]) (λi=>[z8 i.b]) (λi=>i.b.Rep i.L) (λ_=> .own 1) (λi=>[z8 i.b,.own 127 3 ((hU i.L (zC i.s)).map lvE)])
@[reducible] def yKa (s:MSt):List AObj:=[xR s 0,xR s 1,xR s 2,xR s 3,xR s 4]
def topsOC:Con:=con1 MSt (λ_=>[.nm 0 0]) (λs=>yKa s) MSt.cntOk (λs=> .own 5) (λs=>yKa s++[.own 166 6 (s.tops.map z6)])
structure StI where
 s:MSt
 p:Prd
 B:List (List zH)
 id:Int
 q:Int
def stakeC:Con where
 ι:=StI
 pat:=λi=>[.nm 0 0,zA i.id,zA i.q]
 pre:=λi=>[zD i.s]
 cnd:=λi=>i.s.Rep i.p i.B/\i.B.length<=1000
 alts:=λi=>[{o:=MSt,res:=λ_=>zA (kI i.B i.id i.q).2,post:=λs=>[zD s],rel:=λs=>s.Rep i.p (kI i.B i.id i.q).1}]
def zQ (B:List (List zH)) (id:Int):Int×zH×Bool:=match mM B id with
 |none=>(0,yTe,ax)
 |some k=>(k,dV (B.getD k []) id,aw)
def sfindC:Con:=con1 StI (λi=>[.nm 0 0,zA i.id]) (λi=>[zD i.s]) (λi=>i.s.Rep i.p i.B/\i.B.length<=1000) (λi=> .tup [zA (zQ i.B i.id).1,z2n (zQ i.B i.id).2.1,yP (zQ i.B i.id).2.2]) (λi=>[zD i.s])
end Sx
