/- Texts of ours. No condition. -/
import Derived.Test.YtaafldgiafcgfaaGreatT7
set_option linter.all false
open List renaming map->aa,replicate->ab,take->ac,getElem?_modify->ae,pairwise_append->af,length_erase_of_mem->ag,getElem?_replicate->aj,filter_eq_nil_iff->ak,map_singleton->am,range->ao,drop->ap
open Sx.AObj renaming adt->aq,cells->ar,own->au,fro->av,map->aw
open Bool renaming true->ax,false->ay
open Option renaming some->az,none->ba
open Go.Builtin renaming zeroCells->bc,firstCells->be,append_->bg
open Go.IntKind renaming i64->bo
open Go renaming Value->bu,World->bv,Program->bz,size_zeroCells->cd,TypeId->ce,Addr->cf
open Go.Value renaming int->cg,string->ci
open Function renaming comp->cm
open List.Perm renaming append_right->cn,append_left->co
namespace Sx
set_option maxRecDepth 100000
open Go Cv Go.Proofs
def yFf {l:List Int} {q r:Int} (h:yX l q=ax) (h0:0<=r) (h1:r<=q):yX l r=ax:=by
 obtain⟨a,b,c,d⟩:=jP h;have e:(l.all λn=>decide (1<=n) && decide (n<=1000000))=ax:=by
  rw[xBh];intro x hx;simpa using c x hx
 rw[yX,e,y8r a,y8r h0,y8r (show r<=l.sum by omega)];rfl
def getD_none {l:List Int} {n:Nat} (h:l[n]? =ba):l.getD n 0=0:=by rw[y8j,h];rfl
def zDx {l:List Int} {q:Int} (h:yX l q=ax) (n:Nat):0<=l.getD n 0/\l.getD n 0<=1000000:=by
 cases hn:l[n]? with
 |none=>rw[getD_none hn];decide
 |some x=>rw[zW hn];have:=(jP h).2.2.1 x (y8m hn);omega
def yEa {l:List Int} {q:Int} (h:yX l q=ax) (n:Nat):0<=(gI l q).getD n 0/\(gI l q).getD n 0<=l.getD n 0:=by
 rw[gI,y8c h];obtain⟨a,b,c,d⟩:=jP h;cases hn:l[n]? with
 |none=>
  have:(hY l q)[n]? =ba:=by rw[List.getElem?_eq_none_iff,lZ];exact List.getElem?_eq_none_iff.1 hn
  rw[getD_none hn,getD_none this];decide
 |some x=>
  rw[zW hn,zW (zQr l q n x hn)];have:=zJo l q n b (λy hy=>by have:=c y hy;omega);have:=c x (y8m hn);omega
def y5p (i:SpI) (h:splC.cnd i):y3t i:=by
 obtain⟨hl,hq,hle,hpa⟩:i.l.length<=1000000/\i64r i.q/\i64r i.least/\i64r i.part:=h;unfold y3t zGh wM;have no (e:¬(yX i.l i.q=ax/\0<=i.part/\i.part<=100/\1<=i.least)):zDo i=[]:=by rw[zDo,y7z e]
 refine⟨⟨i.l,i.q⟩,rfl,rfl,⟨hl,hq⟩,λ_ _=>Cv.cnd.mk (λc=> ?_) (λc=>zI (λd=> ?_) (λd=>zI (λe=> ?_) (λe=>zI (λf=> ?_) (λf=> ?_))))⟩
 ·have c:yX i.l i.q=ay:=by simpa using c
  exact⟨(),by rw[no (by rw[c];simp)];rfl,trivial⟩
 ·exact⟨(),by rw[no (by omega)];rfl,trivial⟩
 ·exact⟨(),by rw[no (by omega)];rfl,trivial⟩
 ·exact⟨(),by rw[no (by omega)];rfl,trivial⟩
 have c:yX i.l i.q=ax:=by simpa using c
 obtain⟨h1,h2,h3,h4⟩:=jP c;have hq2:=zLt c;have m0:0<=i.q*i.part:=xEh h2 oM;have m1:i.q*i.part<=i.q*100:=xCy oM h2;have hr:=yFf (r:=i.q*i.part / 100) c oM oM;have es:zDo i=pL i.rs:=by rw[zDo,y8c ⟨c,by omega,by omega,by omega⟩]
 refine⟨⟨i.q,i.part,100⟩,rfl,rfl,rfl,⟨Z9,Z9,Z9,Z9,Z9,Z9⟩,λ_ _=>⟨⟨i.l,i.q*i.part / 100⟩,rfl,rfl,⟨hl,Z9,Z9⟩,λ_ _=>⟨i.rs,rfl,rfl,?_,rfl,⟨h1,?_,?_,hle,?_⟩,λ_ _=>⟨(),by rw[es],trivial⟩⟩⟩⟩
 ·rw[w64 (by dsimp only;omega)];rfl
 ·show(gI i.l (i.q*i.part / 100)).length=i.l.length;rw[gI,y8c hr,lZ]
 ·show i64r (i.q-i.q*i.part / 100);exact⟨oM,oM⟩
 ·intro n;have a:=yEa hr n;have b:=zDx c n;exact⟨a.1,a.2,b.2⟩
def yWy:splC.ok Tryz.prog 214:=okw mixed (gokc zEn (gokc zSz (gokc z9r (gokc yAd gok0)))) 0 (λ_=>[]) (λ_=>[]) [] Tryz.func214 y5p
def yVp (n:Nat):ab n [D.v (.int .i64 0)]=iE (ab n 0):=by simp[iE]
def z1v (n k:Nat):(ab n (0:Int)).getD k 0=0:=by
 rw[y8j,aj];split<;>rfl
def yFw (n t k:Nat) (x:Int):((ab n (0:Int)).set t x).getD k 0=x/\k=t\/((ab n (0:Int)).set t x).getD k 0=0:=by
 rw[y8j,xBr];split
 ·rename_i e;split
  ·exact .inl ⟨rfl,e.symm⟩
  ·exact .inr rfl
 ·right;rw[<- y8j];exact z1v n k
def y6p (i:PsI) (h:proC.cnd i):y3s i:=by
 obtain⟨hl,hq,hle,hmo⟩:i.l.length<=1000000/\i64r i.q/\i64r i.least/\i64r i.most:=h;unfold y3s zOq eW zQp zNm zGh wM dI;have no (e:¬(yX i.l i.q=ax/\1<=i.least/\0<=i.most)):zGt i=[]:=by rw[zGt,y7z e]
 refine⟨⟨i.l,i.q⟩,rfl,rfl,⟨hl,hq⟩,λ_ _=>Cv.cnd.mk (λc=> ?_) (λc=>zI (λd=> ?_) (λd=>zI (λe=> ?_) (λe=> ?_)))⟩
 ·have c:yX i.l i.q=ay:=by simpa using c
  exact⟨(),by rw[no (by rw[c];simp)];rfl,trivial⟩
 ·exact⟨(),by rw[no (by omega)];rfl,trivial⟩
 ·exact⟨(),by rw[no (by omega)];rfl,trivial⟩
 have c:yX i.l i.q=ax:=by simpa using c
 obtain⟨h1,h2,h3,h4⟩:=jP c;have hq2:=zLt c;have es:zGt i=pL i.rs:=by rw[zGt,y8c ⟨c,by omega,by omega⟩]
 simp only[yZ,y8s,yVp];have out (hn:¬(0<=i.top/\i.top<(i.l.length:Int))):i.rs=⟨i.l,ab i.l.length 0,i.least,i.q⟩:=by rw[PsI.rs,y7z hn]
 have ok0:RsI.ok ⟨i.l,ab i.l.length 0,i.least,i.q⟩:=⟨h1,by simp,hq,hle,λn=>by
  have:=zDx c n;dsimp only;rw[z1v];omega⟩
 refine⟨⟨oM,oM,oM,oM⟩,zI (λa=>zI (λb=> ?_) (λb=> ?_)) (λa=> ?_)⟩
 ·obtain⟨n,hn⟩:=yC (l:=i.l) (i:=i.top.toNat) oM;have hf:i.first=min (min n i.most) i.q:=by rw[PsI.first,zW hn]
  have bn:=h3 n (y8m hn);have hr0:(ab i.l.length (0:Int))[i.top.toNat]? =az 0:=by rw[aj,y8c (by omega)]
  have ers:i.rs=⟨i.l,(ab i.l.length 0).set i.top.toNat i.first,i.least,i.q-i.first⟩:=by rw[PsI.rs,y8c ⟨by omega,by omega⟩]
  refine⟨⟨oM,oM⟩,n,elI hn,?_⟩;rw[zVv hr0,<- hf];simp only[yZ,y9j,xBg];refine⟨⟨oM,oM⟩,oM,⟨oM,oM⟩,i.first,elI (uP hr0),?_⟩;rw[w64 (x:=i.q-i.first) (by omega)];refine⟨⟨i.l,(ab i.l.length 0).set i.top.toNat i.first,i.least,i.q-i.first⟩,rF3 ⟨rfl,⟨h1,by simp,⟨Z9,Z9⟩,hle,λk=> ?_⟩,λ_ _=>⟨(),by rw[es,ers],trivial⟩⟩⟩;have bk:=zDx c k;dsimp only;rcases yFw i.l.length i.top.toNat k i.first with⟨g,gk⟩|g
  ·rw[g,gk,zW hn];omega
  ·rw[g];omega
 ·refine⟨⟨i.l,ab i.l.length 0,i.least,i.q⟩,rF3 ⟨rfl,ok0,λ_ _=>⟨(),by rw[es,out (by omega)],trivial⟩⟩⟩
 ·refine⟨⟨i.l,ab i.l.length 0,i.least,i.q⟩,rF3 ⟨rfl,ok0,λ_ _=>⟨(),by rw[es,out (by omega)],trivial⟩⟩⟩
def yYl:proC.ok Tryz.prog 213:=okw mixed (gokc zEn (gokc yAd gok0)) 0 (λ_=>[]) (λ_=>[]) [] Tryz.func213 y6p
structure AlI where
 p:Prd
 l:List zH
 q:Int
def AlI.qs (i:AlI):List Int:=i.l.map (·.qty)
def kQ (i:AlI):List Int:=if i.p.rule=1 then gI i.qs i.q else if i.p.rule=2 then zGt ⟨i.qs,topI i.l,i.p.top,i.p.least,i.q⟩else if i.p.rule=3 then zDo ⟨i.qs,i.p.part,i.p.least,i.q⟩else[]
def allocC:Con:=con1 AlI (λi=>[prdV i.p,roV 5 (i.l.map vJ),zA i.q]) (λ_=>[]) (λi=>i.l.length<=1000/\i64r i.q/\i64r i.p.least/\i64r i.p.top/\i64r i.p.part) (λ_=> .own 0) (λi=>[.own 2 1 (iE (kQ i))])
def yZu (i:AlI):List SAnn:=[{ι:=Nat,slots:=λj=>[(7,.own 0),(13,zA j)],rows:=λj=>[.own 2 1 (iE (i.qs.take j))]}]
def yIn (i:AlI):Prop:=
 ∃(a:Nat),(↑a:Int)=0/\iE (ac a i.qs)=[]/\∃(b:Nat->Prop),∃(c:Nat->Nat),b a/\∀(d:Nat),b d->cnd (decide ((↑d:Int)<(↑(aa vJ i.l).length:Int))) ((0<=(↑d:Int)/\(↑d:Int)<(↑(aa vJ i.l).length:Int))/\∃(e:Int),∃(f:Int),∃(g:Int),∃(h:Int),∃(j:Bool),zE (aa vJ i.l) (↑d:Int).toNat 0 5=az [dI e,dI f,dI g,dI h,D.v (.bool j)]/\((iE (ac d i.qs)).length+1)*(8:Nat)<=(140737488355328:Nat)/\∃(k:Nat),(↑k:Int)=bo.wrap ((↑d:Int)+1)/\iE (ac k i.qs)=iE (ac d i.qs)++[[dI h]]/\b k/\c k<c d/\dh (ar [V.d (D.v (ci (sb i.p.code))),V.own 0,V.d (dI i.p.tick),V.d (dI i.p.low),V.d (dI i.p.high),V.d (dI i.p.wide),V.d (dI i.p.rule),V.d (dI i.p.top),V.d (dI i.p.least),V.d (dI i.p.part),V.own 1] 25)/\dh (av 1 (iE i.p.settle))/\dh (av 1 (iE i.p.months))) (cnd (i.p.rule==1) (∃(e:LqI),iE e.l=iE (ac d i.qs)/\e.q=i.q/\(wM e)/\∀(f:Unit),True->∃(g:Unit),iE (kQ i)=iE (gI e.l e.q)/\True) (cnd (i.p.rule==2) (∃(e:List zH),aa vJ e=aa vJ i.l/\e.length<=1000000/\∀(f:Unit),True->∃(g:PsI),iE g.l=iE (ac d i.qs)/\g.top=topI e/\g.most=i.p.top/\g.least=i.p.least/\g.q=i.q/\(g.l.length<=1000000/\((-9223372036854775808)<=g.q/\g.q<=9223372036854775807)/\((-9223372036854775808)<=g.least/\g.least<=9223372036854775807)/\(-9223372036854775808)<=g.most/\g.most<=9223372036854775807)/\∀(h:Unit),True->∃(j:Unit),iE (kQ i)=iE (zGt g)/\True) (cnd (i.p.rule==3) (∃(e:SpI),iE e.l=iE (ac d i.qs)/\e.part=i.p.part/\e.least=i.p.least/\e.q=i.q/\(e.l.length<=1000000/\((-9223372036854775808)<=e.q/\e.q<=9223372036854775807)/\((-9223372036854775808)<=e.least/\e.least<=9223372036854775807)/\(-9223372036854775808)<=e.part/\e.part<=9223372036854775807)/\∀(f:Unit),True->∃(g:Unit),iE (kQ i)=iE (zDo e)/\True) (∃(e:Unit),iE (kQ i)=[]/\True))))
def yXw (i:AlI) (h:allocC.cnd i):yIn i:=by
 obtain⟨hl,hq,hle,hto,hpa⟩:i.l.length<=1000/\i64r i.q/\i64r i.p.least/\i64r i.p.top/\i64r i.p.part:=h;have hql:i.qs.length=i.l.length:=by simp[AlI.qs]
 unfold yIn wM dI;simp only[yZ,y8b];refine⟨0,by(first|exact rfl|exact trivial),by(first|exact rfl|exact trivial),λj=>j<=i.l.length,λj=>i.l.length-j,y9c _,λj hj=>zI (λc=> ?_) (λc=> ?_)⟩
 ·have hj':j<i.l.length:=by omega
  obtain⟨o,ho⟩:=yC (l:=i.l) (i:=j) hj';have hqo:i.qs[j]? =az o.qty:=by rw[AlI.qs,y9r,ho];rfl
  refine⟨⟨oM,oM⟩,o.id,o.side,o.price,o.qty,o.top,yUy ho,by rw[y8t];omega,j+1,wjn oM,?_,hj',Z9,k0q⟩;rw[y9g,hqo];simp[iE]
 have hje:j=i.l.length:=by omega
 subst hje;rw[y8l (l:=i.qs) (by omega)];refine Cv.cnd.mk (λa=> ?_) (λa=>Cv.cnd.mk (λb=> ?_) (λb=>Cv.cnd.mk (λd=> ?_) (λd=> ?_)))
 ·have a:i.p.rule=1:=by simpa using a
  exact⟨⟨i.qs,i.q⟩,rfl,rfl,⟨Z9,hq⟩,λ_ _=>⟨(),by rw[kQ,y8c a],trivial⟩⟩
 ·have a:¬i.p.rule=1:=by simpa using a
  have b:i.p.rule=2:=by simpa using b
  exact⟨i.l,rfl,oM,λ_ _=>⟨⟨i.qs,topI i.l,i.p.top,i.p.least,i.q⟩,rF4 ⟨rfl,⟨Z9,hq,hle,hto⟩,λ_ _=>⟨(),by rw[kQ,y7z a,y8c b],trivial⟩⟩⟩⟩
 ·have a:¬i.p.rule=1:=by simpa using a
  have b:¬i.p.rule=2:=by simpa using b
  have d:i.p.rule=3:=by simpa using d
  exact⟨⟨i.qs,i.p.part,i.p.least,i.q⟩,rF3 ⟨rfl,⟨Z9,hq,hle,hpa⟩,λ_ _=>⟨(),by rw[kQ,y7z a,y7z b,y8c d],trivial⟩⟩⟩
 ·have a:¬i.p.rule=1:=by simpa using a
  have b:¬i.p.rule=2:=by simpa using b
  have d:¬i.p.rule=3:=by simpa using d
  exact⟨(),by rw[kQ,y7z a,y7z b,y7z d];rfl,trivial⟩
def yFj:allocC.ok Tryz.prog 200:=okw mixed (gokc z9r (gokc yEk (gokc yYl (gokc yWy gok0)))) 0 (λ_=>[]) (λi=>yZu i) [] Tryz.func200 yXw
def vV (l:List Nat) (t:Int):Int:=match l with
 |[]=>t
 |k::_=>k
def jG:List Nat->Int->Int
 |[],p=>p
 |k::l,_=>jG l k
structure zUz (s:Slot) (n k:Nat) (p t:Int):Prop where
 used:s.used=ax
 no:s.n=k
 queue:s.queue=n
 ahead:s.ahead=p
 back:s.back=t
 q1:0<=s.qty
 q2:s.qty<=1000000
def seg (sl:List Slot) (n:Nat):Int->List Nat->Int->Prop
 |_,[],_=>True
 |p,k::l,t=>(∃s,sl[k]? =az s/\zUz s n k p (vV l t))/\seg sl n k l t
def zIo (l1 l2:List Nat) (t:Int):vV (l1++l2) t=vV l1 (vV l2 t):=by cases l1<;>rfl
def b7:∀(l1 l2:List Nat) (p:Int),jG (l1++l2) p=jG l2 (jG l1 p)
 |[],l2,p=>rfl
 |k::l1,l2,p=>b7 l1 l2 k
def zBn {sl:List Slot} {n:Nat}:∀{l1 l2:List Nat} {p t:Int},seg sl n p (l1++l2) t↔seg sl n p l1 (vV l2 t)/\seg sl n (jG l1 p) l2 t
 |[],l2,p,t=>by simp[seg,jG]
 |k::l1,l2,p,t=>by
  rw[y9q,seg,seg,zIo,zBn,jG,and_assoc]
def z8x {sl:List Slot} {n k:Nat}:∀{l:List Nat} {p t:Int},seg sl n p l t->k∈l->∃s p' t',sl[k]? =az s/\zUz s n k p' t'
 |j::l,p,t,h,hk=>by
  rcases y8v.1 hk with rfl|hk
  ·obtain⟨⟨s,h1,h2⟩,_⟩:=h;exact⟨s,_,_,h1,h2⟩
  ·exact z8x h.2 hk
def vL {sl sl':List Slot} {n:Nat}:∀{l:List Nat} {p t:Int},(∀k∈l,sl'[k]? =sl[k]?)->seg sl n p l t->seg sl' n p l t
 |[],p,t,_,h=>h
 |k::l,p,t,e,⟨⟨s,h1,h2⟩,h3⟩=>⟨⟨s,by rw[e k y8h];exact h1,h2⟩,vL (λj hj=>e j (y8i _ hj)) h3⟩
def dW {α:Type} {l:List α} {f:α->α} {i j:Nat} (h:i≠j):(l.modify i f)[j]? =l[j]? :=by rw[ae];cases l[j]? <;>simp[h]
def eY {α:Type} {l:List α} {f:α->α} {i:Nat} {x:α} (h:l[i]? =az x):(l.modify i f)[i]? =az (f x):=by rw[ae,h];simp
def uC {α:Type} {l:List α} {x:α} {i j:Nat} (h:i≠j):(l.set i x)[j]? =l[j]? :=by rw[xBr,y7z h]
def f9 {α:Type} {l:List α} {x:α} {i:Nat} (h:i<l.length):(l.set i x)[i]? =az x:=by rw[xBr,y8c rfl,y8c h]
def bR {α:Type} {Q:List α} {n m:Nat} {x y:α} (h:(Q.set n x)[m]? =az y):(m=n/\y=x)\/(m≠n/\Q[m]? =az y):=by
 by_cases e:n=m
 ·subst e;have hn:n<Q.length:=by
   have:=(y8e.1 h).1;simpa using this
  rw[f9 hn]at h;cases h;exact .inl ⟨rfl,rfl⟩
 ·rw[uC e]at h;exact .inr ⟨λc=>e c.symm,h⟩
def z0w {sl:List Slot} {n k:Nat} {l:List Nat} {p t:Int} (t':Int) (hk:k∉l) (h:seg sl n p (l++[k]) t):seg (sl.modify k λs=>{s with back:=t'}) n p (l++[k]) t':=by
 rw[zBn]at h ⊢;obtain⟨h1,⟨s,h2,h3⟩,_⟩:=h;refine⟨vL (λj hj=>dW (λe=>hk (e▸hj))) h1,⟨_,eY h2,?_⟩,trivial⟩;exact⟨h3.used,h3.no,h3.queue,h3.ahead,rfl,h3.q1,h3.q2⟩
def yCo {sl:List Slot} {n k:Nat} {l:List Nat} {p t:Int} (p':Int) (hk:k∉l) (h:seg sl n p (k::l) t):seg (sl.modify k λs=>{s with ahead:=p'}) n p' (k::l) t:=by
 obtain⟨⟨s,h1,h2⟩,h3⟩:=h;refine⟨⟨_,eY h1,?_⟩,vL (λj hj=>dW (λe=>hk (e▸hj))) h3⟩;exact⟨h2.used,h2.no,h2.queue,rfl,h2.back,h2.q1,h2.q2⟩
def wX (l:List Nat):l=[]\/∃(x:List Nat) (j:Nat),l=x++[j]/\∀p:Int,jG l p=(j:Int):=by
 rcases List.eq_nil_or_concat l with rfl|⟨x,j,rfl⟩
 ·exact .inl rfl
 ·exact .inr ⟨x,j,by simp,λp=>by rw[List.concat_eq_append,b7];rfl⟩
def nU (l:List Nat):jG l (-1)= -1↔l=[]:=by
 rcases wX l with rfl|⟨x,j,rfl,e⟩
 ·simp[jG]
 ·rw[e];simp
def zRy (l:List Nat):vV l (-1)= -1↔l=[]:=by
 cases l with
 |nil=>simp[vV]
 |cons k l=>simp only[vV];constructor
            ·intro h;omega
            ·intro h;cases h
def zAq {α β:Type} {g:α->β} {f:α->α} (h:∀x,g (f x)=g x):∀(l:List α) (i:Nat),(l.modify i f).map g=l.map g
 |[],i=>by simp
 |a::l,0=>by simp[h]
 |a::l,i+1=>by rw[xDl,y8p,y8p,zAq h l i]
def zNh:∀(m:Nat) {l:List Nat},l.Nodup->(∀k∈l,k<m)->l.length<=m
 |0,[],_,_=>y8w 0
 |0,k::l,_,h=>absurd (h k y8h) oM
 |m+1,l,hn,h=>by
  have:=zNh m (hn.erase m) λk hk=>by
   have:=(hn.mem_erase_iff).1 hk;have:=h k this.2;omega
  by_cases hm:m∈l
  ·rw[ag hm]at this;omega
  ·rw[List.erase_of_not_mem hm]at this;omega
def z7l {f g:Nat->Int} {k:Nat}:∀{l:List Nat},l.Nodup->k∈l->(∀j∈l,j≠k->g j=f j)->(l.map g).sum=(l.map f).sum+(g k-f k)
 |j::l,hn,hk,h=>by
  have hn:=xAq.1 hn;rw[y8p,y8p,y9p,y9p];rcases y8v.1 hk with rfl|hk
  ·have:l.map g=l.map f:=y9k λi hi=>h i (y8i _ hi) (λe=>hn.1 (e▸hi))
   rw[this];omega
  ·have e:=h j y8h (λe=>hn.1 (e▸hk));rw[z7l hn.2 hk (λi hi=>h i (y8i _ hi)),e];omega
def yLm {f:Nat->Int} {m:Int}:∀{l:List Nat},(∀j∈l,0<=f j/\f j<=m)->0<=(l.map f).sum/\(l.map f).sum<=m*l.length
 |[],_=>by simp
 |j::l,h=>by
  have:=h j y8h;have:=yLm (l:=l) λi hi=>h i (y8i _ hi)
  rw[y8p,y9p,y8f,Int.natCast_add,Int.mul_add];simp only[Int.natCast_one,Int.mul_one];omega
def Arena.qsum (a:Arena) (l:List Nat):Int:=(l.map λk=>(a.slotAt k).qty).sum
structure Arena.Wf0 (a:Arena) (Q:List (List Nat)):Prop where
 len:a.slots.length=250
 ql:a.queues.length=Q.length
 q:∀(n:Nat) (l:List Nat),Q[n]? =az l->a.queues[n]? =az ⟨vV l (-1),jG l (-1),a.qsum l,l.length⟩
 sg:∀(n:Nat) (l:List Nat),Q[n]? =az l->seg a.slots n (-1) l (-1)
 nd:∀(n:Nat) (l:List Nat),Q[n]? =az l->l.Nodup
 us:∀(k:Nat) (s:Slot),a.slots[k]? =az s->s.used=ax->∃(n:Nat) (l:List Nat),Q[n]? =az l/\k∈l
 free:a.free=((a.slots.map (·.used)).countP (!·):Nat)
structure Arena.Wf (a:Arena) (Q:List (List Nat)):Prop extends a.Wf0 Q where
 pos:∀(n:Nat) (l:List Nat),Q[n]? =az l->∀k∈l,1<=(a.slotAt k).qty
def Arena.Wf0.mem {a:Arena} {Q:List (List Nat)} (h:a.Wf0 Q) {n k:Nat} {l:List Nat} (hl:Q[n]? =az l) (hk:k∈l):k<250/\(∃p t,zUz (a.slotAt k) n k p t)/\a.slots[k]? =az (a.slotAt k):=by
 obtain⟨s,p,t,h1,h2⟩:=z8x (h.sg n l hl) hk;have e:a.slotAt k=s:=zW h1;have hlt:=(y8e.1 h1).1;rw[h.len]at hlt;exact⟨hlt,⟨p,t,by rw[e];exact h2⟩,by rw[e];exact h1⟩
def Arena.Wf0.one {a:Arena} {Q:List (List Nat)} (h:a.Wf0 Q) {n m k:Nat} {l l':List Nat} (hl:Q[n]? =az l) (hl':Q[m]? =az l') (hk:k∈l) (hk':k∈l'):n=m:=by
 obtain⟨_,⟨_,_,h1⟩,_⟩:=h.mem hl hk;obtain⟨_,⟨_,_,h2⟩,_⟩:=h.mem hl' hk';have:=h1.queue;have:=h2.queue;omega
def Arena.Wf0.short {a:Arena} {Q:List (List Nat)} (h:a.Wf0 Q) {n:Nat} {l:List Nat} (hl:Q[n]? =az l):l.length<=250:=zNh 250 (h.nd n l hl) λk hk=>(h.mem hl hk).1
def a8 {a a':Arena} {l:List Nat} (h:∀k∈l,(a'.slotAt k).qty=(a.slotAt k).qty):a'.qsum l=a.qsum l:=by rw[Arena.qsum,Arena.qsum,y9k h]
def Arena.Wf0.sum {a:Arena} {Q:List (List Nat)} (h:a.Wf0 Q) {n:Nat} {l:List Nat} (hl:Q[n]? =az l):0<=a.qsum l/\a.qsum l<=250000000:=by
 have:=yLm (f:=λk=>(a.slotAt k).qty) (m:=1000000) (l:=l) λj hj=>by
  obtain⟨_,⟨_,_,h1⟩,_⟩:=h.mem hl hj;exact⟨h1.q1,h1.q2⟩
 have:=h.short hl;rw[Arena.qsum];omega
def zSd {sl:List Slot} {n:Nat}:∀{l:List Nat} {p:Int},seg sl n p l (-1)->z0s sl (vV l (-1)) l
 |[],p,_=>rfl
 |k::l,p,⟨⟨s,h1,h2⟩,h3⟩=>by
  refine⟨rfl,(y8e.1 h1).1,?_⟩;rw[zW h1,h2.back];exact zSd h3
def Arena.Wf0.ok {a:Arena} {Q:List (List Nat)} (h:a.Wf0 Q):a.okAt:=by
 refine⟨by rw[h.len];decide,λk s hk hu=> ?_⟩;obtain⟨n,l,hl,hkl⟩:=h.us k s hk hu;have hQ:=(y8e.1 hl).1;have hql:=h.ql;obtain⟨l1,l2,rfl⟩:=List.append_of_mem hkl;have hsg:=h.sg n _ hl;have hnd:=h.nd n _ hl;rw[zBn]at hsg;obtain⟨_,⟨s',h1,h2⟩,_⟩:=hsg;rw[hk]at h1;cases h1;have hq:=h2.queue;have hd:=xAk.1 hnd;have hd2:=xAq.1 hd.2.1;refine⟨⟨oM,oM⟩,h2.q2,?_,?_⟩
 ·rw[h2.ahead];rcases wX l1 with rfl|⟨x,j,rfl,e⟩
  ·exact .inl rfl
  ·have hj:j∈x++[j]:=by simp
   have hjl:=(h.mem hl (y9v _ hj)).1;rw[e,h.len];refine .inr ⟨oM,oM,λe2=> ?_⟩;have:j=k:=by omega
   exact hd.2.2 j hj k y8h this
 ·rw[h2.back];cases l2 with
  |nil=>exact .inl rfl
  |cons j x=>
   have hjl:=(h.mem hl (y9w _ (y8i _ y8h))).1;rw[vV,h.len];refine .inr ⟨oM,oM,λe2=> ?_⟩;have:j=k:=by omega
   exact hd2.1 (this▸y8h)
def Arena.Wf0.open {a:Arena} {Q:List (List Nat)} (h:a.Wf0 Q):a.openQ.Wf0 (Q++[[]]):=by
 have g:∀{n:Nat} {l:List Nat},(Q++[[]])[n]? =az l->Q[n]? =az l\/(n=Q.length/\l=[]):=by
  intro n l hl;rw[List.getElem?_append]at hl;split at hl
  ·exact .inl hl
  ·rename_i hn;have:=(y8e.1 hl).1;simp only[xAc]at this;have e:n-Q.length=0:=by omega
   rw[e]at hl;cases hl;exact .inr ⟨oM,rfl⟩
 refine⟨h.len,by simp[Arena.openQ,h.ql],λn l hl=> ?_,λn l hl=> ?_,λn l hl=> ?_,λk s hk hu=> ?_,h.free⟩
 ·rcases g hl with hl|⟨rfl,rfl⟩
  ·show(a.queues++[aU])[n]? =_;rw[xAv (by have:=(y8e.1 hl).1;have:=h.ql;omega)];exact h.q n l hl
  ·show(a.queues++[aU])[_]? =_;rw[<- h.ql,xAf (y8w _),xDq];rfl
 ·rcases g hl with hl|⟨rfl,rfl⟩
  ·exact h.sg n l hl
  ·trivial
 ·rcases g hl with hl|⟨rfl,rfl⟩
  ·exact h.nd n l hl
  ·exact List.nodup_nil
 ·obtain⟨n,l,hl,hkl⟩:=h.us k s hk hu;exact⟨n,l,by rw[xAv (y8e.1 hl).1];exact hl,hkl⟩
def Arena.Wf.open {a:Arena} {Q:List (List Nat)} (h:a.Wf Q):a.openQ.Wf (Q++[[]]):=by
 refine⟨h.toWf0.open,λn l hl k hk=> ?_⟩;rw[List.getElem?_append]at hl;split at hl
 ·exact h.pos n l hl k hk
 ·have:=(y8e.1 hl).1;simp only[xAc]at this;have e:n-Q.length=0:=by omega
  rw[e]at hl;cases hl;cases hk
def zPy {sl sl':List Slot} {n:Nat}:∀{l:List Nat} {p t:Int},(∀k∈l,∀s,sl[k]? =az s->∃s',sl'[k]? =az s'/\s'.used=s.used/\s'.n=s.n/\s'.queue=s.queue/\s'.ahead=s.ahead/\s'.back=s.back/\0<=s'.qty/\s'.qty<=1000000)->seg sl n p l t->seg sl' n p l t
 |[],p,t,_,h=>h
 |k::l,p,t,e,⟨⟨s,h1,h2⟩,h3⟩=>by
  obtain⟨s',q0,q1,q2,q3,q4,q5,q6,q7⟩:=e k y8h s h1;exact⟨⟨s',q0,⟨q1.trans h2.used,q2.trans h2.no,q3.trans h2.queue,q4.trans h2.ahead,q5.trans h2.back,q6,q7⟩⟩,zPy (λj hj=>e j (y8i _ hj)) h3⟩
def zWf (a:Arena) (n:Int) (t:Bool) (j:Nat):(a.topF n t).slotAt j=if a.usedAt n=ax/\j=n.toNat then{a.slotAt j with top:=t}else a.slotAt j:=by
 rw[Arena.topF];by_cases hu:a.usedAt n=ax
 ·rw[y8c hu];by_cases e:j=n.toNat
  ·subst e;rw[y8c ⟨hu,rfl⟩];have hlt:n.toNat<a.slots.length:=by
    simp only[Arena.usedAt,y8o,y9o]at hu;omega
   show(a.slots.modify n.toNat _).getD n.toNat slot0=_;obtain⟨s,hs⟩:=yC hlt;rw[zW (eY hs),xR hs]
  ·rw[y7z (λh=>e h.2)];show(a.slots.modify n.toNat _).getD j slot0=a.slots.getD j slot0;rw[y8j,dW (λh=>e h.symm),y8j]
 ·rw[y7z hu,y7z (λh=>hu h.1)]
def Arena.Wf.top {a:Arena} {Q:List (List Nat)} (h:a.Wf Q) (n:Int) (t:Bool):(a.topF n t).Wf Q:=by
 have hq:∀j,((a.topF n t).slotAt j).qty=(a.slotAt j).qty:=by
  intro j;rw[zWf];split<;>rfl
 by_cases hu:a.usedAt n=ax
 ·have e:a.topF n t={a with slots:=a.slots.modify n.toNat λs=>{s with top:=t}}:=by rw[Arena.topF,y8c hu]
  have hm:∀(k:Nat) (s:Slot),a.slots[k]? =az s->∃s',(a.topF n t).slots[k]? =az s'/\s'.used=s.used/\s'.n=s.n/\s'.queue=s.queue/\s'.ahead=s.ahead/\s'.back=s.back/\s'.qty=s.qty:=by
   intro k s hk;rw[e];by_cases ek:n.toNat=k
   ·subst ek;exact⟨_,eY hk,rfl,rfl,rfl,rfl,rfl,rfl⟩
   ·exact⟨s,by rw[dW ek];exact hk,rF5 rfl⟩
  have hl:(a.topF n t).slots.length=250:=by rw[e];simpa using h.len
  have hmu:(a.topF n t).slots.map (·.used)=a.slots.map (·.used):=by rw[e];exact zAq (g:=λs:Slot=>s.used) (f:=λs:Slot=>{s with top:=t}) (λ_=>rfl) _ _
  refine⟨⟨hl,by rw[e];exact h.ql,λm l hm'=> ?_,λm l hm'=> ?_,h.nd,λk s hk hs=> ?_,by rw[hmu];rw[e];exact h.free⟩,λm l hm' k hk=>by rw[hq];exact h.pos m l hm' k hk⟩
  ·rw[a8 λk _=>hq k];rw[e];exact h.q m l hm'
  ·refine zPy (λk hk s hs=> ?_) (h.sg m l hm');obtain⟨s',q0,q1,q2,q3,q4,q5,q6⟩:=hm k s hs;obtain⟨_,⟨_,_,h2⟩,h3⟩:=h.mem hm' hk;rw[hs]at h3;cases h3;exact⟨s',q0,q1,q2,q3,q4,q5,by rw[q6];exact h2.q1,by rw[q6];exact h2.q2⟩
  ·have hlt:=(y8e.1 hk).1;rw[hl,<- h.len]at hlt;obtain⟨s0,h0⟩:=yC hlt;obtain⟨s',q0,q1,_⟩:=hm k s0 h0;rw[hk]at q0;cases q0;exact h.us k s0 h0 (by rw[<- q1];exact hs)
 ·have e:a.topF n t=a:=by rw[Arena.topF,y7z hu]
  rw[e];exact h
def zPo {sl:List Slot} {k:Nat} {s x:Slot} (hk:sl[k]? =az s):((sl.set k x).map (·.used)).countP (!·)+(if s.used=ax then 0 else 1)=(sl.map (·.used)).countP (!·)+(if x.used=ax then 0 else 1):=by
 have hlt:=(y8e.1 hk).1;have e:(sl.map (·.used))[k]'(by simpa using hlt)=s.used:=by
  rw[List.getElem_map,(y8e.1 hk).2]
 rw[List.map_set,List.countP_set (by simpa using hlt),e];have hp:s.used=ay->1<=(sl.map (·.used)).countP (!·):=by
  intro h;apply List.countP_pos_iff.2;exact⟨s.used,y9e (y8m hk),by rw[h];rfl⟩
 generalize (sl.map (·.used)).countP (!·)=c at hp ⊢
 cases h1:s.used<;>cases h2:x.used
 all_goals
  simp only[h1,xDd,Bool.not_true,y8u,↓reduceIte,if_true,if_false]at hp ⊢
  try have hp:=hp trivial
  omega
def z7z {sl:List Slot}:(sl.map (·.used)).countP (!·)<=sl.length:=by
 have:=List.countP_le_length (p:=λb:Bool=> !b) (l:=sl.map (·.used))
 simpa using this
def Arena.Wf0.unused {a:Arena} {Q:List (List Nat)} (h:a.Wf0 Q) (hf:a.free≠0):∃k:Nat,jE a.slots=k/\k<250/\a.slots[k]? =az (a.slotAt k)/\(a.slotAt k).used=ay/\∀(n:Nat) (l:List Nat),Q[n]? =az l->k∉l:=by
 have hx:∃s∈a.slots,s.used=ay:=by
  have hp:0<(a.slots.map (·.used)).countP (!·):=by have:=h.free;omega
  obtain⟨b,hb,hb2⟩:=List.countP_pos_iff.1 hp;obtain⟨s,hs,rfl⟩:=y9m.1 hb;exact⟨s,hs,by simpa using hb2⟩
 obtain⟨s,hs,hu⟩:=hx;cases hi:a.slots.findIdx? λs=> !s.used with
 |none=>
  rw[xCr]at hi;have:=hi s hs;rw[hu]at this;cases this
 |some k=>
  have hi':=hi;rw[xBk]at hi;obtain⟨hk,hku,_⟩:=hi;have hk1:a.slots[k]? =az a.slots[k]:=y9b hk;have e:=xR hk1;rw[<- e]at hku;have hku:(a.slotAt k).used=ay:=by simpa using hku
  refine⟨k,by rw[jE,hi'];rfl,by rw[<- h.len];exact hk,by rw[e];exact hk1,hku,λn l hl hkl=> ?_⟩;obtain⟨_,⟨_,_,h2⟩,_⟩:=h.mem hl hkl;have:=h2.used;rw[hku]at this;cases this
def Arena.Wf.put {a:Arena} {Q:List (List Nat)} (h:a.Wf Q) {n:Nat} {l:List Nat} (hl:Q[n]? =az l) (hf:a.free≠0) {id qty:Int} (top:Bool) (hq:1<=qty/\qty<=1000000):
 ∃k:Nat,jE a.slots=k/\k<250/\(a.slotAt k).used=ay/\(∀(m:Nat) (l:List Nat),Q[m]? =az l->k∉l)/\(a.put n id qty top).Wf (Q.set n (l++[k]))/\
  (∀j,((a.put n id qty top).slotAt j).ent=if j=k then⟨k,id,qty,top⟩else(a.slotAt j).ent)/\(a.put n id qty top).free=a.free-1:=by
 obtain⟨k,hk,hk2,hk1,hku,hkn⟩:=h.toWf0.unused hf;have hkl:=hkn n l hl;have hnQ:=(y8e.1 hl).1;have hqn:=h.q n l hl;have hnq:a.queues.getD n aU=⟨vV l (-1),jG l (-1),a.qsum l,l.length⟩:=zW hqn;have hsum:=h.toWf0.sum hl;have hsh:=h.toWf0.short hl;have hlen:=h.len;have hcl:=z7z (sl:=a.slots);have hfree:=h.free;obtain⟨x,hx⟩:∃x:Slot,x=⟨ax,k,id,qty,top,n,jG l (-1),-1⟩:=⟨_,rfl⟩
 have hS:(a.put n id qty top).slots=if jG l (-1)= -1 then a.slots.set k x else(a.slots.set k x).modify (jG l (-1)).toNat λs=>{s with back:=k}:=by
  simp only[Arena.put,y8s,hnq,hk,hx]
 have hQs:(a.put n id qty top).queues=a.queues.set n ⟨vV (l++[k]) (-1),k,a.qsum l+qty,(l.length:Int)+1⟩:=by
  simp only[Arena.put,y8s,hnq,hk];rw[w64 (by omega),w64 (by omega)];congr 2;by_cases e:l=[]
  ·subst e;rfl
  ·rw[y7z (λc=>e ((nU l).1 c)),zIo];cases l with
   |nil=>exact absurd rfl e
   |cons y ys=>rfl
 have hF:(a.put n id qty top).free=a.free-1:=by
  simp only[Arena.put];rw[w64 (by omega)]
 have hset:(a.slots.set k x)[k]? =az x:=f9 oM;have hlo:jG l (-1)= -1\/∃(y:List Nat) (j:Nat),l=y++[j]/\jG l (-1)=(j:Int):=by
  rcases wX l with e|⟨y,j,e,e2⟩
  ·exact .inl ((nU l).2 e)
  ·exact .inr ⟨y,j,e,e2 _⟩
 have hoth:∀j,j≠k->(jG l (-1)≠(j:Int))->(a.put n id qty top).slots[j]? =a.slots[j]? :=by
  intro j hj hj2;rw[hS];split
  ·exact uC (λe=>hj e.symm)
  ·rcases hlo with e|⟨y,i,_,e⟩
   ·contradiction
   ·rw[dW (by omega),uC (λe=>hj e.symm)]
 have hself:(a.put n id qty top).slots[k]? =az x:=by
  rw[hS];split
  ·exact hset
  ·rcases hlo with e|⟨y,i,e1,e⟩
   ·contradiction
   ·have:i≠k:=by rintro rfl;exact hkl (by rw[e1];simp)
    rw[dW (by omega)];exact hset
 have hlike:∀j,j≠k->((a.put n id qty top).slotAt j).ent=(a.slotAt j).ent/\((a.put n id qty top).slotAt j).used=(a.slotAt j).used/\((a.put n id qty top).slotAt j).qty=(a.slotAt j).qty:=by
  intro j hj;by_cases c:jG l (-1)=(j:Int)
  ·have e:(a.put n id qty top).slots=(a.slots.set k x).modify j λs=>{s with back:=k}:=by
    rw[hS,y7z (by omega),c];rfl
   by_cases hjl:j<a.slots.length
   ·obtain⟨s,hs⟩:=yC hjl;have h1:(a.put n id qty top).slots[j]? =az {s with back:=k}:=by rw[e];exact eY (by rw[uC (λe=>hj e.symm)];exact hs)
    rw[xR h1,xR hs];exact⟨rfl,rfl,rfl⟩
   ·have h1:(a.put n id qty top).slots[j]? =ba:=y9h (by rw[e];simpa using hjl);have h2:a.slots[j]? =ba:=y9h oM;rw[Arena.slotAt,Arena.slotAt,y8j,y8j,h1,h2];exact⟨rfl,rfl,rfl⟩
  ·have:=hoth j hj c;rw[Arena.slotAt,Arena.slotAt,y8j,y8j,this];exact⟨rfl,rfl,rfl⟩
 have hselfA:(a.put n id qty top).slotAt k=x:=xR hself;have hent:∀j,((a.put n id qty top).slotAt j).ent=if j=k then⟨k,id,qty,top⟩else(a.slotAt j).ent:=by
  intro j;split
  ·rename_i e;rw[e,hselfA,hx];rfl
  ·rename_i e;exact(hlike j e).1
 have gQ:∀{m:Nat} {l':List Nat},(Q.set n (l++[k]))[m]? =az l'->(m=n/\l'=l++[k])\/(m≠n/\Q[m]? =az l'):=by
  intro m l' hm;exact bR hm
 have hsgn:seg (a.put n id qty top).slots n (-1) (l++[k]) (-1):=by
  rw[zBn];refine⟨?_,⟨x,hself,?_⟩,trivial⟩
  ·rcases wX l with e|⟨y,j,e,e2⟩
   ·subst e;trivial
   ·have h0:=h.sg n l hl;have hnd:=h.nd n l hl;rw[hS,y7z (by rw[e2];omega),e2,y8s];rw[e]at h0 hnd hkl ⊢;have hd:=xAk.1 hnd;refine z0w (k:Int) (λhj=>hd.2.2 j hj j y8h rfl) (t:= -1) ?_;exact vL (λi hi=>uC (λe=>hkl (e▸hi))) h0
  ·rw[hx];exact⟨rfl,rfl,rfl,rfl,rfl,Z9,hq.2⟩
 refine⟨k,hk,hk2,hku,hkn,⟨⟨?_,?_,?_,?_,?_,?_,?_⟩,?_⟩,hent,hF⟩
 ·rw[hS];split<;>simp[hlen]
 ·rw[hQs];simp[h.ql]
 ·intro m l' hm;rcases gQ hm with⟨rfl,rfl⟩|⟨e,hm⟩
  ·rw[hQs,f9 (by rw[h.ql];exact hnQ),b7];have:(a.put m id qty top).qsum (l++[k])=a.qsum l+qty:=by
    rw[Arena.qsum,y8k,xEf];have e1:l.map (λk=>((a.put m id qty top).slotAt k).qty)=l.map λk=>(a.slotAt k).qty:=y9k λj hj=>(hlike j (λe=>hkl (e▸hj))).2.2
    rw[e1];simp only[y8p,xBq,y9p,List.sum_nil,hselfA];rw[hx,Arena.qsum];dsimp only;omega
   rw[this];simp[jG]
  ·rw[hQs,uC (λc=>e c.symm),h.q m l' hm,a8];intro j hj;exact(hlike j (λe=>hkn m l' hm (e▸hj))).2.2.symm
 ·intro m l' hm;rcases gQ hm with⟨rfl,rfl⟩|⟨e,hm⟩
  ·exact hsgn
  ·refine vL (λj hj=>hoth j (λe=>hkn m l' hm (e▸hj)) λc=> ?_) (h.sg m l' hm);rcases hlo with e2|⟨y,i,e1,e2⟩
   ·omega
   ·have:i=j:=by omega
    exact e (h.toWf0.one hm hl hj (by rw[e1];simp[this]))
 ·intro m l' hm;rcases gQ hm with⟨rfl,rfl⟩|⟨e,hm⟩
  ·refine xAk.2 ⟨h.nd m l hl,by simp,?_⟩;rintro i hi j hj rfl;rw[y9u.1 hj]at hi;exact hkl hi
  ·exact h.nd m l' hm
 ·intro j s hj hs;by_cases e:j=k
  ·exact⟨n,l++[k],f9 hnQ,by rw[e];simp⟩
  ·have hu:(a.slotAt j).used=ax:=by rw[<- (hlike j e).2.1,xR hj];exact hs
   have hjl:j<a.slots.length:=by
    have:=(y8e.1 hj).1;rw[hS]at this;split at this<;>simpa using this
   obtain⟨s',hs'⟩:=yC hjl;rw[xR hs']at hu;obtain⟨m,l',hm,hjm⟩:=h.us j s' hs' hu;by_cases em:m=n
   ·subst em;rw[hl]at hm;cases hm;exact⟨m,l++[k],f9 hnQ,y9v _ hjm⟩
   ·exact⟨m,l',by rw[uC (λc=>em c.symm)];exact hm,hjm⟩
 ·have hmu:(a.put n id qty top).slots.map (·.used)=(a.slots.set k x).map (·.used):=by
   rw[hS];split
   ·rfl
   ·exact zAq (g:=λs:Slot=>s.used) (f:=λs:Slot=>{s with back:=k}) (λ_=>rfl) _ _
  have:=zPo (x:=x) hk1;rw[hku,y7z (by decide),show x.used=ax by rw[hx],y8c rfl]at this;rw[hmu,hF,hfree];omega
 ·intro m l' hm j hj;rcases gQ hm with⟨rfl,rfl⟩|⟨e,hm⟩
  ·rcases y9f.1 hj with hj|hj
   ·rw[(hlike j (λe=>hkl (e▸hj))).2.2];exact h.pos m l hl j hj
   ·rw[y9u.1 hj,hselfA,hx];exact hq.1
  ·rw[(hlike j (λe=>hkn m l' hm (e▸hj))).2.2];exact h.pos m l' hm j hj
def zGi (a:Arena) (k:Nat) (q:Int) (j:Nat) (hk:k<a.slots.length):(a.less k q).slotAt j=if j=k then{a.slotAt j with qty:=(a.slotAt j).qty-q}else a.slotAt j:=by
 split
 ·rename_i e;subst e;obtain⟨s,hs⟩:=yC hk;rw[xR hs,xR (a:=a.less j q) (eY hs)]
 ·rename_i e;show(a.slots.modify k _).getD j slot0=a.slots.getD j slot0;rw[y8j,dW (λc=>e c.symm),y8j]
def Arena.Wf0.less {a:Arena} {Q:List (List Nat)} (h:a.Wf0 Q) {n k:Nat} {l:List Nat} (hl:Q[n]? =az l) (hk:k∈l) {q:Int} (hq:0<=q/\q<=(a.slotAt k).qty):(a.less k q).Wf0 Q:=by
 obtain⟨hk2,⟨p,t,hs⟩,hk1⟩:=h.mem hl hk;have hkl:k<a.slots.length:=by rw[h.len];exact hk2
 have hqt:(a.slotAt k).queue.toNat=n:=by rw[hs.queue];exact y8s n
 have hm:∀(j:Nat) (s:Slot),a.slots[j]? =az s->∃s',(a.less k q).slots[j]? =az s'/\s'.used=s.used/\s'.n=s.n/\s'.queue=s.queue/\s'.ahead=s.ahead/\s'.back=s.back:=by
  intro j s hj;by_cases e:k=j
  ·subst e;exact⟨_,eY hj,rfl,rfl,rfl,rfl,rfl⟩
  ·exact⟨s,by rw[show(a.less k q).slots=a.slots.modify k _ from rfl,dW e];exact hj,rfl,rfl,rfl,rfl,rfl⟩
 have hsl:(a.less k q).slots.length=250:=by simpa[Arena.less]using h.len
 have hqs:(a.less k q).queues=a.queues.modify n λx=>{x with total:=bo.wrap (x.total-q)}:=by rw[Arena.less,hqt]
 have hmu:(a.less k q).slots.map (·.used)=a.slots.map (·.used):=zAq (g:=λs:Slot=>s.used) (f:=λs:Slot=>{s with qty:=s.qty-q}) (λ_=>rfl) _ _
 refine⟨hsl,by rw[hqs];simpa using h.ql,λm l' hm'=> ?_,λm l' hm'=> ?_,h.nd,λj s hj hu=> ?_,by rw[hmu];exact h.free⟩
 ·by_cases e:n=m
  ·subst e;rw[hl]at hm';cases hm';rw[hqs,eY (h.q n l hl)];have hsum:=h.sum hl;have e2:(a.less k q).qsum l=a.qsum l-q:=by
    rw[Arena.qsum,Arena.qsum,z7l (k:=k) (f:=λk=>(a.slotAt k).qty) (h.nd n l hl) hk]
    ·rw[zGi a k q k hkl,y8c rfl];dsimp only;omega
    ·intro j _ hj;rw[zGi a k q j hkl,y7z hj]
   have h1:=hs.q2;rw[e2];dsimp only;rw[w64 (by omega)]
  ·rw[hqs,dW e,h.q m l' hm',a8];intro j hj;have:j≠k:=λc=>e (h.one hl hm' hk (c▸hj))
   rw[zGi a k q j hkl,y7z this]
 ·refine zPy (λj hj s hs'=> ?_) (h.sg m l' hm');obtain⟨s',q0,q1,q2,q3,q4,q5⟩:=hm j s hs';refine⟨s',q0,q1,q2,q3,q4,q5,?_⟩;have e:=xR q0;rw[<- e,zGi a k q j hkl];obtain⟨_,⟨_,_,h2⟩,h3⟩:=h.mem hm' hj;have:=h2.q1;have:=h2.q2;split
  ·rename_i c;subst c;dsimp only;omega
  ·omega
 ·have hlt:=(y8e.1 hj).1;rw[hsl,<- h.len]at hlt;obtain⟨s0,h0⟩:=yC hlt;obtain⟨s',q0,q1,_⟩:=hm j s0 h0;rw[hj]at q0;cases q0;exact h.us j s0 h0 (by rw[<- q1];exact hu)
def Arena.Wf0.drop {a:Arena} {Q:List (List Nat)} (h:a.Wf0 Q) {n k:Nat} {l1 l2:List Nat} (hl:Q[n]? =az (l1++k::l2)) (h0:(a.slotAt k).qty=0):
 (a.dropF k).Wf0 (Q.set n (l1++l2))/\(∀j,j≠k->((a.dropF k).slotAt j).ent=(a.slotAt j).ent/\((a.dropF k).slotAt j).used=(a.slotAt j).used/\((a.dropF k).slotAt j).qty=(a.slotAt j).qty)/\(a.dropF k).slotAt k=slot0/\(a.dropF k).free=a.free+1:=by
 have hkm:k∈l1++k::l2:=by simp
 have hnQ:=(y8e.1 hl).1;obtain⟨hk2,_,hk1⟩:=h.mem hl hkm;have hlen:=h.len;have hkl:k<a.slots.length:=by omega
 have hsg:=h.sg n _ hl;have hnd:=h.nd n _ hl;have hd:=xAk.1 hnd;have hd2:=xAq.1 hd.2.1;have k1:k∉l1:=λhk=>hd.2.2 k hk k y8h rfl
 have k2:k∉l2:=hd2.1;rw[zBn]at hsg;obtain⟨g1,⟨s,hs1,hs⟩,g2⟩:=hsg;have es:=xR hs1;have eqn:(a.queues.getD s.queue.toNat aU)=⟨vV (l1++k::l2) (-1),jG (l1++k::l2) (-1),a.qsum (l1++k::l2),(l1++k::l2).length⟩:=by
  rw[hs.queue,y8s];exact zW (h.q n _ hl)
 have hfree:=h.free;have hcl:=z7z (sl:=a.slots);have hsh:=h.short hl;obtain⟨sl1,hsl1⟩:∃sl1,sl1=if jG l1 (-1)= -1 then a.slots else a.slots.modify (jG l1 (-1)).toNat λx=>{x with back:=vV l2 (-1)}:=⟨_,rfl⟩
 obtain⟨sl2,hsl2⟩:∃sl2,sl2=if vV l2 (-1)= -1 then sl1 else sl1.modify (vV l2 (-1)).toNat λx=>{x with ahead:=jG l1 (-1)}:=⟨_,rfl⟩
 have hS:(a.dropF k).slots=sl2.set k slot0:=by
  simp only[Arena.dropF,es,hs.ahead,hs.back];rw[hsl2,hsl1]
 have hQs:(a.dropF k).queues=a.queues.set n ⟨vV (l1++l2) (-1),jG (l1++l2) (-1),a.qsum (l1++l2),(l1++l2).length⟩:=by
  simp only[Arena.dropF,es,eqn,hs.ahead,hs.back];rw[hs.queue,y8s];have el:(l1++k::l2).length=(l1++l2).length+1:=by simp;omega
  have eq:a.qsum (l1++k::l2)=a.qsum (l1++l2):=by
   rw[Arena.qsum,Arena.qsum,y8k,xEf,y8k,xEf,y8p,y9p,h0];omega
  rw[el]at hsh ⊢;rw[w64 (by omega),eq];congr 2
  ·cases l1 with
   |nil=>simp[jG,zIo,vV]
   |cons y ys=>
    rw[y7z (by rw[nU];simp)];rfl
  ·rcases wX l2 with e|⟨x,j,e,e2⟩
   ·subst e;simp[vV,b7,jG]
   ·have:l2≠[]:=by rw[e];simp
    rw[y7z (λc=>this ((zRy l2).1 c)),b7,b7,jG,e2,e2]
  ·simp
 have hF:(a.dropF k).free=a.free+1:=by
  simp only[Arena.dropF];rw[w64 (by omega)]
 have hc1:jG l1 (-1)= -1\/∃(y:List Nat) (j:Nat),l1=y++[j]/\jG l1 (-1)=(j:Int):=by
  rcases wX l1 with e|⟨y,j,e,e2⟩
  ·exact .inl ((nU l1).2 e)
  ·exact .inr ⟨y,j,e,e2 _⟩
 have hc2:vV l2 (-1)= -1\/∃(y:List Nat) (j:Nat),l2=j::y/\vV l2 (-1)=(j:Int):=by
  cases l2 with
  |nil=>exact .inl rfl
  |cons j y=>exact .inr ⟨y,j,rfl,rfl⟩
 have hoth:∀j,j∉l1->j∉l2->j≠k->(a.dropF k).slots[j]? =a.slots[j]? :=by
  intro j h1 h2 h3;rw[hS,uC (λe=>h3 e.symm),hsl2];have e1:sl1[j]? =a.slots[j]? :=by
   rw[hsl1];split
   ·rfl
   ·rcases hc1 with e|⟨y,i,e,e2⟩
    ·contradiction
    ·rw[dW];rw[e2,y8s];rintro rfl;exact h1 (by rw[e];simp)
  split
  ·exact e1
  ·rcases hc2 with e|⟨y,i,e,e2⟩
   ·contradiction
   ·rw[dW,e1];rw[e2,y8s];rintro rfl;exact h2 (by rw[e];simp)
 have hlike:∀j,j≠k->((a.dropF k).slotAt j).ent=(a.slotAt j).ent/\((a.dropF k).slotAt j).used=(a.slotAt j).used/\((a.dropF k).slotAt j).qty=(a.slotAt j).qty:=by
  intro j hj;have m1:∀(sl:List Slot) (i:Nat) (b:Int),((sl.modify i λx=>{x with back:=b}).getD j slot0).ent=(sl.getD j slot0).ent/\((sl.modify i λx=>{x with back:=b}).getD j slot0).used=(sl.getD j slot0).used/\((sl.modify i λx=>{x with back:=b}).getD j slot0).qty=(sl.getD j slot0).qty:=by
   intro sl i b;rw[y8j,y8j,ae];cases sl[j]? with
   |none=>exact⟨rfl,rfl,rfl⟩
   |some s=>by_cases e:i=j<;>simp[e,Slot.ent]
  have m2:∀(sl:List Slot) (i:Nat) (b:Int),((sl.modify i λx=>{x with ahead:=b}).getD j slot0).ent=(sl.getD j slot0).ent/\((sl.modify i λx=>{x with ahead:=b}).getD j slot0).used=(sl.getD j slot0).used/\((sl.modify i λx=>{x with ahead:=b}).getD j slot0).qty=(sl.getD j slot0).qty:=by
   intro sl i b;rw[y8j,y8j,ae];cases sl[j]? with
   |none=>exact⟨rfl,rfl,rfl⟩
   |some s=>by_cases e:i=j<;>simp[e,Slot.ent]
  have e0:(a.dropF k).slotAt j=sl2.getD j slot0:=by
   rw[Arena.slotAt,hS,y8j,uC (λe=>hj e.symm),y8j]
  have e1:(sl1.getD j slot0).ent=(a.slotAt j).ent/\(sl1.getD j slot0).used=(a.slotAt j).used/\(sl1.getD j slot0).qty=(a.slotAt j).qty:=by
   rw[hsl1];split
   ·exact⟨rfl,rfl,rfl⟩
   ·exact m1 _ _ _
  have e2:(sl2.getD j slot0).ent=(sl1.getD j slot0).ent/\(sl2.getD j slot0).used=(sl1.getD j slot0).used/\(sl2.getD j slot0).qty=(sl1.getD j slot0).qty:=by
   rw[hsl2];split
   ·exact⟨rfl,rfl,rfl⟩
   ·exact m2 _ _ _
  rw[e0];exact⟨e2.1.trans e1.1,e2.2.1.trans e1.2.1,e2.2.2.trans e1.2.2⟩
 have hl1:sl1.length=250:=by rw[hsl1];split<;>simp[hlen]
 have hl2:sl2.length=250:=by rw[hsl2];split<;>simp[hl1]
 have hself:(a.dropF k).slots[k]? =az slot0:=by rw[hS];exact f9 oM
 have hsgn:seg (a.dropF k).slots n (-1) (l1++l2) (-1):=by
  rw[hS,zBn];constructor
  ·--the part ahead
   refine vL (sl:=sl2) (λj hj=>uC (λe=>k1 (e▸hj))) ?_;have f1:seg sl1 n (-1) l1 (vV l2 (-1)):=by
    rcases wX l1 with e|⟨y,j,e,e2⟩
    ·subst e;trivial
    ·rw[hsl1,y7z (by rw[e2];omega),e2,y8s];subst e;have hd3:=xAk.1 hd.1;exact z0w _ (λhj=>hd3.2.2 j hj j y8h rfl) g1
   refine vL (λj hj=> ?_) f1;rw[hsl2];split
   ·rfl
   ·rcases hc2 with e|⟨y,i,e,e2⟩
    ·contradiction
    ·refine dW ?_;rw[e2,y8s];rintro rfl;exact hd.2.2 i hj i (y8i _ (by rw[e];simp)) rfl
  ·--the part behind
   refine vL (sl:=sl2) (λj hj=>uC (λe=>k2 (e▸hj))) ?_;have f1:seg sl1 n k l2 (-1):=by
    refine vL (λj hj=> ?_) g2;rw[hsl1];split
    ·rfl
    ·rcases hc1 with e|⟨y,i,e,e2⟩
     ·contradiction
     ·refine dW ?_;rw[e2,y8s];rintro rfl;exact hd.2.2 i (by rw[e];simp) i (y8i _ hj) rfl
   rcases hc2 with e|⟨y,j,e,e2⟩
   ·rw[(zRy l2).1 e];trivial
   ·rw[hsl2,y7z (by rw[e2];omega),e2,y8s];rw[e]at f1 hd2 ⊢;exact yCo _ (xAq.1 hd2.2).1 f1
 refine⟨⟨?_,?_,?_,?_,?_,?_,?_⟩,hlike,xR hself,hF⟩
 ·rw[hS,y9j];exact hl2
 ·rw[hQs];simp[h.ql]
 ·intro m l' hm;rcases bR hm with⟨rfl,rfl⟩|⟨e,hm⟩
  ·rw[hQs,f9 (by rw[h.ql];exact hnQ)];congr 2;refine(a8 λj hj=>(hlike j λe=> ?_).2.2).symm;subst e;rcases y9f.1 hj with hj|hj
   ·exact k1 hj
   ·exact k2 hj
  ·rw[hQs,uC (λc=>e c.symm),h.q m l' hm];congr 2;refine(a8 λj hj=>(hlike j λe2=> ?_).2.2).symm;subst e2;exact e (h.one hm hl hj hkm)
 ·intro m l' hm;rcases bR hm with⟨rfl,rfl⟩|⟨e,hm⟩
  ·exact hsgn
  ·refine vL (λj hj=>hoth j ?_ ?_ ?_) (h.sg m l' hm)
   ·exactλc=>e (h.one hm hl hj (y9v _ c))
   ·exactλc=>e (h.one hm hl hj (y9w _ (y8i _ c)))
   ·rintro rfl;exact e (h.one hm hl hj hkm)
 ·intro m l' hm;rcases bR hm with⟨rfl,rfl⟩|⟨e,hm⟩
  ·refine xAk.2 ⟨hd.1,hd2.2,λi hi j hj=>hd.2.2 i hi j (y8i _ hj)⟩
  ·exact h.nd m l' hm
 ·intro j s' hj hu;have hjk:j≠k:=by
   rintro rfl;rw[hself]at hj;cases hj;cases hu
  have hu2:(a.slotAt j).used=ax:=by rw[<- (hlike j hjk).2.1,xR hj];exact hu
  have hjl:j<a.slots.length:=by
   have:=(y8e.1 hj).1;rw[hS,y9j]at this;omega
  obtain⟨s0,hs0⟩:=yC hjl;rw[xR hs0]at hu2;obtain⟨m,l',hm,hjm⟩:=h.us j s0 hs0 hu2;by_cases em:m=n
  ·subst em;rw[hl]at hm;cases hm;refine⟨m,_,f9 hnQ,?_⟩;rcases y9f.1 hjm with hj|hj
   ·exact y9v _ hj
   ·rcases y8v.1 hj with e|hj
    ·exact absurd e hjk
    ·exact y9w _ hj
  ·exact⟨m,l',by rw[uC (λc=>em c.symm)];exact hm,hjm⟩
 ·have hmu:(a.dropF k).slots.map (·.used)=(a.slots.set k slot0).map (·.used):=by
   have e1:sl2.map (·.used)=a.slots.map (·.used):=by
    have f2:sl2.map (·.used)=sl1.map (·.used):=by
     rw[hsl2];split
     ·rfl
     ·exact zAq (g:=λs:Slot=>s.used) (f:=λs:Slot=>{s with ahead:=jG l1 (-1)}) (λ_=>rfl) _ _
    have f1:sl1.map (·.used)=a.slots.map (·.used):=by
     rw[hsl1];split
     ·rfl
     ·exact zAq (g:=λs:Slot=>s.used) (f:=λs:Slot=>{s with back:=vV l2 (-1)}) (λ_=>rfl) _ _
    rw[f2,f1]
   rw[hS,List.map_set,e1,List.map_set]
  have:=zPo (x:=slot0) hs1;rw[hs.used,y8c rfl,show slot0.used=ay from rfl,y7z (by decide)]at this;rw[hmu,hF,hfree];omega
def Arena.Wf.take {a:Arena} {Q:List (List Nat)} (h:a.Wf Q) {n k:Nat} {l:List Nat} (hl:Q[n]? =az l) (hk:k∈l) {q:Int} (hq:1<=q/\q<=(a.slotAt k).qty):
 (a.takeF k q).2=0/\(∀j,j≠k->((a.takeF k q).1.slotAt j).ent=(a.slotAt j).ent/\((a.takeF k q).1.slotAt j).used=(a.slotAt j).used)/\
   (if(a.slotAt k).qty=q then(a.takeF k q).1.Wf (Q.set n (l.erase k))/\(a.takeF k q).1.slotAt k=slot0/\(a.takeF k q).1.free=a.free+1
    else(a.takeF k q).1.Wf Q/\(a.takeF k q).1.slotAt k={a.slotAt k with qty:=(a.slotAt k).qty-q}/\(a.takeF k q).1.free=a.free):=by
 obtain⟨hk2,⟨p,t,hs⟩,hk1⟩:=h.toWf0.mem hl hk;have hkl:k<a.slots.length:=by rw[h.len];exact hk2
 have hu:a.usedAt k=ax:=by
  simp only[Arena.usedAt,y8o,y9o];refine⟨oM,oM,?_⟩;rw[y8s];exact hs.used
 have hless:=h.toWf0.less hl hk (q:=q) oM;have hat:=zGi a k q;rw[Arena.takeF,y7z (by rw[hu];decide),y8s,y7z (by omega)];by_cases e:(a.slotAt k).qty=q
 ·rw[y8c e,y8c e];obtain⟨l1,l2,rfl⟩:=List.append_of_mem hk;have hnd:=h.nd n _ hl;have hd:=xAk.1 hnd;have k1:k∉l1:=λhk=>hd.2.2 k hk k y8h rfl
  obtain⟨d1,d2,d3,d4⟩:=hless.drop hl (by rw[hat k hkl,y8c rfl];dsimp only;omega);have ee:(l1++k::l2).erase k=l1++l2:=by rw[List.erase_append_right _ k1,List.erase_cons_head]
  refine⟨rfl,λj hj=> ?_,?_,d3,d4⟩
  ·have:=d2 j hj;rw[hat j hkl,y7z hj]at this;exact⟨this.1,this.2.1⟩
  ·rw[ee];refine⟨d1,λm l' hm j hj=> ?_⟩;have hj2:j≠k/\∃l'',Q[m]? =az l''/\j∈l'':=by
    have hd2:=xAq.1 hd.2.1;rcases bR hm with⟨rfl,rfl⟩|⟨e3,hm⟩
    ·refine⟨?_,_,hl,?_⟩
     ·rintro rfl;rcases y9f.1 hj with hj|hj
      ·exact k1 hj
      ·exact hd2.1 hj
     ·rcases y9f.1 hj with hj|hj
      ·exact y9v _ hj
      ·exact y9w _ (y8i _ hj)
    ·refine⟨?_,_,hm,hj⟩;rintro rfl;exact e3 (h.toWf0.one hm hl hj hk)
   obtain⟨hj3,l'',hm2,hj4⟩:=hj2;have:=(d2 j hj3).2.2;rw[hat j hkl,y7z hj3]at this;dsimp only;rw[this];exact h.pos m l'' hm2 j hj4
 ·rw[y7z e,y7z e];refine⟨rfl,λj hj=> ?_,⟨hless,λm l' hm j hj=> ?_⟩,?_,rfl⟩
  ·dsimp only;rw[hat j hkl,y7z hj];exact⟨rfl,rfl⟩
  ·dsimp only;rw[hat j hkl];split
   ·rename_i c;subst c;dsimp only;omega
   ·exact h.pos m l' hm j hj
  ·dsimp only;rw[hat k hkl,y8c rfl]
def xD {α β:Type} {f g:α->List β}:∀{l:List α},(∀x∈l,f x=g x)->l.flatMap f=l.flatMap g
 |[],_=>rfl
 |x::l,h=>by rw[y9s,y9s,h x y8h,xD λy hy=>h y (y8i _ hy)]
def eX {α β γ:Type} {f:α->List β} {g:β->γ}:∀(l:List α),(l.flatMap f).map g=l.flatMap λx=>(f x).map g
 |[]=>rfl
 |x::l=>by rw[y9s,y9s,y8k,eX l]
def z5l {α β:Type} {f:α->List β}:∀{l:List α},(∀x∈l,f x≠[])->l.length<=(l.flatMap f).length
 |[],_=>y8w 0
 |x::l,h=>by
  have:=z5l (l:=l) λy hy=>h y (y8i _ hy)
  have:=List.length_pos_iff.2 (h x y8h);rw[y9s,y8a,y8f];omega
def zId {α:Type} [DecidableEq α]:∀{l m:List α},l.Nodup->(∀x∈l,x∈m)->l.length<=m.length
 |[],_,_,_=>y9c _
 |x::l,m,h,hs=>by
  have hd:=xAq.1 h;have hx:=hs x y8h;have:=zId (l:=l) (m:=m.erase x) hd.2 λy hy=>by
   have hne:y≠x:=by rintro rfl;exact hd.1 hy
   exact(List.mem_erase_of_ne hne).2 (hs y (y8i _ hy))
  rw[ag hx]at this;have:=List.length_pos_of_mem hx;rw[y8f];omega
def yDa {l:List Int} (h:l.Nodup) (hr:∀x∈l,0<=x/\x<l.length) {n:Nat} (hn:n<l.length):(n:Int)∈l:=by
 apply Classical.byContradiction;intro hx;have hnd:((n:Int)::l).Nodup:=xAq.2 ⟨hx,h⟩;have:=zId (m:=(ao l.length).map λk:Nat=>(k:Int)) hnd λy hy=>by
  rw[y9m];rcases y8v.1 hy with rfl|hy
  ·exact⟨n,xBf.2 hn,rfl⟩
  ·have:=hr y hy;exact⟨y.toNat,xBf.2 oM,oM⟩
 simp at this;omega
def zLu {α β:Type} {l:List (α×β)} (h:(l.map (·.1)).Nodup) {k:α} {x y:β} (hx:(k,x)∈l) (hy:(k,y)∈l):x=y:=by
 induction l with
 |nil=>cases hx
 |cons p l ih=>
  rw[y8p,xAq]at h;rcases y8v.1 hx with ex|hx<;>rcases y8v.1 hy with ey|hy
  ·rw[<- ex]at ey;exact(Prod.mk.inj ey).2.symm
  ·exact absurd (y9e (f:=(·.1)) hy) (by rw[<- ex]at h;exact h.1)
  ·exact absurd (y9e (f:=(·.1)) hx) (by rw[<- ey]at h;exact h.1)
  ·exact ih h.2 hx hy
def lV:∀{l:List (Int×Place)} {k:Int} {x:Place},pget l k=az x->(k,x)∈l
 |[],k,x,h=>by cases h
 |p::l,k,x,h=>by
  rw[pget,xEe]at h;by_cases e:p.1=k
  ·rw[y8r e]at h;simp only[xAd,Option.some.injEq]at h;subst h;subst e;exact y8h
  ·rw[y8n e]at h;exact y8i _ (lV h)
def zIp {l:List (Int×Place)} {k:Int} (h:pget l k=ba):k∉l.map (·.1):=by
 intro hk;obtain⟨⟨k',x⟩,hx,rfl⟩:=y9m.1 hk;rw[pget,Option.map_eq_none_iff,List.find?_eq_none]at h;have:=h _ hx;simp at this
def z1l:∀{l:List (Int×Place)} {k:Int} {x:Place},k∉l.map (·.1)->sR k x l=l++[(k,x)]
 |[],k,x,_=>rfl
 |p::l,k,x,h=>by
  rw[y8p,y8v,not_or]at h;rw[sR,y7z h.1,z1l h.2];rfl
def xC (Q:List (List Nat)) (r:xO):List Nat:=Q.getD r.queue.toNat []
def yMi (s p:Int) (e:Ent):zH:=⟨e.id,s,p,e.qty,e.top⟩
def vK (a:Arena) (s p:Int) (k:Nat):zH:=yMi s p (a.slotAt k).ent
def Book.rOrds (b:Book) (Q:List (List Nat)) (s:Int) (r:xO):List zH:=(xC Q r).map (vK b.a s r.price)
def Book.sideL (b:Book) (Q:List (List Nat)) (s:Int):List zH:=(b.rungs s).flatMap (b.rOrds Q s)
def Book.flat (b:Book) (Q:List (List Nat)):List zH:=b.sideL Q 1++b.sideL Q 2
def vU (a:Arena) (s p:Int) (k:Nat):Int×Place:=((a.slotAt k).id,⟨s,p,k⟩)
def Book.plcs (b:Book) (Q:List (List Nat)) (s:Int):List (Int×Place):=(b.rungs s).flatMap λr=>(xC Q r).map (vU b.a s r.price)
def Book.qs (b:Book):List Int:=b.buys.map (·.queue)++b.sells.map (·.queue)++b.spare
structure Book.Core (b:Book) (Q:List (List Nat)) (hole:Int):Prop where
 wf:b.a.Wf Q
 srt:∀s,s=1\/s=2->(b.rungs s).Pairwise λr r'=>btr s r.price r'.price=ax
 rng:∀q∈b.qs,0<=q/\q<Q.length
 nd:b.qs.Nodup
 ql:b.qs.length=Q.length
 ne:∀s,s=1\/s=2->∀r∈b.rungs s,r.queue≠hole->xC Q r≠[]
 sp:∀q∈b.spare,Q.getD q.toNat []=[]
 at_:b.at_.Perm (b.plcs Q 1++b.plcs Q 2)
 ids:((b.flat Q).map (·.id)).Nodup
 qb:Q.length<=250
structure Book.Tops (b:Book) (L:List zH):Prop where
 fl:∀o∈L,o.top=(b.hasF o.side && decide (o.id=b.topI o.side))
 th:∀s,s=1\/s=2->b.hasF s=ax->∃o∈L,o.side=s/\o.id=b.topI s
structure Book.Rep (b:Book) (L:List zH):Prop where
 ex:∃Q,b.Core Q (-1)/\b.Tops L/\L=b.flat Q
def mN (b:Book) (Q:List (List Nat)) (s:Int):(b.plcs Q s).map (·.1)=(b.sideL Q s).map (·.id):=by
 rw[Book.plcs,Book.sideL,eX,eX];refine xD λr _=> ?_
 rw[Book.rOrds,xAp,xAp];rfl
def Book.Core.keysP {b:Book} {Q:List (List Nat)} {h:Int} (c:b.Core Q h):(b.at_.map (·.1)).Perm ((b.flat Q).map (·.id)):=by
 have:=c.at_.map (·.1)
 rw[y8k,mN,mN,<- y8k]at this;exact this
def Book.Core.keys {b:Book} {Q:List (List Nat)} {h:Int} (c:b.Core Q h):(b.at_.map (·.1)).Nodup:=c.keysP.nodup_iff.2 c.ids
def Book.Core.len {b:Book} {Q:List (List Nat)} {h:Int} (c:b.Core Q h):b.at_.length=(b.flat Q).length:=by
 have:=c.keysP.length_eq;simpa using this
def Book.Core.plc {b:Book} {Q:List (List Nat)} {h:Int} (c:b.Core Q h) {s:Int} (hs:s=1\/s=2) {r:xO} (hr:r∈b.rungs s) {k:Nat} (hk:k∈xC Q r):((b.a.slotAt k).id,(⟨s,r.price,k⟩:Place))∈b.at_:=by
 refine c.at_.mem_iff.2 ?_;have hp:vU b.a s r.price k∈b.plcs Q s:=xAt.2 ⟨r,hr,y9e hk⟩;rcases hs with rfl|rfl
 ·exact y9v _ hp
 ·exact y9w _ hp
def Book.Core.plcI {b:Book} {Q:List (List Nat)} {h:Int} (c:b.Core Q h) {id:Int} {x:Place} (hx:(id,x)∈b.at_):∃(k:Nat) (r:xO),(x.side=1\/x.side=2)/\r∈b.rungs x.side/\k∈xC Q r/\x=⟨x.side,r.price,k⟩/\(b.a.slotAt k).id=id:=by
 have:=c.at_.mem_iff.1 hx;rcases y9f.1 this with hp|hp
 all_goals
  obtain⟨r,hr,hp⟩:=xAt.1 hp;obtain⟨k,hk,e⟩:=y9m.1 hp;simp only[vU,Prod.mk.injEq]at e;obtain⟨e1,rfl⟩:=e;exact⟨k,r,by simp,hr,hk,rfl,e1⟩
def zZp {Q:List (List Nat)} {r:xO} (h:0<=r.queue/\r.queue<Q.length):Q[r.queue.toNat]? =az (xC Q r):=by
 obtain⟨l,hl⟩:=yC (l:=Q) (i:=r.queue.toNat) oM;rw[xC,zW hl,hl]
def h9 {b:Book} {s:Int} (hs:s=1\/s=2) {r:xO} (hr:r∈b.rungs s):r.queue∈b.qs:=by
 rcases hs with rfl|rfl
 ·exact y9v _ (y9v _ (y9e (f:=(·.queue)) hr))
 ·exact y9v _ (y9w _ (y9e (f:=(·.queue)) hr))
def Book.Core.get {b:Book} {Q:List (List Nat)} {h:Int} (c:b.Core Q h) {s:Int} (hs:s=1\/s=2) {r:xO} (hr:r∈b.rungs s):Q[r.queue.toNat]? =az (xC Q r):=zZp (c.rng _ (h9 hs hr))
def clr (L:List zH) (s:Int):List zH:=L.map λo=>if o.side=s then{o with top:=ay}else o
def zBj (s x:Int):btr s x x=ay:=by
 rw[btr];split<;>exact y8n oM
def Book.Core.flag {b:Book} {Q:List (List Nat)} {h:Int} (c:b.Core Q h) {a':Arena} (hw:a'.Wf Q) (hi:∀k,(a'.slotAt k).id=(b.a.slotAt k).id):({b with a:=a'}:Book).Core Q h:=by
 have e1:∀s,({b with a:=a'}:Book).plcs Q s=b.plcs Q s:=by
  intro s;refine xD λr _=>y9k λk _=> ?_
  simp only[vU,hi]
 have e2:((({b with a:=a'}:Book).flat Q).map (·.id))=(b.flat Q).map (·.id):=by
  rw[Book.flat,Book.flat,y8k,y8k,<- mN,<- mN,<- mN,<- mN,e1,e1]
 exact⟨hw,c.srt,c.rng,c.nd,c.ql,c.ne,c.sp,by rw[e1,e1];exact c.at_,by rw[e2];exact c.ids,c.qb⟩
def yRs (a:Arena) (n:Int) (t:Bool) (k:Nat):((a.topF n t).slotAt k).id=(a.slotAt k).id:=by
 rw[zWf];split<;>rfl
def Book.Core.untop {b:Book} {Q:List (List Nat)} {h:Int} (c:b.Core Q h) (s:Int):(b.untop s).Wf Q/\∀k,((b.untop s).slotAt k).id=(b.a.slotAt k).id:=by
 rw[Book.untop]
 repeat' split
 all_goals first|exact⟨c.wf,λ_=>rfl⟩|exact⟨c.wf.top _ _,λk=>yRs _ _ _ k⟩
def Book.Core.untop_flat {b:Book} {Q:List (List Nat)} {h:Int} (c:b.Core Q h) (ht:b.Tops (b.flat Q)) {s:Int} (hs:s=1\/s=2):({b with a:=b.untop s}:Book).flat Q=clr (b.flat Q) s:=by
 have hfl:∀{s':Int} (hs':s'=1\/s'=2) {r:xO} (hr:r∈b.rungs s') {k:Nat} (hk:k∈xC Q r),(b.a.slotAt k).top=(b.hasF s' && decide ((b.a.slotAt k).id=b.topI s')):=by
  intro s' hs' r hr k hk;have hm:vK b.a s' r.price k∈b.flat Q:=by
   have:vK b.a s' r.price k∈b.sideL Q s':=xAt.2 ⟨r,hr,y9e hk⟩;rcases hs' with rfl|rfl
   ·exact y9v _ this
   ·exact y9w _ this
  exact ht.fl _ hm
 have key:∀{s':Int} (hs':s'=1\/s'=2) {r:xO} (hr:r∈b.rungs s') {k:Nat} (hk:k∈xC Q r),((b.untop s).slotAt k).ent=if s'=s then{(b.a.slotAt k).ent with top:=ay}else(b.a.slotAt k).ent:=by
  intro s' hs' r hr k hk;have hplc:=c.plc hs' hr hk;have htop:=hfl hs' hr hk;have hno:(b.a.slotAt k).top=ay->(b.a.slotAt k).ent=if s'=s then{(b.a.slotAt k).ent with top:=ay}else(b.a.slotAt k).ent:=by
   intro e;split
   ·rw[Slot.ent,e]
   ·rfl
  rw[Book.untop];by_cases hh:b.hasF s=ax
  ·rw[y8c hh];cases hg:pget b.at_ (b.topI s)with
   |none=>
    dsimp only;by_cases e:s'=s
    ·subst e;refine hno ?_;rw[htop,hh,xAy];refine y8n λe2=> ?_
     rw[<- e2]at hg;exact zIp hg (y9e (f:=(·.1)) hplc)
    ·rw[y7z e]
   |some o=>
    dsimp only;obtain⟨k',r',hs2,hr2,hk2,ho,hid⟩:=c.plcI (lV hg);by_cases es:o.side=s
    ·rw[y8c es,zWf];have hos:o.slot=(k':Int):=by rw[ho]
     by_cases ek:k=k'
     ·subst ek;have hu:b.a.usedAt o.slot=ax:=by
       obtain⟨_,⟨_,_,h2⟩,h3⟩:=c.wf.toWf0.mem (c.get hs' hr) hk;have hlt:=(y8e.1 h3).1;simp only[Arena.usedAt,y8o,y9o,hos,y8s];exact⟨oM,oM,h2.used⟩
      rw[y8c ⟨hu,by rw[hos];rfl⟩];have:=c.plc hs2 hr2 hk2;have e3:=zLu c.keys hplc this;have e4:s'=s:=by
       have:=congrArg Place.side e3;dsimp only at this;rw[this,es]
      rw[y8c e4];rfl
     ·rw[y7z (λe=>ek (by have:=e.2;rw[hos]at this;simpa using this))];by_cases e:s'=s
      ·subst e;refine hno ?_;rw[htop,hh,xAy];refine y8n λe2=>ek ?_
       have hp2:=c.plc hs2 hr2 hk2;rw[hid,<- e2]at hp2;have e3:=zLu c.keys hplc hp2;have:=congrArg Place.slot e3;dsimp only at this;omega
      ·rw[y7z e]
    ·rw[y7z es];by_cases e:s'=s
     ·subst e;refine hno ?_;rw[htop,hh,xAy];refine y8n λe2=>es ?_
      have hp2:=lV hg;rw[<- e2]at hp2;have e3:=zLu c.keys hplc hp2;rw[<- e3]
     ·rw[y7z e]
  ·rw[y7z hh];by_cases e:s'=s
   ·subst e;refine hno ?_;have:b.hasF s'=ay:=by simpa using hh
    rw[htop,this,xBm]
   ·rw[y7z e]
 have side:∀s',s'=1\/s'=2->({b with a:=b.untop s}:Book).sideL Q s'=clr (b.sideL Q s') s:=by
  intro s' hs';rw[clr,Book.sideL,Book.sideL,eX];refine xD λr hr=> ?_
  rw[Book.rOrds,Book.rOrds,xAp];refine y9k λk hk=> ?_
  simp only[vK,cm,key hs' hr hk,yMi];by_cases e:s'=s
  ·rw[y8c e];exact(y8c e).symm
  ·rw[y7z e];exact(y7z e).symm
 rw[Book.flat,side 1 (.inl rfl),side 2 (.inr rfl),Book.flat,clr,clr,clr,y8k]
def before (s p:Int) (o:zH):Bool:=decide (o.side<s)||(decide (o.side=s) && !btr s p o.price)
def g8 (L:List zH) (s p:Int):Bool:=L.all λo=> !decide (o.side=s)||btr s p o.price
def zWs (L:List zH) (s id p q:Int):List zH:=
 let L1:=if g8 L s p=ax then clr L s else L
 L1.takeWhile (before s p)++⟨id,s,p,q,g8 L s p⟩::L1.dropWhile (before s p)
def yKt {α:Type} {f:α->Bool}:∀{A B:List α},(∀x∈A,f x=ax)->(∀x∈B,f x=ay)->(A++B).takeWhile f=A/\(A++B).dropWhile f=B
 |[],[],_,_=>⟨rfl,rfl⟩
 |[],b::B,_,h=>by
  have:=h b y8h;simp[this]
 |a::A,B,h,h2=>by
  obtain⟨i1,i2⟩:=yKt (A:=A) (B:=B) (λx hx=>h x (y8i _ hx)) h2;have:=h a y8h;rw[y9q,List.takeWhile_cons,List.dropWhile_cons,this];simp[i1,i2]
def qL {b:Book} {Q:List (List Nat)} {s:Int} {r:xO} {o:zH} (h:o∈b.rOrds Q s r):o.side=s/\o.price=r.price:=by
 obtain⟨k,_,rfl⟩:=y9m.1 h;exact⟨rfl,rfl⟩
def mJ {b:Book} {Q:List (List Nat)} {s:Int} {o:zH} (h:o∈b.sideL Q s):o.side=s/\∃r∈b.rungs s,o∈b.rOrds Q s r/\o.price=r.price:=by
 obtain⟨r,hr,ho⟩:=xAt.1 h;exact⟨(qL ho).1,r,hr,ho,(qL ho).2⟩
structure Spl (s p:Int) (R1 R2:List xO):Prop where
 a:∀r∈R1,btr s r.price p=ax
 b:∀r∈R2,btr s p r.price=ax
def zZd {s x y:Int} (h:btr s x y=ax):btr s y x=ay:=by
 rw[btr]at h ⊢;split at h
 ·rename_i e;rw[y8c e];have:=y9i h;exact y8n oM
 ·rename_i e;rw[y7z e];have:=y9i h;exact y8n oM
def zSp {s x y z:Int} (h:btr s x y=ax) (h2:btr s y z=ax):btr s x z=ax:=by
 rw[btr]at h h2 ⊢;split at h
 ·rename_i e;rw[y8c e]at h2 ⊢;have:=y9i h;have:=y9i h2;exact y8r oM
 ·rename_i e;rw[y7z e]at h2 ⊢;have:=y9i h;have:=y9i h2;exact y8r oM
def yCe {s x y:Int} (h:btr s x y=ay) (hne:x≠y):btr s y x=ax:=by
 rw[btr]at h ⊢;split at h
 ·rename_i e;rw[y8c e];have:=xCp h;exact y8r oM
 ·rename_i e;rw[y7z e];have:=xCp h;exact y8r oM
def zDz {s p:Int} {l:List xO} (hs:l.Pairwise λr r'=>btr s r.price r'.price=ax):
 (∀r∈l.take (z6 s l p),btr s r.price p=ax)/\
 (if kY s l p=ax then ∃r,l[z6 s l p]? =az r/\r.price=p/\∀r'∈l.drop (z6 s l p+1),btr s p r'.price=ax
  else ∀r'∈l.drop (z6 s l p),btr s p r'.price=ax):=by
 have e1:l.take (z6 s l p)=l.takeWhile λr=>btr s r.price p:=by
  rw[z6];have h:=xDp (l₁:=l.takeWhile λr=>btr s r.price p) (l₂:=l.dropWhile λr=>btr s r.price p);rwa [xDx]at h
 have e2:l.drop (z6 s l p)=l.dropWhile λr=>btr s r.price p:=by
  have h:=xAi (z6 s l p) l;have h2:=xDx (p:=λr:xO=>btr s r.price p) (l:=l);rw[e1]at h;exact List.append_cancel_left (h.trans h2.symm)
 refine⟨λr hr=> ?_,?_⟩
 ·rw[e1]at hr;exact xBh.1 List.all_takeWhile r hr
 have hd:∀r,l[z6 s l p]? =az r->btr s r.price p=ay:=by
  intro r hr;have h0:(l.drop (z6 s l p))[0]? =az r:=by rw[xAo];exact hr
  rw[e2]at h0;cases hdw:l.dropWhile λr=>btr s r.price p with
  |nil=>rw[hdw]at h0;cases h0
  |cons x y=>
   rw[hdw]at h0;cases h0;have:=List.head?_dropWhile_not (λr:xO=>btr s r.price p) l;rw[hdw]at this;simpa using this
 have hpw:∀r r',l[z6 s l p]? =az r->r'∈l.drop (z6 s l p+1)->btr s r.price r'.price=ax:=by
  intro r r' hr hr';have hlt:=(y8e.1 hr).1;have:=List.Pairwise.sublist (List.drop_sublist (z6 s l p) l) hs;rw[xAe hlt,xBu,(y8e.1 hr).2]at this;exact this.1 r' hr'
 split
 ·rename_i hb;rw[kY]at hb;cases hr:l[z6 s l p]? with
  |none=>rw[hr]at hb;cases hb
  |some r=>
   rw[hr]at hb;have hp:r.price=p:=y9i hb;exact⟨r,rfl,hp,λr' hr'=>by rw[<- hp];exact hpw r r' hr hr'⟩
 ·rename_i hb;intro r' hr';by_cases hlt:z6 s l p<l.length
  ·obtain⟨r,hr⟩:=yC hlt;rw[kY,hr]at hb;have hp:¬r.price=p:=λe=>hb (y8r e)
   have h1:=yCe (hd r hr) hp;rw[xAe hlt,(y8e.1 hr).2]at hr';rcases y8v.1 hr' with rfl|hr'
   ·exact h1
   ·exact zSp h1 (hpw r r' hr hr')
  ·rw[xBj (by omega)]at hr';cases hr'
def Book.setR (b:Book) (s:Int) (l:List xO):Book:=if s=1 then{b with buys:=l}else{b with sells:=l}
def z9h {b:Book} {s:Int} (hs:s=1\/s=2):∃rest,b.qs.Perm ((b.rungs s).map (·.queue)++rest)/\∀l,(b.setR s l).qs.Perm (l.map (·.queue)++rest):=by
 rcases hs with rfl|rfl
 ·refine⟨b.sells.map (·.queue)++b.spare,?_,λl=> ?_⟩
  ·rw[Book.qs,y8g];exact .refl _
  ·show(l.map (·.queue)++b.sells.map (·.queue)++b.spare).Perm _
   rw[y8g]
 ·refine⟨b.buys.map (·.queue)++b.spare,?_,λl=> ?_⟩
  ·rw[Book.qs];show(b.buys.map (·.queue)++b.sells.map (·.queue)++b.spare).Perm (b.sells.map (·.queue)++(b.buys.map (·.queue)++b.spare))
   rw[<- y8g];exact xAg.append_right _
  ·show(b.buys.map (·.queue)++l.map (·.queue)++b.spare).Perm (l.map (·.queue)++(b.buys.map (·.queue)++b.spare))
   rw[<- y8g];exact xAg.append_right _
structure Queued (b:Book) (Q:List (List Nat)) (s p:Int) (b':Book) (n:Int) (Q':List (List Nat)) (R1 R2:List xO):Prop where
 core:b'.Core Q' n
 rungs:b'.rungs s=R1++⟨p,n⟩::R2
 spl:Spl s p R1 R2
 flat:b'.flat Q'=b.flat Q
 at_:b'.at_=b.at_
 free:b'.a.free=b.a.free
 tops:∀L,b.Tops L->b'.Tops L
 qty:∀x,b'.hasF x=b.hasF x/\b'.topI x=b.topI x
def yIh {α:Type} {l:List α} {x d:α} {n:Nat}:(l++[x]).getD n d=if n=l.length then x else l.getD n d:=by
 rw[y8j,y8j,List.getElem?_append];split
 ·rw[y7z (by omega)]
 ·rename_i h;by_cases e:n=l.length
  ·rw[y8c e,e,xDq];rfl
  ·rw[y7z e,y9h (show([x]:List α).length<=n-l.length by simp;omega),y9h (by omega)]
def Book.Core.add {b:Book} {Q:List (List Nat)} (c:b.Core Q (-1)) {s p n:Int} (hs:s=1\/s=2) {R1 R2:List xO} (hr:b.rungs s=R1++R2) (spl:Spl s p R1 R2) {b':Book} {Q':List (List Nat)}
 (hrs:b'.rungs s=R1++⟨p,n⟩::R2) (hro:∀s',s'≠s->s'=1\/s'=2->b'.rungs s'=b.rungs s') (hat:b'.at_=b.at_) (hw:b'.a.Wf Q') (hsl:b'.a.slots=b.a.slots)
 (hQ:∀k,Q'.getD k []=Q.getD k []) (hn:Q.getD n.toNat []=[]) (hrng:∀q∈b'.qs,0<=q/\q<Q'.length) (hnd:b'.qs.Nodup) (hql:b'.qs.length=Q'.length) (hsp:∀q∈b'.spare,Q.getD q.toNat []=[]) (hqb:Q'.length<=250):
 b'.Core Q' n/\b'.flat Q'=b.flat Q:=by
 have hslQ:∀r,xC Q' r=xC Q r:=λr=>hQ _
 have hsa:∀k,b'.a.slotAt k=b.a.slotAt k:=λk=>by rw[Arena.slotAt,Arena.slotAt,hsl]
 have hn':xC Q ⟨p,n⟩=[]:=hn;have hro':∀s' r,b'.rOrds Q' s' r=b.rOrds Q s' r:=by
  intro s' r;rw[Book.rOrds,Book.rOrds,hslQ];exact y9k λk _=>by rw[vK,vK,hsa]
 have hpo:∀s' (r:xO),(xC Q' r).map (vU b'.a s' r.price)=(xC Q r).map (vU b.a s' r.price):=by
  intro s' r;rw[hslQ];exact y9k λk _=>by rw[vU,vU,hsa]
 have hside:∀s',s'=1\/s'=2->b'.sideL Q' s'=b.sideL Q s':=by
  intro s' hs';rw[Book.sideL,Book.sideL];by_cases e:s'=s
  ·subst e;rw[hrs,hr,y9y,y9y,y9s,xD (λr _=>hro' s' r),xD (l:=R2) (λr _=>hro' s' r),hro',Book.rOrds,hn',xBq,xAu]
  ·rw[hro s' e hs'];exact xD λr _=>hro' s' r
 have hplc:∀s',s'=1\/s'=2->b'.plcs Q' s'=b.plcs Q s':=by
  intro s' hs';rw[Book.plcs,Book.plcs];by_cases e:s'=s
  ·subst e;rw[hrs,hr,y9y,y9y,y9s,xD (λr _=>hpo s' r),xD (l:=R2) (λr _=>hpo s' r),hpo,hn',xBq,xAu]
  ·rw[hro s' e hs'];exact xD λr _=>hpo s' r
 have hflat:b'.flat Q'=b.flat Q:=by rw[Book.flat,Book.flat,hside 1 (.inl rfl),hside 2 (.inr rfl)]
 refine⟨⟨hw,λs' hs'=> ?_,hrng,hnd,hql,λs' hs' r hr' hne=> ?_,λq hq=>by rw[hQ];exact hsp q hq,by rw[hat,hplc 1 (.inl rfl),hplc 2 (.inr rfl)];exact c.at_,by rw[hflat];exact c.ids,hqb⟩,hflat⟩
 ·by_cases e:s'=s
  ·subst e;have h0:=c.srt s' hs';rw[hr,af]at h0;rw[hrs,af,xBu];refine⟨h0.1,⟨spl.b,h0.2.1⟩,λx hx y hy=> ?_⟩;rcases y8v.1 hy with rfl|hy
   ·exact spl.a x hx
   ·exact h0.2.2 x hx y hy
  ·rw[hro s' e hs'];exact c.srt s' hs'
 ·rw[hslQ];have hold:∀r∈b.rungs s',xC Q r≠[]:=λr hr=>c.ne s' hs' r hr λe=>by
   have:=c.rng _ (h9 hs' hr);omega
  by_cases e:s'=s
  ·subst e;rw[hrs]at hr';rcases y9f.1 hr' with h|h
   ·exact hold r (by rw[hr];exact y9v _ h)
   ·rcases y8v.1 h with rfl|h
    ·exact absurd rfl hne
    ·exact hold r (by rw[hr];exact y9w _ h)
  ·rw[hro s' e hs']at hr';exact hold r hr'
def zQo (b:Book) {s:Int} (hs:s=1\/s=2) (l:List xO):(b.setR s l).rungs s=l/\∀s',s'≠s->s'=1\/s'=2->(b.setR s l).rungs s'=b.rungs s':=by
 rcases hs with rfl|rfl
 ·exact⟨rfl,λs' h h2=>by rcases h2 with rfl|rfl;exact absurd rfl h;rfl⟩
 ·exact⟨rfl,λs' h h2=>by rcases h2 with rfl|rfl;rfl;exact absurd rfl h⟩
def yEj (b:Book) {s p:Int} (hs:s=1\/s=2):b.queueF s p=if kY s (b.rungs s) p=ax then(b,((b.rungs s).getD (z6 s (b.rungs s) p) ⟨0,0⟩).queue)else(({b with a:=b.newQ.2.2,spare:=b.newQ.2.1}:Book).setR s (b.ins s p),b.newQ.1):=by
 rcases hs with rfl|rfl<;>rfl
def Book.Core.queue {b:Book} {Q:List (List Nat)} (c:b.Core Q (-1)) (hl:(b.flat Q).length<250) {s:Int} (hs:s=1\/s=2) (p:Int):∃Q' R1 R2,Queued b Q s p (b.queueF s p).1 (b.queueF s p).2 Q' R1 R2:=by
 have hsp:=zDz (p:=p) (c.srt s hs);rw[yEj b hs];by_cases hb:kY s (b.rungs s) p=ax
 ·rw[y8c hb]at hsp ⊢;obtain⟨h1,r,hr,hp,h2⟩:=hsp;have hlt:=(y8e.1 hr).1;have er:(⟨p,r.queue⟩:xO)=r:=by rw[<- hp]
  have hsplit:b.rungs s=(b.rungs s).take (z6 s (b.rungs s) p)++r::(b.rungs s).drop (z6 s (b.rungs s) p+1):=by
   conv=>lhs;rw[<- xAi (z6 s (b.rungs s) p) (b.rungs s)]
   rw[xAe hlt,(y8e.1 hr).2]
  refine⟨Q,_,_,⟨⟨c.wf,c.srt,c.rng,c.nd,c.ql,λs' hs' r' hr' _=>c.ne s' hs' r' hr' λe=> ?_,c.sp,c.at_,c.ids,c.qb⟩,?_,⟨h1,h2⟩,rfl,rfl,rfl,λ_ h=>h,λ_=>⟨rfl,rfl⟩⟩⟩
  ·have:=c.rng _ (h9 hs' hr');omega
  ·dsimp only;rw[zW hr,er];exact hsplit
 ·rw[y7z hb]at hsp ⊢;obtain⟨h1,h2⟩:=hsp;have hr:b.rungs s=(b.rungs s).take (z6 s (b.rungs s) p)++(b.rungs s).drop (z6 s (b.rungs s) p):=(xAi _ _).symm;obtain⟨g1,g2⟩:=zQo ({b with a:=b.newQ.2.2,spare:=b.newQ.2.1}:Book) hs (b.ins s p);have tops:∀x,((({b with a:=b.newQ.2.2,spare:=b.newQ.2.1}:Book).setR s (b.ins s p)).hasF x=b.hasF x/\(({b with a:=b.newQ.2.2,spare:=b.newQ.2.1}:Book).setR s (b.ins s p)).topI x=b.topI x):=by
   intro x;rcases hs with rfl|rfl<;>exact⟨rfl,rfl⟩
  have hat:(({b with a:=b.newQ.2.2,spare:=b.newQ.2.1}:Book).setR s (b.ins s p)).at_=b.at_:=by rcases hs with rfl|rfl<;>rfl
  have ha:(({b with a:=b.newQ.2.2,spare:=b.newQ.2.1}:Book).setR s (b.ins s p)).a=b.newQ.2.2:=by rcases hs with rfl|rfl<;>rfl
  have hspr:(({b with a:=b.newQ.2.2,spare:=b.newQ.2.1}:Book).setR s (b.ins s p)).spare=b.newQ.2.1:=by rcases hs with rfl|rfl<;>rfl
  obtain⟨rest,q1,q2⟩:=z9h (b:=({b with a:=b.newQ.2.2,spare:=b.newQ.2.1}:Book)) hs;have q2:=q2 (b.ins s p);have hqs:(({b with a:=b.newQ.2.2,spare:=b.newQ.2.1}:Book).setR s (b.ins s p)).qs.Perm (b.newQ.1::({b with a:=b.newQ.2.2,spare:=b.newQ.2.1}:Book).qs):=by
   refine q2.trans (.trans ?_ (q1.symm.cons _));rw[<- y9q];refine cn _ ?_;show((b.ins s p).map (·.queue)).Perm (b.newQ.1::(b.rungs s).map (·.queue))
   conv=>rhs;rw[hr]
   rw[Book.ins,y8k,y8k,y8p];exact y8q
  generalize hB:(({b with a:=b.newQ.2.2,spare:=b.newQ.2.1}:Book).setR s (b.ins s p))=B at*;have fin:∀Q',B.a.Wf Q'->B.a.slots=b.a.slots->B.a.free=b.a.free->(∀k,Q'.getD k []=Q.getD k [])->Q.getD b.newQ.1.toNat []=[]->(∀q∈B.qs,0<=q/\q<Q'.length)->B.qs.Nodup->B.qs.length=Q'.length->(∀q∈B.spare,Q.getD q.toNat []=[])->Q'.length<=250->∃Q' R1 R2,Queued b Q s p B b.newQ.1 Q' R1 R2:=by
   intro Q' w1 w2 w3 w4 w5 w6 w7 w8 w9 w10;obtain⟨u1,u2⟩:=c.add hs hr ⟨h1,h2⟩ (b':=B) (Q':=Q') (n:=b.newQ.1) (by rw[g1];rfl) g2 hat w1 w2 w4 w5 w6 w7 w8 w9 w10;refine⟨Q',_,_,⟨u1,g1.trans rfl,⟨h1,h2⟩,u2,hat,w3,λL h=>⟨λo ho=> ?_,λs' hs' hh=> ?_⟩,tops⟩⟩
   ·rw[(tops o.side).1,(tops o.side).2];exact h.fl o ho
   ·rw[(tops s').1]at hh;rw[(tops s').2];exact h.th s' hs' hh
  by_cases he:b.spare.length=0
  ·have hnq:b.newQ=((b.a.queues.length:Int),b.spare,b.a.openQ):=by rw[Book.newQ,y8c he]
   have hql:=c.wf.ql;have hspe:b.spare=[]:=y9a he;have hqs':B.qs.Perm ((Q.length:Int)::b.qs):=by
    rw[hnq]at hqs;rw[<- hql];exact hqs
   refine fin (Q++[[]]) (by rw[ha,hnq];exact c.wf.open) (by rw[ha,hnq];rfl) (by rw[ha,hnq];rfl) (λk=> ?_) ?_ (λq hq=> ?_) ?_ ?_ (λq hq=> ?_) ?_
   ·rw[yIh];split
    ·rename_i e;rw[e,y8j,y9h (y8w _)];rfl
    ·rfl
   ·rw[hnq,y8j,y9h (by dsimp only;omega)];rfl
   ·rw[y8a];rcases y8v.1 (hqs'.mem_iff.1 hq)with rfl|hq
    ·simp only[xAc];omega
    ·have:=c.rng q hq;simp only[xAc];omega
   ·refine hqs'.nodup_iff.2 (xAq.2 ⟨λhm=> ?_,c.nd⟩);have:=c.rng _ hm;omega
   ·rw[hqs'.length_eq,y8f,y8a,c.ql];rfl
   ·rw[hspr,hnq]at hq;rw[hspe]at hq;cases hq
   ·have h1:=z5l (l:=b.rungs 1) (f:=b.rOrds Q 1) λr hr e=>c.ne 1 (.inl rfl) r hr (λe2=>by have:=c.rng _ (h9 (.inl rfl) hr);omega) (List.map_eq_nil_iff.1 e)
    have h2:=z5l (l:=b.rungs 2) (f:=b.rOrds Q 2) λr hr e=>c.ne 2 (.inr rfl) r hr (λe2=>by have:=c.rng _ (h9 (.inr rfl) hr);omega) (List.map_eq_nil_iff.1 e)
    have h3:=c.ql;rw[Book.flat,y8a,Book.sideL,Book.sideL]at hl;rw[Book.qs,y8a,y8a,y8b,y8b,he]at h3;rw[sP]at h1 hl;rw[tG]at h2 hl;rw[y8a,xAc];omega
  ·have hnq:b.newQ=(b.spare.getD (b.spare.length-1) 0,b.spare.take (b.spare.length-1),b.a):=by rw[Book.newQ,y7z he]
   obtain⟨sp,q,hspq⟩:∃sp q,b.spare=sp++[q]:=⟨_,_,(List.dropLast_concat_getLast (l:=b.spare) (by intro e;rw[e]at he;exact he rfl)).symm⟩
   have e1:b.newQ=(q,sp,b.a):=by
    rw[hnq,hspq];simp
   have hqs':B.qs.Perm b.qs:=by
    refine hqs.trans ?_;rw[e1];show(q::(b.buys.map (·.queue)++b.sells.map (·.queue)++sp)).Perm (b.buys.map (·.queue)++b.sells.map (·.queue)++b.spare)
    rw[hspq,<- y8g];exact xCm q _|>.symm
   have hq0:q∈b.spare:=by rw[hspq];simp
   refine fin Q (by rw[ha,e1];exact c.wf) (by rw[ha,e1]) (by rw[ha,e1]) (λ_=>rfl) (by rw[e1];exact c.sp q hq0) (λq hq=>c.rng q (hqs'.mem_iff.1 hq)) (hqs'.nodup_iff.2 c.nd) (by rw[hqs'.length_eq];exact c.ql) (λq' hq'=> ?_) c.qb;rw[hspr,e1]at hq';exact c.sp q' (by rw[hspq];exact y9v _ hq')
def Book.Core.used {b:Book} {Q:List (List Nat)} (c:b.Core Q (-1)) (hl:(b.flat Q).length<250):b.a.free≠0:=by
 intro hf;have hcn:=c.wf.free;rw[hf]at hcn;have hz:(b.a.slots.map (·.used)).countP (!·)=0:=by omega
 rw[List.countP_eq_zero]at hz;have hin:∀k∈ao 250,k∈((b.rungs 1).flatMap (xC Q)++(b.rungs 2).flatMap (xC Q)):=by
  intro k hk;have hk:=xBf.1 hk;obtain⟨s,hs⟩:=yC (l:=b.a.slots) (i:=k) (by rw[c.wf.len];exact hk);have hu:s.used=ax:=by
   have:=hz s.used (y9e (y8m hs));simpa using this
  obtain⟨n,l,hn,hkl⟩:=c.wf.us k s hs hu;have hnQ:=(y8e.1 hn).1;have hm:(n:Int)∈b.qs:=yDa c.nd (λx hx=>by rw[c.ql];exact c.rng x hx) (by rw[c.ql];exact hnQ);have e:∀r:xO,r.queue=(n:Int)->k∈xC Q r:=by
   intro r hr;rw[xC,hr,y8s,zW hn];exact hkl
  rw[Book.qs]at hm;rcases y9f.1 hm with hm|hm
  ·rcases y9f.1 hm with hm|hm
   ·obtain⟨r,hr,er⟩:=y9m.1 hm;exact y9v _ (xAt.2 ⟨r,hr,e r er⟩)
   ·obtain⟨r,hr,er⟩:=y9m.1 hm;exact y9w _ (xAt.2 ⟨r,hr,e r er⟩)
  ·have:=c.sp _ hm;rw[y8s,zW hn]at this;rw[this]at hkl;cases hkl
 have h1:=zId List.nodup_range hin;have e:∀s,(b.sideL Q s).length=((b.rungs s).flatMap (xC Q)).length:=by
  intro s;rw[Book.sideL,xDc,xDc];congr 1;exact y9k λr _=>by rw[Book.rOrds,y8b]
 rw[y8a,<- e,<- e,List.length_range]at h1;rw[Book.flat,y8a]at hl;omega
def zWn {s p:Int} {o:zH} (h:o.side≠s) (hlt:o.side=1\/o.side=2) (hs:s=1\/s=2):before s p o=decide (s=2):=by
 rw[before,y8n h,xBm,Bool.or_false];rcases hs with rfl|rfl
 ·rw[y8n (by omega),y8n (by omega)]
 ·rw[y8r (by omega),y8r rfl]
def Queued.put {b:Book} {Q:List (List Nat)} {s p:Int} {b':Book} {n:Int} {Q':List (List Nat)} {R1 R2:List xO} (h:Queued b Q s p b' n Q' R1 R2) (hs:s=1\/s=2) {id qty:Int} (top:Bool) (hid:id∉(b.flat Q).map (·.id)) (hf:b.a.free≠0) (hq:1<=qty/\qty<=1000000):
 ∃Q3 A B,({b' with a:=(b'.a.push n id qty top).1,at_:=sR id ⟨s,p,(b'.a.push n id qty top).2.1⟩ b'.at_}:Book).Core Q3 (-1)/\b'.flat Q'=A++B/\
  ({b' with a:=(b'.a.push n id qty top).1,at_:=sR id ⟨s,p,(b'.a.push n id qty top).2.1⟩ b'.at_}:Book).flat Q3=A++⟨id,s,p,qty,top⟩::B/\(∀o∈A,before s p o=ax)/\∀o∈B,before s p o=ay:=by
 have c:=h.core;have hrm:(⟨p,n⟩:xO)∈b'.rungs s:=by rw[h.rungs];simp
 have hnr:0<=n/\n<Q'.length:=c.rng n (h9 hs hrm);obtain⟨m,rfl⟩:∃m:Nat,n=m:=⟨n.toNat,oM⟩
 have hl:Q'[m]? =az (xC Q' ⟨p,m⟩):=zZp (r:=⟨p,m⟩) hnr;obtain⟨k,k1,k2,k3,k4,kw,kent,kfree⟩:=c.wf.put (id:=id) hl (by rw[h.free];exact hf) top hq;have hpush:b'.a.push m id qty top=(b'.a.put m id qty top,(k:Int),0):=by
  have:=c.wf.ql;rw[Arena.push,y7z (by omega),y7z (by omega),y7z (by rw[h.free];exact hf),k1]
 rw[hpush];dsimp only;have hmQ:=(y8e.1 hl).1;have hqd:∀s' (r:xO),(s'=1\/s'=2)->r∈b'.rungs s'->(r.queue=m->s'=s/\r=⟨p,m⟩):=by
  intro s' r hs' hr e;obtain⟨rest,q1,_⟩:=z9h (b:=b') hs;have hnd:=q1.nodup_iff.1 c.nd;rw[h.rungs,y8k,y8p]at hnd;by_cases es:s'=s
  ·subst es;refine⟨rfl,?_⟩;rw[h.rungs]at hr;have hnd2:=(xAk.1 hnd).1;rcases y9f.1 hr with hr|hr
   ·exact absurd e ((xAk.1 hnd2).2.2 r.queue (y9e (f:=(·.queue)) hr) m y8h)
   ·rcases y8v.1 hr with rfl|hr
    ·rfl
    ·have:=(xAq.1 (xAk.1 hnd2).2.1).1;exact absurd (e▸y9e (f:=(·.queue)) hr) this
  ·exfalso;have hcn:=c.nd;rw[Book.qs]at hcn;have hcn2:=(xAk.1 (xAk.1 hcn).1).2.2;have ha:(m:Int)∈(b'.rungs s).map (·.queue):=y9m.2 ⟨_,hrm,rfl⟩
   have hb:(m:Int)∈(b'.rungs s').map (·.queue):=y9m.2 ⟨r,hr,e⟩
   rcases hs with rfl|rfl<;>rcases hs' with rfl|rfl
   ·exact es rfl
   ·exact hcn2 _ ha _ hb rfl
   ·exact hcn2 _ hb _ ha rfl
   ·exact es rfl
 have hsl1:xC (Q'.set m (xC Q' ⟨p,m⟩++[k])) ⟨p,m⟩=xC Q' ⟨p,m⟩++[k]:=by
  show(Q'.set m _).getD (Int.toNat (m:Int)) []=_;rw[y8s];exact zW (f9 hmQ)
 have hsl2:∀q:Int,0<=q->q≠m->(Q'.set m (xC Q' ⟨p,m⟩++[k])).getD q.toNat []=Q'.getD q.toNat []:=by
  intro q h0 hne;rw[y8j,uC (by omega),y8j]
 generalize hQ3:Q'.set m (xC Q' ⟨p,m⟩++[k])=Q3 at*;have hQl:Q3.length=Q'.length:=by rw[<- hQ3,y9j]
 have hpid:=mN;have hord:∀s' (r:xO),(s'=1\/s'=2)->r∈b'.rungs s'->∀j∈xC Q' r,j≠k/\(vK (b'.a.put m id qty top) s' r.price j=vK b'.a s' r.price j/\vU (b'.a.put m id qty top) s' r.price j=vU b'.a s' r.price j):=by
  intro s' r hs' hr j hj;have hjk:j≠k:=by rintro rfl;exact k4 _ _ (c.get hs' hr) hj
  have:=kent j;rw[y7z hjk]at this;refine⟨hjk,by rw[vK,vK,this],?_⟩;have:=congrArg Ent.id this;rw[vU,vU];exact congrArg (λi=>(i,(⟨s',r.price,j⟩:Place))) this
 have hr0:∀s' (r:xO),(s'=1\/s'=2)->r∈b'.rungs s'->r.queue≠m->xC Q3 r=xC Q' r:=by
  intro s' r hs' hr hne;exact hsl2 _ (c.rng _ (h9 hs' hr)).1 hne
 generalize hB:({b' with a:=b'.a.put m id qty top,at_:=sR id ⟨s,p,k⟩ b'.at_}:Book)=B3;have hBr:∀s',B3.rungs s'=b'.rungs s':=by intro s';rw[<- hB];rfl
 have hBa:B3.a=b'.a.put m id qty top:=by rw[<- hB]
 have hBat:B3.at_=sR id ⟨s,p,k⟩ b'.at_:=by rw[<- hB]
 have hBqs:B3.qs=b'.qs:=by rw[<- hB];rfl
 have hBsp:B3.spare=b'.spare:=by rw[<- hB]
 have hro:∀s' (r:xO),(s'=1\/s'=2)->r∈b'.rungs s'->r.queue≠m->B3.rOrds Q3 s' r=b'.rOrds Q' s' r/\(xC Q3 r).map (vU B3.a s' r.price)=(xC Q' r).map (vU b'.a s' r.price):=by
  intro s' r hs' hr hne;rw[Book.rOrds,Book.rOrds,hr0 s' r hs' hr hne,hBa];exact⟨y9k λj hj=>(hord s' r hs' hr j hj).2.1,y9k λj hj=>(hord s' r hs' hr j hj).2.2⟩
 have hnew:vK B3.a s p k=⟨id,s,p,qty,top⟩/\vU B3.a s p k=(id,⟨s,p,k⟩):=by
  have:=kent k;rw[y8c rfl]at this;rw[vK,hBa,this];refine⟨rfl,?_⟩;have:=congrArg Ent.id this;rw[vU];exact congrArg (λi=>(i,(⟨s,p,k⟩:Place))) this
 have hroN:B3.rOrds Q3 s ⟨p,m⟩=b'.rOrds Q' s ⟨p,m⟩++[⟨id,s,p,qty,top⟩]/\(xC Q3 ⟨p,m⟩).map (vU B3.a s p)=(xC Q' ⟨p,m⟩).map (vU b'.a s p)++[(id,⟨s,p,k⟩)]:=by
  rw[Book.rOrds,Book.rOrds,hsl1,y8k,y8k,am,am];refine⟨?_,?_⟩
  ·rw[hnew.1,y9k (g:=vK b'.a s p) λj hj=>by rw[hBa];exact(hord s ⟨p,m⟩ hs hrm j hj).2.1]
  ·rw[hnew.2,y9k (g:=vU b'.a s p) λj hj=>by rw[hBa];exact(hord s ⟨p,m⟩ hs hrm j hj).2.2]
 have hR1:∀r∈R1,r∈b'.rungs s/\r.queue≠m:=by
  intro r hr;have hm:r∈b'.rungs s:=by rw[h.rungs];exact y9v _ hr
  refine⟨hm,λe=> ?_⟩;have e2:=(hqd s r hs hm e).2;have:=h.spl.a r hr;rw[e2,zBj]at this;cases this
 have hR2:∀r∈R2,r∈b'.rungs s/\r.queue≠m:=by
  intro r hr;have hm:r∈b'.rungs s:=by rw[h.rungs];exact y9w _ (y8i _ hr)
  refine⟨hm,λe=> ?_⟩;have e2:=(hqd s r hs hm e).2;have:=h.spl.b r hr;rw[e2,zBj]at this;cases this
 have zD:B3.sideL Q3 s=(R1.flatMap (b'.rOrds Q' s)++b'.rOrds Q' s ⟨p,m⟩)++⟨id,s,p,qty,top⟩::R2.flatMap (b'.rOrds Q' s):=by
  rw[Book.sideL,hBr,h.rungs,y9y,y9s,hroN.1,xD (l:=R1) (λr hr=>(hro s r hs (hR1 r hr).1 (hR1 r hr).2).1),xD (l:=R2) (λr hr=>(hro s r hs (hR2 r hr).1 (hR2 r hr).2).1)];simp
 have sideO:b'.sideL Q' s=(R1.flatMap (b'.rOrds Q' s)++b'.rOrds Q' s ⟨p,m⟩)++R2.flatMap (b'.rOrds Q' s):=by
  rw[Book.sideL,h.rungs,y9y,y9s,y8g]
 have plcN:(B3.plcs Q3 s).Perm ((id,⟨s,p,k⟩)::b'.plcs Q' s):=by
  rw[Book.plcs,hBr,h.rungs,y9y,y9s,hroN.2,xD (l:=R1) (λr hr=>(hro s r hs (hR1 r hr).1 (hR1 r hr).2).2),xD (l:=R2) (λr hr=>(hro s r hs (hR2 r hr).1 (hR2 r hr).2).2),Book.plcs,h.rungs,y9y,y9s];rw[y8g,List.singleton_append,<- y8g];refine y8q.trans ?_;rw[y8g]
 have other:∀s',s'≠s->s'=1\/s'=2->B3.sideL Q3 s'=b'.sideL Q' s'/\B3.plcs Q3 s'=b'.plcs Q' s':=by
  intro s' hne hs';have hne':∀r∈b'.rungs s',r.queue≠m:=λr hr e=>hne (hqd s' r hs' hr e).1
  rw[Book.sideL,Book.sideL,Book.plcs,Book.plcs,hBr];exact⟨xD λr hr=>(hro s' r hs' hr (hne' r hr)).1,xD λr hr=>(hro s' r hs' hr (hne' r hr)).2⟩
 have bA:∀o∈R1.flatMap (b'.rOrds Q' s)++b'.rOrds Q' s ⟨p,m⟩,before s p o=ax:=by
  intro o ho;rcases y9f.1 ho with ho|ho
  ·obtain⟨r,hr,ho⟩:=xAt.1 ho;obtain⟨e1,e2⟩:=qL ho;rw[before,e1,e2,zZd (h.spl.a r hr)];simp
  ·obtain⟨e1,e2⟩:=qL ho;rw[before,e1,e2,zBj];simp
 have bB:∀o∈R2.flatMap (b'.rOrds Q' s),before s p o=ay:=by
  intro o ho;obtain⟨r,hr,ho⟩:=xAt.1 ho;obtain⟨e1,e2⟩:=qL ho;rw[before,e1,e2,h.spl.b r hr];simp
 have bO:∀s',s'≠s->s'=1\/s'=2->∀o∈b'.sideL Q' s',before s p o=decide (s=2):=by
  intro s' hne hs' o ho;have:=(mJ ho).1;exact zWn oM oM hs
 have flatE:∃A B,b'.flat Q'=A++B/\B3.flat Q3=A++⟨id,s,p,qty,top⟩::B/\(∀o∈A,before s p o=ax)/\∀o∈B,before s p o=ay:=by
  rcases hs with rfl|rfl
  ·refine⟨_,R2.flatMap (b'.rOrds Q' 1)++b'.sideL Q' 2,?_,?_,bA,λo ho=> ?_⟩
   ·rw[Book.flat,sideO];simp only[y8g]
   ·rw[Book.flat,zD,(other 2 (by decide) (.inr rfl)).1];simp only[y8g,y9q]
   ·rcases y9f.1 ho with ho|ho
    ·exact bB o ho
    ·exact bO 2 Z8 (.inr rfl) o ho
  ·refine⟨b'.sideL Q' 1++(R1.flatMap (b'.rOrds Q' 2)++b'.rOrds Q' 2 ⟨p,m⟩),R2.flatMap (b'.rOrds Q' 2),?_,?_,λo ho=> ?_,bB⟩
   ·rw[Book.flat,sideO];simp only[y8g]
   ·rw[Book.flat,zD,(other 1 (by decide) (.inl rfl)).1];simp only[y8g]
   ·rcases y9f.1 ho with ho|ho
    ·exact bO 1 Z8 (.inl rfl) o ho
    ·exact bA o ho
 obtain⟨A,B,f1,f2,f3,f4⟩:=flatE;refine⟨Q3,A,B,⟨by rw[hBa];exact kw,λs' hs'=>by rw[hBr];exact c.srt s' hs',by rw[hBqs,hQl];exact c.rng,by rw[hBqs];exact c.nd,by rw[hBqs,hQl];exact c.ql,λs' hs' r hr _=> ?_,λq hq=> ?_,?_,?_,by rw[hQl];exact c.qb⟩,f1,f2,f3,f4⟩
 ·rw[hBr]at hr;by_cases e:r.queue=m
  ·obtain⟨rfl,rfl⟩:=hqd s' r hs' hr e;rw[hsl1];simp
  ·rw[hr0 s' r hs' hr e];exact c.ne s' hs' r hr e
 ·rw[hBsp]at hq;have hqq:q∈b'.qs:=y9w _ hq;rw[hsl2 q (c.rng q hqq).1 λe=> ?_]
  ·exact c.sp q hq
  ·have hcn:=c.nd;rw[Book.qs]at hcn;refine(xAk.1 hcn).2.2 m ?_ q hq e.symm;rcases hs with rfl|rfl
   ·exact y9v _ (y9m.2 ⟨_,hrm,rfl⟩)
   ·exact y9w _ (y9m.2 ⟨_,hrm,rfl⟩)
 ·have hnk:id∉b'.at_.map (·.1):=by
   rw[c.keysP.mem_iff,h.flat];exact hid
  rw[hBat,z1l hnk];refine(xCm _ _).trans ?_;rcases hs with rfl|rfl
  ·rw[(other 2 (by decide) (.inr rfl)).2];exact(c.at_.cons _).trans (plcN.symm.append_right _)
  ·rw[(other 1 (by decide) (.inl rfl)).2];refine(c.at_.cons _).trans ?_;refine(y8q.symm).trans (plcN.symm.append_left _)
 ·rw[f2,y8k,y8p];have h1:=c.ids;rw[f1,y8k]at h1;have h2:id∉(A++B).map (·.id):=by rw[<- f1,h.flat];exact hid
  refine y8q.nodup_iff.2 (xAq.2 ⟨by rw[y8k]at h2;exact h2,h1⟩)
def wS (L:List zH) (id:Int):Bool:=L.any λo=>decide (o.id=id)
def zLl (L:List zH) (s id p q:Int):List zH×Int:=if q<1\/1000000<q then(L,24)else if wS L id=ax then(L,25)else if 250<=L.length then(L,13)else(zWs L s id p q,0)
def hasId_iff {L:List zH} {id:Int}:wS L id=ax↔id∈L.map (·.id):=by
 rw[wS,List.any_eq_true,y9m];constructor
 ·rintro⟨o,ho,e⟩;exact⟨o,ho,y9i e⟩
 ·rintro⟨o,ho,e⟩;exact⟨o,ho,y8r e⟩
def pC {b:Book} {Q:List (List Nat)} {o:zH} (h:o∈b.flat Q):(o.side=1\/o.side=2)/\∃r∈b.rungs o.side,o∈b.rOrds Q o.side r/\o.price=r.price:=by
 rcases y9f.1 h with h|h
 all_goals
  obtain⟨e,r,hr,ho,hp⟩:=mJ h;rw[e];exact⟨by simp,r,hr,ho,hp⟩
def flat_mem {b:Book} {Q:List (List Nat)} {s:Int} (hs:s=1\/s=2) {o:zH} (h:o∈b.sideL Q s):o∈b.flat Q:=by
 rcases hs with rfl|rfl
 ·exact y9v _ h
 ·exact y9w _ h
def Book.Core.leads {b:Book} {Q:List (List Nat)} (c:b.Core Q (-1)) {s:Int} (hs:s=1\/s=2) (p:Int):b.leads s p=g8 (b.flat Q) s p:=by
 have hsrt:=c.srt s hs;have hne:=c.ne s hs;rw[Book.leads];cases hr:b.rungs s with
 |nil=>
  symm;dsimp only;rw[g8,xBh];intro o ho;obtain⟨_,r,hr2,_⟩:=pC ho;by_cases e:o.side=s
  ·rw[e,hr]at hr2;cases hr2
  ·rw[y8n e];rfl
 |cons r0 l=>
  dsimp only;rw[hr,xBu]at hsrt;have hm:r0∈b.rungs s:=by rw[hr];exact y8h
  cases hb:btr s p r0.price with
  |true=>
   symm;rw[g8,xBh];intro o ho;obtain⟨_,r,hr2,_,hp⟩:=pC ho;by_cases e:o.side=s
   ·rw[e,hr]at hr2;rw[hp];rcases y8v.1 hr2 with rfl|hr2
    ·rw[hb];simp
    ·rw[zSp hb (hsrt.1 r hr2)];simp
   ·rw[y8n e];rfl
  |false=>
   symm;rw[g8,List.all_eq_false];have h0:=hne r0 hm λe=>by have:=c.rng _ (h9 hs hm);omega
   cases hk:xC Q r0 with
   |nil=>exact absurd hk h0
   |cons k ks=>
    refine⟨vK b.a s r0.price k,flat_mem hs (xAt.2 ⟨r0,hm,by rw[Book.rOrds,hk];exact y8h⟩),?_⟩;show ¬((!decide (s=s))||btr s p r0.price)=ax;rw[hb];simp
def yBg {L:List zH} {s:Int} {o:zH} (h:o∈clr L s):∃o'∈L,o.id=o'.id/\o.side=o'.side/\o.price=o'.price/\o.qty=o'.qty/\o.top=(if o.side=s then ay else o'.top):=by
 obtain⟨o',ho,e⟩:=y9m.1 h;refine⟨o',ho,?_⟩;by_cases c:o'.side=s
 ·rw[y8c c]at e;subst e;exact(rF4 ((y8c c).symm))
 ·rw[y7z c]at e;subst e;exact(rF4 ((y7z c).symm))
def yPn {L:List zH} {s:Int} {o:zH} (h:o∈L) (hs:o.side≠s):o∈clr L s:=y9m.2 ⟨o,h,y7z hs⟩
def z8g (L:List zH) (s:Int):(clr L s).map (·.id)=L.map (·.id):=by
 rw[clr,xAp];refine y9k λo _=> ?_
 simp only[cm];split<;>rfl
def zYe (b:Book) (id:Int) {s:Int} (hs:s=1\/s=2):(b.leadF id s).a=b.untop s/\(b.leadF id s).buys=b.buys/\(b.leadF id s).sells=b.sells/\(b.leadF id s).at_=b.at_/\(b.leadF id s).spare=b.spare/\∀s',s'=1\/s'=2->(b.leadF id s).hasF s'=(if s'=s then ax else b.hasF s')/\(b.leadF id s).topI s'=(if s'=s then id else b.topI s'):=by
 rcases hs with rfl|rfl
 ·exact(rF5 (λs' h=>by rcases h with rfl|rfl<;>exact⟨rfl,rfl⟩))
 ·exact(rF5 (λs' h=>by rcases h with rfl|rfl<;>exact⟨rfl,rfl⟩))
def Book.Core.like {b b':Book} {Q:List (List Nat)} {h:Int} (c:b.Core Q h) (e1:b'.a=b.a) (e2:b'.buys=b.buys) (e3:b'.sells=b.sells) (e4:b'.at_=b.at_) (e5:b'.spare=b.spare):b'.Core Q h/\b'.flat Q=b.flat Q:=by
 have er:∀s,b'.rungs s=b.rungs s:=λs=>by rw[Book.rungs,Book.rungs,e2,e3]
 have eo:∀s r,b'.rOrds Q s r=b.rOrds Q s r:=λs r=>by rw[Book.rOrds,Book.rOrds,e1]
 have es:∀s,b'.sideL Q s=b.sideL Q s:=λs=>by rw[Book.sideL,Book.sideL,er];exact xD λr _=>eo s r
 have ep:∀s,b'.plcs Q s=b.plcs Q s:=λs=>by rw[Book.plcs,Book.plcs,er,e1]
 have ef:b'.flat Q=b.flat Q:=by rw[Book.flat,Book.flat,es,es]
 have eq:b'.qs=b.qs:=by rw[Book.qs,Book.qs,e2,e3,e5]
 exact⟨⟨by rw[e1];exact c.wf,λs hs=>by rw[er];exact c.srt s hs,by rw[eq];exact c.rng,by rw[eq];exact c.nd,by rw[eq];exact c.ql,λs hs=>by rw[er];exact c.ne s hs,by rw[e5];exact c.sp,by rw[e4,ep,ep];exact c.at_,by rw[ef];exact c.ids,c.qb⟩,ef⟩
def Book.Rep.stand {b:Book} {L:List zH} (h:b.Rep L) {s:Int} (hs:s=1\/s=2) {id p q:Int} (hid:id∉L.map (·.id)) (hl:L.length<250) (hq:1<=q/\q<=1000000):(b.stand s id p q).Rep (zWs L s id p q):=by
 obtain⟨Q,c,ht,rfl⟩:=h;have hld:=c.leads hs p;have h1:(b.led id s p).Core Q (-1)/\(b.led id s p).flat Q=(if g8 (b.flat Q) s p=ax then clr (b.flat Q) s else b.flat Q):=by
  rw[Book.led,hld];split
  ·obtain⟨e1,e2,e3,e4,e5,_⟩:=zYe b id hs;obtain⟨u1,u2⟩:=c.untop s;obtain⟨v1,v2⟩:=Book.Core.like (b':=b.leadF id s) (c.flag u1 u2) e1 e2 e3 e4 e5;exact⟨v1,v2.trans (c.untop_flat ht hs)⟩
  ·exact⟨c,rfl⟩
 obtain⟨c1,f1⟩:=h1;have hlen1:((b.led id s p).flat Q).length<250:=by
  rw[f1];split
  ·rw[clr,y8b];exact hl
  ·exact hl
 have hid1:id∉((b.led id s p).flat Q).map (·.id):=by
  rw[f1];split
  ·rw[z8g];exact hid
  ·exact hid
 obtain⟨Q',R1,R2,hqd⟩:=c1.queue hlen1 hs p;obtain⟨Q3,A,B,k1,k2,k3,k4,k5⟩:=hqd.put hs (b.leads s p) hid1 (c1.used hlen1) hq;have hAB:A++B=(if g8 (b.flat Q) s p=ax then clr (b.flat Q) s else b.flat Q):=by rw[<- k2,hqd.flat,f1]
 have hins:zWs (b.flat Q) s id p q=A++⟨id,s,p,q,b.leads s p⟩::B:=by
  rw[zWs];obtain⟨t1,t2⟩:=yKt k4 k5;rw[<- hAB,t1,t2,hld]
 refine⟨Q3,k1,?_,?_⟩
 ·rw[hins,hld];show Book.Tops {((b.led id s p).queueF s p).1 with a:=_,at_:=_} _;have hto:∀x,({((b.led id s p).queueF s p).1 with a:=(((b.led id s p).queueF s p).1.a.push ((b.led id s p).queueF s p).2 id q (b.leads s p)).1,at_:=sR id ⟨s,p,(((b.led id s p).queueF s p).1.a.push ((b.led id s p).queueF s p).2 id q (b.leads s p)).2.1⟩ ((b.led id s p).queueF s p).1.at_}:Book).hasF x=(b.led id s p).hasF x/\({((b.led id s p).queueF s p).1 with a:=(((b.led id s p).queueF s p).1.a.push ((b.led id s p).queueF s p).2 id q (b.leads s p)).1,at_:=sR id ⟨s,p,(((b.led id s p).queueF s p).1.a.push ((b.led id s p).queueF s p).2 id q (b.leads s p)).2.1⟩ ((b.led id s p).queueF s p).1.at_}:Book).topI x=(b.led id s p).topI x:=hqd.qty;generalize ({((b.led id s p).queueF s p).1 with a:=(((b.led id s p).queueF s p).1.a.push ((b.led id s p).queueF s p).2 id q (b.leads s p)).1,at_:=sR id ⟨s,p,(((b.led id s p).queueF s p).1.a.push ((b.led id s p).queueF s p).2 id q (b.leads s p)).2.1⟩ ((b.led id s p).queueF s p).1.at_}:Book)=B3 at*;have mAB:∀o,o∈A++⟨id,s,p,q,g8 (b.flat Q) s p⟩::B↔o=⟨id,s,p,q,g8 (b.flat Q) s p⟩\/o∈A++B:=by
   intro o;rw[y9f,y8v,y9f];constructor
   ·rintro(h|h|h)
    ·exact .inr (.inl h)
    ·exact .inl h
    ·exact .inr (.inr h)
   ·rintro(h|h|h)
    ·exact .inr (.inl h)
    ·exact .inl h
    ·exact .inr (.inr h)
  have hsd:∀o∈b.flat Q,o.side=1\/o.side=2:=λo ho=>(pC ho).1
  by_cases hlead:g8 (b.flat Q) s p=ax
  ·rw[y8c hlead]at hAB;have hb1:b.led id s p=b.leadF id s:=by rw[Book.led,y8c (hld.trans hlead)]
   obtain⟨_,_,_,_,_,e6⟩:=zYe b id hs;rw[hb1]at hto;refine⟨λo ho=> ?_,λs' hs' hh=> ?_⟩
   ·rcases(mAB o).1 ho with rfl|ho
    ·rw[(hto s).1,(hto s).2,(e6 s hs).1,(e6 s hs).2,y8c rfl,y8c rfl,hlead];simp
    ·rw[hAB]at ho;obtain⟨o',ho',i1,i2,_,_,i5⟩:=yBg ho;rw[(hto _).1,(hto _).2,i5,(e6 o.side (by rw[i2];exact hsd o' ho')).1,(e6 o.side (by rw[i2];exact hsd o' ho')).2];by_cases e:o.side=s
     ·rw[y8c e,y8c e,y8c e,xAy];symm;refine y8n λe2=>hid ?_
      rw[<- e2,i1];exact y9e ho'
     ·rw[y7z e,y7z e,y7z e,ht.fl o' ho',i1,i2]
   ·rw[(hto s').2,(e6 s' hs').2];by_cases e:s'=s
    ·rw[y8c e];exact⟨_,(mAB _).2 (.inl rfl),e.symm,rfl⟩
    ·rw[(hto s').1,(e6 s' hs').1,y7z e]at hh;rw[y7z e];obtain⟨o,ho,o1,o2⟩:=ht.th s' hs' hh;exact⟨o,(mAB _).2 (.inr (by rw[hAB];exact yPn ho (by rw[o1];exact e))),o1,o2⟩
  ·rw[y7z hlead]at hAB;have hlf:g8 (b.flat Q) s p=ay:=by simpa using hlead
   have hb1:b.led id s p=b:=by rw[Book.led,y7z (by rw[hld];exact hlead)]
   rw[hb1]at hto;refine⟨λo ho=> ?_,λs' hs' hh=> ?_⟩
   ·rw[(hto _).1,(hto _).2];rcases(mAB o).1 ho with rfl|ho
    ·show g8 (b.flat Q) s p=(b.hasF s && decide (id=b.topI s));rw[hlf];cases hh:b.hasF s with
     |false=>rfl
     |true=>
      rw[xAy];symm;refine y8n λe2=>hid ?_
      obtain⟨o,ho,_,o2⟩:=ht.th s hs hh;rw[e2,<- o2];exact y9e ho
    ·rw[hAB]at ho;exact ht.fl o ho
   ·rw[(hto s').1]at hh;rw[(hto s').2];obtain⟨o,ho,o1,o2⟩:=ht.th s' hs' hh;exact⟨o,(mAB _).2 (.inr (by rw[hAB];exact ho)),o1,o2⟩
 ·rw[hins];exact k3.symm
def Book.Rep.pget {b:Book} {L:List zH} (h:b.Rep L) (id:Int):(pget b.at_ id).isSome=wS L id:=by
 obtain⟨Q,c,ht,rfl⟩:=h;cases hg:Sx.pget b.at_ id with
 |none=>
  have:=zIp hg;rw[c.keysP.mem_iff,<- hasId_iff]at this;symm;simpa using this
 |some x=>
  have:=y9e (f:=(·.1)) (lV hg)
  rw[c.keysP.mem_iff,<- hasId_iff]at this;symm;exact this
def Book.Rep.len {b:Book} {L:List zH} (h:b.Rep L):b.at_.length=L.length:=by
 obtain⟨Q,c,ht,rfl⟩:=h;exact c.len
def Book.Rep.add {b:Book} {L:List zH} (h:b.Rep L) {s:Int} (hs:s=1\/s=2) (id p q:Int):(b.addF s id p q).1.Rep (zLl L s id p q).1/\(b.addF s id p q).2=(zLl L s id p q).2:=by
 rw[Book.addF,zLl,h.pget,h.len]
 repeat' split
 all_goals first|exact⟨h,rfl⟩|skip
 rename_i c1 c2 c3;exact⟨h.stand hs (λe=>c2 (hasId_iff.2 e)) oM oM,rfl⟩
def yEm:book0.Rep []:=by
 refine⟨[],⟨⟨⟨by simp[book0,zNz],rfl,λn l h=>by simp at h,λn l h=>by simp at h,λn l h=>by simp at h,λk s hk hu=> ?_,?_⟩,λn l h=>by simp at h⟩,λs hs=> ?_,λq hq=>by simp[book0,Book.qs]at hq,by simp[book0,Book.qs],rfl,λs hs r hr=> ?_,λq hq=>by simp[book0]at hq,?_,?_,Z8⟩,⟨λo ho=>(by cases ho),λs hs hh=> ?_⟩,?_⟩
 ·have:=y8m hk;rw[xDu this]at hu;cases hu
 ·decide
 ·rcases hs with rfl|rfl<;>exact List.Pairwise.nil
 ·rcases hs with rfl|rfl<;>cases hr
 ·exact List.Perm.refl _
 ·exact List.nodup_nil
 ·rcases hs with rfl|rfl<;>cases hh
 ·rfl
structure BoI where
 b:Book
 s:Int
 r:xO
 l:List Nat
def BoI.ords (i:BoI):List zH:=(i.b.a.ents i.l).map λe=>⟨e.id,i.s,i.r.price,e.qty,e.top⟩
def ordersC:Con:=con1 BoI (λi=>[.nm 0 0,zA i.s,.agg [zA i.r.price,zA i.r.queue]]) (λi=>[yB i.b]) (λi=>i.b.a.listOk i.r.queue i.l) (λ_=> .own 1) (λi=>[yB i.b,.own 57 5 (i.ords.map vJ)])
def yNj (i:BoI):List SAnn:=[{ι:=Nat,slots:=λj=>[(7,.own 0),(18,zA j)],rows:=λj=>[.own 57 5 ((i.ords.take j).map vJ)]}]
def fS (a:ArL):=(aa zLg (a.a.ents a.l))
def z8t (i:BoI):Prop:=
 ∃(a:ArL),a.n=i.r.queue/\aq Arena 3 zF a.a=aq Arena 3 zF i.b.a/\a.a.listOk a.n a.l/\∀(b:Unit),True->∃(c:Nat),(↑c:Int)=0/\aa vJ (ac c i.ords)=[]/\∃(d:Nat->Prop),∃(e:Nat->Nat),d c/\∀(f:Nat),d f->cnd (decide ((↑f:Int)<(↑(fS a).length:Int))) ((0<=(↑f:Int)/\(↑f:Int)<(↑(fS a).length:Int))/\∃(g:Int),∃(h:Int),∃(j:Int),∃(k:Bool),zE (fS a) (↑f:Int).toNat 0 4=az [dI g,dI h,dI j,D.v (.bool k)]/\((aa vJ (ac f i.ords)).length+1)*(40:Nat)<=(140737488355328:Nat)/\∃(l:Nat),(↑l:Int)=bo.wrap ((↑f:Int)+1)/\aa vJ (ac l i.ords)=aa vJ (ac f i.ords)++[[dI h,dI i.s,dI i.r.price,dI j,D.v (.bool k)]]/\d l/\e l<e f/\dh (aq Arena 3 zF a.a)/\dh (au 247 4 (fS a))/\dh (ar [V.d (dI i.r.price),V.d (dI i.r.queue)] 255)/\dh (ar [V.nm 1 0,V.own 2,V.own 3,V.mp 4,V.d (dI i.b.top1),V.d (dI i.b.top2),V.own 5,V.d (D.v (.bool i.b.has1)),V.d (D.v (.bool i.b.has2))] (245:ce))/\dh (au 255 2 (aa zB i.b.buys))/\dh (au 255 2 (aa zB i.b.sells))/\dh (aw (atE i.b.at_))/\dh (au 3 1 (iE i.b.spare))) (∃(g:Unit),dh i.b.top1/\dh i.b.top2/\dh i.b.has1/\dh i.b.has2/\aq Arena 3 zF i.b.a=aq Arena 3 zF a.a/\dh (aa zB i.b.buys)/\dh (aa zB i.b.sells)/\dh (atE i.b.at_)/\dh (iE i.b.spare)/\aa vJ i.ords=aa vJ (ac f i.ords)/\True)
def y7n {l:List Ent} {k:Nat} {e:Ent} (h:l[k]? =az e):zE (l.map zLg) k 0 4=az [D.v (.int .i64 e.slot),.v (.int .i64 e.id),.v (.int .i64 e.qty),.v (.bool e.top)]:=elA h (by simp[zLg]) rfl
def yRj (i:BoI) (h:ordersC.cnd i):z8t i:=by
 have h:i.b.a.listOk i.r.queue i.l:=h;have hl:=h.len;have hen:(i.b.a.ents i.l).length=i.l.length:=by simp[Arena.ents]
 have hol:i.ords.length=i.l.length:=by simp[BoI.ords,Arena.ents]
 unfold z8t fS dI;refine⟨⟨i.b.a,i.r.queue,i.l⟩,rfl,rfl,h,λ_ _=> ?_⟩;simp only[y8b];refine⟨0,rfl,rfl,λj=>j<=i.l.length,λj=>i.l.length-j,y9c _,λj hj=>zI (λc=> ?_) (λc=> ?_)⟩
 ·obtain⟨e,he⟩:=yC (l:=i.b.a.ents i.l) (i:=j) oM;have ho:i.ords[j]? =az ⟨e.id,i.s,i.r.price,e.qty,e.top⟩:=by rw[BoI.ords,y9r,he];rfl
  refine⟨⟨oM,oM⟩,e.slot,e.id,e.qty,e.top,y7n he,by rw[y8t];omega,j+1,wjn oM,?_,oM,Z9,k0q⟩;rw[y9g,ho];simp[vJ]
 ·have hje:j=i.l.length:=by omega
  subst hje;rw[y8l (l:=i.ords) (by omega)]
  exact kp
def zSu:ordersC.ok Tryz.prog 209:=okw mixed (gokc yFu gok0) 0 (λ_=>[]) (λi=>yNj i) [0] Tryz.func209 yRj
open Go Go.RowKit Cv
def z1m {P:bz} {tS rt e sz by_:Nat} {z:Array bu} (hi:vZ P tS=az (e,sz,by_,z)) {w:bv} {g i c n k:Nat} {A:Option cf} {cur src:List bu} {T:ce}
 (hg:w.heap[g]? =az (.cells cur.toArray T (0,0))) (hs:(be sz n (.slice A n k)).run P w= .ok src.toArray w) (hl:src.length=n*sz) (hfit:i+n<=c) (hroom:i*sz+n*sz<=cur.length) (hone:∀v∈src,v.oneC=ax):
 gE P (bg #[tS,tS] rt #[.slice (az ⟨g,0,ba⟩) i c,.slice A n k]) w (.slice (az ⟨g,0,ba⟩) (i+n) c) (World.setB w g (.cells (spl cur (i*sz) src).toArray T (0,0))):=by
 obtain⟨inf,zv,q1,q2,rfl,rfl,q5,rfl⟩:=kV hi;have hst:=wH (P:=P) src 0 (i*inf.size) cur w hg oM hone;simp only[xCj]at hst;have hln:∀w,(Builtin.lenOf (.slice A n k)).run P w= .ok n w:=λw=>rfl
 unfold gE bg;simp only[xAb,xAl,y9z,bind,pure,run_bind,Sem.bind,Sem.run,Cv.run_underlying q1,Cv.run_sizeOf q2,y8u,if_false,hs,hln,hfit,if_true,uE,y8z,hst,xDd]
def z6f {P:bz} {tS ty e sz by_:Nat} {z:Array bu} (hi:vZ P tS=az (e,sz,by_,z)) (hz:z.size=sz) (h1:∀v∈z.toList,v.oneC=ax) {w:bv} {g o n c:Nat} {cur:List bu} {T:ce} (hn:0<n)
 (hg:w.heap[g]? =az (.cells cur.toArray T (0,0))) (hroom:o+n*sz<=cur.length):
 gE P (Builtin.clear_ #[tS] ty #[.slice (az ⟨g,o,ba⟩) n c]) w (.tuple #[]) (World.setB w g (.cells (spl cur o (bc z n).toList).toArray T (0,0))):=by
 obtain⟨inf,zv,q1,q2,rfl,rfl,q5,rfl⟩:=kV hi;have hlz:(bc zv.cells n).toList.length=n*inf.size:=by rw[xBy,cd,hz]
 have hst:=wH (P:=P) (bc zv.cells n).toList 0 o cur w hg oM (by
  intro v hv;obtain⟨i,hi,rfl⟩:=List.getElem_of_mem hv;simp only[bc,Array.getElem_toList,Array.getElem_map,Array.getElem_range];have hpos:0<zv.cells.size:=by
   rcases Nat.eq_zero_or_pos zv.cells.size with h0|h0
   ·rw[hlz,<- hz,h0]at hi;omega
   ·exact h0
  have hlt:i % zv.cells.size<zv.cells.size:=Nat.mod_lt _ hpos;rw[getElem!_pos zv.cells (i % zv.cells.size) hlt];exact h1 _ (by simp))
 simp only[xCj]at hst;have hzr:∀w,(zeroValue e).run P w= .ok zv w:=λw=>zero_run (by unfold zero?;rw[q2];exact q5) w
 obtain⟨m,rfl⟩:∃m,n=m+1:=⟨n-1,oM⟩
 unfold gE Builtin.clear_;simp only[xAb,xAl,y9z,bind,pure,run_bind,Sem.bind,Sem.run,Cv.run_underlying q1,hzr,hst]
def yUl (P:bz) (tS sz:Nat) (s:Option cf) (sn sk:Nat) (i j:Int) (w:bv) (R:Ending->bv->Prop):Prop:=
yYy s sk i j (sn:Int) sz λa1 na1 ka1=>
cnd ((i:Int)==j) (
R (.returned (.slice s sn sk)) w) (
z8b w λw2=>
slN s sn sk ba (az i) sz λa3 na3 ka3=>
slN s sn sk (az j) ba sz λa4 na4 ka4=>
∃(a5:Option cf) (na5 ka5:Nat),∃w6:bv,gE P (bg #[tS,tS] tS #[.slice a3 na3 ka3,.slice a4 na4 ka4]) w2 (.slice a5 na5 ka5) w6/\
slN a5 na5 ka5 (az (na5:Int)) (az (sn:Int)) sz λa7 na7 ka7=>
∃w8:bv,gE P (Builtin.clear_ #[tS] 0 #[.slice a7 na7 ka7]) w6 (.tuple #[]) w8/\
R (.returned (.slice a5 na5 ka5)) w8)
def y7o {P:bz} {tS e sz by_:Nat} {z:Array bu} (hi:vZ P tS=az (e,sz,by_,z)) (hz:z.size=sz) (hz1:∀v∈z.toList,v.oneC=ax)
 {k:Ko} {w:bv} {L:List HP} {s:Option cf} {sn sk i j:Nat} {xs:List bu} (H:Hp k w (slO e sz s sn sk xs::L)) (h1:∀u∈xs,u.oneC=ax) (hij:i<j) (hj:j<=sn):
 yUl P tS sz s sn sk i j w λen w'=>∃a kk,en= .returned (.slice a (sn-(j-i)) kk)/\Hp k w' (slO e sz a (sn-(j-i)) kk (xs.take (i*sz)++xs.drop (j*sz))::L):=by
 obtain⟨hxl,hnk⟩:=H.len;rcases H.slcases with⟨_,e0,_⟩|⟨b,r,rfl,g1,g2,g3,H0⟩
 ·omega
 have hle:i*sz<=xs.length:=by rw[hxl];exact y9n _ oM
 have hjle:j*sz<=xs.length:=by rw[hxl];exact y9n _ hj
 have hdl:(xs.drop (j*sz)).length=(sn-j)*sz:=by rw[y8y,hxl,Nat.sub_mul]
 have hsum:i*sz+(sn-j)*sz=(sn-(j-i))*sz:=by rw[<- xBe];congr 1;omega
 have hsum2:i*sz+(sn-j)*sz+(j-i)*sz=sn*sz:=by rw[<- xBe,<- xBe];congr 1;omega
 have hsum3:j*sz+(sn-j)*sz=sn*sz:=by rw[<- xBe];congr 1;omega
 have hlen:(xs++r).length=xs.length+r.length:=y8a;unfold yUl;simp only[yYy,slN,y8s];refine⟨⟨oM,oM,oM,oM⟩,Cv.cnd.mk (λc=>absurd c (by simp;omega)) λ_=> ?_⟩;rintro _ rfl;have H1:=H0.drew;have hsrc:(be sz (sn-j) (.slice (if sk=j then az ⟨b,0,ba⟩else(az ⟨b,0,ba⟩:Option cf).map (·.add (j*sz))) (sn-j) (sk-j))).run P w.drew= .ok (xs.drop (j*sz)).toArray w.drew:=by
  by_cases h0:(sn-j)*sz=0
  ·have:xs.drop (j*sz)=[]:=y9a oM;rw[this];by_cases hk:sk=j
   ·rw[y8c hk];unfold be;rw[h0];rfl
   ·rw[y7z hk,xAd,uE];unfold be;rw[h0];rfl
  ·have hk:sk≠j:=by rintro rfl;have:sn-sk=0:=by omega
                    rw[this]at h0;simp at h0
   rw[y7z hk,xAd,uE];unfold be;rw[gN H1.get (by rw[hlen];omega)];rw[y8z,xAs hjle,y9d (by omega),y8l (by omega)]
 refine⟨⟨oM,oM⟩,⟨oM,oM,hnk⟩,_,_,_,_,z1m (i:=i) (c:=sk) hi H1.get hsrc hdl oM (by rw[hlen];omega) (λv hv=>h1 v (xBv hv)),⟨oM,oM,oM⟩,?_⟩;have H2:=H1.upd (.cells (spl (xs++r) (i*sz) (xs.drop (j*sz))).toArray e);have e1:i+(sn-j)=sn-(j-i):=by omega
 rw[y7z (show sk≠i+(sn-j)by omega),xAd,uE,y8z,e1];have espl:spl (xs++r) (i*sz) (xs.drop (j*sz))=(xs.take (i*sz)++xs.drop (j*sz))++(xs++r).drop ((sn-(j-i))*sz):=by
  simp only[spl];rw[y9d hle,hdl,hsum]
 rw[espl]at H2;have hA:(xs.take (i*sz)++xs.drop (j*sz)).length=(sn-(j-i))*sz:=by
  rw[y8a,y8t,hdl];omega
 have hB:((xs++r).drop ((sn-(j-i))*sz)).length=(j-i)*sz+r.length:=by
  rw[y8y,hlen];omega
 rw[espl];have hn:sn-(sn-(j-i))=j-i:=by omega
 rw[hn];refine⟨_,z6f hi hz hz1 oM H2.get (by rw[y8a,hA,hB];omega),_,_,rfl,?_⟩;have H3:=H2.upd (.cells (spl (xs.take (i*sz)++xs.drop (j*sz)++(xs++r).drop ((sn-(j-i))*sz)) ((sn-(j-i))*sz) (bc z (j-i)).toList).toArray e);have es:=zVs (xs.take (i*sz)++xs.drop (j*sz)) ((xs++r).drop ((sn-(j-i))*sz)) (bc z (j-i)).toList;rw[hA]at es;rw[es]at H3;rw[es];rw[y8g (xs.take (i*sz)++xs.drop (j*sz))]at H3 ⊢;have hzl:(bc z (j-i)).toList.length=(j-i)*sz:=by rw[xBy,cd,hz]
 refine H3.slmk hA ?_ oM;rw[y8a,hA,y8a,hzl,y8y,hB,<- g2,hlen,hxl];omega
structure yXh where
 els:List (List D)
 i:Nat
 j:Nat
def yXo (e sz:Nat):Con where
 ι:=yXh
 pat:=λi=>[.own 0,.d (.v (.int .i64 i.i)),.d (.v (.int .i64 i.j))]
 pre:=λi=>[.own e sz i.els]
 cnd:=λi=>i.i<i.j/\i.j<=i.els.length
 alts:=λi=>[{o:=Unit,res:=λ_=> .own 1,post:=λ_=>[.gone,.own e sz (i.els.take i.i++i.els.drop i.j)],rel:=λ_=>True}]
def delX_ok {P:bz} (hm:P.follows .mixedOrders=ax) {tS e sz by_ fI:Nat} {z:Array bu} {fn:Func} {c:Code} (hf:P.funcs[fI]? =az fn) (hb:fn.body=az c) (hbd:uU P fI=ax) (hok:okC fn.ntmps c=ax) (hfx:okF [] c=ax) (hsz3:Nat.ble 3 fn.ntmps=ax)
 (hi:vZ P tS=az (e,sz,by_,z)) (hz:z.size=sz) (hz1:∀v∈z.toList,v.oneC=ax)
 (heq:∀(s:Option cf) (sn sk:Nat) (i j:Int) (w:bv) (R:Ending->bv->Prop),yUl P tS sz s sn sk i j w R=cwp P [] c (zWe P fn R) (uK [.slice s sn sk,.int .i64 i,.int .i64 j]) w):
 (yXo e sz).ok P fI:=by
 intro i hc k L E w ys R hv;obtain⟨c1,c2⟩:i.i<i.j/\i.j<=i.els.length:=hc;simp only[yXo,VRL,VR,DR]at hv;obtain⟨y0,_,rfl,⟨l0,e0,_⟩,y1,_,rfl,⟨rfl,_⟩,y2,_,rfl,⟨rfl,_⟩,rfl⟩:=hv;obtain⟨s,sk,xs,sub0,g1,hxs,hu,H⟩:=R.ownOpen (n:=0) (t:=e) (sz:=sz) (els:=i.els) rfl;rw[e0]at g1;cases g1;have H2:Hp k w (slO e sz s i.els.length sk xs::fz E.F::L):=H;have hv:=y7o hi hz hz1 H2 hxs.one c1 c2;have hcall:=zKp (args:=[.slice s i.els.length sk,.int .i64 i.i,.int .i64 i.j]) hm hf hb [] hok hfx hsz3 (heq s i.els.length sk i.i i.j w _) hv;refine mL hbd (hcall.mono ?_);rintro en w' ⟨a,kk,rfl,H3⟩;have hl:(i.els.take i.i++i.els.drop i.j).length=i.els.length-(i.j-i.i):=by
  rw[y8a,y8t,y8y];omega
 have H4:Hp k w' (slO e sz a (i.els.take i.i++i.els.drop i.j).length kk (xs.take (i.i*sz)++xs.drop (i.j*sz))::(([]:List (Nat×AObj)).map (rHP E)++fz E.F::L)):=by
  rw[hl];exact H3
 obtain⟨E',r1,r2,r3⟩:=cX (nx:=1) R.nx (by
  rw[xDb,<- nW i.i hu,<- pE i.j hu];exact(hxs.take _).append (hxs.drop _)) (λx hx=>by
   rcases y9f.1 hx with hx|hx
   ·exact hu x (xCu hx)
   ·exact hu x (xBv hx)) H4
 rw[hl]at r3;refine⟨_,rfl,_,y9u.2 rfl,(),trivial,E',r1,r3,⟨r2.nx,?_⟩⟩;exact((@hU k w' True _).2 ⟨trivial,r2.hp⟩).imp (B:=rHP E' (0,.gone)) λx hx=> .inl ⟨rfl,hx.2⟩
def nM (k:Int):List (Int×Place)->List (Int×Place)
 |[]=>[]
 |(a,b)::l=>if k=a then l else(a,b)::nM k l
structure DrI where
 b:Book
 id:Int
 price:Int
 slot:Int
def Book.unhas (b:Book) (s id:Int):Book:=if b.hasF s=ax/\b.topI s=id then(if s=1 then{b with has1:=ay}else{b with has2:=ay})else b
def Book.dropF (b:Book) (s id price:Int):Book:=
 if(b.a.qAt ((b.rungs s).getD (z6 s (b.rungs s) price) ⟨0,0⟩).queue).count=0 then
  ({b.unhas s id with at_:=nM id b.at_,spare:=b.spare++[((b.rungs s).getD (z6 s (b.rungs s) price) ⟨0,0⟩).queue]}:Book).setR s ((b.rungs s).take (z6 s (b.rungs s) price)++(b.rungs s).drop (z6 s (b.rungs s) price+1))
 else{b.unhas s id with at_:=nM id b.at_}
def yOq (b:Book):AObj:= .cells [.nm 1 0,.own 6,.own 7,.mp 4,zA b.top1,zA b.top2,.own 8,yK b.has1,yK b.has2] 245
@[reducible] def ySu (b:Book):List AObj:=[yOq b,zQ b 1,.gone,.gone,zQ b 4,.gone,zQ b 2,zQ b 3,zQ b 5]
@[reducible] def DrI.ok (i:DrI) (s:Int):Prop:=i.b.small/\z6 s (i.b.rungs s) i.price<(i.b.rungs s).length
def yLr (s:Int):Con:=con1 DrI (λi=>[.nm 0 0,zA i.id,.agg [zA s,zA i.price,zA i.slot]]) (λi=>zKk i.b) (λi=>i.ok s) (λ_=>tU) (λi=>ySu (i.b.dropF s i.id i.price))
def drop1C:Con:=yLr 1
def drop2C:Con:=yLr 2
structure DrJ where
 i:DrI
 s:Bool
def dropC:Con:=con1 DrJ (λj=>[.nm 0 0,zA j.i.id,.agg [zA (zD j.s),zA j.i.price,zA j.i.slot]]) (λj=>zKk j.i.b) (λj=>j.i.ok (zD j.s)) (λ_=>tU) (λj=>ySu (j.i.b.dropF (zD j.s) j.i.id j.i.price))
def delRC:Con:=yXo 255 2
def yVe:zH:=⟨0,0,0,0,ay⟩
def cA (L:List zH) (id:Int):zH:=(L.find? λo=>decide (o.id=id)).getD yVe
def hZ (L:List zH) (id q:Int):List zH:=L.filterMap λo=>if o.id=id then(if o.qty=q then ba else az {o with qty:=o.qty-q})else az o
def qC (L:List zH) (id q:Int):List zH×Int:=if wS L id=ay then(L,26)else if q<1\/(cA L id).qty<q then(L,24)else(hZ L id q,0)
def atL (L:List zH) (s p:Int):List zH:=L.filter λo=>decide (o.side=s) && decide (o.price=p)
def grp:List zH->List Lv
 |[]=>[]
 |o::l=>match grp l with
  |[]=>[⟨o.price,o.qty,1⟩]
  |v::vs=>if v.price=o.price then⟨v.price,o.qty+v.qty,v.count+1⟩::vs else⟨o.price,o.qty,1⟩::v::vs
def gK (L:List zH) (s:Int):List Lv:=grp (L.filter λo=>decide (o.side=s))
def bestL (L:List zH) (s:Int):Lv×Bool:=match gK L s with
 |[]=>(⟨0,0,0⟩,ay)
 |v::_=>(v,ax)
structure BkL where
 b:Book
 L:List zH
structure FlI where
 b:Book
 L:List zH
 id:Int
 qty:Int
structure AtI where
 b:Book
 L:List zH
 s:Bool
 price:Int
def fillC:Con where
 ι:=FlI
 pat:=λi=>[.nm 0 0,zA i.id,zA i.qty]
 pre:=λi=>[yB i.b]
 cnd:=λi=>i.b.Rep i.L
 alts:=λi=>[{o:=Book,res:=λ_=>zA (qC i.L i.id i.qty).2,post:=λb=>[yB b],rel:=λb=>b.Rep (qC i.L i.id i.qty).1}]
def bfindC:Con:=con1 FlI (λi=>[.nm 0 0,zA i.id]) (λi=>[yB i.b]) (λi=>i.b.Rep i.L) (λi=> .tup [z4d (cA i.L i.id),yK (wS i.L i.id)]) (λi=>[yB i.b])
def y1z (s:Bool):Con:=con1 AtI (λi=>[.nm 0 0,zA (zD s),zA i.price]) (λi=>[yB i.b]) (λi=>i.b.Rep i.L) (λ_=> .own 1) (λi=>[yB i.b,.own 57 5 ((atL i.L (zD s) i.price).map vJ)])
def at1C:Con:=y1z ay
def at2C:Con:=y1z ax
def atC:Con:=con1 AtI (λi=>[.nm 0 0,zA (zD i.s),zA i.price]) (λi=>[yB i.b]) (λi=>i.b.Rep i.L) (λ_=> .own 1) (λi=>[yB i.b,.own 57 5 ((atL i.L (zD i.s) i.price).map vJ)])
def xB (a:DrI):=(a.b.dropF 1 a.id a.price)
def zHn (a:BkP) (b:DrI):Prop:=a.b.has2=b.b.has2/\aq Arena 3 zF a.b.a=zQ b.b 1/\aa zB a.b.buys=aa zB b.b.buys/\aa zB a.b.sells=aa zB b.b.sells/\atE a.b.at_=zBw (cg bo b.id) (atE b.b.at_)/\iE a.b.spare=iE b.b.spare/\(qG a)/\∀(c:Unit),True->(fA a)/\∃(d:Int),zE (aa zB a.b.buys) (xY a).toNat 1 1=az [dI d]/\∃(e:ArN),e.n=d/\aq Arena 3 zF e.a=aq Arena 3 zF a.b.a/\True/\∀(f:Unit),True->cnd ((e.a.qAt e.n).count==0) (((iE a.b.spare).length+1)*(8:Nat)<=(140737488355328:Nat)/\∃(g:yXh),(↑g.i:Int)=(xY a)/\(↑g.j:Int)=bo.wrap ((xY a)+1)/\g.els=aa zB a.b.buys/\(g.i<g.j/\g.j<=g.els.length)/\∀(h:Unit),True->dh ((1:Int))/\∃(j:Unit),(xB b).top1=a.b.top1/\(xB b).top2=a.b.top2/\(xB b).has1=a.b.has1/\(xB b).has2=a.b.has2/\aq Arena 3 zF (xB b).a=aq Arena 3 zF e.a/\atE (xB b).at_=atE a.b.at_/\aa zB (xB b).buys=ac g.i g.els++ap g.j g.els/\aa zB (xB b).sells=aa zB a.b.sells/\iE (xB b).spare=iE a.b.spare++[[dI d]]/\True) (∃(g:Unit),(xB b).top1=a.b.top1/\(xB b).top2=a.b.top2/\(xB b).has1=a.b.has1/\(xB b).has2=a.b.has2/\aq Arena 3 zF (xB b).a=aq Arena 3 zF e.a/\atE (xB b).at_=atE a.b.at_/\aa zB (xB b).buys=aa zB a.b.buys/\aa zB (xB b).sells=aa zB a.b.sells/\iE (xB b).spare=iE a.b.spare/\True)
def zHi (a:DrI):Prop:=∃(b:BkP),dh ((1:Int))/\b.price=a.price/\b.b.top1=a.b.top1/\b.b.top2=a.b.top2/\b.b.has1=a.b.has1/\zHn b a
def yJs (i:DrI):Prop:=
 (∀(a:bu×List D),a∈atE i.b.at_->like (cg bo i.id) a.fst=ax)/\cnd i.b.has1 (cnd (i.b.top1==i.id) (∃(a:BkP),dh ((1:Int))/\a.price=i.price/\a.b.top1=i.b.top1/\a.b.top2=i.b.top2/\a.b.has1=ay/\zHn a i) (zHi i)) (zHi i)
def xA (a:DrI):=(a.b.dropF 2 a.id a.price)
def zJl (a:BkP) (b:DrI):Prop:=aq Arena 3 zF a.b.a=zQ b.b 1/\aa zB a.b.buys=aa zB b.b.buys/\aa zB a.b.sells=aa zB b.b.sells/\atE a.b.at_=zBw (cg bo b.id) (atE b.b.at_)/\iE a.b.spare=iE b.b.spare/\(qG a)/\∀(c:Unit),True->(fC a)/\∃(d:Int),zE (aa zB a.b.sells) (xZ a).toNat 1 1=az [dI d]/\∃(e:ArN),e.n=d/\aq Arena 3 zF e.a=aq Arena 3 zF a.b.a/\True/\∀(f:Unit),True->cnd ((e.a.qAt e.n).count==0) (((iE a.b.spare).length+1)*(8:Nat)<=(140737488355328:Nat)/\∃(g:yXh),(↑g.i:Int)=(xZ a)/\(↑g.j:Int)=bo.wrap ((xZ a)+1)/\g.els=aa zB a.b.sells/\(g.i<g.j/\g.j<=g.els.length)/\∀(h:Unit),True->dh ((2:Int))/\∃(j:Unit),(xA b).top1=a.b.top1/\(xA b).top2=a.b.top2/\(xA b).has1=a.b.has1/\(xA b).has2=a.b.has2/\aq Arena 3 zF (xA b).a=aq Arena 3 zF e.a/\atE (xA b).at_=atE a.b.at_/\aa zB (xA b).buys=aa zB a.b.buys/\aa zB (xA b).sells=ac g.i g.els++ap g.j g.els/\iE (xA b).spare=iE a.b.spare++[[dI d]]/\True) (∃(g:Unit),(xA b).top1=a.b.top1/\(xA b).top2=a.b.top2/\(xA b).has1=a.b.has1/\(xA b).has2=a.b.has2/\aq Arena 3 zF (xA b).a=aq Arena 3 zF e.a/\atE (xA b).at_=atE a.b.at_/\aa zB (xA b).buys=aa zB a.b.buys/\aa zB (xA b).sells=aa zB a.b.sells/\iE (xA b).spare=iE a.b.spare/\True)
def zIw (a:DrI):Prop:=∃(b:BkP),dh ((2:Int))/\b.price=a.price/\b.b.top1=a.b.top1/\b.b.top2=a.b.top2/\b.b.has1=a.b.has1/\b.b.has2=a.b.has2/\zJl b a
def yKc (i:DrI):Prop:=
 (∀(a:bu×List D),a∈atE i.b.at_->like (cg bo i.id) a.fst=ax)/\cnd i.b.has2 (cnd (i.b.top2==i.id) (∃(a:BkP),dh ((2:Int))/\a.price=i.price/\a.b.top1=i.b.top1/\a.b.top2=i.b.top2/\a.b.has1=i.b.has1/\a.b.has2=ay/\zJl a i) (zIw i)) (zIw i)
def zDr (a:FlI):Prop:=aa zB a.b.buys=aa zB a.b.buys/\dh (aa zB a.b.sells)/\dh (atE a.b.at_)/\dh (iE a.b.spare)/\True
def zJi (a:Int) (b:FlI) (c:Int) (d:Int):Prop:=∃(e:ArN),e.n=a/\aq Arena 3 zF e.a=aq Arena 3 zF b.b.a/\e.a.slots.length<=1000000/\∀(f:Unit),True->∃(g:Unit),(cA b.L b.id).id=b.id/\(cA b.L b.id).side=c/\(cA b.L b.id).price=d/\(cA b.L b.id).qty=(e.a.getF e.n).fst.qty/\(cA b.L b.id).top=(e.a.getF e.n).fst.top/\wS b.L b.id=ax/\dh b.b.top1/\dh b.b.top2/\dh b.b.has1/\dh b.b.has2/\aq Arena 3 zF b.b.a=aq Arena 3 zF e.a/\zDr b
def sU (a:FlI) (b:Int) (c:Int) (d:Int) (e:Bool):Prop:=kW (cg bo a.id) (atE a.b.at_)=az [dI b,dI c,dI d]/\e=ax\/kW (cg bo a.id) (atE a.b.at_)=ba/\[dI b,dI c,dI d]=[dI 0,dI 0,dI 0]/\e=ay
def yJi (i:FlI):Prop:=
 (∀(a:bu×List D),a∈atE i.b.at_->like (cg bo i.id) a.fst=ax)/\∃(a:Bool),∃(b:Int),∃(c:Int),∃(d:Int),(sU i b c d a)/\cnd (!a) (∃(e:Unit),(cA i.L i.id).id=0/\(cA i.L i.id).side=0/\(cA i.L i.id).price=0/\(cA i.L i.id).qty=0/\(cA i.L i.id).top=ay/\wS i.L i.id=ay/\dh i.b.top1/\dh i.b.top2/\dh i.b.has1/\dh i.b.has2/\dh (aq Arena 3 zF i.b.a)/\zDr i) ((zJi d i b c)/\d=d/\True/\zJi d i b c)
def zAa (a:Book) (b:FlI):Prop:=aa zB a.buys=aa zB b.b.buys/\aa zB a.sells=aa zB b.b.sells/\atE a.at_=atE b.b.at_/\iE a.spare=iE b.b.spare/\a.Rep (qC b.L b.id b.qty).fst
def vO (a:DrJ):=(a.i.b.dropF (zD a.s) a.i.id a.i.price)
def zNr (a:FlI) (b:Int) (c:Int) (d:Int) (e:ArN):Prop:=∃(f:DrJ),f.i.id=a.id/\zD f.s=b/\f.i.price=c/\f.i.slot=d/\f.i.b.top1=a.b.top1/\f.i.b.top2=a.b.top2/\f.i.b.has1=a.b.has1/\f.i.b.has2=a.b.has2/\aq Arena 3 zF f.i.b.a=aq Arena 3 zF e.a/\aa zB f.i.b.buys=aa zB a.b.buys/\aa zB f.i.b.sells=aa zB a.b.sells/\atE f.i.b.at_=atE a.b.at_/\iE f.i.b.spare=iE a.b.spare/\(((f.i.b.a.slots.length<=1000000/\f.i.b.a.queues.length<=1000000)/\f.i.b.buys.length<=1000000/\f.i.b.sells.length<=1000000/\f.i.b.spare.length<=1000000)/\z6 (zD f.s) (f.i.b.rungs (zD f.s)) f.i.price<(f.i.b.rungs (zD f.s)).length)/\∀(g:Unit),True->∃(h:Book),(qC a.L a.id a.qty).snd=0/\h.top1=(vO f).top1/\h.top2=(vO f).top2/\h.has1=(vO f).has1/\h.has2=(vO f).has2/\aq Arena 3 zF h.a=aq Arena 3 zF (vO f).a/\aa zB h.buys=aa zB (vO f).buys/\aa zB h.sells=aa zB (vO f).sells/\atE h.at_=atE (vO f).at_/\iE h.spare=iE (vO f).spare/\h.Rep (qC a.L a.id a.qty).fst
def zWa (a:Int) (b:TkI) (c:FlI) (d:Int) (e:Int):Prop:=∃(f:ArN),f.n=a/\aq Arena 3 zF f.a=aq Arena 3 zF (b.a.takeF b.n b.qty).fst/\f.a.slots.length<=1000000/\∀(g:Unit),True->cnd (!(f.a.getF f.n).snd) (zNr c d e a f) (cnd ((f.a.getF f.n).fst.id !=c.id) (zNr c d e a f) (∃(h:Book),(qC c.L c.id c.qty).snd=0/\h.top1=c.b.top1/\h.top2=c.b.top2/\h.has1=c.b.has1/\h.has2=c.b.has2/\aq Arena 3 zF h.a=aq Arena 3 zF f.a/\zAa h c))
def yTi (i:FlI):Prop:=
 (∀(a:bu×List D),a∈atE i.b.at_->like (cg bo i.id) a.fst=ax)/\∃(a:Bool),∃(b:Int),∃(c:Int),∃(d:Int),(sU i b c d a)/\cnd (!a) (∃(e:Book),(qC i.L i.id i.qty).snd=26/\e.top1=i.b.top1/\e.top2=i.b.top2/\e.has1=i.b.has1/\e.has2=i.b.has2/\aq Arena 3 zF e.a=aq Arena 3 zF i.b.a/\zAa e i) (∃(e:TkI),e.n=d/\e.qty=i.qty/\aq Arena 3 zF e.a=aq Arena 3 zF i.b.a/\(e.a.slots.length<=1000000/\∀(k:Nat) (s:Slot),e.a.slots[k]?=az s->s.used=ax->(0<=s.queue/\s.queue<(↑e.a.queues.length:Int))/\s.qty<=1000000/\(s.ahead=(-1)\/0<=s.ahead/\s.ahead<(↑e.a.slots.length:Int)/\s.ahead≠(↑k:Int))/\(s.back=(-1)\/0<=s.back/\s.back<(↑e.a.slots.length:Int)/\s.back≠(↑k:Int)))/\∀(f:Unit),True->cnd ((e.a.takeF e.n e.qty).snd !=0) (∃(g:Book),(qC i.L i.id i.qty).snd=(e.a.takeF e.n e.qty).snd/\g.top1=i.b.top1/\g.top2=i.b.top2/\g.has1=i.b.has1/\g.has2=i.b.has2/\aq Arena 3 zF g.a=aq Arena 3 zF (e.a.takeF e.n e.qty).fst/\zAa g i) ((zWa d e i b c)/\d=d/\True/\zWa d e i b c))
def y3k (i:AtI):Prop:=
 ∃(a:Int),a=zD ay/\True/\∀(b:Unit),True->cnd (kH a) (∃(c:Unit),dh i.b.top1/\dh i.b.top2/\dh i.b.has1/\dh i.b.has2/\dh (aq Arena 3 zF i.b.a)/\dh (aa zB i.b.buys)/\dh (aa zB i.b.sells)/\dh (atE i.b.at_)/\dh (iE i.b.spare)/\aa vJ (atL i.L (zD ay) i.price)=[]/\True) (∃(c:BkP),1=zD ay/\c.price=i.price/\c.b.top1=i.b.top1/\c.b.top2=i.b.top2/\c.b.has1=i.b.has1/\c.b.has2=i.b.has2/\aq Arena 3 zF c.b.a=aq Arena 3 zF i.b.a/\aa zB c.b.buys=aa zB i.b.buys/\aa zB c.b.sells=aa zB i.b.sells/\atE c.b.at_=atE i.b.at_/\iE c.b.spare=iE i.b.spare/\(qG c)/\∀(d:Unit),True->cnd (!kY 1 (c.b.rungs 1) c.price) (∃(e:Unit),i.b.top1=c.b.top1/\i.b.top2=c.b.top2/\i.b.has1=c.b.has1/\i.b.has2=c.b.has2/\aq Arena 3 zF i.b.a=aq Arena 3 zF c.b.a/\aa zB i.b.buys=aa zB c.b.buys/\aa zB i.b.sells=aa zB c.b.sells/\atE i.b.at_=atE c.b.at_/\iE i.b.spare=iE c.b.spare/\aa vJ (atL i.L (zD ay) i.price)=[]/\True) ((fA c)/\∃(e:Int),∃(f:Int),zE (aa zB c.b.buys) (xY c).toNat 0 2=az [dI e,dI f]/\∃(g:BoI),g.s=zD ay/\g.r.price=e/\g.r.queue=f/\g.b.top1=c.b.top1/\g.b.top2=c.b.top2/\g.b.has1=c.b.has1/\g.b.has2=c.b.has2/\aq Arena 3 zF g.b.a=aq Arena 3 zF c.b.a/\aa zB g.b.buys=aa zB c.b.buys/\aa zB g.b.sells=aa zB c.b.sells/\atE g.b.at_=atE c.b.at_/\iE g.b.spare=iE c.b.spare/\g.b.a.listOk g.r.queue g.l/\∀(h:Unit),True->∃(j:Unit),yB i.b=yB g.b/\aa vJ (atL i.L (zD ay) i.price)=aa vJ g.ords/\True))
def y4s (i:AtI):Prop:=
 ∃(a:Int),a=zD ax/\True/\∀(b:Unit),True->cnd (kH a) (∃(c:Unit),dh i.b.top1/\dh i.b.top2/\dh i.b.has1/\dh i.b.has2/\dh (aq Arena 3 zF i.b.a)/\dh (aa zB i.b.buys)/\dh (aa zB i.b.sells)/\dh (atE i.b.at_)/\dh (iE i.b.spare)/\aa vJ (atL i.L (zD ax) i.price)=[]/\True) (∃(c:BkP),2=zD ax/\c.price=i.price/\c.b.top1=i.b.top1/\c.b.top2=i.b.top2/\c.b.has1=i.b.has1/\c.b.has2=i.b.has2/\aq Arena 3 zF c.b.a=aq Arena 3 zF i.b.a/\aa zB c.b.buys=aa zB i.b.buys/\aa zB c.b.sells=aa zB i.b.sells/\atE c.b.at_=atE i.b.at_/\iE c.b.spare=iE i.b.spare/\(qG c)/\∀(d:Unit),True->cnd (!kY 2 (c.b.rungs 2) c.price) (∃(e:Unit),i.b.top1=c.b.top1/\i.b.top2=c.b.top2/\i.b.has1=c.b.has1/\i.b.has2=c.b.has2/\aq Arena 3 zF i.b.a=aq Arena 3 zF c.b.a/\aa zB i.b.buys=aa zB c.b.buys/\aa zB i.b.sells=aa zB c.b.sells/\atE i.b.at_=atE c.b.at_/\iE i.b.spare=iE c.b.spare/\aa vJ (atL i.L (zD ax) i.price)=[]/\True) ((fC c)/\∃(e:Int),∃(f:Int),zE (aa zB c.b.sells) (xZ c).toNat 0 2=az [dI e,dI f]/\∃(g:BoI),g.s=zD ax/\g.r.price=e/\g.r.queue=f/\g.b.top1=c.b.top1/\g.b.top2=c.b.top2/\g.b.has1=c.b.has1/\g.b.has2=c.b.has2/\aq Arena 3 zF g.b.a=aq Arena 3 zF c.b.a/\aa zB g.b.buys=aa zB c.b.buys/\aa zB g.b.sells=aa zB c.b.sells/\atE g.b.at_=atE c.b.at_/\iE g.b.spare=iE c.b.spare/\g.b.a.listOk g.r.queue g.l/\∀(h:Unit),True->∃(j:Unit),yB i.b=yB g.b/\aa vJ (atL i.L (zD ax) i.price)=aa vJ g.ords/\True))
def tP {L:List zH} (h:(L.map (·.id)).Nodup) {o:zH} (ho:o∈L):cA L o.id=o:=by
 induction L with
 |nil=>cases ho
 |cons x L ih=>
  rw[y8p,xAq]at h;rw[cA,xEe];rcases y8v.1 ho with rfl|ho
  ·rw[y8r rfl];rfl
  ·have:x.id≠o.id:=λe=>h.1 (e▸y9e (f:=(·.id)) ho)
   rw[y8n this];exact ih h.2 ho
def mM {α β:Type} {f g:α->Option β}:∀{l:List α},(∀x∈l,f x=g x)->l.filterMap f=l.filterMap g
 |[],_=>rfl
 |x::l,h=>by rw[List.filterMap_cons,List.filterMap_cons,h x y8h,mM λy hy=>h y (y8i _ hy)]
def yVu {L:List zH} {id:Int} (h:wS L id=ay):cA L id=yVe:=by
 rw[cA];have:L.find? (λo=>decide (o.id=id))=ba:=by
  rw[List.find?_eq_none];intro o ho;rw[wS,xEg]at h;exact h o ho
 rw[this];rfl
structure Told (b:Book) (Q:List (List Nat)) (id:Int) (s:Int) (r:xO) (k:Nat):Prop where
 hs:s=1\/s=2
 hr:r∈b.rungs s
 hk:k∈xC Q r
 e:pget b.at_ id=az ⟨s,r.price,k⟩
 ident:(b.a.slotAt k).id=id
 get:cA (b.flat Q) id=vK b.a s r.price k
 has:wS (b.flat Q) id=ax
def yOa {b:Book} {Q:List (List Nat)} {s:Int} (hs:s=1\/s=2) {r:xO} (hr:r∈b.rungs s) {k:Nat} (hk:k∈xC Q r):vK b.a s r.price k∈b.flat Q:=
 flat_mem hs (xAt.2 ⟨r,hr,y9e hk⟩)
def Book.Core.told {b:Book} {Q:List (List Nat)} (c:b.Core Q (-1)) (id:Int):(pget b.at_ id=ba/\wS (b.flat Q) id=ay)\/∃s r k,Told b Q id s r k:=by
 cases hg:pget b.at_ id with
 |none=>
  have:=zIp hg;rw[c.keysP.mem_iff,<- hasId_iff]at this;exact .inl ⟨rfl,by simpa using this⟩
 |some x=>
  obtain⟨k,r,hs,hr,hk,hx,hid⟩:=c.plcI (lV hg);have hm:=yOa hs hr hk;have hget:=tP c.ids hm;have e:(vK b.a x.side r.price k).id=id:=hid;rw[e]at hget;exact .inr ⟨x.side,r,k,hs,hr,hk,by rw[hg];exact congrArg az hx,hid,hget,hasId_iff.2 (by rw[<- e];exact y9e hm)⟩
def Told.only {b:Book} {Q:List (List Nat)} (c:b.Core Q (-1)) {id s:Int} {r:xO} {k:Nat} (h:Told b Q id s r k) {s':Int} (hs':s'=1\/s'=2) {r':xO} (hr':r'∈b.rungs s') {j:Nat} (hj:j∈xC Q r'):(b.a.slotAt j).id=id↔j=k:=by
 constructor
 ·intro e;have h1:=c.plc hs' hr' hj;have h2:=c.plc h.hs h.hr h.hk;rw[e]at h1;rw[h.ident]at h2;have:=congrArg Place.slot (zLu c.keys h1 h2);dsimp only at this;omega
 ·rintro rfl;exact h.ident
def Book.Core.less {b:Book} {Q:List (List Nat)} (c:b.Core Q (-1)) (ht:b.Tops (b.flat Q)) {id s:Int} {r:xO} {k:Nat} (h:Told b Q id s r k) {q:Int} (hq:1<=q/\q<(b.a.slotAt k).qty):
 (b.a.takeF k q).2=0/\({b with a:=(b.a.takeF k q).1}:Book).Rep (hZ (b.flat Q) id q)/\(b.a.takeF k q).1.slots.length=250/\(b.a.takeF k q).1.getF k=((((b.a.takeF k q).1.slotAt k)).ent,ax)/\((b.a.takeF k q).1.slotAt k).id=id:=by
 obtain⟨t1,t2,t3⟩:=c.wf.take (c.get h.hs h.hr) h.hk (q:=q) ⟨hq.1,oM⟩;rw[y7z (by omega)]at t3;obtain⟨w,t4,t5⟩:=t3;have hent:∀j,((b.a.takeF k q).1.slotAt j).ent=if j=k then{(b.a.slotAt k).ent with qty:=(b.a.slotAt k).qty-q}else(b.a.slotAt j).ent:=by
  intro j;split
  ·rename_i e;rw[e,t4];rfl
  ·rename_i e;exact(t2 j e).1
 have hid:∀j,((b.a.takeF k q).1.slotAt j).id=(b.a.slotAt j).id:=by
  intro j;have:=congrArg Ent.id (hent j);split at this
  ·rename_i e;rw[e]at this ⊢;exact this
  ·exact this
 have hflat:({b with a:=(b.a.takeF k q).1}:Book).flat Q=hZ (b.flat Q) id q:=by
  have side:∀s',s'=1\/s'=2->({b with a:=(b.a.takeF k q).1}:Book).sideL Q s'=hZ (b.sideL Q s') id q:=by
   intro s' hs';rw[hZ,Book.sideL,Book.sideL,List.filterMap_flatMap];refine xD λr' hr'=> ?_
   rw[Book.rOrds,Book.rOrds,List.filterMap_map];have:(xC Q r').filterMap (λj=>az (vK (b.a.takeF k q).1 s' r'.price j))=(xC Q r').map (vK (b.a.takeF k q).1 s' r'.price):=by rw[<- List.filterMap_eq_map];rfl
   refine this.symm.trans (mM λj hj=> ?_);simp only[cm,vK,yMi,hent];have hon:=h.only c hs' hr' hj;by_cases e:j=k
   ·subst e;rw[y8c rfl];refine((y8c (show(b.a.slotAt j).ent.id=id from h.ident)).trans (y7z λe=> ?_)).symm;have e:(b.a.slotAt j).qty=q:=e;omega
   ·rw[y7z e];exact(y7z (λe2=>e (hon.1 e2))).symm
  rw[Book.flat,side 1 (.inl rfl),side 2 (.inr rfl),Book.flat,hZ,hZ,hZ,List.filterMap_append]
 have hu:(b.a.takeF k q).1.usedAt k=ax:=by
  obtain⟨hk2,⟨_,_,h2⟩,h3⟩:=w.toWf0.mem (c.get h.hs h.hr) h.hk;have hlt:=w.len;simp only[Arena.usedAt,y8o,y9o,y8s];exact⟨oM,oM,h2.used⟩
 refine⟨t1,⟨Q,c.flag w hid,⟨λo ho=> ?_,λs' hs' hh=> ?_⟩,hflat.symm⟩,w.len,by rw[Arena.getF,y8c hu,y8s],by rw[hid,h.ident]⟩
 ·obtain⟨o',ho',e⟩:=xDi.1 ho;have:=ht.fl o' ho';split at e
  ·split at e
   ·cases e
   ·cases e;exact this
  ·cases e;exact this
 ·obtain⟨o,ho,o1,o2⟩:=ht.th s' hs' hh;by_cases e:o.id=id
  ·refine⟨{o with qty:=o.qty-q},xDi.2 ⟨o,ho,?_⟩,o1,o2⟩;have hg:=tP c.ids ho;rw[e,h.get]at hg;rw[y8c e,y7z (λe2=>by
    rw[<- hg]at e2;have:(b.a.slotAt k).qty=q:=e2;omega)]
  ·exact⟨o,xDi.2 ⟨o,ho,y7z e⟩,o1,o2⟩
def yBb:∀{l:List (Int×Place)} {k:Int},(l.map (·.1)).Nodup->nM k l=l.filter λx=> !decide (x.1=k)
 |[],k,_=>rfl
 |(a,b)::l,k,h=>by
  rw[y8p,xAq]at h;rw[nM];by_cases e:k=a
  ·subst e;rw[y8c rfl,xDa (by simp)];symm;rw[xDv];intro x hx;have:x.1≠k:=λe=>h.1 (e▸y9e (f:=(·.1)) hx)
   simp[this]
  ·rw[y7z e,xCz (by simp[Ne.symm e]),yBb h.2]
def zEk {l:List Nat} (h:l.Nodup) (k:Nat):l.erase k=l.filter λj=> !decide (j=k):=by
 rw[h.erase_eq_filter];refine List.filter_congr λj _=> ?_
 simp[bne,BEq.beq]
def yHj {s:Int} {l:List xO} (hs:l.Pairwise λr r'=>btr s r.price r'.price=ax) {R1 R2:List xO} {r:xO} (hl:l=R1++r::R2):z6 s l r.price=R1.length:=by
 subst hl;rw[af]at hs;refine nN (by simp) (λk hk x hx=> ?_) (λx hx=> ?_)
 ·rw[xAv hk]at hx;exact hs.2.2 x (y8m hx) r y8h
 ·rw[xAf (y8w _),xDq]at hx;cases hx;exact zBj _ _
def yHq (b:Book) (id:Int) {s:Int} (hs:s=1\/s=2):(b.unhas s id).a=b.a/\(b.unhas s id).buys=b.buys/\(b.unhas s id).sells=b.sells/\(b.unhas s id).spare=b.spare/\∀s',s'=1\/s'=2->(b.unhas s id).topI s'=b.topI s'/\(b.unhas s id).hasF s'=if s'=s/\b.topI s=id then ay else b.hasF s':=by
 rw[Book.unhas];by_cases hc:b.hasF s=ax/\b.topI s=id
 ·rw[y8c hc];rcases hs with rfl|rfl
  ·exact(rF4 (λs' h=>by rcases h with rfl|rfl;exact⟨rfl,(y8c ⟨rfl,hc.2⟩).symm⟩;exact⟨rfl,(y7z (λe=>absurd e.1 Z8)).symm⟩))
  ·exact(rF4 (λs' h=>by rcases h with rfl|rfl;exact⟨rfl,(y7z (λe=>absurd e.1 Z8)).symm⟩;exact⟨rfl,(y8c ⟨rfl,hc.2⟩).symm⟩))
 ·rw[y7z hc];refine(rF4 (λs' h=>⟨rfl,?_⟩));split
  ·rename_i e;rw[e.1];cases hh:b.hasF s with
   |false=>rfl
   |true=>exact absurd ⟨hh,e.2⟩ hc
  ·rfl
def Book.Core.close {b:Book} {Q:List (List Nat)} {s:Int} (hs:s=1\/s=2) {r:xO} {R1 R2:List xO} (hr:b.rungs s=R1++r::R2) (c:b.Core Q r.queue) (he:xC Q r=[]) {b':Book} (hb:b'=({b with spare:=b.spare++[r.queue]}:Book).setR s (R1++R2)):
 b'.Core Q (-1)/\b'.flat Q=b.flat Q:=by
 obtain⟨g1,g2⟩:=zQo ({b with spare:=b.spare++[r.queue]}:Book) hs (R1++R2);rw[<- hb]at g1 g2;have ha:b'.a=b.a:=by rw[hb];rcases hs with rfl|rfl<;>rfl
 have hat:b'.at_=b.at_:=by rw[hb];rcases hs with rfl|rfl<;>rfl
 have hsp:b'.spare=b.spare++[r.queue]:=by rw[hb];rcases hs with rfl|rfl<;>rfl
 have hqs:b'.qs.Perm b.qs:=by
  rw[hb];rcases hs with rfl|rfl
  ·have hr:b.buys=R1++r::R2:=hr;show((R1++R2).map (·.queue)++b.sells.map (·.queue)++(b.spare++[r.queue])).Perm (b.buys.map (·.queue)++b.sells.map (·.queue)++b.spare)
   rw[hr,<- y8g];refine(xCm _ _).trans ?_;simp only[y8k,y8p,y8g,y9q];exact y8q.symm
  ·have hr:b.sells=R1++r::R2:=hr;show(b.buys.map (·.queue)++(R1++R2).map (·.queue)++(b.spare++[r.queue])).Perm (b.buys.map (·.queue)++b.sells.map (·.queue)++b.spare)
   rw[hr,<- y8g];refine(xCm _ _).trans ?_;simp only[y8k,y8p,y8g,y9q];refine .trans ?_ (co _ y8q.symm);exact y8q.symm
 have hside:∀s',s'=1\/s'=2->b'.sideL Q s'=b.sideL Q s':=by
  intro s' hs';have ho:∀x,b'.rOrds Q s' x=b.rOrds Q s' x:=λx=>by rw[Book.rOrds,Book.rOrds,ha]
  rw[Book.sideL,Book.sideL];by_cases e:s'=s
  ·subst e;rw[g1,hr,y9y,y9y,y9s,xD (λx _=>ho x),xD (l:=R2) (λx _=>ho x)];rw[show b.rOrds Q s' r=[]by rw[Book.rOrds,he];rfl,xAu]
  ·rw[g2 s' e hs'];exact xD λx _=>ho x
 have hplc:∀s',s'=1\/s'=2->b'.plcs Q s'=b.plcs Q s':=by
  intro s' hs';rw[Book.plcs,Book.plcs,ha];by_cases e:s'=s
  ·subst e;rw[g1,hr,y9y,y9y,y9s,he,xBq,xAu]
  ·rw[g2 s' e hs'];rfl
 have hflat:b'.flat Q=b.flat Q:=by rw[Book.flat,Book.flat,hside 1 (.inl rfl),hside 2 (.inr rfl)]
 have hnd:=hqs.nodup_iff.2 c.nd;have hmid:r.queue∉(R1++R2).map (·.queue):=by
  intro hm;have h1:r.queue∈(b'.rungs s).map (·.queue):=by rw[g1];exact hm
  rw[Book.qs]at hnd;have h2:=(xAk.1 hnd).2.2 r.queue (by
   rcases hs with rfl|rfl
   ·exact y9v _ h1
   ·exact y9w _ h1) r.queue (by rw[hsp];simp)
  exact h2 rfl
 refine⟨⟨by rw[ha];exact c.wf,λs' hs'=> ?_,λq hq=>c.rng q (hqs.mem_iff.1 hq),hnd,by rw[hqs.length_eq];exact c.ql,λs' hs' x hx _=> ?_,λq hq=> ?_,by rw[hat,hplc 1 (.inl rfl),hplc 2 (.inr rfl)];exact c.at_,by rw[hflat];exact c.ids,c.qb⟩,hflat⟩
 ·by_cases e:s'=s
  ·subst e;have:=c.srt s' hs';rw[hr]at this;rw[g1];exact this.sublist (List.Sublist.append_left (List.sublist_cons_self _ _) _)
  ·rw[g2 s' e hs'];exact c.srt s' hs'
 ·by_cases e:s'=s
  ·subst e;rw[g1]at hx;refine c.ne s' hs' x (by rw[hr];rcases y9f.1 hx with h|h;exact y9v _ h;exact y9w _ (y8i _ h)) λe2=>hmid (e2▸y9e (f:=(·.queue)) hx)
  ·rw[g2 s' e hs']at hx;refine c.ne s' hs' x hx λe2=> ?_
   have h1:r.queue∈(b'.rungs s').map (·.queue):=by rw[g2 s' e hs',<- e2];exact y9e (f:=(·.queue)) hx
   rw[Book.qs]at hnd;exact(xAk.1 hnd).2.2 r.queue (by
    rcases hs' with rfl|rfl
    ·exact y9v _ h1
    ·exact y9w _ h1) r.queue (by rw[hsp];simp) rfl
 ·rw[hsp]at hq;rcases y9f.1 hq with hq|hq
  ·exact c.sp q hq
  ·rw[y9u.1 hq];exact he
def zSb {L:List zH} (h:(L.map (·.id)).Nodup) {id:Int} (hh:wS L id=ax):hZ L id (cA L id).qty=L.filter λo=> !decide (o.id=id):=by
 rw[hZ,<- List.filterMap_eq_filter];refine mM λo ho=> ?_
 by_cases e:o.id=id
 ·have hg:=tP h ho;rw[e]at hg;rw[y8c e,y8c (by rw[hg])];simp[Option.guard,e]
 ·rw[y7z e];simp[Option.guard,e]
def Book.Core.gone {b:Book} {Q:List (List Nat)} (c:b.Core Q (-1)) (ht:b.Tops (b.flat Q)) {id s:Int} {r:xO} {k:Nat} (h:Told b Q id s r k) {q:Int} (hq:1<=q/\q=(b.a.slotAt k).qty):
 (b.a.takeF k q).2=0/\(({b with a:=(b.a.takeF k q).1}:Book).dropF s id r.price).Rep (hZ (b.flat Q) id q)/\(b.a.takeF k q).1.slots.length=250/\(b.a.takeF k q).1.queues.length=b.a.queues.length/\((b.a.takeF k q).1.getF k).2=ay/\z6 s (b.rungs s) r.price<(b.rungs s).length:=by
 obtain⟨t1,t2,t3⟩:=c.wf.take (c.get h.hs h.hr) h.hk (q:=q) ⟨hq.1,oM⟩;rw[y8c hq.2.symm]at t3;obtain⟨w,t4,t5⟩:=t3;generalize hA:(b.a.takeF k q).1=a1 at*;have hget:=c.get h.hs h.hr;have hnQ:=(y8e.1 hget).1;have hrq:=c.rng _ (h9 h.hs h.hr);generalize hQ':Q.set r.queue.toNat ((xC Q r).erase k)=Q' at*;have hQl:Q'.length=Q.length:=by rw[<- hQ',y9j]
 have hnd:(xC Q r).Nodup:=c.wf.nd _ _ hget;have hqd:∀s' (r':xO),(s'=1\/s'=2)->r'∈b.rungs s'->xC Q' r'=(xC Q r').erase k:=by
  intro s' r' hs' hr';by_cases e:r'.queue=r.queue
  ·have e1:xC Q r'=xC Q r:=by rw[xC,xC,e]
   rw[e1,xC,e,<- hQ'];exact zW (f9 hnQ)
  ·have h2:xC Q' r'=xC Q r':=by
    have:=c.rng _ (h9 hs' hr');rw[xC,xC,y8j,y8j,<- hQ',uC (by omega)]
   rw[h2];symm;refine List.erase_of_not_mem λhk=> ?_
   have:=c.wf.toWf0.one (c.get hs' hr') hget hk h.hk;have:=c.rng _ (h9 hs' hr');omega
 have hQo:∀q:Int,0<=q->q≠r.queue->Q'.getD q.toNat []=Q.getD q.toNat []:=by
  intro q h0 hne;rw[<- hQ',y8j,uC (by omega),y8j]
 obtain⟨u1,u2,u3,u4,u5⟩:=yHq ({b with a:=a1}:Book) id h.hs;obtain⟨b1,hb1⟩:∃b1:Book,b1={({b with a:=a1}:Book).unhas s id with at_:=nM id b.at_}:=⟨_,rfl⟩
 have v1:b1.a=a1:=by rw[hb1];exact u1
 have v2:b1.buys=b.buys:=by rw[hb1];exact u2
 have v3:b1.sells=b.sells:=by rw[hb1];exact u3
 have v4:b1.spare=b.spare:=by rw[hb1];exact u4
 have v5:b1.at_=nM id b.at_:=by rw[hb1]
 have v6:∀s',s'=1\/s'=2->b1.topI s'=b.topI s'/\b1.hasF s'=if s'=s/\b.topI s=id then ay else b.hasF s':=by
  intro s' hs';rw[hb1];exact u5 s' hs'
 have vr:∀s',b1.rungs s'=b.rungs s':=by intro s';rw[Book.rungs,Book.rungs,v2,v3]
 have vq:b1.qs=b.qs:=by rw[Book.qs,Book.qs,v2,v3,v4]
 have hord:∀s',s'=1\/s'=2->b1.sideL Q' s'=(b.sideL Q s').filter (λo=> !decide (o.id=id))/\b1.plcs Q' s'=(b.plcs Q s').filter λx=> !decide (x.1=id):=by
  intro s' hs';rw[Book.sideL,Book.sideL,Book.plcs,Book.plcs,vr,List.filter_flatMap,List.filter_flatMap];have key:∀r'∈b.rungs s',∀j∈xC Q r',((b.a.slotAt j).id=id↔j=k)/\(j≠k->vK a1 s' r'.price j=vK b.a s' r'.price j/\vU a1 s' r'.price j=vU b.a s' r'.price j):=by
   intro r' hr' j hj;refine⟨h.only c hs' hr' hj,λe=> ?_⟩;have:=(t2 j e).1;refine⟨by rw[vK,vK,this],?_⟩;have:=congrArg Ent.id this;rw[vU,vU];exact congrArg (λi=>(i,(⟨s',r'.price,j⟩:Place))) this
  refine⟨xD λr' hr'=> ?_,xD λr' hr'=> ?_⟩
  ·rw[Book.rOrds,Book.rOrds,hqd s' r' hs' hr',zEk (c.wf.nd _ _ (c.get hs' hr')),List.filter_map,v1];have e1:(xC Q r').filter ((λo:zH=> !decide (o.id=id))∘vK b.a s' r'.price)=(xC Q r').filter λj=> !decide (j=k):=by
    refine List.filter_congr λj hj=> ?_
    show(!decide ((b.a.slotAt j).id=id))=_;rw[decide_eq_decide.2 (key r' hr' j hj).1]
   rw[e1];refine y9k λj hj=> ?_
   rw[xAa]at hj;exact((key r' hr' j hj.1).2 (by simpa using hj.2)).1
  ·rw[hqd s' r' hs' hr',zEk (c.wf.nd _ _ (c.get hs' hr')),List.filter_map,v1];have e1:(xC Q r').filter ((λx:Int×Place=> !decide (x.1=id))∘vU b.a s' r'.price)=(xC Q r').filter λj=> !decide (j=k):=by
    refine List.filter_congr λj hj=> ?_
    show(!decide ((b.a.slotAt j).id=id))=_;rw[decide_eq_decide.2 (key r' hr' j hj).1]
   rw[e1];refine y9k λj hj=> ?_
   rw[xAa]at hj;exact((key r' hr' j hj.1).2 (by simpa using hj.2)).2
 have hflat:b1.flat Q'=(b.flat Q).filter λo=> !decide (o.id=id):=by
  rw[Book.flat,(hord 1 (.inl rfl)).1,(hord 2 (.inr rfl)).1,Book.flat,xCd]
 have hat:b1.at_.Perm (b1.plcs Q' 1++b1.plcs Q' 2):=by
  rw[v5,yBb c.keys,(hord 1 (.inl rfl)).2,(hord 2 (.inr rfl)).2,<- xCd];exact c.at_.filter _
 have hold:∀s' (r':xO),(s'=1\/s'=2)->r'∈b.rungs s'->xC Q r'≠[]:=λs' r' hs' hr'=>c.ne s' hs' r' hr' λe=>by
  have:=c.rng _ (h9 hs' hr');omega
 have c1:b1.Core Q' r.queue:=by
  refine⟨by rw[v1];exact w,λs' hs'=>by rw[vr];exact c.srt s' hs',by rw[vq,hQl];exact c.rng,by rw[vq];exact c.nd,by rw[vq,hQl];exact c.ql,λs' hs' r' hr' hne=> ?_,λq hq=> ?_,hat,?_,by rw[hQl];exact c.qb⟩
  ·rw[vr]at hr';have e:=hQo r'.queue (c.rng _ (h9 hs' hr')).1 hne;rw[xC,e];exact hold s' r' hs' hr'
  ·rw[v4]at hq;have hqq:q∈b.qs:=y9w _ hq;rw[hQo q (c.rng q hqq).1 λe=> ?_]
   ·exact c.sp q hq
   ·have hcn:=c.nd;rw[Book.qs]at hcn;refine(xAk.1 hcn).2.2 r.queue ?_ q hq e.symm;rcases h.hs with rfl|rfl
    ·exact y9v _ (y9e (f:=(·.queue)) h.hr)
    ·exact y9w _ (y9e (f:=(·.queue)) h.hr)
  ·rw[hflat];exact c.ids.sublist (List.Sublist.map _ xDw)
 have htk:hZ (b.flat Q) id q=b1.flat Q':=by
  rw[hflat,<- zSb c.ids h.has,h.get,hq.2];rfl
 have hm1:∀o,o∈b1.flat Q'↔o∈b.flat Q/\o.id≠id:=by
  intro o;rw[hflat,xAa];simp
 have ht1:∀b2:Book,(∀x,b2.hasF x=b1.hasF x/\b2.topI x=b1.topI x)->b2.Tops (b1.flat Q'):=by
  intro b2 hb2;refine⟨λo ho=> ?_,λs' hs' hh=> ?_⟩
  ·rw[(hb2 _).1,(hb2 _).2];obtain⟨ho,hne⟩:=(hm1 o).1 ho;have hs':=(pC ho).1;rw[(v6 _ hs').1,(v6 _ hs').2,ht.fl o ho];split
   ·rename_i e;rw[e.1,e.2,y8n hne,xDf,xDf]
   ·rfl
  ·rw[(hb2 _).1,(v6 s' hs').2]at hh;rw[(hb2 _).2,(v6 s' hs').1];split at hh
   ·cases hh
   ·rename_i e;obtain⟨o,ho,o1,o2⟩:=ht.th s' hs' hh;refine⟨o,(hm1 o).2 ⟨ho,λe2=>e ?_⟩,o1,o2⟩;have hg:=tP c.ids ho;rw[e2,h.get]at hg;have hsd:s'=s:=by rw[<- o1,<- hg];rfl
    exact⟨hsd,by rw[<- hsd,<- o2,e2]⟩
 obtain⟨R1,R2,hsplit⟩:=List.append_of_mem h.hr;have hfn:=yHj (c.srt s h.hs) hsplit;have hgd:(b.rungs s).getD (z6 s (b.rungs s) r.price) ⟨0,0⟩=r:=by
  rw[hfn,hsplit];refine zW ?_;rw[xAf (y8w _),xDq];rfl
 have hfl:z6 s (b.rungs s) r.price<(b.rungs s).length:=by rw[hfn,hsplit];simp
 have hQr:Q'[r.queue.toNat]? =az ((xC Q r).erase k):=by rw[<- hQ'];exact f9 hnQ
 have hcount:(a1.qAt r.queue).count=((xC Q r).erase k).length:=by
  have:=w.q _ _ hQr;have hql:=w.ql;rw[zXi hrq.1 this]
 have er:xC Q' r=(xC Q r).erase k:=zW hQr;have hru:({b with a:=a1}:Book).rungs s=b.rungs s:=rfl;have hus:(a1.getF k).2=ay:=by
  have:a1.usedAt k=ay:=by
   have e:a1.slotAt k=slot0:=t4;rw[Arena.slotAt]at e;rw[Arena.usedAt,y8s,e];simp[slot0]
  rw[Arena.getF,y7z (by rw[this];decide)]
 refine⟨t1,?_,w.len,by rw[w.ql,c.wf.ql,hQl],hus,hfl⟩;rw[Book.dropF,hru,hgd];by_cases hz:(a1.qAt r.queue).count=0
 ·rw[y8c hz];have he:xC Q' r=[]:=by
   rw[er];refine y9a ?_;omega
  obtain⟨k1,k2⟩:=Book.Core.close h.hs (by rw[vr];exact hsplit) c1 he rfl;have ebk:(({({b with a:=a1}:Book).unhas s id with at_:=nM id b.at_,spare:=b.spare++[r.queue]}:Book).setR s ((b.rungs s).take (z6 s (b.rungs s) r.price)++(b.rungs s).drop (z6 s (b.rungs s) r.price+1)))=(({b1 with spare:=b1.spare++[r.queue]}:Book).setR s (R1++R2)):=by
   have e1:(b.rungs s).take (z6 s (b.rungs s) r.price)++(b.rungs s).drop (z6 s (b.rungs s) r.price+1)=R1++R2:=by
    rw[hfn,hsplit,xDp];congr 1;rw[xDe,xBj (by omega),Nat.add_sub_cancel_left];rfl
   rw[e1,v4,hb1]
  refine⟨Q',?_,?_,?_⟩
  ·exact ebk▸k1
  ·rw[htk];refine ht1 _ λx=> ?_
   show(Book.hasF (({({b with a:=a1}:Book).unhas s id with at_:=nM id b.at_,spare:=b.spare++[r.queue]}:Book).setR s ((b.rungs s).take (z6 s (b.rungs s) r.price)++(b.rungs s).drop (z6 s (b.rungs s) r.price+1))) x=_/\Book.topI (({({b with a:=a1}:Book).unhas s id with at_:=nM id b.at_,spare:=b.spare++[r.queue]}:Book).setR s ((b.rungs s).take (z6 s (b.rungs s) r.price)++(b.rungs s).drop (z6 s (b.rungs s) r.price+1))) x=_);rw[ebk];rcases h.hs with rfl|rfl<;>exact⟨rfl,rfl⟩
  ·rw[htk];show _=Book.flat (({({b with a:=a1}:Book).unhas s id with at_:=nM id b.at_,spare:=b.spare++[r.queue]}:Book).setR s ((b.rungs s).take (z6 s (b.rungs s) r.price)++(b.rungs s).drop (z6 s (b.rungs s) r.price+1))) Q';rw[ebk];exact k2.symm
 ·rw[y7z hz];have c2:b1.Core Q' (-1):=⟨c1.wf,c1.srt,c1.rng,c1.nd,c1.ql,λs' hs' r' hr' _=>by
   by_cases e:r'.queue=r.queue
   ·rw[xC,e];intro e2;rw[xC]at er;rw[er]at e2;rw[hcount,e2]at hz;exact hz rfl
   ·exact c1.ne s' hs' r' hr' e,c1.sp,c1.at_,c1.ids,c1.qb⟩
  have hh:({({b with a:=a1}:Book).unhas s id with at_:=nM id b.at_}:Book)=b1:=hb1.symm;show Book.Rep {({b with a:=a1}:Book).unhas s id with at_:=nM id b.at_} _;rw[hh,htk];exact⟨Q',c2,ht1 b1 λ_=>⟨rfl,rfl⟩,rfl⟩
def rK (k:Int):∀l,zBw (cg bo k) (atE l)=atE (nM k l)
 |[]=>rfl
 |(a,b)::l=>by
  have ih:=rK k l;show(bif (keq .i64 .i64 && decide (k=a))then atE l else _::zBw _ (atE l))=_;rw[ih,nM];by_cases h:k=a
  ·subst h;simp[keq]
  ·simp[h,atE]
def z7g:delRC.ok Tryz.prog 208:=
 delX_ok mixed Tryz.func208 rfl (by kernel_rfl) (by kernel_rfl) (by kernel_rfl) (by kernel_rfl) zHu rfl Z8 (λs sn sk i j w R=>by kernel_rfl)
def dup {X:Prop} {n:Int} (h:X):X/\n=n/\True/\X:=⟨h,rfl,trivial,h⟩
def Book.Core.small {b:Book} {Q:List (List Nat)} (c:b.Core Q (-1)):b.small:=by
 have hq:=c.qb;have h1:=c.ql;have h2:=c.wf.ql;have h3:=c.wf.len;rw[Book.qs,y8a,y8a,y8b,y8b]at h1;exact⟨⟨oM,oM⟩,oM,oM,oM⟩
def yZm (i:DrI) (h:drop1C.cnd i):yJs i:=by
 obtain⟨hsm,hn⟩:i.ok 1:=h;obtain⟨⟨ha1,ha2⟩,hb1,hb2,hsp⟩:=id hsm;have hn:z6 1 i.b.buys i.price<i.b.buys.length:=hn;obtain⟨r,hr⟩:=yC (l:=i.b.buys) hn;have hgd:((i.b.rungs 1).getD (z6 1 (i.b.rungs 1) i.price) ⟨0,0⟩)=r:=zW hr;have hw:∀k:Int,bo.wrap ((z6 1 (i.b.rungs 1) i.price:Int)+1)=((z6 1 (i.b.rungs 1) i.price+1:Nat):Int):=λ_=>by
  have:=zGb 1 i.price (i.b.rungs 1);have hl:(i.b.rungs 1).length<=1000000:=by show i.b.buys.length<=_;omega
  rw[w64 (by omega)];rfl
 have hn2:((z6 1 (i.b.rungs 1) i.price:Nat):Int)<((aa zB i.b.buys).length:Int):=by
  rw[y8b];show((z6 1 i.b.buys i.price:Nat):Int)<_;omega
 unfold yJs zHi zHn fA uD qG xY xB dI;refine⟨wB _ _,Cv.cnd.mk (λc1=>Cv.cnd.mk (λc2=> ?_) (λc2=> ?_)) (λc1=> ?_)⟩
 ·have c2:i.b.top1=i.id:=by simpa using c2
  have hu:i.b.unhas 1 i.id={i.b with has1:=ay}:=by rw[Book.unhas,y8c ⟨c1,c2⟩];rfl
  refine⟨⟨{i.b with has1:=ay,at_:=nM i.id i.b.at_},i.price⟩,rF8 ⟨rfl,(rK _ _).symm,rfl,hsm,λ_ _=>⟨⟨oM,hn2⟩,r.queue,elA hr (by simp[zB]) rfl,⟨i.b.a,r.queue⟩,rfl,rfl,trivial,λ_ _=>Cv.cnd.mk (λe=>⟨by simp only[yZ];omega,⟨i.b.buys.map zB,z6 1 (i.b.rungs 1) i.price,z6 1 (i.b.rungs 1) i.price+1⟩,rfl,(hw 0).symm,rfl,⟨xDh _,by rw[y8b];exact hn⟩,λ_ _=>⟨rfl,(),?_⟩⟩) (λe=>⟨(),?_⟩)⟩⟩⟩
  ·have e:(i.b.a.qAt r.queue).count=0:=by simpa using e
   rw[Book.dropF,hgd,y8c e,hu];refine(rF5 ⟨rfl,?_,rfl,?_,trivial⟩)
   ·show aa zB (i.b.buys.take _++i.b.buys.drop _)=_;rw[y8k,xCl,xDm]
   ·show iE (i.b.spare++[r.queue])=_;simp[iE]
  ·have e:¬(i.b.a.qAt r.queue).count=0:=by simpa using e
   rw[Book.dropF,hgd,y7z e,hu];exact(rF6 (rF3 trivial))
 ·have c2:¬i.b.top1=i.id:=by simpa using c2
  have hu:i.b.unhas 1 i.id={i.b with has1:=i.b.has1}:=by rw[Book.unhas,y7z (λe=>c2 e.2)]
  refine⟨⟨{i.b with has1:=i.b.has1,at_:=nM i.id i.b.at_},i.price⟩,rF8 ⟨rfl,(rK _ _).symm,rfl,hsm,λ_ _=>⟨⟨oM,hn2⟩,r.queue,elA hr (by simp[zB]) rfl,⟨i.b.a,r.queue⟩,rfl,rfl,trivial,λ_ _=>Cv.cnd.mk (λe=>⟨by simp only[yZ];omega,⟨i.b.buys.map zB,z6 1 (i.b.rungs 1) i.price,z6 1 (i.b.rungs 1) i.price+1⟩,rfl,(hw 0).symm,rfl,⟨xDh _,by rw[y8b];exact hn⟩,λ_ _=>⟨rfl,(),?_⟩⟩) (λe=>⟨(),?_⟩)⟩⟩⟩
  ·have e:(i.b.a.qAt r.queue).count=0:=by simpa using e
   rw[Book.dropF,hgd,y8c e,hu];refine(rF5 ⟨rfl,?_,rfl,?_,trivial⟩)
   ·show aa zB (i.b.buys.take _++i.b.buys.drop _)=_;rw[y8k,xCl,xDm]
   ·show iE (i.b.spare++[r.queue])=_;simp[iE]
  ·have e:¬(i.b.a.qAt r.queue).count=0:=by simpa using e
   rw[Book.dropF,hgd,y7z e,hu];exact(rF6 (rF3 trivial))
 ·have hu:i.b.unhas 1 i.id={i.b with has1:=i.b.has1}:=by
   rw[Book.unhas,y7z];rintro⟨e,_⟩;exact absurd (show i.b.has1=ax from e) (by rw[c1];decide)
  refine⟨⟨{i.b with has1:=i.b.has1,at_:=nM i.id i.b.at_},i.price⟩,rF8 ⟨rfl,(rK _ _).symm,rfl,hsm,λ_ _=>⟨⟨oM,hn2⟩,r.queue,elA hr (by simp[zB]) rfl,⟨i.b.a,r.queue⟩,rfl,rfl,trivial,λ_ _=>Cv.cnd.mk (λe=>⟨by simp only[yZ];omega,⟨i.b.buys.map zB,z6 1 (i.b.rungs 1) i.price,z6 1 (i.b.rungs 1) i.price+1⟩,rfl,(hw 0).symm,rfl,⟨xDh _,by rw[y8b];exact hn⟩,λ_ _=>⟨rfl,(),?_⟩⟩) (λe=>⟨(),?_⟩)⟩⟩⟩
  ·have e:(i.b.a.qAt r.queue).count=0:=by simpa using e
   rw[Book.dropF,hgd,y8c e,hu];refine(rF5 ⟨rfl,?_,rfl,?_,trivial⟩)
   ·show aa zB (i.b.buys.take _++i.b.buys.drop _)=_;rw[y8k,xCl,xDm]
   ·show iE (i.b.spare++[r.queue])=_;simp[iE]
  ·have e:¬(i.b.a.qAt r.queue).count=0:=by simpa using e
   rw[Book.dropF,hgd,y7z e,hu];exact(rF6 (rF3 trivial))
def yFt:drop1C.ok Tryz.prog 198:=okw mixed (gokc zQs (gokc pJ (gokc z7g gok0))) 0 (λ_=>[]) (λ_=>[]) [] Tryz.func198 yZm
def yYc (i:DrI) (h:drop2C.cnd i):yKc i:=by
 obtain⟨hsm,hn⟩:i.ok 2:=h;obtain⟨⟨ha1,ha2⟩,hb1,hb2,hsp⟩:=id hsm;have hn:z6 2 i.b.sells i.price<i.b.sells.length:=hn;obtain⟨r,hr⟩:=yC (l:=i.b.sells) hn;have hgd:((i.b.rungs 2).getD (z6 2 (i.b.rungs 2) i.price) ⟨0,0⟩)=r:=zW hr;have hw:∀k:Int,bo.wrap ((z6 2 (i.b.rungs 2) i.price:Int)+1)=((z6 2 (i.b.rungs 2) i.price+1:Nat):Int):=λ_=>by
  have:=zGb 2 i.price (i.b.rungs 2);have hl:(i.b.rungs 2).length<=1000000:=by show i.b.sells.length<=_;omega
  rw[w64 (by omega)];rfl
 have hn2:((z6 2 (i.b.rungs 2) i.price:Nat):Int)<((aa zB i.b.sells).length:Int):=by
  rw[y8b];show((z6 2 i.b.sells i.price:Nat):Int)<_;omega
 unfold yKc zIw zJl fC uA qG xZ xA dI;refine⟨wB _ _,Cv.cnd.mk (λc1=>Cv.cnd.mk (λc2=> ?_) (λc2=> ?_)) (λc1=> ?_)⟩
 ·have c2:i.b.top2=i.id:=by simpa using c2
  have hu:i.b.unhas 2 i.id={i.b with has2:=ay}:=by rw[Book.unhas,y8c ⟨c1,c2⟩];rfl
  refine⟨⟨{i.b with has2:=ay,at_:=nM i.id i.b.at_},i.price⟩,rF8 ⟨rfl,(rK _ _).symm,rfl,hsm,λ_ _=>⟨⟨oM,hn2⟩,r.queue,elA hr (by simp[zB]) rfl,⟨i.b.a,r.queue⟩,rfl,rfl,trivial,λ_ _=>Cv.cnd.mk (λe=>⟨by simp only[yZ];omega,⟨i.b.sells.map zB,z6 2 (i.b.rungs 2) i.price,z6 2 (i.b.rungs 2) i.price+1⟩,rfl,(hw 0).symm,rfl,⟨xDh _,by rw[y8b];exact hn⟩,λ_ _=>⟨rfl,(),?_⟩⟩) (λe=>⟨(),?_⟩)⟩⟩⟩
  ·have e:(i.b.a.qAt r.queue).count=0:=by simpa using e
   rw[Book.dropF,hgd,y8c e,hu];refine(rF6 ⟨rfl,?_,?_,trivial⟩)
   ·show aa zB (i.b.sells.take _++i.b.sells.drop _)=_;rw[y8k,xCl,xDm]
   ·show iE (i.b.spare++[r.queue])=_;simp[iE]
  ·have e:¬(i.b.a.qAt r.queue).count=0:=by simpa using e
   rw[Book.dropF,hgd,y7z e,hu];exact(rF6 (rF3 trivial))
 ·have c2:¬i.b.top2=i.id:=by simpa using c2
  have hu:i.b.unhas 2 i.id={i.b with has2:=i.b.has2}:=by rw[Book.unhas,y7z (λe=>c2 e.2)]
  refine⟨⟨{i.b with has2:=i.b.has2,at_:=nM i.id i.b.at_},i.price⟩,rF8 ⟨rfl,(rK _ _).symm,rfl,hsm,λ_ _=>⟨⟨oM,hn2⟩,r.queue,elA hr (by simp[zB]) rfl,⟨i.b.a,r.queue⟩,rfl,rfl,trivial,λ_ _=>Cv.cnd.mk (λe=>⟨by simp only[yZ];omega,⟨i.b.sells.map zB,z6 2 (i.b.rungs 2) i.price,z6 2 (i.b.rungs 2) i.price+1⟩,rfl,(hw 0).symm,rfl,⟨xDh _,by rw[y8b];exact hn⟩,λ_ _=>⟨rfl,(),?_⟩⟩) (λe=>⟨(),?_⟩)⟩⟩⟩
  ·have e:(i.b.a.qAt r.queue).count=0:=by simpa using e
   rw[Book.dropF,hgd,y8c e,hu];refine(rF6 ⟨rfl,?_,?_,trivial⟩)
   ·show aa zB (i.b.sells.take _++i.b.sells.drop _)=_;rw[y8k,xCl,xDm]
   ·show iE (i.b.spare++[r.queue])=_;simp[iE]
  ·have e:¬(i.b.a.qAt r.queue).count=0:=by simpa using e
   rw[Book.dropF,hgd,y7z e,hu];exact(rF6 (rF3 trivial))
 ·have hu:i.b.unhas 2 i.id={i.b with has2:=i.b.has2}:=by
   rw[Book.unhas,y7z];rintro⟨e,_⟩;exact absurd (show i.b.has2=ax from e) (by rw[c1];decide)
  refine⟨⟨{i.b with has2:=i.b.has2,at_:=nM i.id i.b.at_},i.price⟩,rF8 ⟨rfl,(rK _ _).symm,rfl,hsm,λ_ _=>⟨⟨oM,hn2⟩,r.queue,elA hr (by simp[zB]) rfl,⟨i.b.a,r.queue⟩,rfl,rfl,trivial,λ_ _=>Cv.cnd.mk (λe=>⟨by simp only[yZ];omega,⟨i.b.sells.map zB,z6 2 (i.b.rungs 2) i.price,z6 2 (i.b.rungs 2) i.price+1⟩,rfl,(hw 0).symm,rfl,⟨xDh _,by rw[y8b];exact hn⟩,λ_ _=>⟨rfl,(),?_⟩⟩) (λe=>⟨(),?_⟩)⟩⟩⟩
  ·have e:(i.b.a.qAt r.queue).count=0:=by simpa using e
   rw[Book.dropF,hgd,y8c e,hu];refine(rF6 ⟨rfl,?_,?_,trivial⟩)
   ·show aa zB (i.b.sells.take _++i.b.sells.drop _)=_;rw[y8k,xCl,xDm]
   ·show iE (i.b.spare++[r.queue])=_;simp[iE]
  ·have e:¬(i.b.a.qAt r.queue).count=0:=by simpa using e
   rw[Book.dropF,hgd,y7z e,hu];exact(rF6 (rF3 trivial))
def yIv:drop2C.ok Tryz.prog 198:=okw mixed (gokc zQy (gokc pJ (gokc z7g gok0))) 0 (λ_=>[]) (λ_=>[]) [] Tryz.func198 yYc
def yPl:dropC.ok Tryz.prog 198:=λj=>match j with
 |⟨i,ay⟩=>yFt i
 |⟨i,ax⟩=>yIv i
def yMr {a:Arena} {k:Nat} {p t:Int} {m:Nat} (h:zUz (a.slotAt k) m k p t) (hl:k<a.slots.length):a.getF k=((a.slotAt k).ent,ax):=by
 have:a.usedAt k=ax:=by
  simp only[Arena.usedAt,y8o,y9o,y8s];exact⟨oM,oM,h.used⟩
 rw[Arena.getF,y8c this,y8s]
def z0r {b:Book} {Q:List (List Nat)} (c:b.Core Q (-1)) {id s:Int} {r:xO} {k:Nat} (h:Told b Q id s r k):b.a.getF k=((b.a.slotAt k).ent,ax)/\(b.a.slotAt k).qty<=1000000/\1<=(b.a.slotAt k).qty:=by
 obtain⟨h1,⟨p,t,h2⟩,h3⟩:=c.wf.toWf0.mem (c.get h.hs h.hr) h.hk;exact⟨yMr h2 (by rw[c.wf.len];exact h1),h2.q2,c.wf.pos _ _ (c.get h.hs h.hr) _ h.hk⟩
def y0f (i:FlI) (h:bfindC.cnd i):yJi i:=by
 obtain⟨Q,c,ht,hL⟩:i.b.Rep i.L:=h;unfold yJi zJi zDr sU dI;rcases c.told i.id with⟨hg,hn⟩|⟨s,r,k,hT⟩
 ·refine⟨wB _ _,ay,0,0,0,.inr ⟨?_,rfl,rfl⟩,Cv.cnd.mk (λ_=> ?_) (λe=>absurd e Z8)⟩
  ·rw[zBq,hg];rfl
  ·rw[<- hL]at hn;rw[yVu hn,hn];exact⟨(),k0q⟩
 ·refine⟨wB _ _,ax,s,r.price,k,.inl ⟨?_,rfl⟩,Cv.cnd.mk (λe=>absurd e Z8) (λ_=>dup ⟨⟨i.b.a,k⟩,rfl,rfl,by dsimp only;rw[c.wf.len];decide,λ_ _=>⟨(),?_⟩⟩)⟩
  ·rw[zBq,hT.e];rfl
  ·have h1:=hT.get;have h2:=hT.has;rw[<- hL]at h1 h2;rw[h1,h2,(z0r c hT).1];exact⟨hT.ident,k0q⟩
def z1e:bfindC.ok Tryz.prog 111:=okw mixed (gokc z7j gok0) 0 (λ_=>[]) (λ_=>[]) [0] Tryz.func111 y0f
def Book.Core.okAt {b:Book} {Q:List (List Nat)} (c:b.Core Q (-1)):b.a.okAt:=c.wf.toWf0.ok
def y2m (i:FlI) (h:fillC.cnd i):yTi i:=by
 have hR:i.b.Rep i.L:=h;obtain⟨Q,c,ht,hL⟩:=id hR;unfold yTi zWa zNr vO zAa sU dI;rcases c.told i.id with⟨hg,hn⟩|⟨s,r,k,hT⟩
 ·refine⟨wB _ _,ay,0,0,0,.inr ⟨?_,rfl,rfl⟩,Cv.cnd.mk (λ_=> ?_) (λe=>absurd e (by simp))⟩
  ·rw[zBq,hg];rfl
  ·rw[<- hL]at hn;rw[qC,y8c hn];exact⟨i.b,rF7 (rF3 hR)⟩
 have hg:=hT.get;have hh:=hT.has;rw[<- hL]at hg hh;obtain⟨hsg,hq1,hq2⟩:=z0r c hT;have hqq:(cA i.L i.id).qty=(i.b.a.slotAt k).qty:=by rw[hg];rfl
 refine⟨wB _ _,ax,s,r.price,k,.inl ⟨?_,rfl⟩,Cv.cnd.mk (λe=>absurd e (by simp)) (λ_=>⟨⟨i.b.a,k,i.qty⟩,rfl,rfl,rfl,c.okAt,λ_ _=> ?_⟩)⟩
 ·rw[zBq,hT.e];rfl
 dsimp only;have hu:i.b.a.usedAt k=ax:=by
  cases hu:i.b.a.usedAt k with
  |true=>rfl
  |false=>rw[Arena.getF,y7z (by rw[hu];decide)]at hsg;exact absurd (congrArg Prod.snd hsg) (by simp)
 by_cases hb:i.qty<1\/(i.b.a.slotAt k).qty<i.qty
 ·have ht:i.b.a.takeF k i.qty=(i.b.a,24):=by rw[Arena.takeF,y7z (by rw[hu];decide),y8s,y8c hb]
  rw[ht];refine Cv.cnd.mk (λ_=> ?_) (λe=>absurd e (by simp));rw[qC,y7z (by rw[hh];decide),y8c (by rw[hqq];exact hb)];exact⟨i.b,rF7 (rF3 hR)⟩
 have hfl:qC i.L i.id i.qty=(hZ i.L i.id i.qty,0):=by rw[qC,y7z (by rw[hh];decide),y7z (by rw[hqq];exact hb)]
 by_cases hf:i.qty=(i.b.a.slotAt k).qty
 ·obtain⟨g1,g2,g3,g4,g5,g6⟩:=c.gone (by rw[<- hL];exact ht) hT (q:=i.qty) ⟨oM,hf⟩;rw[<- hL]at g2;have hsm:=c.small;rw[g1];refine Cv.cnd.mk (λe=>absurd e (by simp)) (λ_=>dup ⟨⟨(i.b.a.takeF k i.qty).1,k⟩,rfl,rfl,by dsimp only;rw[g3];decide,λ_ _=> ?_⟩);dsimp only;rw[g5];refine Cv.cnd.mk (λ_=> ?_) (λe=>absurd e (by simp));rcases hT.hs with rfl|rfl
  ·refine⟨⟨⟨{i.b with a:=(i.b.a.takeF k i.qty).1},i.id,r.price,k⟩,ay⟩,rF8 (rF4 ⟨rfl,⟨⟨⟨by dsimp only;rw[g3];decide,by dsimp only;rw[g4];exact hsm.1.2⟩,hsm.2⟩,g6⟩,λ_ _=> ?_⟩)⟩;refine⟨({i.b with a:=(i.b.a.takeF k i.qty).1}:Book).dropF 1 i.id r.price,by rw[hfl],rF6 (rF3 (by rw[hfl];exact g2))⟩
  ·refine⟨⟨⟨{i.b with a:=(i.b.a.takeF k i.qty).1},i.id,r.price,k⟩,ax⟩,rF8 (rF4 ⟨rfl,⟨⟨⟨by dsimp only;rw[g3];decide,by dsimp only;rw[g4];exact hsm.1.2⟩,hsm.2⟩,g6⟩,λ_ _=> ?_⟩)⟩;refine⟨({i.b with a:=(i.b.a.takeF k i.qty).1}:Book).dropF 2 i.id r.price,by rw[hfl],rF6 (rF3 (by rw[hfl];exact g2))⟩
 ·obtain⟨g1,g2,g3,g4,g5⟩:=c.less (by rw[<- hL];exact ht) hT (q:=i.qty) oM;rw[<- hL]at g2;rw[g1];refine Cv.cnd.mk (λe=>absurd e (by simp)) (λ_=>dup ⟨⟨(i.b.a.takeF k i.qty).1,k⟩,rfl,rfl,by dsimp only;rw[g3];decide,λ_ _=> ?_⟩);dsimp only;rw[g4];refine Cv.cnd.mk (λe=>absurd e (by simp)) (λ_=>Cv.cnd.mk (λe=> ?_) (λ_=> ?_))
  ·have e:¬((i.b.a.takeF k i.qty).1.slotAt k).ent.id=i.id:=by simpa using e
   exact absurd g5 e
  ·exact⟨{i.b with a:=(i.b.a.takeF k i.qty).1},by rw[hfl],rF6 (rF3 (by rw[hfl];exact g2))⟩
def yOv:fillC.ok Tryz.prog 187:=okw mixed (gokc yJt (gokc z7j (gokc yPl gok0))) 0 (λ_=>[]) (λ_=>[]) [0] Tryz.func187 y2m
def zXq (A B:List zH) (s p:Int):atL (A++B) s p=atL A s p++atL B s p:=xCd _ _
def zXw {A:List zH} {s p:Int} (h:∀o∈A,o.side=s->o.price≠p):atL A s p=[]:=by
 rw[atL,ak];intro o ho;by_cases e:o.side=s
 ·simp[h o ho e]
 ·simp[e]
def yPu {A:List zH} {s p:Int} (h:∀o∈A,o.side=s/\o.price=p):atL A s p=A:=by
 rw[atL,xDv];intro o ho;simp[h o ho]
def zQa {s x y:Int} (h:btr s x y=ax):x≠y:=by
 rintro rfl;rw[zBj]at h;cases h
def Book.Core.at_no {b:Book} {Q:List (List Nat)} (c:b.Core Q (-1)) {s p:Int} (hs:s=1\/s=2) (h:kY s (b.rungs s) p=ay):atL (b.flat Q) s p=[]:=by
 have hsp:=zDz (p:=p) (c.srt s hs);rw[y7z (by rw[h];decide)]at hsp;refine zXw λo ho e=> ?_
 obtain⟨_,r,hr,_,hp⟩:=pC ho;rw[e]at hr;rw[hp];rw[<- xAi (z6 s (b.rungs s) p) (b.rungs s)]at hr;rcases y9f.1 hr with hr|hr
 ·exact zQa (hsp.1 r hr)
 ·exact(zQa (hsp.2 r hr)).symm
def Book.Core.at_yes {b:Book} {Q:List (List Nat)} (c:b.Core Q (-1)) {s p:Int} (hs:s=1\/s=2) (h:kY s (b.rungs s) p=ax):∃r,(b.rungs s)[z6 s (b.rungs s) p]? =az r/\r.price=p/\r∈b.rungs s/\atL (b.flat Q) s p=b.rOrds Q s r:=by
 have hsp:=zDz (p:=p) (c.srt s hs);rw[y8c h]at hsp;obtain⟨h1,r,hr,hp,h2⟩:=hsp;have hlt:=(y8e.1 hr).1;refine⟨r,hr,hp,y8m hr,?_⟩;have hsplit:b.rungs s=(b.rungs s).take (z6 s (b.rungs s) p)++r::(b.rungs s).drop (z6 s (b.rungs s) p+1):=by
  conv=>lhs;rw[<- xAi (z6 s (b.rungs s) p) (b.rungs s)]
  rw[xAe hlt,(y8e.1 hr).2]
 have hside:atL (b.sideL Q s) s p=b.rOrds Q s r:=by
  rw[Book.sideL,hsplit,y9y,y9s,zXq,zXq,zXw,yPu,zXw,y8x,xAu]
  ·intro o ho _;obtain⟨r',hr',ho⟩:=xAt.1 ho;rw[(qL ho).2];exact(zQa (h2 r' hr')).symm
  ·intro o ho;rw[<- hp];exact qL ho
  ·intro o ho _;obtain⟨r',hr',ho⟩:=xAt.1 ho;rw[(qL ho).2];exact zQa (h1 r' hr')
 have hother:∀s',s'≠s->atL (b.sideL Q s') s p=[]:=λs' hne=>zXw λo ho e=>absurd ((mJ ho).1.symm.trans e) hne
 rw[Book.flat,zXq];rcases hs with rfl|rfl
 ·rw[hside,hother 2 (by decide),y8x]
 ·rw[hside,hother 1 (by decide),xAu]
def Book.Core.listOk {b:Book} {Q:List (List Nat)} (c:b.Core Q (-1)) {s:Int} (hs:s=1\/s=2) {r:xO} (hr:r∈b.rungs s):b.a.listOk r.queue (xC Q r):=by
 have hg:=c.get hs hr;have hrq:=c.rng _ (h9 hs hr);refine⟨by have:=c.wf.toWf0.short hg;omega,?_⟩;rw[y8c ⟨hrq.1,by rw[c.wf.ql];exact hrq.2⟩,zW (c.wf.q _ _ hg)];exact zSd (c.wf.sg _ _ hg)
def y6e (i:AtI) (h:at1C.cnd i):y3k i:=by
 obtain⟨Q,c,ht,hL⟩:i.b.Rep i.L:=h;unfold y3k fA uD qG xY kH dI;refine⟨1,rfl,trivial,λ_ _=>Cv.cnd.mk (λe=>absurd e Z8) λ_=>⟨⟨i.b,i.price⟩,rF7 (rF3 ⟨rfl,c.small,λ_ _=>Cv.cnd.mk (λe=> ?_) (λe=> ?_)⟩)⟩⟩
 ·have e:kY 1 (i.b.rungs 1) i.price=ay:=by simpa using e
  have:=c.at_no (.inl rfl) e;rw[<- hL]at this;refine⟨(),rF8 ⟨rfl,?_,trivial⟩⟩;show aa vJ (atL i.L 1 i.price)=[];rw[this];rfl
 ·have e:kY 1 (i.b.rungs 1) i.price=ax:=by simpa using e
  obtain⟨r,hr,hp,hm,ha⟩:=c.at_yes (.inl rfl) e;rw[<- hL]at ha;have hlt:=(y8e.1 hr).1;refine⟨⟨oM,by rw[y8b];exact Int.ofNat_lt.2 hlt⟩,r.price,r.queue,elA hr (by simp[zB]) rfl,⟨i.b,1,r,xC Q r⟩,rF8 (rF3 ⟨rfl,c.listOk (.inl rfl) hm,λ_ _=>⟨(),rfl,?_,trivial⟩⟩)⟩;show aa vJ (atL i.L 1 i.price)=_;rw[ha,BoI.ords,Book.rOrds,Arena.ents];simp only[xAp];rfl
def yWb:at1C.ok Tryz.prog 199:=okw mixed (gokc lS (gokc zQs (gokc zSu gok0))) 0 (λ_=>[]) (λ_=>[]) [0] Tryz.func199 y6e
def y5m (i:AtI) (h:at2C.cnd i):y4s i:=by
 obtain⟨Q,c,ht,hL⟩:i.b.Rep i.L:=h;unfold y4s fC uA qG xZ kH dI;refine⟨2,rfl,trivial,λ_ _=>Cv.cnd.mk (λe=>absurd e Z8) λ_=>⟨⟨i.b,i.price⟩,rF7 (rF3 ⟨rfl,c.small,λ_ _=>Cv.cnd.mk (λe=> ?_) (λe=> ?_)⟩)⟩⟩
 ·have e:kY 2 (i.b.rungs 2) i.price=ay:=by simpa using e
  have:=c.at_no (.inr rfl) e;rw[<- hL]at this;refine⟨(),rF8 ⟨rfl,?_,trivial⟩⟩;show aa vJ (atL i.L 2 i.price)=[];rw[this];rfl
 ·have e:kY 2 (i.b.rungs 2) i.price=ax:=by simpa using e
  obtain⟨r,hr,hp,hm,ha⟩:=c.at_yes (.inr rfl) e;rw[<- hL]at ha;have hlt:=(y8e.1 hr).1;refine⟨⟨oM,by rw[y8b];exact Int.ofNat_lt.2 hlt⟩,r.price,r.queue,elA hr (by simp[zB]) rfl,⟨i.b,2,r,xC Q r⟩,rF8 (rF3 ⟨rfl,c.listOk (.inr rfl) hm,λ_ _=>⟨(),rfl,?_,trivial⟩⟩)⟩;show aa vJ (atL i.L 2 i.price)=_;rw[ha,BoI.ords,Book.rOrds,Arena.ents];simp only[xAp];rfl
def y0a:at2C.ok Tryz.prog 199:=okw mixed (gokc lS (gokc zQy (gokc zSu gok0))) 0 (λ_=>[]) (λ_=>[]) [0] Tryz.func199 y5m
def y5a:atC.ok Tryz.prog 199:=λj=>match j with
 |⟨b,L,ay,p⟩=>yWb ⟨b,L,ay,p⟩
 |⟨b,L,ax,p⟩=>y0a ⟨b,L,ax,p⟩
def z1r (p:Int) (l:List zH):Lv:=⟨p,(l.map (·.qty)).sum,l.length⟩
def zPr:∀{l:List zH} {v:Lv} {vs:List Lv},grp l=v::vs->∃o r,l=o::r/\o.price=v.price
 |[],v,vs,h=>by cases h
 |o::r,v,vs,h=>by
  refine⟨o,r,rfl,?_⟩;rw[grp]at h;split at h
  ·cases h;rfl
  ·split at h
   ·rename_i e;cases h;exact e.symm
   ·cases h;rfl
def z7q {p:Int}:∀{l:List zH} {m:List zH},l≠[]->(∀o∈l,o.price=p)->(∀o r,m=o::r->o.price≠p)->grp (l++m)=z1r p l::grp m
 |[],m,h,_,_=>absurd rfl h
 |[o],m,_,h,hm=>by
  have e:=h o y8h;rw[List.singleton_append,grp];split
  ·rename_i g;simp[z1r,e,g]
  ·rename_i v vs g;obtain⟨o',r,e1,e2⟩:=zPr g;have:=hm o' r e1;rw[y7z (by omega)];simp[z1r,e,g]
 |o::o'::l,m,_,h,hm=>by
  have e:=h o y8h;have ih:=z7q (l:=o'::l) (m:=m) (by simp) (λx hx=>h x (y8i _ hx)) hm;rw[y9q,grp,ih];dsimp only;rw[y8c (show(z1r p (o'::l)).price=o.price from e.symm)];simp only[z1r,y8p,y9p,y8f];rfl
def z2e {f:xO->List zH}:∀{R:List xO},(∀r∈R,f r≠[]/\∀o∈f r,o.price=r.price)->R.Pairwise (λr r'=>r.price≠r'.price)->grp (R.flatMap f)=R.map λr=>z1r r.price (f r)
 |[],_,_=>rfl
 |r::R,h,hp=>by
  rw[xBu]at hp;have ih:=z2e (R:=R) (λx hx=>h x (y8i _ hx)) hp.2;rw[y9s,z7q (h r y8h).1 (h r y8h).2,ih,y8p];intro o l e;cases R with
  |nil=>cases e
  |cons r' R'=>
   rw[y9s]at e;obtain⟨h1,h2⟩:=h r' (y8i _ y8h);cases hf:f r' with
   |nil=>exact absurd hf h1
   |cons x y=>
    rw[hf,y9q]at e;cases e;rw[h2 o (by rw[hf];exact y8h)];exact(hp.1 r' y8h).symm
def zSx {b:Book} {Q:List (List Nat)} {s:Int} (hs:s=1\/s=2):(b.flat Q).filter (λo=>decide (o.side=s))=b.sideL Q s:=by
 have h1:∀s',(b.sideL Q s').filter (λo=>decide (o.side=s))=if s'=s then b.sideL Q s' else[]:=by
  intro s';split
  ·rename_i e;rw[xDv];intro o ho;rw[(mJ ho).1,e];simp
  ·rename_i e;rw[ak];intro o ho;rw[(mJ ho).1];simp[e]
 rw[Book.flat,xCd,h1,h1];rcases hs with rfl|rfl
 ·simp
 ·simp
def Book.Core.neL {b:Book} {Q:List (List Nat)} (c:b.Core Q (-1)) {s:Int} (hs:s=1\/s=2) {r:xO} (hr:r∈b.rungs s):xC Q r≠[]:=c.ne s hs r hr λe=>by have:=c.rng _ (h9 hs hr);omega
def Book.Core.toldL {b:Book} {Q:List (List Nat)} (c:b.Core Q (-1)) {s:Int} (hs:s=1\/s=2) {r:xO} (hr:r∈b.rungs s):b.told r=z1r r.price (b.rOrds Q s r):=by
 have hg:=c.get hs hr;have hrq:=c.rng _ (h9 hs hr);have hq:=c.wf.q _ _ hg;have hql:=c.wf.ql;rw[Book.told,zXi hrq.1 hq,z1r,Book.rOrds,xAp,y8b];rfl
def Book.Core.lad {b:Book} {Q:List (List Nat)} (c:b.Core Q (-1)) {s:Int} (hs:s=1\/s=2):gK (b.flat Q) s=(b.rungs s).map b.told:=by
 rw[gK,zSx hs,Book.sideL,z2e]
 ·exact y9k λr hr=>(c.toldL hs hr).symm
 ·intro r hr;refine⟨λe=>c.neL hs hr (List.map_eq_nil_iff.1 e),λo ho=>(qL ho).2⟩
 ·exact(c.srt s hs).imp λh=>zQa h
def Book.Core.bestL {b:Book} {Q:List (List Nat)} (c:b.Core Q (-1)) {s:Int} (hs:s=1\/s=2):b.best (b.rungs s)=Sx.bestL (b.flat Q) s:=by
 rw[Sx.bestL,c.lad hs];cases b.rungs s<;>rfl
def Book.Core.cnt {b:Book} {Q:List (List Nat)} (c:b.Core Q (-1)):b.cntOk:=by
 intro q hq;obtain⟨n,hn⟩:=xAr.1 hq;have hlt:=(y8e.1 hn).1;rw[c.wf.ql]at hlt;obtain⟨l,hl⟩:=yC hlt;have:=c.wf.q n l hl;rw[hn]at this;cases this;have:=c.wf.toWf0.short hl;constructor<;>dsimp only<;>omega
def qH (L:List zH):Top:=(top0.buy (bestL L 1)).sell (bestL L 2)
def Book.Rep.top {b:Book} {L:List zH} (h:b.Rep L):b.top=qH L:=by
 obtain⟨Q,c,ht,rfl⟩:=h;rw[Book.top,qH,<- c.bestL (.inl rfl),<- c.bestL (.inr rfl)];rfl
def Book.Rep.cnt {b:Book} {L:List zH} (h:b.Rep L):b.cntOk:=by
 obtain⟨Q,c,ht,rfl⟩:=h;exact c.cnt
structure zPj (o:zH):Prop where
 s:o.side=1\/o.side=2
 q:1<=o.qty/\o.qty<=1000000
def Book.Rep.ords {b:Book} {L:List zH} (h:b.Rep L):(∀o∈L,zPj o)/\(L.map (·.id)).Nodup/\L.length<=250:=by
 obtain⟨Q,c,ht,rfl⟩:=h;refine⟨λo ho=> ?_,c.ids,?_⟩
 ·obtain⟨hs,r,hr,ho,hp⟩:=pC ho;refine⟨hs,?_⟩;obtain⟨k,hk,e⟩:=y9m.1 ho;obtain⟨_,⟨_,_,h2⟩,_⟩:=c.wf.toWf0.mem (c.get hs hr) hk;have eq:o.qty=(b.a.slotAt k).qty:=by rw[<- e];rfl
  rw[eq];exact⟨c.wf.pos _ _ (c.get hs hr) _ hk,h2.q2⟩
 ·have hnd:(((b.rungs 1).flatMap (xC Q)++(b.rungs 2).flatMap (xC Q))).Nodup:=by
   have hm:((b.flat Q).map (·.id))=((b.rungs 1).flatMap (xC Q)++(b.rungs 2).flatMap (xC Q)).map λk=>(b.a.slotAt k).id:=by
    rw[Book.flat,y8k,y8k,Book.sideL,Book.sideL,eX,eX,eX,eX];congr 1
    ·exact xD λr _=>by rw[Book.rOrds,xAp];rfl
    ·exact xD λr _=>by rw[Book.rOrds,xAp];rfl
   have:=c.ids;rw[hm]at this;exact List.Pairwise.of_map _ (λa b hab e=>hab (by rw[e])) this
  have hl:(b.flat Q).length=((b.rungs 1).flatMap (xC Q)++(b.rungs 2).flatMap (xC Q)).length:=by
   rw[Book.flat,y8a,y8a,Book.sideL,Book.sideL,xDc,xDc,xDc,xDc];congr 1
   ·congr 1;exact y9k λr _=>by rw[Book.rOrds,y8b]
   ·congr 1;exact y9k λr _=>by rw[Book.rOrds,y8b]
  rw[hl];refine zNh 250 hnd λk hk=> ?_
  rcases y9f.1 hk with hk|hk
  ·obtain⟨r,hr,hk⟩:=xAt.1 hk;exact(c.wf.toWf0.mem (c.get (.inl rfl) hr) hk).1
  ·obtain⟨r,hr,hk⟩:=xAt.1 hk;exact(c.wf.toWf0.mem (c.get (.inr rfl) hr) hk).1
def Book.Rep.fit {b:Book} {L:List zH} (h:b.Rep L):b.fit:=by
 obtain⟨Q,c,ht,rfl⟩:=h;have hs:=c.small;have h1:=c.ql;have h2:=c.wf.ql;have hqb:=c.qb;rw[Book.qs,y8a,y8a,y8b,y8b]at h1;refine⟨⟨hs.1.1,λhf=> ?_,λq hq=> ?_⟩,oM,oM,oM,oM⟩
 ·obtain⟨k,_,hk,hk1,hku,_⟩:=c.wf.toWf0.unused hf;exact⟨_,y8m hk1,hku⟩
 ·obtain⟨n,hn⟩:=xAr.1 hq;have hlt:=(y8e.1 hn).1;rw[c.wf.ql]at hlt;obtain⟨l,hl⟩:=yC hlt;have:=c.wf.q n l hl;rw[hn]at this;cases this;dsimp only;rcases wX l with e|⟨y,j,e,e2⟩
  ·exact .inl ((nU l).2 e)
  ·rw[e2];have:=(c.wf.toWf0.mem hl (k:=j) (by rw[e];simp)).1;rw[c.wf.len];exact .inr ⟨oM,oM⟩
def whL:Nat->List (List zH)->List (Int×Int)
 |_,[]=>[]
 |k,L::B=>L.map (λo=>(o.id,(k:Int)))++whL (k+1) B
def whL_mem:∀{B:List (List zH)} {n:Nat} {x:Int×Int},x∈whL n B↔∃(k:Nat) (L:List zH),B[k]? =az L/\x.1∈L.map (·.id)/\x.2=((n+k:Nat):Int)
 |[],n,x=>by simp[whL]
 |L::B,n,x=>by
  rw[whL,y9f,whL_mem (B:=B)];constructor
  ·rintro(h|⟨k,L',h1,h2,h3⟩)
   ·obtain⟨o,ho,rfl⟩:=y9m.1 h;exact⟨0,L,rfl,y9e (f:=(·.id)) ho,rfl⟩
   ·exact⟨k+1,L',h1,h2,by rw[h3];omega⟩
  ·rintro⟨k,L',h1,h2,h3⟩;cases k with
   |zero=>
    cases h1;obtain⟨o,ho,e⟩:=y9m.1 h2;exact .inl (y9m.2 ⟨o,ho,Prod.ext e h3.symm⟩)
   |succ k=>exact .inr ⟨k,L',h1,h2,by rw[h3];omega⟩
def zMb:∀{B:List (List zH)} (n k:Nat),k<B.length->∃rest,∀X:List zH,(whL n (B.set k X)).Perm (X.map (λo=>(o.id,((n+k:Nat):Int)))++rest)
 |[],n,k,h=>absurd h (by simp)
 |L::B,n,0,h=>⟨whL (n+1) B,λX=> .refl _⟩
 |L::B,n,k+1,h=>by
  obtain⟨rest,hr⟩:=zMb (B:=B) (n+1) k (by simpa using h);refine⟨L.map (λo=>(o.id,(n:Int)))++rest,λX=> ?_⟩;rw[xEb,whL];refine((hr X).append_left _).trans ?_;rw[<- y8g,<- y8g,show n+1+k=n+(k+1)by omega];exact xAg.append_right _
structure MSt.Rep (s:MSt) (p:Prd) (B:List (List zH)):Prop where
 ep:s.p=p
 bl:s.books.length=B.length
 bk:∀(k:Nat) (b:Book) (L:List zH),s.books[k]? =az b->B[k]? =az L->b.Rep L
 wh:s.wh.Perm (whL 0 B)
 ids:((whL 0 B).map (·.1)).Nodup
def mC (B:List (List zH)) (id:Int):Option Nat:=B.findIdx? λL=>wS L id
def gZ {B:List (List zH)} {id:Int} {k:Nat} (h:mC B id=az k):∃L,B[k]? =az L/\wS L id=ax:=by
 rw[mC,xBk]at h;obtain⟨h1,h2,_⟩:=h;exact⟨_,y9b h1,h2⟩
def z5p {B:List (List zH)} {id:Int} (h:mC B id=ba):∀L∈B,wS L id=ay:=by
 rw[mC,xCr]at h;exact h
def zXz:∀{l:List (Int×Int)},(l.map (·.1)).Nodup->∀{k x:Int},(k,x)∈l->zDl l k=az x
 |[],_,k,x,hx=>by cases hx
 |p::l,h,k,x,hx=>by
  rw[y8p,xAq]at h;rw[zDl,xEe];rcases y8v.1 hx with ex|hx
  ·subst ex;simp
  ·have:p.1≠k:=by rintro e;exact h.1 (e▸y9e (f:=(·.1)) hx)
   rw[y8n this];exact zXz h.2 hx
def yEg {l:List (Int×Int)} {k:Int} (h:k∉l.map (·.1)):zDl l k=ba:=by
 rw[zDl,Option.map_eq_none_iff,List.find?_eq_none];intro x hx e;have e:x.1=k:=by simpa using e
 exact h (e▸y9e (f:=(·.1)) hx)
def MSt.Rep.keys {s:MSt} {p:Prd} {B:List (List zH)} (h:s.Rep p B):(s.wh.map (·.1)).Nodup:=(h.wh.map (·.1)).nodup_iff.2 h.ids
def MSt.Rep.at_ {s:MSt} {p:Prd} {B:List (List zH)} (h:s.Rep p B) (id:Int):zDl s.wh id=(mC B id).map (λk:Nat=>(k:Int)):=by
 cases hi:mC B id with
 |none=>
  refine yEg λhm=> ?_
  rw[(h.wh.map (·.1)).mem_iff]at hm
  obtain⟨x,hx,rfl⟩:=y9m.1 hm;obtain⟨k,L,h1,h2,_⟩:=whL_mem.1 hx;have:=z5p hi L (y8m h1);rw[hasId_iff.2 h2]at this;cases this
 |some k=>
  obtain⟨L,h1,h2⟩:=gZ hi;refine zXz h.keys (h.wh.mem_iff.2 (whL_mem.2 ⟨k,L,h1,hasId_iff.1 h2,by simp⟩))
def kU (B:List (List zH)) (id q:Int):List (List zH)×Int:=match mC B id with
 |none=>(B,26)
 |some k=>(B.set k (qC (B.getD k []) id q).1,(qC (B.getD k []) id q).2)
def zRf {L:List zH} (h:(L.map (·.id)).Nodup) (id q:Int):((qC L id q).1.map (·.id)=L.map (·.id)/\wS (qC L id q).1 id=wS L id)\/((qC L id q).1=L.filter (λo=> !decide (o.id=id))/\wS (qC L id q).1 id=ay):=by
 rw[qC];by_cases h1:wS L id=ay
 ·rw[y8c h1];exact .inl ⟨rfl,rfl⟩
 have h1:wS L id=ax:=by simpa using h1
 rw[y7z (by rw[h1];decide)];by_cases h2:q<1\/(cA L id).qty<q
 ·rw[y8c h2];exact .inl ⟨rfl,rfl⟩
 rw[y7z h2];dsimp only;by_cases h3:(cA L id).qty=q
 ·refine .inr ?_;have e:hZ L id q=L.filter λo=> !decide (o.id=id):=by rw[<- h3];exact zSb h h1
  refine⟨e,?_⟩;rw[e,wS,xEg];intro o ho;rw[xAa]at ho;simpa using ho.2
 ·refine .inl ?_;have hm:(hZ L id q).map (·.id)=L.map (·.id):=by
   have:hZ L id q=L.map λo=>if o.id=id then{o with qty:=o.qty-q}else o:=by
    rw[hZ,<- List.filterMap_eq_map];refine mM λo ho=> ?_
    simp only[cm];by_cases e:o.id=id
    ·have hg:=tP h ho;rw[e]at hg;rw[y8c e,y8c e,y7z (λe2=>h3 (by rw[hg];exact e2))]
    ·rw[y7z e,y7z e]
   rw[this,xAp];refine y9k λo _=> ?_
   simp only[cm];split<;>rfl
  refine⟨hm,?_⟩;rw[xCv,hasId_iff,hasId_iff,hm]
def yBc:∀{l:List (Int×Int)} {k:Int},(l.map (·.1)).Nodup->z4o k l=l.filter λx=> !decide (x.1=k)
 |[],k,_=>rfl
 |(a,b)::l,k,h=>by
  rw[y8p,xAq]at h;rw[z4o];by_cases e:k=a
  ·subst e;rw[y8c rfl,xDa (by simp)];symm;rw[xDv];intro x hx;have:x.1≠k:=λe=>h.1 (e▸y9e (f:=(·.1)) hx)
   simp[this]
  ·rw[y7z e,xCz (by simp[Ne.symm e]),yBc h.2]
def zYt:∀{l:List (Int×Int)} {k x:Int},k∉l.map (·.1)->zZr k x l=l++[(k,x)]
 |[],k,x,_=>rfl
 |p::l,k,x,h=>by
  rw[y8p,y8v,not_or]at h;rw[zZr,y7z h.1,zYt h.2];rfl
def uY {α:Type} {l:List α} {k:Nat} {x:α} (h:l[k]? =az x):l.set k x=l:=by
 apply xBx;intro i;rw[xBr];split
 ·rename_i e;subst e;rw[y8c (y8e.1 h).1,h]
 ·rfl
def MSt.Rep.set {s:MSt} {p:Prd} {B:List (List zH)} (h:s.Rep p B) {k:Nat} {L':List zH} {b':Book} (hb:b'.Rep L') (hk:k<B.length) {wh':List (Int×Int)} (hw:wh'.Perm (whL 0 (B.set k L'))) (hi:((whL 0 (B.set k L')).map (·.1)).Nodup):({s with books:=s.books.set k b',wh:=wh'}:MSt).Rep p (B.set k L'):=by
 refine⟨h.ep,by simpa using h.bl,λj b L h1 h2=> ?_,hw,hi⟩;by_cases e:k=j
 ·subst e;have h1:(s.books.set k b')[k]? =az b:=h1;rw[f9 (by rw[h.bl];exact hk)]at h1;rw[f9 hk]at h2;cases h1;cases h2;exact hb
 ·have h1:(s.books.set k b')[j]? =az b:=h1;rw[uC e]at h1 h2;exact h.bk j b L h1 h2
def MSt.Rep.take {s:MSt} {p:Prd} {B:List (List zH)} (h:s.Rep p B) {id q:Int} {k:Nat} (hi:mC B id=az k) {L:List zH} (hL:B[k]? =az L) (hn:(L.map (·.id)).Nodup) {b':Book} (hb:b'.Rep (qC L id q).1):
 ({s with books:=s.books.set k b',wh:=if wS (qC L id q).1 id=ax then s.wh else z4o id s.wh}:MSt).Rep p (kU B id q).1:=by
 have hk:=(y8e.1 hL).1;have ht:(kU B id q).1=B.set k (qC L id q).1:=by simp only[kU,hi,zW hL]
 obtain⟨L2,e1,hh⟩:=gZ hi;rw[hL]at e1;cases e1;obtain⟨rest,hr⟩:=zMb (B:=B) 0 k hk;have hL0:=hr L;rw[uY hL]at hL0;rw[ht];rcases zRf hn id q with⟨e1,e2⟩|⟨e1,e2⟩
 ·have hm:∀X Y:List zH,X.map (·.id)=Y.map (·.id)->X.map (λo=>(o.id,((0+k:Nat):Int)))=Y.map (λo=>(o.id,((0+k:Nat):Int))):=by
   intro X Y e;have:=congrArg (aa λi:Int=>(i,((0+k:Nat):Int))) e;rw[xAp,xAp]at this;exact this
  have hp:(whL 0 (B.set k (qC L id q).1)).Perm (whL 0 B):=by
   refine(hr _).trans ?_;rw[hm _ _ e1];exact hL0.symm
  rw[e2,hh,y8c rfl];exact h.set hb hk (h.wh.trans hp.symm) ((hp.map (·.1)).nodup_iff.2 h.ids)
 ·rw[e2,y7z (by decide)];have hrest:∀x∈rest,x.1≠id:=by
   intro x hx e;have hnd:=(hL0.map (·.1)).nodup_iff.1 h.ids
   rw[y8k,xAp]at hnd;have h1:id∈L.map ((·.1)∘λo:zH=>(o.id,((0+k:Nat):Int))):=hasId_iff.1 hh
   exact(xAk.1 hnd).2.2 id h1 x.1 (y9e (f:=(·.1)) hx) e.symm
  have hp:(whL 0 (B.set k (qC L id q).1)).Perm ((whL 0 B).filter λx=> !decide (x.1=id)):=by
   refine(hr _).trans (.trans ?_ (hL0.filter _).symm);rw[e1,xCd,List.filter_map];have:rest.filter (λx=> !decide (x.1=id))=rest:=by
    rw[xDv];intro x hx;simp[hrest x hx]
   rw[this];exact .refl _
  refine h.set hb hk ?_ ((hp.map (·.1)).nodup_iff.2 (h.ids.sublist (List.Sublist.map _ xDw)))
  rw[yBc h.keys];exact(h.wh.filter _).trans hp.symm
def z3z (p:Prd) (B:List (List zH)) (inst id:Int) (s price q:Int):List (List zH)×Int:=
 if inst<0\/B.length<=inst then(B,20)else if(mC B id).isSome=ax then(B,25)else if 250<=(whL 0 B).length then(B,13)else if p.price inst price≠0 then(B,p.price inst price)
 else(B.set inst.toNat (zLl (B.getD inst.toNat []) s id price q).1,(zLl (B.getD inst.toNat []) s id price q).2)
def yIg (L:List zH) (s id p q:Int):((zWs L s id p q).map (·.id)).Perm (id::L.map (·.id)):=by
 have:∀X:List zH,((X.takeWhile (before s p)++⟨id,s,p,q,g8 L s p⟩::X.dropWhile (before s p)).map (·.id)).Perm (id::X.map (·.id)):=by
  intro X
  conv=>rhs;rw[<- xDx (p:=before s p) (l:=X)]
  rw[y8k,y8p,y8k];exact y8q
 rw[zWs];split
 ·refine(this _).trans ?_;rw[z8g]
 ·exact this _
def MSt.Rep.add {s:MSt} {p:Prd} {B:List (List zH)} (h:s.Rep p B) (inst id:Int) (sd:Bool) (price q:Int):
 (MSt.addF ⟨s,inst,id,sd,price,q⟩).1.Rep p (z3z p B inst id (zD sd) price q).1/\(MSt.addF ⟨s,inst,id,sd,price,q⟩).2=(z3z p B inst id (zD sd) price q).2:=by
 have hsd:zD sd=1\/zD sd=2:=by cases sd;exact .inl rfl;exact .inr rfl
 rw[MSt.addF,z3z];dsimp only;rw[h.bl,h.at_,h.wh.length_eq,show s.p.price inst price=p.price inst price by rw[h.ep],Option.isSome_map];by_cases c1:inst<0\/(B.length:Int)<=inst
 ·rw[y8c c1,y8c c1];exact⟨h,rfl⟩
 rw[y7z c1,y7z c1];by_cases c2:(mC B id).isSome=ax
 ·rw[y8c c2,y8c c2];exact⟨h,rfl⟩
 rw[y7z c2,y7z c2];by_cases c3:250<=(whL 0 B).length
 ·rw[y8c c3,y8c c3];exact⟨h,rfl⟩
 rw[y7z c3,y7z c3];by_cases c4:p.price inst price≠0
 ·rw[y8c c4,y8c c4];exact⟨h,rfl⟩
 rw[y7z c4,y7z c4];obtain⟨k,hk⟩:∃k:Nat,inst=k:=⟨inst.toNat,oM⟩
 subst hk;rw[y8s];have hkl:k<B.length:=by omega
 obtain⟨b,hb⟩:=yC (l:=s.books) (i:=k) (by rw[h.bl];exact hkl);obtain⟨L,hL⟩:=yC (l:=B) (i:=k) hkl;have hba:s.bookAt k=b:=by rw[MSt.bookAt,y8s];exact zW hb
 rw[hba,zW hL];obtain⟨r1,r2⟩:=(h.bk k b L hb hL).add hsd id price q;refine⟨?_,r2⟩;rw[r2];obtain⟨rest,hr⟩:=zMb (B:=B) 0 k hkl;have hL0:=hr L;rw[uY hL]at hL0;have hcase:(zLl L (zD sd) id price q).2≠0/\(zLl L (zD sd) id price q).1=L\/(zLl L (zD sd) id price q).2=0/\(zLl L (zD sd) id price q).1=zWs L (zD sd) id price q:=by
  rw[zLl]
  repeat' split
  ·exact .inl ⟨by simp,rfl⟩
  ·exact .inl ⟨by simp,rfl⟩
  ·exact .inl ⟨by simp,rfl⟩
  ·exact .inr ⟨rfl,rfl⟩
 rcases hcase with⟨e1,e2⟩|⟨e1,e2⟩
 ·rw[y7z e1];refine h.set r1 hkl ?_ ?_
  ·rw[e2,uY hL];exact h.wh
  ·rw[e2,uY hL];exact h.ids
 ·rw[y8c e1];have hnk:id∉s.wh.map (·.1):=by
   intro hm;obtain⟨x,hx,rfl⟩:=y9m.1 hm;have:=zXz h.keys hx;rw[h.at_]at this;cases hq:mC B x.1 with
   |none=>rw[hq]at this;cases this
   |some j=>rw[hq]at c2;exact c2 rfl
  have hp:(whL 0 (B.set k (zLl L (zD sd) id price q).1)).Perm ((id,(k:Int))::whL 0 B):=by
   refine(hr _).trans (.trans ?_ (hL0.symm.cons _));rw[e2,<- y9q];refine cn _ ?_;have:=(yIg L (zD sd) id price q).map λi:Int=>(i,(k:Int))
   rw[xAp,y8p,xAp]at this;rw[y8z];exact this
  refine h.set r1 hkl ?_ ((hp.map (·.1)).nodup_iff.2 (xAq.2 ⟨?_,h.ids⟩))
  ·rw[zYt hnk];exact(xCm _ _).trans ((h.wh.cons _).trans hp.symm)
  ·rw[<- (h.wh.map (·.1)).mem_iff];exact hnk
def zXs:∀(n k:Nat),whL k (ab n [])=[]
 |0,_=>rfl
 |n+1,k=>by rw[xCh,whL,zXs];rfl
def z6d (p:Prd):(mO p).Rep p (ab p.count []):=by
 refine⟨rfl,by simp[mO],λk b L h1 h2=> ?_,?_,?_⟩
 ·have e1:b=book0:=xDu (y8m (show(ab p.count book0)[k]? =az b from h1));have e2:L=[]:=xDu (y8m h2);rw[e1,e2];exact yEm
 ·rw[zXs];exact .refl _
 ·rw[zXs];exact List.nodup_nil
def yTf (s:Bool):Con:=con1 BkL (λi=>[.nm 0 0,zA (zD s)]) (λi=>[yB i.b]) (λi=>i.b.Rep i.L) (λ_=> .own 1) (λi=>[yB i.b,.own 127 3 ((gK i.L (zD s)).map lvE)])
def lad1C:Con:=yTf ay
def lad2C:Con:=yTf ax
def y4a (s:Bool) (i:BkL):List SAnn:=[{ι:=Nat,slots:=λj=>[(5,.own 0),(19,zA j)],rows:=λj=>[.own 127 3 (((gK i.L (zD s)).take j).map lvE)]}]
structure BkT where
 b:Book
 L:List zH
 s:Bool
def ladC:Con:=con1 BkT (λi=>[.nm 0 0,zA (zD i.s)]) (λi=>[yB i.b]) (λi=>i.b.Rep i.L) (λ_=> .own 1) (λi=>[yB i.b,.own 127 3 ((gK i.L (zD i.s)).map lvE)])
@[reducible] def yGl (s:MSt):List AObj:=[xW s 0,xW s 1,xW s 2,xW s 3,xW s 4]
def topsOC:Con:=con1 MSt (λ_=>[.nm 0 0]) (λs=>yGl s) MSt.cntOk (λs=> .own 5) (λs=>yGl s++[.own 166 6 (s.tops.map z7)])
structure StI where
 s:MSt
 p:Prd
 B:List (List zH)
 id:Int
 q:Int
def stakeC:Con where
 ι:=StI
 pat:=λi=>[.nm 0 0,zA i.id,zA i.q]
 pre:=λi=>[zC i.s]
 cnd:=λi=>i.s.Rep i.p i.B/\i.B.length<=1000
 alts:=λi=>[{o:=MSt,res:=λ_=>zA (kU i.B i.id i.q).2,post:=λs=>[zC s],rel:=λs=>s.Rep i.p (kU i.B i.id i.q).1}]
def zR (B:List (List zH)) (id:Int):Int×zH×Bool:=match mC B id with
 |none=>(0,yVe,ay)
 |some k=>(k,cA (B.getD k []) id,ax)
def sfindC:Con:=con1 StI (λi=>[.nm 0 0,zA i.id]) (λi=>[zC i.s]) (λi=>i.s.Rep i.p i.B/\i.B.length<=1000) (λi=> .tup [zA (zR i.B i.id).1,z4d (zR i.B i.id).2.1,yK (zR i.B i.id).2.2]) (λi=>[zC i.s])
end Sx
